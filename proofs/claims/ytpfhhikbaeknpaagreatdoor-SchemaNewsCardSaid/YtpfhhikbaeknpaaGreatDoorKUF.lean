/- The walks of parse. -/
import Derived.Test.YtpfhhikbaeknpaaGreatDoorKR1
import Derived.Test.YtpfhhikbaeknpaaGreatDoorKVc
import Derived.Deep.RegionHeld3
import Derived.Test.YtpfhhikbaeknpaaGreatDoorKUA
import Derived.Test.YtpfhhikbaeknpaaGreatDoorKR4
set_option maxHeartbeats 8000000
set_option maxRecDepth 1000000
set_option linter.all false
namespace Go.Proofs.YtpfhhikbaeknpaaGreatDoor
open Go.RowKit Pal
theorem Zoq {w W:World} (h:Below w.heap.size w W) {b o:Nat} {v:Value} (c:w.cell? ⟨b,o,none⟩=some v):W.cell? ⟨b,o,none⟩=some v:=(h.cell (p:=⟨b,o,none⟩) (World.block_lt_of_cell? w _ c)).trans c
def RSameOK (k:Ex):Prop:=∀ (e:Ex) (v v':Value) (w:World),KV (gh w) v k.ks→KV (gh w) v' e.ks →
 Calls Tryz.prog 46 #[exV k.op k.n k.s v,exV e.op e.n e.s v'] w (boolPost (sameX k e) w)
theorem Zor (o n:Int) (s:Bs) (ks:List Ex) (o' n':Int) (s':Bs) (ls:List Ex) (a a2:Option Addr) (cap cap2:Nat) (w:World) (X:Bool)
 (hX:(decide (o=o')&&(decide (n=n')&&(decide (s=s')&&sameL ks ls)))=X)
 (hK:KV (gh w) (.slice a ks.length cap) ks) (hL:KV (gh w) (.slice a2 ls.length cap2) ls) (ih:∀ k∈ks,RSameOK k) :
 Calls Tryz.prog 46 #[exV o n s (.slice a ks.length cap),exV o' n' s' (.slice a2 ls.length cap2)] w (boolPost X w):=by
 have HB:=Zq (((Below.refl w.heap.size w).alloc Zs (.cells #[.int .i64 o,.int .i64 n,.string ⟨s.toArray⟩,.slice a ks.length cap] 61)).alloc (by simp) (.cells #[.int .i64 o',.int .i64 n',.string ⟨s'.toArray⟩,.slice a2 ls.length cap2] 61))
 have hcap:=hK.cap
 have hcap2:=hL.cap
 have hkm:ks.length≤9223372036854775807:=by omega
 unfold exV strV
 by_cases h1:o=o'
 · have q1:(o != o')=false:=by simp [h1]
   by_cases h2:n=n'
   · have q2:(n != n')=false:=by simp [h2]
     by_cases h3:s=s'
     · have q3:(s == s')=true:=by simp [h3]
       rw [decide_eq_true h1,decide_eq_true h2,decide_eq_true h3,Bool.true_and,Bool.true_and,Bool.true_and] at hX
       by_cases hlen:ks.length=ls.length
       · have q4:((ks.length:Int) != (ls.length:Int))=false:=by rw [bne_eq_false_iff_eq]; omega
         have q5:(ks.length != ls.length)=false:=by rw [bne_eq_false_iff_eq]; omega
         have HLEN:=Zq hlen
         have HI:=Zq ih
         have HX:=Zq hX
         have hA0:=(Lib.alloc_old (w.alloc (.cells #[.int .i64 o,.int .i64 n,.string ⟨s.toArray⟩,.slice a ks.length cap] 61)) (.cells #[.int .i64 o',.int .i64 n',.string ⟨s'.toArray⟩,.slice a2 ls.length cap2] 61) w.heap.size (by simp)).trans (heap_alloc_new w (.cells #[.int .i64 o,.int .i64 n,.string ⟨s.toArray⟩,.slice a ks.length cap] 61))
         have hB0:=heap_alloc_new (w.alloc (.cells #[.int .i64 o,.int .i64 n,.string ⟨s.toArray⟩,.slice a ks.length cap] 61)) (.cells #[.int .i64 o',.int .i64 n',.string ⟨s'.toArray⟩,.slice a2 ls.length cap2] 61)
         rw [show (w.alloc (.cells #[.int .i64 o,.int .i64 n,.string ⟨s.toArray⟩,.slice a ks.length cap] 61)).heap.size=w.heap.size+1 by simp] at hB0
         have HA0:=Zq hA0
         have HB0:=Zq hB0
         have HK:=Zq (hK.keep HB.out)
         have HL:=Zq (hL.keep HB.out)
         have hl0:w.heap.size<((w.alloc (.cells #[.int .i64 o,.int .i64 n,.string ⟨s.toArray⟩,.slice a ks.length cap] 61)).alloc (.cells #[.int .i64 o',.int .i64 n',.string ⟨s'.toArray⟩,.slice a2 ls.length cap2] 61)).heap.size:=by simp; omega
         have hl1:w.heap.size+1<((w.alloc (.cells #[.int .i64 o,.int .i64 n,.string ⟨s.toArray⟩,.slice a ks.length cap] 61)).alloc (.cells #[.int .i64 o',.int .i64 n',.string ⟨s'.toArray⟩,.slice a2 ls.length cap2] 61)).heap.size:=by simp
         clear hX ih hK hL hA0 hB0 h1 h2 h3 hlen
         go_in
         go_upto_region 3 with fail
         generalize (w.alloc (.cells #[.int .i64 o,.int .i64 n,.string ⟨s.toArray⟩,.slice a ks.length cap] 61)).alloc (.cells #[.int .i64 o',.int .i64 n',.string ⟨s'.toArray⟩,.slice a2 ls.length cap2] 61)=W0 at *
         clear q1 q2 q3 q4 q5
         go_wp2
         go_loopg [5] ks.length (fun g i wr=>∃ k:Nat,i = .int .i64 k∧k+g=ks.length∧Hid (Below W0.heap.size W0 wr)∧Hid (sameL (ks.drop k) (ls.drop k)=X))
         case atStart=>exact ⟨0,rfl,by omega,Zq (Below.refl _ _),Zq HX.out⟩
         case round =>
          obtain ⟨k,rfl,hg,HBW,HC⟩:=hrel
          have HAW:=Zq ((HBW.out.block _ hl0).trans HA0.out)
          have HBB:=Zq ((HBW.out.block _ hl1).trans HB0.out)
          obtain ⟨⟨x0,x1,x2,x3⟩,-⟩:=ZdP HAW.out
          obtain ⟨⟨y0,y1,y2,y3⟩,-⟩:=ZdP HBB.out
          by_cases hlt:k<ks.length
          · obtain ⟨g,rfl⟩:∃ g,gk=g+1:=⟨gk - 1,by omega⟩
            have hlt2:k<ls.length:=by have:=HLEN.out; omega
            obtain ⟨b,off,u,rfl,c0,c1,c2,c3,hKu⟩:=(HK.out.keep HBW.out).at (List.getElem?_eq_getElem hlt)
            obtain ⟨b2,off2,u2,rfl,d0,d1,d2,d3,hKu2⟩:=(HL.out.keep HBW.out).at (List.getElem?_eq_getElem hlt2)
            obtain ⟨ua,uc,rfl⟩:=hKu.form
            obtain ⟨ua2,uc2,rfl⟩:=hKu2.form
            have hh:=HC.out
            rw [List.drop_eq_getElem_cons hlt,List.drop_eq_getElem_cons hlt2,ZlX] at hh
            have hx:=fun W (hb:Below wr.heap.size wr W)=>HI.out ks[k] (List.getElem_mem hlt) ls[k] _ _ W (hKu.keep hb) (hKu2.keep hb)
            have HD:=Zq hh
            unfold strV at c2 d2
            unfold exV strV at hx
            generalize ks[k]=p at *
            generalize ls[k]=q at *
            obtain ⟨sx,hsx⟩:∃ b,sameX p q=b:=⟨_,rfl⟩
            rw [hsx] at HD
            simp only [hsx] at hx
            have HXX:=Zq hx
            have hbe:Below wr.heap.size wr wr.drew:=(Below.refl _ _).drew
            clear hh hx hKu hKu2 hsx HC
            go_upto_region 6 with fail
            go_region_held3 (fun w'=>(w'.cell? ⟨w.heap.size,3,none⟩=some (.slice (some ⟨b,off,none⟩) ks.length cap)∧w'.cell? ⟨w.heap.size+1,3,none⟩=some (.slice (some ⟨b2,off2,none⟩) ls.length cap2) ∧
             w'.cell? ⟨b,off+k*4,none⟩=some (.int .i64 p.op)∧w'.cell? ⟨b,off+k*4+1,none⟩=some (.int .i64 p.n)∧w'.cell? ⟨b,off+k*4+2,none⟩=some (.string ⟨p.s.toArray⟩)∧w'.cell? ⟨b,off+k*4+3,none⟩=some (.slice ua p.ks.length uc) ∧
             w'.cell? ⟨b2,off2+k*4,none⟩=some (.int .i64 q.op)∧w'.cell? ⟨b2,off2+k*4+1,none⟩=some (.int .i64 q.n)∧w'.cell? ⟨b2,off2+k*4+2,none⟩=some (.string ⟨q.s.toArray⟩)∧w'.cell? ⟨b2,off2+k*4+3,none⟩=some (.slice ua2 q.ks.length uc2))) (go_keep)
             ((go_at_call 46; refine (HXX.out _ hbe).mono ?_; rintro r W2 ⟨rfl,hb2⟩; have HB2:=Zq (HBW.out.seq (hbe.seq hb2)); have hbx:=hbe.seq hb2; have m0:=Zoq hbx x3; have m1:=Zoq hbx y3; have m2:=Zoq hbx c0; have m3:=Zoq hbx c1; have m4:=Zoq hbx c2; have m5:=Zoq hbx c3; have m6:=Zoq hbx d0; have m7:=Zoq hbx d1; have m8:=Zoq hbx d2; have m9:=Zoq hbx d3; clear hb2 hbx))
            all_goals
             clear x0 x1 x2 x3 y0 y1 y2 y3 c0 c1 c2 c3 d0 d1 d2 d3 HXX hbe
             cases sx with
             | false =>
              have HE:Hid (X=false):=Zq (by rw [←HD.out]; rfl)
              clear HD
              go_wp2
              go_ret
              exact ⟨by rw [HE.out]; rfl,HB.out.seq HB2.out⟩
             | true =>
              have HE2:Hid (sameL (ks.drop (k+1)) (ls.drop (k+1))=X):=Zq (by have:=HD.out; rw [Bool.true_and] at this; exact this)
              clear HD
              go_wp2
              go_roundg g
              case rel=>exact ⟨k+1,by go_num,by omega,HB2,HE2⟩
              case measure=>omega
          · have hnil:ks.drop k=[]:=List.drop_eq_nil_of_le (by omega)
            have hnil2:ls.drop k=[]:=List.drop_eq_nil_of_le (by have:=HLEN.out; omega)
            have HE:Hid (X=true):=Zq (by rw [←HC.out,hnil,hnil2,ZlW]; rfl)
            clear HC hnil hnil2
            go_wp2
            go_ret
            exact ⟨by rw [HE.out]; rfl,HB.out.seq HBW.out⟩
       · have HE:Hid (X=false):=Zq (by rw [←hX]; exact ZlY hlen)
         have q4:((ks.length:Int) != (ls.length:Int))=true:=by rw [bne_iff_ne]; omega
         have q5:(ks.length != ls.length)=true:=by rw [bne_iff_ne]; omega
         clear hlen h1 h2 h3
         clear hX ih hK hL
         go_in
         go_wp2
         go_ret
         exact ⟨by rw [HE.out]; rfl,HB.out⟩
     · have HE:Hid (X=false):=Zq (by rw [←hX,decide_eq_false h3,Bool.false_and,Bool.and_false,Bool.and_false])
       have q3:(s == s')=false:=Zr h3
       clear h1 h2 h3
       clear hX ih hK hL
       go_in
       go_wp2
       go_ret
       exact ⟨by rw [HE.out]; rfl,HB.out⟩
   · have HE:Hid (X=false):=Zq (by rw [←hX,decide_eq_false h2,Bool.false_and,Bool.and_false])
     have q2:(n != n')=true:=bne_iff_ne.2 h2
     clear h1 h2
     clear hX ih hK hL
     go_in
     go_wp2
     go_ret
     exact ⟨by rw [HE.out]; rfl,HB.out⟩
 · have HE:Hid (X=false):=Zq (by rw [←hX,decide_eq_false h1,Bool.false_and])
   have q1:(o != o')=true:=bne_iff_ne.2 h1
   clear h1
   clear hX ih hK hL
   go_in
   go_wp2
   go_ret
   exact ⟨by rw [HE.out]; rfl,HB.out⟩
theorem Zos (e:Ex):RSameOK e:=by
 refine Ex.ind (P:=RSameOK) ?_ e
 intro o n s ks ih e' v v' w hK hL
 cases e' with
 | mk o' n' s' ls =>
  simp only [Ex.op,Ex.n,Ex.s,Ex.ks] at hK hL ⊢
  obtain ⟨a,cap,rfl⟩:=hK.form
  obtain ⟨a2,cap2,rfl⟩:=hL.form
  exact Zor o n s ks o' n' s' ls a a2 cap cap2 w _ (ZlV o n s ks (.mk o' n' s' ls)).symm hK hL ih
inductive Thin:Ex→Prop
 | mk (op n:Int) (s:Bs) (ks:List Ex) (hl:ks.length≤1000) (hk:∀ k∈ks,Thin k):Thin (.mk op n s ks)
theorem Thin.parts {op n:Int} {s:Bs} {ks:List Ex} (h:Thin (.mk op n s ks)):ks.length≤1000∧∀ k∈ks,Thin k:=by cases h with|mk _ _ _ _ a b=>exact ⟨a,b⟩
theorem Zot (e:Ex):∀ (deep left m:Nat),left≤1000→chk e deep left=some m→Thin e∧m<left:=by
 refine Ex.ind (P:=fun e=>∀ (deep left m:Nat),left≤1000→chk e deep left=some m→Thin e∧m<left) ?_ e
 intro op n s ks ih deep left m h1000 h
 by_cases hb:left=0∨24<deep∨alone op n s ks=false
 · rw [Zdn hb] at h; cases h
 rw [Zdo hb] at h
 have hl:left≠0:=fun h=>hb (.inl h)
 have go:∀ (l:List Ex),(∀ k∈l,k∈ks)→∀ (left m:Nat),left≤1000→chkL l (deep+1) left=some m→(∀ k∈l,Thin k)∧l.length+m≤left:=by
  intro l
  induction l with
  | nil=>intro _ left m _ h; rw [Zdl] at h; cases h; exact ⟨fun k hk=>(by cases hk),by simp⟩
  | cons k l2 ih2 =>
   intro hm left m hl h
   rw [Zdm] at h
   cases h1:chk k (deep+1) left with
   | none=>rw [h1] at h; cases h
   | some x =>
    rw [h1,Option.bind_some] at h
    obtain ⟨a1,a2⟩:=ih k (hm k (by simp)) _ _ _ hl h1
    obtain ⟨b1,b2⟩:=ih2 (fun y hy=>hm y (by simp [hy])) x m (by omega) h
    refine ⟨fun y hy=>?_,by simp only [List.length_cons]; omega⟩
    rcases List.mem_cons.1 hy with rfl|hy
    · exact a1
    · exact b1 y hy
 obtain ⟨c1,c2⟩:=go ks (fun _ h=>h) _ _ (by omega) h
 exact ⟨.mk _ _ _ _ (by omega) c1,by omega⟩
theorem Zou {e:Ex} (h:check e=true):Thin e:=by
 obtain ⟨z,hz⟩:∃ z,chk e 1 128=some z:=Option.isSome_iff_exists.1 h
 exact (Zot e 1 128 z (by omega) hz).1
theorem Zov (e:Ex):∀ (v:Value) (w:World),Thin e→KV (gh w) v e.ks→Calls Tryz.prog 91 #[exV e.op e.n e.s v] w (copyPost e w):=by
 refine Ex.ind (P:=fun e=>∀ (v:Value) (w:World),Thin e→KV (gh w) v e.ks→Calls Tryz.prog 91 #[exV e.op e.n e.s v] w (copyPost e w)) ?_ e
 intro op n s ks ih v w hS hK
 simp only [Ex.op,Ex.n,Ex.s,Ex.ks] at hK ⊢
 obtain ⟨i0,hi,hz0,hz1,hz2⟩:=info_parts infoEx
 obtain ⟨a,cap,rfl⟩:=hK.form
 have hkc:=hK.cap
 obtain ⟨hl1,hkids⟩:=hS.parts
 have HI:=Zq ih
 have HK:=Zq hK
 have HS:=Zq hkids
 obtain ⟨len,hlen⟩:∃ len,ks.length=len:=⟨_,rfl⟩
 have HLEN:=Zq hlen
 rw [hlen] at HK hkc hl1
 unfold exV strV
 rw [hlen]
 have hb1:=(Below.refl w.heap.size w).alloc Zs (.cells #[.int .i64 op,.int .i64 n,.string ⟨s.toArray⟩,.slice a len cap] 61)
 have hb2:=hb1.alloc hb1.size (.cells #[.int .i64 0,.int .i64 0,.string ⟨#[]⟩,.slice none 0 0] 61)
 have e1:=heap_alloc_new w (.cells #[.int .i64 op,.int .i64 n,.string ⟨s.toArray⟩,.slice a len cap] 61)
 have e2:=heap_alloc_new (w.alloc (.cells #[.int .i64 op,.int .i64 n,.string ⟨s.toArray⟩,.slice a len cap] 61)) (.cells #[.int .i64 0,.int .i64 0,.string ⟨#[]⟩,.slice none 0 0] 61)
 have e1':=(Lib.alloc_old (w.alloc (.cells #[.int .i64 op,.int .i64 n,.string ⟨s.toArray⟩,.slice a len cap] 61)) (.cells #[.int .i64 0,.int .i64 0,.string ⟨#[]⟩,.slice none 0 0] 61) w.heap.size (by simp)).trans e1
 have hsz1:(w.alloc (.cells #[.int .i64 op,.int .i64 n,.string ⟨s.toArray⟩,.slice a len cap] 61)).heap.size=w.heap.size+1:=by simp
 rw [hsz1] at e2
 have hsz2:((w.alloc (.cells #[.int .i64 op,.int .i64 n,.string ⟨s.toArray⟩,.slice a len cap] 61)).alloc (.cells #[.int .i64 0,.int .i64 0,.string ⟨#[]⟩,.slice none 0 0] 61)).heap.size=w.heap.size+2:=by simp
 have HB2:=Zq hb2
 have HE1:=Zq e1'
 have HE2:=Zq e2
 have HSZ2:=Zq hsz2
 clear hS hkids ih hK hlen hb1 hb2 e1 e2 e1' hsz1 hsz2
 go_in
 go_upto_region 1 with fail
 generalize (w.alloc (.cells #[.int .i64 op,.int .i64 n,.string ⟨s.toArray⟩,.slice a len cap] 61)).alloc (.cells #[.int .i64 0,.int .i64 0,.string ⟨#[]⟩,.slice none 0 0] 61)=w2 at *
 obtain ⟨⟨-,-,-,x3⟩,-⟩:=ZdP HE1.out
 go_wp2_with fail
 clear x3
 go_loopg [3,9] len (fun g l i wr=>∃ (tau:Tag) (k:Nat) (lst:List (Ex × Value)),i = .int .i64 k∧Hid (CpIn (w.heap.size+2) tau wr lst l)∧Hid (Below (w.heap.size+2) w2 wr)∧Hid (lst.map Prod.fst=ks.take k)∧lst.length=k∧k+g=len)
 case atStart=>exact ⟨T0,0,[],rfl,Zq ⟨Row.nil _ _ _ _ _,fun x hx=>(by cases hx),fun b hb=>(by cases hb)⟩,Zq (Below.refl _ _),Zq rfl,rfl,by omega⟩
 case round =>
  obtain ⟨tau,k,lst,rfl,HC,HB,HM,hlk,hg⟩:=hrel
  subst hlk
  obtain ⟨la,lc,rfl⟩:=HC.out.row.form
  have hwz:w.heap.size+2≤wr.heap.size:=by have:=HB.out.size; have:=HSZ2.out; omega
  have hx:=(HB.out.block w.heap.size (by omega)).trans HE1.out
  have hy:=(HB.out.block (w.heap.size+1) (by omega)).trans HE2.out
  have HX:=Zq hx
  have HY:=Zq hy
  by_cases hlt2:lst.length<len
  · have hkl:lst.length<ks.length:=by have:=HLEN.out; omega
    have hbw:Below w.heap.size w wr:=HB2.out.trans (HB.out.mono (by omega))
    have hKr:=HK.out.keep hbw
    obtain ⟨bb,off,u,rfl,d0,d1,d2,d3,hKu⟩:=hKr.at (List.getElem?_eq_getElem hkl)
    obtain ⟨ua,uc,rfl⟩:=hKu.form
    have hmem:ks[lst.length]∈ks:=List.getElem_mem hkl
    have htk:ks.take (lst.length+1)=ks.take lst.length++[ks[lst.length]]:=by rw [List.take_succ_eq_append_getElem hkl]
    have HTK:=Zq htk
    have HSM:=Zq (HS.out _ hmem)
    have HIM:=Zq (HI.out ks[lst.length] hmem)
    unfold strV at d2
    have HKU:=Zq hKu
    clear hKr hKu htk hmem hbw hx hy
    generalize ks[lst.length]=y at *
    have hbn:Below wr.heap.size wr (wr.alloc (.cells #[.int .i64 y.op,.int .i64 y.n,.string ⟨y.s.toArray⟩,.slice ua y.ks.length uc] 61)):=(Below.refl _ _).alloc Zs _
    have hlx:=HIM.out (.slice ua y.ks.length uc) _ HSM.out (HKU.out.keep hbn)
    unfold copyPost exV strV at hlx
    have HLX:=Zq hlx
    have HCN:=Zq (HC.out.keep hbn)
    have HBN:Hid (Below (w.heap.size+2) w2 (wr.alloc (.cells #[.int .i64 y.op,.int .i64 y.n,.string ⟨y.s.toArray⟩,.slice ua y.ks.length uc] 61))):=Zq (HB.out.trans (hbn.mono hwz))
    have hwn:w.heap.size+2≤(wr.alloc (.cells #[.int .i64 y.op,.int .i64 y.n,.string ⟨y.s.toArray⟩,.slice ua y.ks.length uc] 61)).heap.size:=by have:=hbn.size; omega
    have HWN:=Zq hwn
    clear hlx hbn hwn HIM HKU HC HB HX HY
    go_wp2_with fail
    generalize wr.alloc (.cells #[.int .i64 y.op,.int .i64 y.n,.string ⟨y.s.toArray⟩,.slice ua y.ks.length uc] 61)=WN at *
    refine HLX.out.mono ?_
    rintro r W3 ⟨hb3,v3,rfl,hk3⟩
    obtain ⟨va,vc,rfl⟩:=hk3.form
    have hsw3:=hb3.size
    have hwn:=HWN.out
    have HC3:=Zq (HCN.out.keep hb3)
    have hrow:=HC3.out.row
    have HB3:Hid (Below (w.heap.size+2) w2 W3):=Zq (HBN.out.trans (hb3.mono hwn))
    have HK3:Hid (KV (gp (fun b=>w.heap.size+2≤b∧tau b≠1) W3) (.slice va y.ks.length vc) y.ks):=Zq (hk3.mono (ZdJ fun b hb hl=>⟨⟨by omega,fun h=>by have:=(HCN.out.ge b h).2; omega⟩,rfl⟩))
    clear hk3 hb3 d0 d1 d2 d3 hwz
    go_wp2_with (at_builtin; refine Zac rfl _ _ 59 rfl 61 i0 _ 4 56 Tryz.underlying59 hi hz0 hz1 hz2 rfl (by decide) rfl hrow #[.int .i64 y.op,.int .i64 y.n,.string ⟨y.s.toArray⟩,.slice va y.ks.length vc] 61 (0,0) _ rfl ?c0 rfl ?c1 ?c2 ?c3 ?_)
    case c0=>simp
    case c1=>first|exact ⟨rfl,rfl,rfl,rfl⟩|(intro u hu; simp at hu; rcases hu with rfl|rfl|rfl|rfl<;>rfl)
    case c2=>unfold maxLen; omega
    case c3=>omega
    intro v' t' w' hr3 he
    obtain ⟨⟨t2,hcp⟩,hbl⟩:=HC3.out.app (e:=y) (u := .slice va y.ks.length vc) (by omega) hr3 he HK3.out
    have HCP:=Zq hcp
    have HBL:=Zq (hbl w2 HB3.out)
    clear hr3 he hrow hcp hbl
    go_wp2
    go_roundg (gk - 1)
    case rel=>exact ⟨t2,lst.length+1,lst++[(y,.slice va y.ks.length vc)],by go_num,HCP,HBL,Zq (by rw [List.map_append,HM.out,HTK.out]; rfl),by rw [List.length_append]; rfl,by omega⟩
    case measure=>omega
  · obtain ⟨⟨x0,x1,x2,x3⟩,f0,f1,f2,f3⟩:=ZdP hx
    obtain ⟨⟨y0,y1,y2,y3⟩,g0,g1,g2,g3⟩:=ZdP hy
    clear hx hy
    have hmk:Hid (lst.map Prod.fst=ks):=Zq (by rw [HM.out]; exact List.take_of_length_le (by have:=HLEN.out; omega))
    have hne:¬ w.heap.size+1=w.heap.size:=by omega
    go_wp2
    have hz:=(Below.heap_setCell wr ⟨w.heap.size,3,none⟩ (.slice la lst.length lc) (w.heap.size+1) (fun e=>by simp at e)).trans HY.out
    have hh:=ZdP (ZdM hz (.int .i64 op) (.int .i64 n) (.string ⟨s.toArray⟩) (.slice la lst.length lc))
    refine bodyPost_ret (v := .agg #[.int .i64 op,.int .i64 n,.string ⟨s.toArray⟩,.slice la lst.length lc]) (by simp [results,Tryz.results91,go_sem,hh.1]) rfl ?_
    have hbw:Below w.heap.size w wr:=HB2.out.trans (HB.out.mono (by omega))
    have h1:=hbw.setCell (p:=⟨w.heap.size,3,none⟩) Zs (.slice la lst.length lc)
    have h2:=((((h1.setCell (p:=⟨w.heap.size+1,0,none⟩) (Nat.le_succ _) (.int .i64 op)).setCell (p:=⟨w.heap.size+1,1,none⟩) (Nat.le_succ _) (.int .i64 n)).setCell (p:=⟨w.heap.size+1,2,none⟩) (Nat.le_succ _) (.string ⟨s.toArray⟩)).setCell (p:=⟨w.heap.size+1,3,none⟩) (Nat.le_succ _) (.slice la lst.length lc))
    refine ⟨h2,_,rfl,?_⟩
    have hkv:=HC.out.kv
    rw [hmk.out] at hkv
    refine hkv.mono (ZdJ fun b hb hl=>⟨by omega,?_⟩)
    rw [ZdN (by omega),Below.heap_setCell _ _ _ _ (fun e=>by simp at e; omega)]
end Go.Proofs.YtpfhhikbaeknpaaGreatDoor
