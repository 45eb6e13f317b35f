/- The walk of palaverlaw11. -/
import Derived.Test.YtpfhhikbaeknpaaGreatDoorKUM
set_option maxHeartbeats 8000000
set_option maxRecDepth 1000000
set_option linter.all false
namespace Go.Proofs.YtpfhhikbaeknpaaGreatDoor
open Go.RowKit Pal
attribute [local go_sem ↓] Go.wp_at_zero Go.wp_at_succ
theorem news_walk (l:List Fd) (v:Value) (w:World) (hL:Lay2 w) (hF:FdsV (gh w) v l∧l.length≤9223372036854775807) (h0:∀ f∈l,Fd0 f) :
 Calls Tryz.prog 8 #[v] w (yesPost w):=by
 obtain ⟨hF,hlen⟩:=hF
 obtain ⟨va,vc,rfl⟩:=hF.form
 have HL:=Zq hL.lay
 have HF:=Zq hF
 have HFEW:=Zq (Zjp l (.slice va l.length vc) w hF hlen (fun f hf=>⟨(h0 f hf).n,(h0 f hf).fo,(h0 f hf).ru,(h0 f hf).sh⟩))
 have H0:=Zq h0
 have HAW:=Zq (fun W (hb:Below w.heap.size w W)=>Zog W (HL.out.below hb))
 unfold yesPost at HAW ⊢
 obtain ⟨ll,hll⟩:∃ ll,l.length=ll:=⟨_,rfl⟩
 rw [hll] at HFEW HF ⊢
 have HLL:=Zq hll
 clear hL hF h0 hlen hll
 cases hfew:fewF l with
 | false =>
  rw [hfew] at HFEW
  clear hfew
  go_in
  go_wp2_with fail
  refine HFEW.out.mono ?_
  rintro r W ⟨rfl,rfl⟩
  go_wp2_with fail
  refine (HAW.out _ (Below.refl _ _)).mono ?_
  rintro r W ⟨rfl,hb⟩
  go_wp2
  try rw [Exit.noGoto_ret]
  go_ret
  exact ⟨rfl,hb⟩
 | true =>
  rw [hfew] at HFEW
  obtain ⟨hs1,hs2⟩:=Zom hfew H0.out
  have HSH:=Zq hs2
  have HFI:=Zq (Zjt l (.slice va ll vc) w HF.out hs1)
  have HS1:=Zq hs1
  unfold fdsPost at HFI
  clear hfew hs1 hs2
  go_in
  go_wp2_with fail
  refine HFEW.out.mono ?_
  rintro r W ⟨rfl,rfl⟩
  go_wp2_with fail
  refine HFI.out.mono ?_
  rintro r W1 ⟨hb1,fv,rfl,hfv⟩
  obtain ⟨fa,fc,rfl⟩:=hfv.form
  have HB1:=Zq hb1
  have hnew:=Zjf l _ W1 HS1.out HSH.out (HL.out.below hb1) hfv
  unfold newPost at hnew
  have hrf:∀ W,Below w.heap.size w W→Calls Tryz.prog 20 #[.slice va ll vc] W (refNewPost l W):=fun W hb=>Zob l _ W HS1.out HSH.out (HF.out.mono (Zah hb))
  unfold refNewPost at hrf
  cases hm:newM l with
  | error z =>
   obtain ⟨i,e⟩:=z
   rw [hm] at hnew hrf
   simp only at hnew hrf
   have he:(e != 0)=true:=by have:=Zi7 hm; simpa using this
   have HNEW:=Zq hnew
   have HRF:=Zq hrf
   have q1:(e != e)=false:=by simp
   have q2:((i:Int) != (i:Int))=false:=by simp
   clear hb1 hfv hm hnew hrf
   go_wp2_with fail
   refine HNEW.out.mono ?_
   rintro r W2 ⟨hb2,rfl⟩
   have HB2:=Zq (HB1.out.seq hb2)
   clear hb2 HNEW
   go_wp2_with fail
   refine (HRF.out _ HB2.out).mono ?_
   rintro r W3 ⟨hb3,rfl⟩
   have HB3:=Zq (HB2.out.seq hb3)
   clear hb3 HRF
   go_wp2_with fail
   refine (HAW.out _ HB3.out).mono ?_
   rintro r W ⟨rfl,hb⟩
   have HB4:=Zq (HB3.out.seq hb)
   clear hb
   go_wp2
   try rw [Exit.noGoto_ret]
   go_ret
   exact ⟨rfl,HB4.out⟩
  | ok F =>
   rw [hm] at hnew hrf
   simp only at hnew hrf
   have HFL:=Zq (ZiL hm).2.2.2.1
   have HTH:=Zq (Zo7 hm)
   have HND:Hid ((Fd.names F.l).Nodup):=Zq (by have:=(ZfI l [] 0 (ZiL hm).2.1 List.nodup_nil).1; rw [HFL.out]; simpa using this)
   have HNF:Hid (F.needs.length=l.length):=Zq (by rw [(ZiL hm).2.2.2.2.1,List.length_map]; exact Zfx l 0 _ (ZiL hm).2.2.1)
   have HF24:Hid (l.length≤24):=Zq (by have:=(ZiL hm).1; omega)
   have HNEW:=Zq hnew
   have HRF:=Zq hrf
   clear hb1 hfv hm hnew hrf
   go_wp2_with fail
   refine HNEW.out.mono ?_
   rintro r W2 ⟨hb2,b,rfl,hs2⟩
   have HB2:=Zq (HB1.out.seq hb2)
   have HSC:=Zq hs2
   clear hb2 hs2 HNEW
   go_wp2_with fail
   refine (HRF.out _ HB2.out).mono ?_
   rintro r W3 ⟨hb3,b2,rfl,hr3⟩
   have HB3:=Zq (HB2.out.seq hb3)
   have HSC3:=Zq (HSC.out.mono (Zah hb3))
   have HRV:=Zq hr3
   have HSM:=Zq (Zpj W3 HSC3.out HRV.out (by rw [HFL.out]; exact HF24.out) (fun i hi=>⟨_,List.getElem?_eq_getElem (by rw [HNF.out,←HFL.out]; exact hi)⟩) HTH.out HND.out (by rw [HFL.out]; intro f hf; have:=(HSH.out f hf).n; omega))
   unfold yesPost at HSM
   clear hb3 hr3 HRF HSC
   go_wp2_with fail
   refine HSM.out.mono ?_
   rintro r W4 ⟨rfl,hb4⟩
   have HB4:=Zq (HB3.out.seq hb4)
   clear hb4 HSM
   go_wp2_with fail
   refine (HAW.out _ HB4.out).mono ?_
   rintro r W ⟨rfl,hb⟩
   have HB5:=Zq (HB4.out.seq hb)
   clear hb
   go_wp2
   try rw [Exit.noGoto_ret]
   go_ret
   exact ⟨rfl,HB5.out⟩
end Go.Proofs.YtpfhhikbaeknpaaGreatDoor
