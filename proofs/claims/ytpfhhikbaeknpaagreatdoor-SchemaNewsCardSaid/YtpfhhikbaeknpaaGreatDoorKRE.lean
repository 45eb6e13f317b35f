/- The walk of palaverref05. -/
import Derived.Test.YtpfhhikbaeknpaaGreatDoorKRJ
import Derived.Test.YtpfhhikbaeknpaaGreatDoorKRK
import Derived.Test.YtpfhhikbaeknpaaGreatDoorKRG
set_option maxHeartbeats 40000000
set_option maxRecDepth 1000000
set_option linter.all false
namespace Go.Proofs.YtpfhhikbaeknpaaGreatDoor
open Go.RowKit Pal
theorem Evo.ofBut {t:Tag} {B k:Nat} {w w':World} (h:But B w w') (hB:t B=k):Evo t w t w' (·=k) :=
 ⟨h.os,h.tape,h.output,h.size,fun _ _=>rfl,fun b hb hk=>h.block b hb (fun e=>hk (by rw [e]; exact hB))⟩
theorem ZlC {t:Tag} {w:World} {B:Nat} (hB:t B≠0):(hz t w).le (gb B w):=fun b o h=>by
 unfold hz at h
 split at h
 · unfold gb
   rw [if_neg (fun e=>by subst e; contradiction)]
   exact h
 · cases h
structure LX (w0 wr:World) (tau:Tag) (B:Nat) (s:Bs) (pv:Value) (k q:Nat) (l:Value) (ts:List Tok):Prop where
 row:Row tau 1 wr 86 4 l ts.length (ts.flatMap tokCells)
 ev:Evo T0 w0 tau wr (·≠0)
 st:LSt wr B s pv k q
 tg:tau B=2
 hB:w0.heap.size≤B
section
variable {w0 wr W : World} {tau : Tag} {B : Nat} {s : Bs} {pv : Value} {k q : Nat} {l : Value} {ts : List Tok}
theorem LX.call (h:LX w0 wr tau B s pv k q l ts) (hb:Below wr.heap.size wr W):LX w0 W tau B s pv k q l ts:=⟨h.row.call hb,h.ev.call hb,h.st.keep hb,h.tg,h.hB⟩
theorem LX.but (h:LX w0 wr tau B s pv k q l ts) (hb:But B wr W) {k' q':Nat} (hl:LSt W B s pv k' q'):LX w0 W tau B s pv k' q' l ts :=
 ⟨h.row.keep (Evo.ofBut hb h.tg) (by omega),h.ev.trans ((Evo.ofBut hb h.tg).mono (fun x hx=>by omega)),hl,h.tg,h.hB⟩
theorem LX.ps (h:LX w0 wr tau B s pv k q l ts) (hp:PsV (gh w0) pv s):PsV (gb B wr) pv s:=by
 have h1:=h.ev.hz (by simp)
 rw [Zaf] at h1
 exact (hp.mono h1).mono (ZlC (by rw [h.tg]; omega))
theorem LX.new (h:LX w0 wr tau B s pv k q l ts) (c:Array Value) (T:TypeId):LX w0 (wr.alloc (.cells c T (0,0))) (tau.set wr.heap.size 3) B s pv k q l ts:=by
 have hlt:=h.st.cells.2.2.2.2
 exact ⟨h.row.keep (K:=fun _=>False) ((Evo.refl tau wr _).alloc 3 _) (fun x=>x),h.ev.alloc 3 _,h.st.alloc _,by rw [Tag.set_other _ _ _ (by omega)]; exact h.tg,h.hB⟩
theorem LX.put4 (h:LX w0 wr tau B s pv k q l ts) {TB:Nat} (ht:tau TB=3) (y0 y1 y2 y3:Value) :
 LX w0 ((((wr.setCell ⟨TB,0,none⟩ y0).setCell ⟨TB,1,none⟩ y1).setCell ⟨TB,2,none⟩ y2).setCell ⟨TB,3,none⟩ y3) tau B s pv k q l ts:=by
 have hne:TB≠B:=fun e=>by subst e; rw [h.tg] at ht; omega
 have e3:∀ {K:Nat→Prop},K 3→Evo tau wr tau ((((wr.setCell ⟨TB,0,none⟩ y0).setCell ⟨TB,1,none⟩ y1).setCell ⟨TB,2,none⟩ y2).setCell ⟨TB,3,none⟩ y3) K:=fun hk =>
  ((((Evo.refl tau wr _).setCell ⟨TB,0,none⟩ y0 (by show _; simp only [ht]; exact hk)).setCell ⟨TB,1,none⟩ y1 (by show _; simp only [ht]; exact hk)).setCell ⟨TB,2,none⟩ y2 (by show _; simp only [ht]; exact hk)).setCell ⟨TB,3,none⟩ y3 (by show _; simp only [ht]; exact hk)
 exact ⟨h.row.keep (K:=fun k=>k=3) (e3 rfl) (by omega),h.ev.trans (e3 (by simp)),(((h.st.other hne _).other hne _).other hne _).other hne _,h.tg,h.hB⟩
theorem LX.app (h:LX w0 wr tau B s pv k q l ts) {t':Tag} {v':Value} {us:List Tok} (he:Evo tau wr t' W (·=1)) (hr:Row t' 1 W 86 4 v' us.length (us.flatMap tokCells)):LX w0 W t' B s pv k q v' us:=by
 have hlt:=h.st.cells.2.2.2.2
 refine ⟨hr,h.ev.trans (he.mono (fun x hx=>by omega)),⟨?_,h.st.at'⟩,by rw [he.tag _ hlt]; exact h.tg,h.hB⟩
 rw [he.block _ hlt (by rw [h.tg]; omega)]
 exact h.st.cell
end
theorem ZlD {l:Bs} (h:rn l=34):badB l=false:=by
 unfold badB
 exact decide_eq_false (by omega)
def refLexPost (s:Bs) (w:World) (e:Ending) (w':World):Prop :=
 Below w.heap.size w w'∧(match lexAll s with
  | .error p=>e = .returned (.tuple #[.slice none 0 0,.int .i64 p,.int .i64 5])
  | .ok ts=>∃ v,e = .returned (.tuple #[v,.int .i64 0,.int .i64 0])∧TokV (gh w') v ts)
theorem ZlE (s:Bs) (w:World) (hs:400<s.length) (hm:s.length≤9223372036854775807) :
 Calls Tryz.prog 37 #[.string ⟨s.toArray⟩] w fun e w'=>e = .returned (.tuple #[.slice none 0 0,.int .i64 400,.int .i64 7])∧w=w':=by
 obtain ⟨sb,hsb⟩:∃ sb:ByteArray,(⟨s.toArray⟩:ByteArray)=sb:=⟨_,rfl⟩
 have h1:400<sb.size:=by rw [←hsb]; simpa [ByteArray.size] using hs
 have h2:sb.size≤9223372036854775807:=by rw [←hsb]; simpa [ByteArray.size] using hm
 rw [hsb]
 clear hsb hs hm
 go_in
 go_wp2
 go_ret3
 exact ⟨rfl,rfl⟩
theorem ZlF (s:Bs) (w:World) (hs:s.length≤400) :
 Calls Tryz.prog 37 #[.string ⟨s.toArray⟩] w (refLexPost s w):=by
 obtain ⟨i0,hi,hz0,hz1,hz2⟩:=info_parts ZcL
 have hpc:=ZkW ⟨s.toArray⟩ w (by simp [ByteArray.size]; omega)
 unfold piecesPost at hpc
 simp only [List.toList_toArray] at hpc
 obtain ⟨sb,hsb⟩:∃ sb:ByteArray,(⟨s.toArray⟩:ByteArray)=sb:=⟨_,rfl⟩
 have h1:¬ 400<sb.size:=by rw [←hsb]; simp [ByteArray.size]; omega
 have HSZ:Hid (sb.size=s.length):=Zq (by rw [←hsb]; simp [ByteArray.size])
 obtain ⟨R,hR⟩:∃ R,lexAll s=R:=⟨_,rfl⟩
 have HRR:=Zq hR
 rw [hsb] at hpc ⊢
 have HSB:=Zq hsb
 have HPP:=Zq hpc
 clear hpc hsb hR
 go_in
 go_wp2_with fail
 refine HPP.out.mono ?_
 rintro e w0 ⟨hb0,pv,rfl,hpv⟩
 have HPV:=Zq hpv
 have HB0:=Zq hb0
 obtain ⟨pa,pcap,rfl⟩:=hpv.form
 have HLX:Hid (LX w0 (w0.alloc (.cells #[.string sb,.slice pa (cnt s) pcap,.int .i64 0] 108)) (T0.set w0.heap.size 2) w0.heap.size s (.slice pa (cnt s) pcap) 0 0 (.slice none 0 0) []):=Zq
  ⟨Row.nil _ _ _ _ _,(Evo.refl T0 w0 _).alloc 2 _,⟨by rw [HSB.out]; exact heap_alloc_new w0 _,.zero⟩,Tag.set_same _ _ _,Nat.le_refl _⟩
 have hcl:=Zbk s
 obtain ⟨n,hn⟩:∃ n,cnt s=n:=⟨_,rfl⟩
 have HNN:=Zq hn
 rw [hn] at HLX HPV hcl ⊢
 clear hpv hb0 HPP hn
 go_wp2
 have hs1:s.length≤1000000:=by omega
 have HCC:=Zq (fun k q w h hP=>Zk2 s w0.heap.size k q (.slice pa n pcap) w hs1 h hP)
 have HLT:Hid (∀ k p,AtP s k p→(k<cnt s↔p<s.length)):=Zq (fun k p h=>h.lt)
 have hj0:Hid (join [] (lexL (s.length+1) 0 (s.drop 0))=R):=Zq (by
  rw [←HRR.out]
  unfold lexAll
  rw [List.drop_zero]
  generalize lexL (s.length+1) 0 s=X
  cases X<;>simp [join])
 go_loopg [6] s.length (fun g l wr=>∃ (tau:Tag) (k q f:Nat) (ts:List Tok),Hid (LX w0 wr tau w0.heap.size s (.slice pa n pcap) k q l ts)∧Hid (join ts (lexL (f+1) q (s.drop q))=R)∧s.length≤q+f∧s.length≤q+g∧q≤s.length∧ts.length≤q)
 case atStart=>exact ⟨_,0,0,s.length,[],HLX,hj0,by omega,by omega,by omega,by simp⟩
 case round =>
  obtain ⟨tau,k,q,f,ts,HL0,HJ0,hf0,hg0,hq0,htl0⟩:=hrel
  clear HLX hj0
  obtain ⟨wo,hwo⟩:∃ wo,wo=wr:=⟨_,rfl⟩
  subst hwo
  obtain ⟨g0,hgg⟩:∃ g0,g0=gk:=⟨_,rfl⟩
  subst hgg
  obtain ⟨la,lc,rfl⟩:=HL0.out.row.form
  go_wp2
  go_loopg [] s.length (fun g wr=>∃ (k q f:Nat),Hid (LX w0 wr tau w0.heap.size s (.slice pa n pcap) k q (.slice la ts.length lc) ts)∧Hid (join ts (lexL (f+1) q (s.drop q))=R)∧s.length≤q+f∧s.length≤q+g∧s.length≤q+g0∧q≤s.length∧ts.length≤q)
  case atStart=>exact ⟨k,q,f,HL0,HJ0,hf0,by omega,hg0,hq0,htl0⟩
  case round =>
   obtain ⟨k,q,f,HL,HJ,hf,hg,hg2,hq,htl⟩:=hrel
   clear HL0 HJ0
   go_wp2_with fail
   refine (HCC.out k q wr HL.out.st (HL.out.ps HPV.out)).mono ?_
   rintro e W2 ⟨rfl,hb2⟩
   have HL2:=Zq (HL.out.call hb2)
   clear hb2 HL
   by_cases hc3:clsAt s q=3
   · obtain ⟨hin,hcq⟩:=Zk1 hc3 (by omega)
     obtain ⟨-,c1,c2,f2,-⟩:=HL2.out.st.cells
     have hst:=HL2.out.st.at'.step hin
     have HST:=Zq hst
     have hwl:=ZaS (ZjC hin)
     have hwp:=ZaQ (s.drop q)
     rw [List.length_drop] at hwl
     obtain ⟨f,rfl⟩:∃ f',f=f'+1:=⟨f - 1,by omega⟩
     have HJ2:Hid (join ts (lexL (f+1) (q+wd (s.drop q)) (s.drop (q+wd (s.drop q))))=R):=Zq (by rw [←HJ.out,ZcI (ZjC hin) hcq,List.drop_drop])
     have hk1:k≤1000000:=by have:=HL2.out.st.at'.le; omega
     rw [hc3]
     clear hc3 hcq hst HJ
     generalize wd (s.drop q)=u at *
     go_wp2
     go_roundg (gk - 1)
     case rel=>exact ⟨k+1,q+u,f,Zq (HL2.out.but ((But.refl _ _).setPb 2 _) (HL2.out.st.set _ (by omega) HST.out)),HJ2,by omega,by omega,by omega,by omega,by omega⟩
     case measure=>omega
   · have q3:(clsAt s q == 3)=false:=Zr hc3
     go_wp2_with fail
     refine (HCC.out k q W2 HL2.out.st (HL2.out.ps HPV.out)).mono ?_
     rintro e W3 ⟨rfl,hb3⟩
     have HL3:=Zq (HL2.out.call hb3)
     clear hb3 HL2
     by_cases hin:q<s.length
     · rw [ZkZ hin]
       have hcc:=ZkZ hin
       have hne:=ZjC hin
       have h3n:cls (rn (s.drop q))≠3:=fun h=>hc3 (by rw [hcc]; exact h)
       obtain ⟨f,rfl⟩:∃ f',f=f'+1:=⟨f - 1,by omega⟩
       have HE0:Hid (tok1 (s.drop q)=none→R = .error q):=Zq (fun h=>by rw [←HJ.out,ZcJ hne h3n h]; rfl)
       have HE1:Hid (∀ kd us m z,tok1 (s.drop q)=some (kd,us,m,z)→join (ts++[⟨kd,us,m,q⟩]) (lexL (f+1) (q+z) (s.drop (q+z)))=R):=Zq (fun kd us m z h=>by
        rw [←HJ.out,ZcK hne h3n h,ZcG,List.drop_drop])
       have HE2:Hid (∀ kd us m z,tok1 (s.drop q)=some (kd,us,m,z)→1≤z∧q+z≤s.length):=Zq (fun kd us m z h=>by
        have h1:=Zba hne h
        have h2:=ZaQ (s.drop q)
        have h3:=h1.1.le
        rw [List.length_drop] at h3
        omega)
       have HLA:=Zq (HL3.out.new #[.int .i64 0,.string ⟨#[]⟩,.int .i64 0,.int .i64 0] 86)
       have HZA:=Zq (heap_alloc_new W3 (.cells #[.int .i64 0,.string ⟨#[]⟩,.int .i64 0,.int .i64 0] 86))
       have htg3:(tau.set W3.heap.size 3) W3.heap.size=3:=Tag.set_same _ _ _
       have hsA:W3.heap.size<(W3.alloc (.cells #[.int .i64 0,.string ⟨#[]⟩,.int .i64 0,.int .i64 0] 86)).heap.size:=by simp
       have HTG3:=Zq htg3
       have hBW:w0.heap.size<W3.heap.size:=HL3.out.st.cells.2.2.2.2
       have hWs:w.heap.size≤w0.heap.size:=HB0.out.size
       have hrr:=ZaV (s.drop q)
       have hcr:=Zap (rn (s.drop q))
       have hkn:k<cnt s:=(HLT.out _ _ HL3.out.st.at').2 hin
       have HPA:=Zq (HLA.out.ps HPV.out)
       clear htg3 hcc hne
       have hrest:(cls (rn (s.drop q))=2)∨(cls (rn (s.drop q))=1)∨(cls (rn (s.drop q))=0∧rn (s.drop q)=34)∨(cls (rn (s.drop q))=0∧rn (s.drop q)≠34):=by
        by_cases h:rn (s.drop q)=34
        · rcases hcr with h'|h'|h'|h'
          · exact .inr (.inr (.inl ⟨h',h⟩))
          · exact .inr (.inl h')
          · exact .inl h'
          · exact absurd h' h3n
        · rcases hcr with h'|h'|h'|h'
          · exact .inr (.inr (.inr ⟨h',h⟩))
          · exact .inr (.inl h')
          · exact .inl h'
          · exact absurd h' h3n
       have hkn2:k<n:=by have:=HNN.out; omega
       obtain ⟨b,off,hpa,hd⟩:=(HPA.out.mono (Zdu _ _)).at HLA.out.st.at' hin
       subst hpa
       have HD:=Zq hd
       clear hd
       clear hcr h3n hc3 q3
       rcases hrest with hw|hw|⟨hw,h34⟩|⟨hw,h34⟩
       all_goals
        first
         | (have HC:=Zq (Zk8 s w0.heap.size k q _ _ hs1 HLA.out.st HPA.out hin hw); rw [hw]; clear hw; go_wp2_with fail; refine HC.out.mono ?_; have HLB:=HLA; have HZB:=HZA; have HPB:=HPA; have hsB:=hsA; clear HC HLA HZA HPA hsA)
         | (have HC:=Zq (Zld s w0.heap.size k q _ _ hs1 HLA.out.st HPA.out hin hw); rw [hw]; clear hw; go_wp2_with fail; refine HC.out.mono ?_; have HLB:=HLA; have HZB:=HZA; have HPB:=HPA; have hsB:=hsA; clear HC HLA HZA HPA hsA)
         | (have HC:=Zq (fun pv W h hP=>Zls s w0.heap.size k q pv W hs1 h hP hin h34); have HW:=Zq hw; rw [hw]; clear hw; have hb0:=ZlD h34; obtain ⟨d0,d1,d2,d3⟩:=HD.out; obtain ⟨-,c1,c2,f2,-⟩:=HLA.out.st.cells; rw [hb0] at d3; rw [h34] at d2; clear hb0; go_wp2; go_quiet ((fail)); clear d0 d1 d2 d3 c1 c2 f2; have HLB:=Zq (HLA.out.call (below_drewN (Below.refl _ _) nq)); have HZB:Hid (((W3.alloc (.cells #[.int .i64 0,.string ⟨#[]⟩,.int .i64 0,.int .i64 0] 86)).drewN nq).heap[W3.heap.size]?=some (.cells #[.int .i64 0,.string ⟨#[]⟩,.int .i64 0,.int .i64 0] 86 (0,0))):=Zq HZA.out; have HPB:=Zq (HLB.out.ps HPV.out); have hsB:W3.heap.size<((W3.alloc (.cells #[.int .i64 0,.string ⟨#[]⟩,.int .i64 0,.int .i64 0] 86)).drewN nq).heap.size:=hsA; go_wp2_with fail; refine (HC.out _ _ HLB.out.st HPB.out).mono ?_; clear HC HLA HZA HPA hsA)
         | (have HC:=Zq (fun pv W h hP=>ZlB s w0.heap.size k q pv W hs1 h hP hin hw h34); have HW:=Zq hw; rw [hw]; clear hw; obtain ⟨d0,d1,d2,d3⟩:=HD.out; obtain ⟨-,c1,c2,f2,-⟩:=HLA.out.st.cells; have q34:(rn (s.drop q) == 34)=false:=Zr h34; have H34:=Zq h34; clear h34; go_wp2; go_quiet ((fail)); clear d0 d1 d2 d3 c1 c2 f2 q34; have h34:=H34.out; have HLB:=Zq (HLA.out.call (below_drewN (Below.refl _ _) nq)); have HZB:Hid (((W3.alloc (.cells #[.int .i64 0,.string ⟨#[]⟩,.int .i64 0,.int .i64 0] 86)).drewN nq).heap[W3.heap.size]?=some (.cells #[.int .i64 0,.string ⟨#[]⟩,.int .i64 0,.int .i64 0] 86 (0,0))):=Zq HZA.out; have HPB:=Zq (HLB.out.ps HPV.out); have hsB:W3.heap.size<((W3.alloc (.cells #[.int .i64 0,.string ⟨#[]⟩,.int .i64 0,.int .i64 0] 86)).drewN nq).heap.size:=hsA; go_wp2_with fail; refine (HC.out _ _ HLB.out.st HPB.out).mono ?_; clear HC HLA HZA HPA hsA)
       all_goals
        rintro e W5 ⟨hbt,hm⟩
        have HNX:Hid (∀ k' q',LSt W5 w0.heap.size s (.slice (some ⟨b,off,none⟩) n pcap) k' q'→LX w0 W5 (tau.set W3.heap.size 3) w0.heap.size s (.slice (some ⟨b,off,none⟩) n pcap) k' q' (.slice la ts.length lc) ts):=Zq (fun k' q' hl=>HLB.out.but hbt hl)
        have HBE:=Zq ((HLB.out.ev.trans ((Evo.ofBut hbt HLB.out.tg).mono (K':=(·≠0)) (fun x hx=>by omega))).toBelow (by simp))
        have hz5:W5.heap[W3.heap.size]?=some (.cells #[.int .i64 0,.string ⟨#[]⟩,.int .i64 0,.int .i64 0] 86 (0,0)):=(hbt.block _ hsB (by omega)).trans HZB.out
        have HZ5:=Zq hz5
        obtain ⟨⟨z0,z1,z2,z3⟩,y0,y1,y2,y3⟩:=ZdP hz5
        clear hz5 hbt HLB HZB HPB hsB
        cases htk:tok1 (s.drop q) with
        | none =>
         rw [htk] at hm
         obtain ⟨kd,us,m,rfl⟩:=hm
         have HE:=Zq (HE0.out htk)
         clear htk HE1 HE2 HNX
         simp only [tokV,strV]
         have hh:=ZdP (ZdM HZ5.out (.int .i64 kd) (.string ⟨us.toArray⟩) (.int .i64 m) (.int .i64 q))
         go_upto_region 18 with fail
         have HBX:=Zq ((((HBE.out.setCell (p:=⟨W3.heap.size,0,none⟩) (by show _≤W3.heap.size; omega) (.int .i64 kd)).setCell (p:=⟨W3.heap.size,1,none⟩) (by show _≤W3.heap.size; omega) (.string ⟨us.toArray⟩)).setCell (p:=⟨W3.heap.size,2,none⟩) (by show _≤W3.heap.size; omega) (.int .i64 m)).setCell (p:=⟨W3.heap.size,3,none⟩) (by show _≤W3.heap.size; omega) (.int .i64 q))
         generalize ((((W5.setCell ⟨W3.heap.size,0,none⟩ (.int .i64 kd)).setCell ⟨W3.heap.size,1,none⟩ (.string ⟨us.toArray⟩)).setCell ⟨W3.heap.size,2,none⟩ (.int .i64 m)).setCell ⟨W3.heap.size,3,none⟩ (.int .i64 q))=X at *
         clear z0 z1 z2 z3 y0 y1 y2 y3
         obtain ⟨⟨z0,z1,z2,z3⟩,y0,y1,y2,y3⟩:=hh
         go_wp2
         go_region
         go_wp2
         try rw [Exit.noGoto_ret]
         go_ret3
         refine ⟨HB0.out.seq (HBX.out.drew),?_⟩
         rw [HRR.out,HE.out]
         rfl
        | some x =>
         obtain ⟨kd,us,m,z⟩:=x
         rw [htk] at hm
         obtain ⟨rfl,k',hl⟩:=hm
         have HJ2:=Zq (HE1.out _ _ _ _ htk)
         obtain ⟨hz1',hz2'⟩:=HE2.out _ _ _ _ htk
         have HL6:=Zq (HNX.out k' (q+z) hl)
         have HX6:=Zq (HL6.out.put4 HTG3.out (.int .i64 kd) (.string ⟨us.toArray⟩) (.int .i64 m) (.int .i64 q))
         clear htk HE0 HE1 HE2 HNX hl
         simp only [tokV,strV]
         have hh:=ZdP (ZdM HZ5.out (.int .i64 kd) (.string ⟨us.toArray⟩) (.int .i64 m) (.int .i64 q))
         go_upto_region 18 with fail
         generalize ((((W5.setCell ⟨W3.heap.size,0,none⟩ (.int .i64 kd)).setCell ⟨W3.heap.size,1,none⟩ (.string ⟨us.toArray⟩)).setCell ⟨W3.heap.size,2,none⟩ (.int .i64 m)).setCell ⟨W3.heap.size,3,none⟩ (.int .i64 q))=X at *
         clear z0 z1 z2 z3 y0 y1 y2 y3
         obtain ⟨⟨z0,z1,z2,z3⟩,y0,y1,y2,y3⟩:=hh
         have hrow:=HX6.out.row
         have htl2:ts.length≤1000:=by omega
         go_wp2_with (at_builtin; refine Zac rfl _ _ 82 rfl 86 i0 _ 4 40 Tryz.underlying82 hi hz0 hz1 hz2 rfl (by decide) rfl hrow #[.int .i64 kd,.string ⟨us.toArray⟩,.int .i64 m,.int .i64 q] 86 (0,0) _ rfl ?c0 rfl ?c1 ?c2 ?c3 ?_)
         case c0=>simp
         case c1=>first|exact ⟨rfl,rfl,rfl,rfl⟩|(intro u hu; simp at hu; rcases hu with rfl|rfl|rfl|rfl<;>rfl)
         case c2=>unfold maxLen; omega
         case c3=>omega
         intro v' t' w' hr3 he
         have hfl:(ts.flatMap tokCells)++tokCells ⟨kd,us,m,q⟩=(ts++[(⟨kd,us,m,q⟩:Tok)]).flatMap tokCells:=by rw [List.flatMap_append]; simp
         have hr4:Row t' 1 w' 86 4 v' (ts++[(⟨kd,us,m,q⟩:Tok)]).length ((ts++[(⟨kd,us,m,q⟩:Tok)]).flatMap tokCells):=by
          rw [←hfl,List.length_append]; exact hr3
         have HX8:=Zq (HX6.out.app he hr4)
         clear hr3 hr4 hfl he hrow
         go_wp2
         go_roundg (g0 - 1)
         case rel=>exact ⟨t',k',q+z,f,ts++[⟨kd,us,m,q⟩],HX8,HJ2,by omega,by omega,by omega,by rw [List.length_append]; simp; omega⟩
         case measure=>omega
     · have HE:Hid (R = .ok (ts++[⟨0,[],0,sb.size⟩])):=Zq (by
        have hnil:s.drop q=[]:=List.drop_eq_nil_of_le (by omega)
        rw [←HJ.out,ZcH hnil,show q=sb.size by have:=HSZ.out; omega]; rfl)
       rw [Zk0 hin]
       have hct:ts.length≤400:=by omega
       have hrow:=HL3.out.row
       clear hc3 q3 HJ
       go_wp2_with (at_builtin; refine Zac rfl _ _ 82 rfl 86 i0 _ 4 40 Tryz.underlying82 hi hz0 hz1 hz2 rfl (by decide) rfl hrow #[.int .i64 0,.string ⟨#[]⟩,.int .i64 0,.int .i64 sb.size] 86 (0,0) _ rfl ?c0 rfl ?c1 ?c2 ?c3 ?_)
       case c0=>simp
       case c1=>first|exact ⟨rfl,rfl,rfl,rfl⟩|(intro u hu; simp at hu; rcases hu with rfl|rfl|rfl|rfl<;>rfl)
       case c2=>unfold maxLen; omega
       case c3=>omega
       intro v' t' w' hr3 he
       have HEV:=Zq (HL3.out.ev.trans (he.mono (K':=(·≠0)) (by intro x hx; omega)))
       obtain ⟨va,vc,hv⟩:=hr3.form
       have hfl:(ts.flatMap tokCells)++tokCells ⟨0,[],0,sb.size⟩=(ts++[(⟨0,[],0,sb.size⟩:Tok)]).flatMap tokCells:=by rw [List.flatMap_append]; simp
       have hr4:Row t' 1 w' 86 4 v' (ts++[(⟨0,[],0,sb.size⟩:Tok)]).length ((ts++[(⟨0,[],0,sb.size⟩:Tok)]).flatMap tokCells):=by
        rw [←hfl,List.length_append]; exact hr3
       have HV:=Zq (SlV.ofRow tokCells _ noTok (by decide) ZcF hr4)
       clear hr3 hr4 hfl he hrow
       go_wp2
       try rw [Exit.noGoto_ret]
       go_ret3
       refine ⟨HB0.out.seq (HEV.out.toBelow (by simp)),?_⟩
       rw [HRR.out,HE.out]
       exact ⟨_,rfl,HV.out⟩
theorem ZlG (k n:Int) (s:Bs) (w:World) (h:¬ (k=0∨k=1∨k=2∨k=3∨k=4)) :
 Calls Tryz.prog 175 #[.agg #[.int .i64 k,.int .i64 n,strV s]] w fun e w'=>e = .returned (.bool false)∧Below w.heap.size w w':=by
 have e0:(k == 0)=false:=Zr (by omega)
 have e1:(k == 1)=false:=Zr (by omega)
 have e2:(k == 2)=false:=Zr (by omega)
 have e3:(k == 3)=false:=Zr (by omega)
 have e4:(k == 4)=false:=Zr (by omega)
 clear h
 unfold strV
 go_in
 go_wp2
 go_ret
 exact ⟨rfl,(Below.refl _ _).alloc Zs _⟩
theorem ZlH (k n:Int) (s:Bs) (w:World) (h:k=0∨k=1) :
 Calls Tryz.prog 175 #[.agg #[.int .i64 k,.int .i64 n,strV s]] w fun e w'=>e = .returned (.bool (okV ⟨k,n,s⟩))∧Below w.heap.size w w':=by
 have HB:Hid (Below w.heap.size w w):=Zq (Below.refl _ _)
 by_cases hs:s=[]
 · subst hs
   rcases h with rfl|rfl
   · by_cases hn:n=0
     · have E:Hid (okV ⟨0,n,[]⟩=true):=Zq (by unfold okV; simp [hn])
       have q:(n == 0)=true:=by simp [hn]
       clear hn
       unfold strV
       go_in
       go_wp2
       go_ret
       exact ⟨by rw [E.out]; rfl,HB.out.alloc Zs _⟩
     · have E:Hid (okV ⟨0,n,[]⟩=false):=Zq (by unfold okV; simp [hn])
       have q:(n == 0)=false:=Zr hn
       clear hn
       unfold strV
       go_in
       go_wp2
       go_ret
       exact ⟨by rw [E.out]; rfl,HB.out.alloc Zs _⟩
   · have E:Hid (okV ⟨1,n,[]⟩=true):=Zq (by unfold okV; simp)
     unfold strV
     go_in
     go_wp2
     go_ret
     exact ⟨by rw [E.out]; rfl,HB.out.alloc Zs _⟩
 · have E:Hid (okV ⟨k,n,s⟩=false):=Zq (by unfold okV; rcases h with rfl|rfl<;>simp [hs])
   have q:=ZcZ hs
   clear hs
   unfold strV
   rcases h with rfl|rfl
   · by_cases hn:n=0
     · have q2:(n == 0)=true:=by simp [hn]
       clear hn
       go_in
       go_wp2
       go_ret
       exact ⟨by rw [E.out]; rfl,HB.out.alloc Zs _⟩
     · have q2:(n == 0)=false:=Zr hn
       clear hn
       go_in
       go_wp2
       go_ret
       exact ⟨by rw [E.out]; rfl,HB.out.alloc Zs _⟩
   · go_in
     go_wp2
     go_ret
     exact ⟨by rw [E.out]; rfl,HB.out.alloc Zs _⟩
theorem ZlI (n:Int) (s:Bs) (w:World) :
 Calls Tryz.prog 175 #[.agg #[.int .i64 2,.int .i64 n,strV s]] w fun e w'=>e = .returned (.bool (okV ⟨2,n,s⟩))∧Below w.heap.size w w':=by
 have HB:Hid (Below w.heap.size w w):=Zq (Below.refl _ _)
 have E:Hid (okV ⟨2,n,s⟩=(decide (n=0∨n=1)&&List.isEmpty s)):=Zq (by unfold okV; cases s<;>simp)
 by_cases h0:n=0
 · have E2:Hid (okV ⟨2,n,s⟩=List.isEmpty s):=Zq (by rw [E.out]; simp [h0])
   have q:(n == 0)=true:=by simp [h0]
   clear h0 E
   unfold strV
   go_in
   go_wp2
   go_ret
   exact ⟨by rw [E2.out]; rfl,HB.out.alloc Zs _⟩
 · have q:(n == 0)=false:=Zr h0
   by_cases h1:n=1
   · have E2:Hid (okV ⟨2,n,s⟩=List.isEmpty s):=Zq (by rw [E.out]; simp [h1])
     have q1:(n == 1)=true:=by simp [h1]
     clear h0 h1 E
     unfold strV
     go_in
     go_wp2
     go_ret
     exact ⟨by rw [E2.out]; rfl,HB.out.alloc Zs _⟩
   · have E2:Hid (okV ⟨2,n,s⟩=false):=Zq (by rw [E.out]; simp [h0,h1])
     have q1:(n == 1)=false:=Zr h1
     clear h0 h1 E
     unfold strV
     go_in
     go_wp2
     go_ret
     exact ⟨by rw [E2.out]; rfl,HB.out.alloc Zs _⟩
theorem ZlJ (n:Int) (s:Bs) (w:World) :
 Calls Tryz.prog 175 #[.agg #[.int .i64 4,.int .i64 n,strV s]] w fun e w'=>e = .returned (.bool (okV ⟨4,n,s⟩))∧Below w.heap.size w w':=by
 have HB:Hid (Below w.heap.size w w):=Zq (Below.refl _ _)
 have E:Hid (okV ⟨4,n,s⟩=(decide (1≤n∧n≤4)&&List.isEmpty s)):=Zq (by unfold okV; cases s<;>simp)
 by_cases h0:1≤n
 · by_cases h1:n≤4
   · have E2:Hid (okV ⟨4,n,s⟩=List.isEmpty s):=Zq (by rw [E.out,decide_eq_true ⟨h0,h1⟩]; rfl)
     unfold strV
     go_in
     go_wp2
     go_ret
     exact ⟨by rw [E2.out]; rfl,HB.out.alloc Zs _⟩
   · have E2:Hid (okV ⟨4,n,s⟩=false):=Zq (by rw [E.out,decide_eq_false (fun h=>h1 h.2)]; rfl)
     unfold strV
     go_in
     go_wp2
     go_ret
     exact ⟨by rw [E2.out]; rfl,HB.out.alloc Zs _⟩
 · have E2:Hid (okV ⟨4,n,s⟩=false):=Zq (by rw [E.out,decide_eq_false (fun h=>h0 h.1)]; rfl)
   unfold strV
   go_in
   go_wp2
   go_ret
   exact ⟨by rw [E2.out]; rfl,HB.out.alloc Zs _⟩
theorem ZlK (n:Int) (s:Bs) (w:World) (hm:s.length≤9223372036854775807) :
 Calls Tryz.prog 175 #[.agg #[.int .i64 3,.int .i64 n,strV s]] w fun e w'=>e = .returned (.bool (okV ⟨3,n,s⟩))∧Below w.heap.size w w':=by
 have HB:Hid (Below w.heap.size w w):=Zq (Below.refl _ _)
 have E:Hid (okV ⟨3,n,s⟩=(decide (n=0)&&textOk s)):=Zq (by unfold okV; simp)
 have hz:(⟨s.toArray⟩:ByteArray).size=s.length:=by simp [ByteArray.size]
 have hd:(⟨s.toArray⟩:ByteArray).data.toList=s:=by simp
 by_cases h0:n=0
 · have E2:Hid (okV ⟨3,n,s⟩=textOk s):=Zq (by rw [E.out]; simp [h0])
   have q:(n == 0)=true:=by simp [h0]
   by_cases h4:s.length≤400
   · have hb0:=HB.out.alloc Zs (.cells #[.int .i64 3,.int .i64 n,strV s] 218)
     have hv:=ZkY ⟨s.toArray⟩ (w.alloc (.cells #[.int .i64 3,.int .i64 n,strV s] 218)) (by omega)
     have hc:=fun W=>ZkX ⟨s.toArray⟩ W (by omega)
     have hz0:=heap_alloc_new w (.cells #[.int .i64 3,.int .i64 n,strV s] 218)
     rw [hd] at hv
     simp only [hd] at hc
     have HV:=Zq hv
     have HC:=Zq hc
     have HB0:=Zq hb0
     have HZ:=Zq hz0
     have E3:Hid (textOk s=(val s&&decide (cnt s≤100))):=Zq (by unfold textOk; rw [decide_eq_true h4]; rfl)
     clear E hv hc hb0 hz0 hd hz h0
     unfold strV at *
     cases hvs:val s with
     | false =>
      have E4:Hid (okV ⟨3,n,s⟩=false):=Zq (by rw [E2.out,E3.out,hvs]; rfl)
      rw [hvs] at HV
      go_in
      go_wp2_with fail
      refine HV.out.mono ?_
      rintro e W1 ⟨rfl,hb1⟩
      go_wp2
      go_ret
      exact ⟨by rw [E4.out]; rfl,HB0.out.seq hb1⟩
     | true =>
      have E4:Hid (okV ⟨3,n,s⟩=decide ((cnt s:Int)≤100)):=Zq (by
       rw [E2.out,E3.out,hvs,Bool.true_and]
       by_cases h:cnt s≤100
       · rw [decide_eq_true h,decide_eq_true (by omega)]
       · rw [decide_eq_false h,decide_eq_false (by omega)])
      rw [hvs] at HV
      go_in
      go_wp2_with fail
      refine HV.out.mono ?_
      rintro e W1 ⟨rfl,hb1⟩
      have hzW:=(hb1.block _ (by simp)).trans HZ.out
      have c2:W1.cell? ⟨w.heap.size,2,none⟩=some (.string ⟨s.toArray⟩):=by simp [World.cell?,hzW]
      have hb2:=HB0.out.seq hb1
      clear hb1 hzW
      go_wp2_with fail
      refine (HC.out _).mono ?_
      rintro e W2 ⟨rfl,hb3⟩
      have hb4:=hb2.seq hb3
      go_wp2
      go_ret
      exact ⟨by rw [E4.out]; rfl,hb4⟩
   · have E4:Hid (okV ⟨3,n,s⟩=false):=Zq (by rw [E2.out]; unfold textOk; rw [decide_eq_false h4]; rfl)
     have q4:decide ((s.length:Int)≤400)=false:=decide_eq_false (by omega)
     clear E h0 hd hz
     unfold strV
     go_in
     go_wp2
     go_ret
     exact ⟨by rw [E4.out]; rfl,HB.out.alloc Zs _⟩
 · have q:(n == 0)=false:=Zr h0
   have E2:Hid (okV ⟨3,n,s⟩=false):=Zq (by rw [E.out]; simp [h0])
   clear h0 E
   unfold strV
   go_in
   go_wp2
   go_ret
   exact ⟨by rw [E2.out]; rfl,HB.out.alloc Zs _⟩
theorem ZlL (k n:Int) (s:Bs) (w:World) (hm:s.length≤9223372036854775807) :
 Calls Tryz.prog 175 #[.agg #[.int .i64 k,.int .i64 n,strV s]] w fun e w'=>e = .returned (.bool (okV ⟨k,n,s⟩))∧Below w.heap.size w w':=by
 by_cases h:k=0∨k=1∨k=2∨k=3∨k=4
 · rcases h with h|h|h|h|h
   · exact ZlH k n s w (.inl h)
   · exact ZlH k n s w (.inr h)
   · subst h; exact ZlI n s w
   · subst h; exact ZlK n s w hm
   · subst h; exact ZlJ n s w
 · have e:okV ⟨k,n,s⟩=false:=by
    unfold okV
    rw [if_neg (fun x=>h (by simp_all)),if_neg (fun x=>h (by simp_all)),if_neg (fun x=>h (by simp_all)),if_neg (fun x=>h (by simp_all)),if_neg (fun x=>h (by simp_all))]
   rw [e]
   exact ZlG k n s w h
end Go.Proofs.YtpfhhikbaeknpaaGreatDoor
