/- The walk of palaverlaw11. -/
import Derived.Test.YtpfhhikbaeknpaaGreatDoorKUL
import Derived.Deep.RegionHeld3
set_option maxHeartbeats 16000000
set_option maxRecDepth 1000000
set_option linter.all false
namespace Go.Proofs.YtpfhhikbaeknpaaGreatDoor
open Go.RowKit Pal
attribute [local go_sem ↓] Go.wp_at_zero Go.wp_at_succ
theorem Zpd:(Tryz.prog.info? 27).map (·.size)=some 5:=by kernel_rfl
theorem Zpe:(Tryz.prog.info? 61).map (·.size)=some 4:=by kernel_rfl
theorem blkB {w W:World} (h:Below w.heap.size w W) {b:Nat} {o:Obj} (c:w.heap[b]?=some o):W.heap[b]?=some o:=(h.block _ (ZhK _ c)).trans c
theorem Zpf (W:World) (x0 x1 x2 x3 x4:Value) (h:(#[x0,x1,x2,x3,x4]:Array Value).all (·.oneCell')=true):(Instr.storeAt 27 (.pointer (some ⟨W.heap.size,0,none⟩)) (.agg #[x0,x1,x2,x3,x4])).run Tryz.prog (W.alloc (.cells #[.string ⟨#[]⟩,.int .i64 0,.string ⟨#[]⟩,.string ⟨#[]⟩,.string ⟨#[]⟩] 27)) = .ok () (W.alloc (.cells #[x0,x1,x2,x3,x4] 27)) :=
 run_storeAt_new W _ _ _ Zpd rfl h
theorem Zpg (W:World) (x0 x1 x2 x3:Value) (h:(#[x0,x1,x2,x3]:Array Value).all (·.oneCell')=true):(Instr.storeAt 61 (.pointer (some ⟨W.heap.size,0,none⟩)) (.agg #[x0,x1,x2,x3])).run Tryz.prog (W.alloc (.cells #[.int .i64 0,.int .i64 0,.string ⟨#[]⟩,.slice none 0 0] 61)) = .ok () (W.alloc (.cells #[x0,x1,x2,x3] 61)) :=
 run_storeAt_new W _ _ _ Zpe rfl h
theorem Zph (e:Ex):sameX e e=true:=by
 refine Ex.ind (P:=fun e=>sameX e e=true) ?_ e
 intro o n s ks ih
 have go:∀ l:List Ex,(∀ k∈l,k∈ks)→sameL l l=true:=by
  intro l
  induction l with
  | nil=>intro _; rw [ZlW]; rfl
  | cons a l ihl=>intro hm; rw [ZlX,ih a (hm a (by simp)),ihl (fun k hk=>hm k (by simp [hk]))]; rfl
 rw [ZlV]
 simp only [Ex.op,Ex.n,Ex.s,Ex.ks]
 rw [go ks (fun _ h=>h)]
 simp
theorem Zpi (e:Ex) (a a2:Option Addr) (c c2:Nat) (W:World) (h:KV (gh W) (.slice a e.ks.length c) e.ks) (k:KV (gh W) (.slice a2 e.ks.length c2) e.ks) :
 Calls Tryz.prog 46 #[.agg #[.int .i64 e.op,.int .i64 e.n,.string ⟨e.s.toArray⟩,.slice a e.ks.length c],.agg #[.int .i64 e.op,.int .i64 e.n,.string ⟨e.s.toArray⟩,.slice a2 e.ks.length c2]] W fun r w'=>r = .returned (.bool true)∧Below W.heap.size W w':=by
 have hs:=Zos e e _ _ W h k
 rw [Zph e] at hs
 exact hs
theorem Zpj {b b2:Nat} {F:Form} (w:World) (s:SchV (gh w) b F) (r:RefV (gh w) b2 F) (h24:F.l.length≤24) (hni:∀ i,i<F.l.length→∃ nd,F.needs[i]?=some nd) (ht:ThinF F) (hnd:(Fd.names F.l).Nodup) (hsz:∀ f∈F.l,f.n.length≤9223372036854775807) :
 Calls Tryz.prog 25 #[.pointer (some ⟨b,0,none⟩),.pointer (some ⟨b2,0,none⟩)] w (yesPost w):=by
 unfold yesPost
 have hS:∀ W,Below w.heap.size w W→SchV (gh W) b F:=fun W hb=>s.mono (Zah hb)
 obtain ⟨g,cap,mb,ov,xs,nds,p⟩:=s
 obtain ⟨lv,ev,hv,nv,ov2,xs2,nds2,r⟩:=r
 obtain ⟨la,lc,rfl⟩:=r.rb.fds.form
 obtain ⟨oa,oc,rfl,hol⟩:=Zd0 r.order
 obtain ⟨n,hn⟩:∃ n,F.l.length=n:=⟨_,rfl⟩
 obtain ⟨O,hO⟩:∃ O,F.order=O:=⟨_,rfl⟩
 have HLN:=Zq (fun W (hb:Below w.heap.size w W)=>(Zjl W (hS W hb)).mono (R':=fun e w'=>e = .returned (.int .i64 F.l.length)∧w'=W) fun _ _ ⟨h,k⟩=>⟨h,k.symm⟩)
 have HNM:=Zq (fun W (hb:Below w.heap.size w W)=>ZoX W (hS W hb) h24 hni)
 have HRN:=Zq (fun W (hb:Below w.heap.size w W)=>Zl2 F.l b2 _ W (by omega) (Zoq hb (ZnY (W:=w) r.box).1.1) (r.rb.fds.mono (Zah hb)))
 have HTX:=Zq (fun va vb W=>ZoY (Fd.names F.l) va vb W (by unfold Fd.names; rw [List.length_map]; omega))
 have HOR:=Zq (fun W (hb:Below w.heap.size w W)=>Zjm W (hS W hb))
 have HIS:=Zq (fun va W (hb:Below w.heap.size w W) hv=>ZoZ va _ F.order W hv (r.order.mono (Zah hb)))
 unfold textsPost at HNM HRN
 unfold intsPost at HOR
 have HK:=Zq (fun W (hb:Below w.heap.size w W)=>(⟨Zoq hb (ZnY (W:=w) r.box).1.1,Zoq hb (ZnY (W:=w) r.box).1.2.2.2.2.2.2.2.2⟩:W.cell? ⟨b2,0,none⟩=some (.slice la F.l.length lc)∧W.cell? ⟨b2,8,none⟩=some (.slice oa F.order.length oc)))
 have HS:=Zq hS
 have HP:=Zq p
 have HR:=Zq r
 have HN:=Zq hn
 have HNI:=Zq hni
 have HT:=Zq ht
 have HND:=Zq hnd
 have HSZ:=Zq hsz
 have h24':=h24
 have H24:=Zq h24'
 rw [hn] at h24 HLN HK
 rw [hO] at hol HK HIS HOR
 have q1:((n:Int) != (n:Int))=false:=by simp
 have q2:(n != n)=false:=by simp
 obtain ⟨x0,x8⟩:=HK.out w (Below.refl _ _)
 have hbe:Below w.heap.size w w.drew:=(Below.refl _ _).drew
 clear p r hni ht hnd hsz hS h24' hn hO hol
 go_in
 go_upto_region 1 with fail
 go_region_held3 (fun w'=>(w'.cell? ⟨b2,0,none⟩=some (.slice la n lc)∧w'.cell? ⟨b2,8,none⟩=some (.slice oa O.length oc))) (go_keep)
  ((first
   | (go_at_call 24; refine (HIS.out _ _ hbe4 HV4.out).mono ?_; rintro r W5 ⟨rfl,hb5⟩; have hbe5:=hbe4.seq hb5; have hg:=HK.out W5 hbe5; obtain ⟨g0,g8⟩:=hg; clear hb5)
   | (go_at_call 12; refine (HOR.out _ hbe3).mono ?_; rintro r W4 ⟨hb4,v4,rfl,hv4⟩; have hbe4:=hbe3.seq hb4; have HV4:=Zq hv4; have hg:=HK.out W4 hbe4; obtain ⟨g0,g8⟩:=hg; clear hb4 hv4)
   | (go_at_call 39; refine (HTX.out _ _ _ HV1.out HV2.out).mono ?_; rintro r W3 ⟨rfl,hb3⟩; have hbe3:=hbe2.seq hb3; have hg:=HK.out W3 hbe3; obtain ⟨g0,g8⟩:=hg; clear hb3)
   | (go_at_call 41; refine (HRN.out _ hbe1).mono ?_; rintro r W2 ⟨hb2,v2,rfl,hv2⟩; have hbe2:=hbe1.seq hb2; have HV1:=Zq (HV1.out.mono (Zah hb2)); have HV2:=Zq hv2; have hg:=HK.out W2 hbe2; obtain ⟨g0,g8⟩:=hg; clear hb2 hv2)
   | (go_at_call 40; refine (HNM.out _ hbe).mono ?_; rintro r W1 ⟨hb1,v1,rfl,hv1⟩; have hbe1:=hbe.seq hb1; have HV1:=Zq hv1; have hg:=HK.out W1 hbe1; obtain ⟨g0,g8⟩:=hg; clear hb1 hv1)
   | (go_at_call 17; refine (HLN.out _ hbe).mono ?_; rintro r W0 ⟨rfl,rfl⟩)))
 have HB:=Zq hbe5
 clear hbe hbe1 hbe2 hbe3 hbe4 hbe5 g0 g8 x0 x8 HLN HNM HRN HTX HOR HIS HV1 HV2 HV4
 go_wp2_with fail
 go_loopg [5] (n+2) (fun gk i wr=>∃ z:Int,i = .int .i64 z ∧ -1≤z∧z+gk=n+1∧Hid (Below w.heap.size w wr))
 case atStart=>exact ⟨-1,rfl,by omega,by omega,HB⟩
 case round =>
  obtain ⟨z,rfl,hz,hg,HB⟩:=hrel
  clear HK
  by_cases hle:z≤n
  · by_cases hin:0≤z∧z<n
    · obtain ⟨i,rfl⟩:∃ i:Nat,z=i:=⟨z.toNat,by omega⟩
      have hi:i<F.l.length:=by have:=HN.out; omega
      obtain ⟨f,hf⟩:∃ f,F.l[i]?=some f:=⟨_,List.getElem?_eq_getElem hi⟩
      obtain ⟨x,hx⟩:∃ x,xs[i]?=some x:=⟨_,List.getElem?_eq_getElem (by rw [HP.out.xlen]; exact hi)⟩
      obtain ⟨y,hy⟩:∃ y,xs2[i]?=some y:=⟨_,List.getElem?_eq_getElem (by rw [HR.out.xlen]; exact hi)⟩
      obtain ⟨nd,hnd⟩:=HNI.out i hi
      have T:=Zpa HP.out H24.out HT.out hf hx
      obtain ⟨s0,u0⟩:=Zo5 HP.out HR.out hx hy (k:=0) (by decide)
      obtain ⟨s1,u1⟩:=Zo5 HP.out HR.out hx hy (k:=1) (by decide)
      obtain ⟨s2,u2⟩:=Zo5 HP.out HR.out hx hy (k:=2) (by decide)
      have hin2:=fun W (hb:Below w.heap.size w W)=>Zpb W (HP.out.mono (Zah hb)) hx hi H24.out
      rw [u0] at hin2
      have hfo:∀ W,Below w.heap.size w W→Calls Tryz.prog 43 #[.pointer (some ⟨b,0,none⟩),.int .i64 i] W (exOut (outE (prj 0 y)) (prj 0 y).isSome W):=fun W hb=>by rw [←s0,←u0]; exact T.fo W hb
      have hru:∀ W,Below w.heap.size w W→Calls Tryz.prog 44 #[.pointer (some ⟨b,0,none⟩),.int .i64 i] W (exOut (outE (prj 1 y)) (prj 1 y).isSome W):=fun W hb=>by rw [←s1,←u1]; exact T.ru W hb
      have hsh:∀ W,Below w.heap.size w W→Calls Tryz.prog 45 #[.pointer (some ⟨b,0,none⟩),.int .i64 i] W (exOut (outE (prj 2 y)) (prj 2 y).isSome W):=fun W hb=>by rw [←s2,←u2]; exact T.sh W hb
      obtain ⟨eb0,eo0,ec0,ka0,kc0,v0,kv0,p00,p01,p02,p03⟩:=Zo2 HR.out hy (k:=0) (by decide)
      obtain ⟨eb1,eo1,ec1,ka1,kc1,v1,kv1,p10,p11,p12,p13⟩:=Zo2 HR.out hy (k:=1) (by decide)
      obtain ⟨eb2,eo2,ec2,ka2,kc2,v2,kv2,p20,p21,p22,p23⟩:=Zo2 HR.out hy (k:=2) (by decide)
      obtain ⟨hb0,ho0,hc0,w0,h0⟩:=Zo3 HR.out hy (k:=0) (by decide)
      obtain ⟨hb1,ho1,hc1,w1,h1⟩:=Zo3 HR.out hy (k:=1) (by decide)
      obtain ⟨hb2,ho2,hc2,w2,h2⟩:=Zo3 HR.out hy (k:=2) (by decide)
      obtain ⟨nb,no,nc,nvi,wn,n0,nI⟩:=Zo4 HR.out hi hnd
      obtain ⟨na,nc2,rfl,-⟩:=Zd0 nI
      obtain ⟨fb,fo,hla,f0,f1,f2,f3,f4⟩:=HR.out.rb.fds.at hf
      obtain ⟨⟨m0,m1,m2,m3,m4,m5,m6,m7,-⟩,-⟩:=ZnY (W:=w) HR.out.box
      rw [hla,HN.out] at m0
      rw [v0,HN.out] at m1
      rw [v1,HN.out] at m2
      rw [v2,HN.out] at m3
      rw [w0,HN.out] at m4
      rw [w1,HN.out] at m5
      rw [w2,HN.out] at m6
      rw [wn,HN.out] at m7
      have hfd:=fun W (hb:Below w.heap.size w W)=>Zpc W (HS.out W hb) hf HND.out (HSZ.out f (List.mem_of_getElem? hf))
      have hne:=fun W (hb:Below w.heap.size w W)=>Zjn i nd W (HS.out W hb) hi H24.out hnd
      have HIS:=Zq (fun va W (hb:Below w.heap.size w W) hv=>ZoZ va _ nd W hv (nI.mono (Zah hb)))
      have HS0:=Zq (fun a c W (hb:Below w.heap.size w W) hk=>Zpi (outE (prj 0 y)) a ka0 c kc0 W hk (kv0.mono (Zah hb)))
      have HS1:=Zq (fun a c W (hb:Below w.heap.size w W) hk=>Zpi (outE (prj 1 y)) a ka1 c kc1 W hk (kv1.mono (Zah hb)))
      have HS2:=Zq (fun a c W (hb:Below w.heap.size w W) hk=>Zpi (outE (prj 2 y)) a ka2 c kc2 W hk (kv2.mono (Zah hb)))
      have hfl:=T.fld
      unfold fdV at hfl
      unfold intsPost at hne
      obtain ⟨fn,ft,ffo,fru,fsh⟩:=f
      simp only at hfl f0 f1 f2 f3 f4 hfd
      generalize outE (prj 0 y)=E0 at *
      generalize outE (prj 1 y)=E1 at *
      generalize outE (prj 2 y)=E2 at *
      generalize (prj 0 y).isSome=U0 at *
      generalize (prj 1 y).isSome=U1 at *
      generalize (prj 2 y).isSome=U2 at *
      have HFL:=Zq hfl
      have HFO:=Zq hfo
      have HRU:=Zq hru
      have HSH:=Zq hsh
      have HIN:=Zq hin2
      have HNE:=Zq hne
      have HFD:=Zq hfd
      have HC4:=Zq (fun W (hb:Below w.heap.size w W)=>And.intro (Zoq hb m0) (And.intro (Zoq hb m4) (And.intro (Zoq hb m5) (And.intro (Zoq hb m6) (And.intro (Zoq hb m7) (And.intro (Zoq hb f0) (And.intro (Zoq hb f1) (And.intro (Zoq hb f2) (And.intro (Zoq hb f3) (And.intro (Zoq hb f4) (And.intro (Zoq hb h0) (And.intro (Zoq hb h1) (And.intro (Zoq hb h2) (Zoq hb n0))))))))))))))
      have HC6:=Zq (fun W (hb:Below w.heap.size w W)=>And.intro (Zoq hb m1) (And.intro (Zoq hb m2) (And.intro (Zoq hb m3) (And.intro (Zoq hb p00) (And.intro (Zoq hb p01) (And.intro (Zoq hb p02) (And.intro (Zoq hb p03) (And.intro (Zoq hb p10) (And.intro (Zoq hb p11) (And.intro (Zoq hb p12) (And.intro (Zoq hb p13) (And.intro (Zoq hb p20) (And.intro (Zoq hb p21) (And.intro (Zoq hb p22) (Zoq hb p23)))))))))))))))
      have c0:=Zoq HB.out m0
      have k1:(0:Int)≤(i:Int):=by omega
      have k2:(i:Int)<(n:Int):=hin.2
      have k3:¬ n≤i:=by omega
      have k4:¬ (i:Int)<0:=by omega
      have k5:i<n:=by omega
      have j0:((!U0) == U0)=false:=by cases U0<;>rfl
      have j1:(U0 != U0)=false:=by cases U0<;>rfl
      have j2:(U1 != U1)=false:=by cases U1<;>rfl
      have j3:(U2 != U2)=false:=by cases U2<;>rfl
      have j4:((i:Int) != (i:Int))=false:=by simp
      have jf0:(fn == fn)=true:=beq_self_eq_true fn
      have jf1:(ft == ft)=true:=beq_self_eq_true ft
      have jf2:(ffo == ffo)=true:=beq_self_eq_true ffo
      have jf3:(fru == fru)=true:=beq_self_eq_true fru
      have jf4:(fsh == fsh)=true:=beq_self_eq_true fsh
      clear hi hf hx hy hnd T s0 s1 s2 u0 u1 u2 hfo hru hsh hin2 v0 v1 v2 kv0 kv1 kv2 p00 p01 p02 p03 p10 p11 p12 p13 p20 p21 p22 p23 w0 w1 w2 wn h0 h1 h2 n0 nI f0 f1 f2 f3 f4 m0 m1 m2 m3 m4 m5 m6 m7 hfl hfd hne hla hz hin
      go_wp2_with fail
      refine (HFL.out _ HB.out).mono ?_
      rintro r W1 ⟨rfl,hb1⟩
      have HST:=Zq (Zpf W1 (.string ⟨fn.toArray⟩) (.int .i64 ft) (.string ⟨ffo.toArray⟩) (.string ⟨fru.toArray⟩) (.string ⟨fsh.toArray⟩) (by simp [Value.oneCell']))
      have HZ1:=Zq (heap_alloc_new W1 (.cells #[.string ⟨fn.toArray⟩,.int .i64 ft,.string ⟨ffo.toArray⟩,.string ⟨fru.toArray⟩,.string ⟨fsh.toArray⟩] 27))
      have hb2:=hb1.alloc hb1.size (.cells #[.string ⟨fn.toArray⟩,.int .i64 ft,.string ⟨ffo.toArray⟩,.string ⟨fru.toArray⟩,.string ⟨fsh.toArray⟩] 27)
      have HB2:=Zq (HB.out.seq hb2)
      clear hb1 hb2 HFL
      go_wp2_with (refine Zay (o:=⟨none,_,_,_,_,_⟩) rfl rfl _ _ _ rfl rfl rfl HST.out ?_)
      clear HST
      generalize W1.alloc (.cells #[.string ⟨fn.toArray⟩,.int .i64 ft,.string ⟨ffo.toArray⟩,.string ⟨fru.toArray⟩,.string ⟨fsh.toArray⟩] 27)=W2 at *
      refine (HFO.out _ HB2.out).mono ?_
      rintro r W3 ⟨hb,a0,k0,rfl,hk⟩
      have HST:=Zq (Zpg W3 (.int .i64 E0.op) (.int .i64 E0.n) (.string ⟨E0.s.toArray⟩) (.slice a0 E0.ks.length k0) (by simp [Value.oneCell']))
      have HZ3:=Zq (heap_alloc_new W3 (.cells #[.int .i64 E0.op,.int .i64 E0.n,.string ⟨E0.s.toArray⟩,.slice a0 E0.ks.length k0] 61))
      have hn:=(Below.refl W3.heap.size W3).alloc Zs (.cells #[.int .i64 E0.op,.int .i64 E0.n,.string ⟨E0.s.toArray⟩,.slice a0 E0.ks.length k0] 61)
      have HK0:=Zq (hk.mono (Zah hn))
      have hb2:=hb.seq hn
      have HB4:=Zq (HB2.out.seq hb2)
      have HZ1:=Zq (blkB hb2 HZ1.out)
      clear hb hk hn hb2 HFO
      go_wp2_with (refine Zay (o:=⟨none,_,_,_,_,_⟩) rfl rfl _ _ _ rfl rfl rfl HST.out ?_)
      clear HST
      generalize W3.alloc (.cells #[.int .i64 E0.op,.int .i64 E0.n,.string ⟨E0.s.toArray⟩,.slice a0 E0.ks.length k0] 61)=W4 at *
      refine (HRU.out _ HB4.out).mono ?_
      rintro r W5 ⟨hb,a1,k1,rfl,hk⟩
      have HST:=Zq (Zpg W5 (.int .i64 E1.op) (.int .i64 E1.n) (.string ⟨E1.s.toArray⟩) (.slice a1 E1.ks.length k1) (by simp [Value.oneCell']))
      have HZ5:=Zq (heap_alloc_new W5 (.cells #[.int .i64 E1.op,.int .i64 E1.n,.string ⟨E1.s.toArray⟩,.slice a1 E1.ks.length k1] 61))
      have hn:=(Below.refl W5.heap.size W5).alloc Zs (.cells #[.int .i64 E1.op,.int .i64 E1.n,.string ⟨E1.s.toArray⟩,.slice a1 E1.ks.length k1] 61)
      have HK1:=Zq (hk.mono (Zah hn))
      have hb2:=hb.seq hn
      have HB6:=Zq (HB4.out.seq hb2)
      have HZ1:=Zq (blkB hb2 HZ1.out)
      have HZ3:=Zq (blkB hb2 HZ3.out)
      have HK0:=Zq (HK0.out.mono (Zah hb2))
      clear hb hk hn hb2 HRU
      go_wp2_with (refine Zay (o:=⟨none,_,_,_,_,_⟩) rfl rfl _ _ _ rfl rfl rfl HST.out ?_)
      clear HST
      generalize W5.alloc (.cells #[.int .i64 E1.op,.int .i64 E1.n,.string ⟨E1.s.toArray⟩,.slice a1 E1.ks.length k1] 61)=W6 at *
      refine (HSH.out _ HB6.out).mono ?_
      rintro r W7 ⟨hb,a2,k2,rfl,hk⟩
      have HST:=Zq (Zpg W7 (.int .i64 E2.op) (.int .i64 E2.n) (.string ⟨E2.s.toArray⟩) (.slice a2 E2.ks.length k2) (by simp [Value.oneCell']))
      have HZ7:=Zq (heap_alloc_new W7 (.cells #[.int .i64 E2.op,.int .i64 E2.n,.string ⟨E2.s.toArray⟩,.slice a2 E2.ks.length k2] 61))
      have hn:=(Below.refl W7.heap.size W7).alloc Zs (.cells #[.int .i64 E2.op,.int .i64 E2.n,.string ⟨E2.s.toArray⟩,.slice a2 E2.ks.length k2] 61)
      have HK2:=Zq (hk.mono (Zah hn))
      have hb2:=hb.seq hn
      have HB8:=Zq (HB6.out.seq hb2)
      have HZ1:=Zq (blkB hb2 HZ1.out)
      have HZ3:=Zq (blkB hb2 HZ3.out)
      have HZ5:=Zq (blkB hb2 HZ5.out)
      have HK0:=Zq (HK0.out.mono (Zah hb2))
      have HK1:=Zq (HK1.out.mono (Zah hb2))
      clear hb hk hn hb2 HSH
      go_upto_region 14 with (refine Zay (o:=⟨none,_,_,_,_,_⟩) rfl rfl _ _ _ rfl rfl rfl HST.out ?_)
      clear HST
      generalize W7.alloc (.cells #[.int .i64 E2.op,.int .i64 E2.n,.string ⟨E2.s.toArray⟩,.slice a2 E2.ks.length k2] 61)=W8 at *
      as_aux_lemma =>
       have hk:∀ W,Below W8.heap.size W8 W→(W.cell? ⟨b2,0,none⟩=some (.slice (some ⟨fb,fo,none⟩) n lc)∧W.cell? ⟨b2,4,none⟩=some (.slice (some ⟨hb0,ho0,none⟩) n hc0)∧W.cell? ⟨b2,5,none⟩=some (.slice (some ⟨hb1,ho1,none⟩) n hc1)∧W.cell? ⟨b2,6,none⟩=some (.slice (some ⟨hb2,ho2,none⟩) n hc2)∧W.cell? ⟨b2,7,none⟩=some (.slice (some ⟨nb,no,none⟩) n nc)∧W.cell? ⟨fb,fo+i*5,none⟩=some (.string ⟨fn.toArray⟩)∧W.cell? ⟨fb,fo+i*5+1,none⟩=some (.int .i64 ft)∧W.cell? ⟨fb,fo+i*5+2,none⟩=some (.string ⟨ffo.toArray⟩)∧W.cell? ⟨fb,fo+i*5+3,none⟩=some (.string ⟨fru.toArray⟩)∧W.cell? ⟨fb,fo+i*5+4,none⟩=some (.string ⟨fsh.toArray⟩)∧W.cell? ⟨hb0,ho0+i,none⟩=some (.bool U0)∧W.cell? ⟨hb1,ho1+i,none⟩=some (.bool U1)∧W.cell? ⟨hb2,ho2+i,none⟩=some (.bool U2)∧W.cell? ⟨nb,no+i,none⟩=some (.slice na nd.length nc2)∧W.cell? ⟨W1.heap.size,0,none⟩=some (.string ⟨fn.toArray⟩)∧W.cell? ⟨W1.heap.size,1,none⟩=some (.int .i64 ft)∧W.cell? ⟨W1.heap.size,2,none⟩=some (.string ⟨ffo.toArray⟩)∧W.cell? ⟨W1.heap.size,3,none⟩=some (.string ⟨fru.toArray⟩)∧W.cell? ⟨W1.heap.size,4,none⟩=some (.string ⟨fsh.toArray⟩)):=fun W hb=>⟨(HC4.out _ (HB8.out.seq hb)).1,(HC4.out _ (HB8.out.seq hb)).2.1,(HC4.out _ (HB8.out.seq hb)).2.2.1,(HC4.out _ (HB8.out.seq hb)).2.2.2.1,(HC4.out _ (HB8.out.seq hb)).2.2.2.2.1,(HC4.out _ (HB8.out.seq hb)).2.2.2.2.2.1,(HC4.out _ (HB8.out.seq hb)).2.2.2.2.2.2.1,(HC4.out _ (HB8.out.seq hb)).2.2.2.2.2.2.2.1,(HC4.out _ (HB8.out.seq hb)).2.2.2.2.2.2.2.2.1,(HC4.out _ (HB8.out.seq hb)).2.2.2.2.2.2.2.2.2.1,(HC4.out _ (HB8.out.seq hb)).2.2.2.2.2.2.2.2.2.2.1,(HC4.out _ (HB8.out.seq hb)).2.2.2.2.2.2.2.2.2.2.2.1,(HC4.out _ (HB8.out.seq hb)).2.2.2.2.2.2.2.2.2.2.2.2.1,(HC4.out _ (HB8.out.seq hb)).2.2.2.2.2.2.2.2.2.2.2.2.2,(Zf0 (blkB hb HZ1.out)).1,(Zf0 (blkB hb HZ1.out)).2.1,(Zf0 (blkB hb HZ1.out)).2.2.1,(Zf0 (blkB hb HZ1.out)).2.2.2.1,(Zf0 (blkB hb HZ1.out)).2.2.2.2⟩
       have HK:=Zq hk
       obtain ⟨c0,c1,c2,c3,c4,c5,c6,c7,c8,c9,c10,c11,c12,c13,c14,c15,c16,c17,c18⟩:=hk _ (Below.refl _ _)
       have hbe:Below W8.heap.size W8 W8.drew:=(Below.refl _ _).drew
       clear hk HZ1
       simp only [List.append_eq,List.cons_append,List.nil_append]
       go_region_held3 (fun w'=>(w'.cell? ⟨b2,0,none⟩=some (.slice (some ⟨fb,fo,none⟩) n lc)∧w'.cell? ⟨b2,4,none⟩=some (.slice (some ⟨hb0,ho0,none⟩) n hc0)∧w'.cell? ⟨b2,5,none⟩=some (.slice (some ⟨hb1,ho1,none⟩) n hc1)∧w'.cell? ⟨b2,6,none⟩=some (.slice (some ⟨hb2,ho2,none⟩) n hc2)∧w'.cell? ⟨b2,7,none⟩=some (.slice (some ⟨nb,no,none⟩) n nc)∧w'.cell? ⟨fb,fo+i*5,none⟩=some (.string ⟨fn.toArray⟩)∧w'.cell? ⟨fb,fo+i*5+1,none⟩=some (.int .i64 ft)∧w'.cell? ⟨fb,fo+i*5+2,none⟩=some (.string ⟨ffo.toArray⟩)∧w'.cell? ⟨fb,fo+i*5+3,none⟩=some (.string ⟨fru.toArray⟩)∧w'.cell? ⟨fb,fo+i*5+4,none⟩=some (.string ⟨fsh.toArray⟩)∧w'.cell? ⟨hb0,ho0+i,none⟩=some (.bool U0)∧w'.cell? ⟨hb1,ho1+i,none⟩=some (.bool U1)∧w'.cell? ⟨hb2,ho2+i,none⟩=some (.bool U2)∧w'.cell? ⟨nb,no+i,none⟩=some (.slice na nd.length nc2)∧w'.cell? ⟨W1.heap.size,0,none⟩=some (.string ⟨fn.toArray⟩)∧w'.cell? ⟨W1.heap.size,1,none⟩=some (.int .i64 ft)∧w'.cell? ⟨W1.heap.size,2,none⟩=some (.string ⟨ffo.toArray⟩)∧w'.cell? ⟨W1.heap.size,3,none⟩=some (.string ⟨fru.toArray⟩)∧w'.cell? ⟨W1.heap.size,4,none⟩=some (.string ⟨fsh.toArray⟩))) (go_keep)
        ((first
         | (go_at_call 24; refine (HIS.out _ _ (HB8.out.seq hbe1) HV9.out).mono ?_; rintro r W10 ⟨rfl,hb⟩; have hbe2:=hbe1.seq hb; have hg:=HK.out _ hbe2; obtain ⟨c0,c1,c2,c3,c4,c5,c6,c7,c8,c9,c10,c11,c12,c13,c14,c15,c16,c17,c18⟩:=hg; clear hb)
         | (go_at_call 19; refine (HNE.out _ (HB8.out.seq hbe)).mono ?_; rintro r W9 ⟨hb,v9,rfl,hv⟩; have hbe1:=hbe.seq hb; have HV9:=Zq hv; have hg:=HK.out _ hbe1; obtain ⟨c0,c1,c2,c3,c4,c5,c6,c7,c8,c9,c10,c11,c12,c13,c14,c15,c16,c17,c18⟩:=hg; clear hb hv)
         | (go_at_call 18; refine (HIN.out _ (HB8.out.seq hbe)).mono ?_; rintro r W ⟨rfl,rfl⟩)))
       have HB10:=Zq (HB8.out.seq hbe2)
       have HZ3:=Zq (blkB hbe2 HZ3.out)
       have HZ5:=Zq (blkB hbe2 HZ5.out)
       have HZ7:=Zq (blkB hbe2 HZ7.out)
       have HK0:=Zq (HK0.out.mono (Zah hbe2))
       have HK1:=Zq (HK1.out.mono (Zah hbe2))
       have HK2:=Zq (HK2.out.mono (Zah hbe2))
       clear hbe hbe1 hbe2 c0 c1 c2 c3 c4 c5 c6 c7 c8 c9 c10 c11 c12 c13 c14 c15 c16 c17 c18 HIS HV9 HK HIN HNE jf0 jf1 jf2 jf3 jf4 j0 j1 j2 j3
       as_aux_lemma =>
        have hk:∀ W,Below W10.heap.size W10 W→(W.cell? ⟨W3.heap.size,0,none⟩=some (.int .i64 E0.op)∧W.cell? ⟨W3.heap.size,1,none⟩=some (.int .i64 E0.n)∧W.cell? ⟨W3.heap.size,2,none⟩=some (.string ⟨E0.s.toArray⟩)∧W.cell? ⟨W3.heap.size,3,none⟩=some (.slice a0 E0.ks.length k0)∧W.cell? ⟨W5.heap.size,0,none⟩=some (.int .i64 E1.op)∧W.cell? ⟨W5.heap.size,1,none⟩=some (.int .i64 E1.n)∧W.cell? ⟨W5.heap.size,2,none⟩=some (.string ⟨E1.s.toArray⟩)∧W.cell? ⟨W5.heap.size,3,none⟩=some (.slice a1 E1.ks.length k1)∧W.cell? ⟨W7.heap.size,0,none⟩=some (.int .i64 E2.op)∧W.cell? ⟨W7.heap.size,1,none⟩=some (.int .i64 E2.n)∧W.cell? ⟨W7.heap.size,2,none⟩=some (.string ⟨E2.s.toArray⟩)∧W.cell? ⟨W7.heap.size,3,none⟩=some (.slice a2 E2.ks.length k2)∧W.cell? ⟨b2,1,none⟩=some (.slice (some ⟨eb0,eo0,none⟩) n ec0)∧W.cell? ⟨b2,2,none⟩=some (.slice (some ⟨eb1,eo1,none⟩) n ec1)∧W.cell? ⟨b2,3,none⟩=some (.slice (some ⟨eb2,eo2,none⟩) n ec2)∧W.cell? ⟨eb0,eo0+i*4,none⟩=some (.int .i64 E0.op)∧W.cell? ⟨eb0,eo0+i*4+1,none⟩=some (.int .i64 E0.n)∧W.cell? ⟨eb0,eo0+i*4+2,none⟩=some (.string ⟨E0.s.toArray⟩)∧W.cell? ⟨eb0,eo0+i*4+3,none⟩=some (.slice ka0 E0.ks.length kc0)∧W.cell? ⟨eb1,eo1+i*4,none⟩=some (.int .i64 E1.op)∧W.cell? ⟨eb1,eo1+i*4+1,none⟩=some (.int .i64 E1.n)∧W.cell? ⟨eb1,eo1+i*4+2,none⟩=some (.string ⟨E1.s.toArray⟩)∧W.cell? ⟨eb1,eo1+i*4+3,none⟩=some (.slice ka1 E1.ks.length kc1)∧W.cell? ⟨eb2,eo2+i*4,none⟩=some (.int .i64 E2.op)∧W.cell? ⟨eb2,eo2+i*4+1,none⟩=some (.int .i64 E2.n)∧W.cell? ⟨eb2,eo2+i*4+2,none⟩=some (.string ⟨E2.s.toArray⟩)∧W.cell? ⟨eb2,eo2+i*4+3,none⟩=some (.slice ka2 E2.ks.length kc2)):=fun W hb=>⟨(ZdP (blkB hb HZ3.out)).1.1,(ZdP (blkB hb HZ3.out)).1.2.1,(ZdP (blkB hb HZ3.out)).1.2.2.1,(ZdP (blkB hb HZ3.out)).1.2.2.2,(ZdP (blkB hb HZ5.out)).1.1,(ZdP (blkB hb HZ5.out)).1.2.1,(ZdP (blkB hb HZ5.out)).1.2.2.1,(ZdP (blkB hb HZ5.out)).1.2.2.2,(ZdP (blkB hb HZ7.out)).1.1,(ZdP (blkB hb HZ7.out)).1.2.1,(ZdP (blkB hb HZ7.out)).1.2.2.1,(ZdP (blkB hb HZ7.out)).1.2.2.2,(HC6.out _ (HB10.out.seq hb)).1,(HC6.out _ (HB10.out.seq hb)).2.1,(HC6.out _ (HB10.out.seq hb)).2.2.1,(HC6.out _ (HB10.out.seq hb)).2.2.2.1,(HC6.out _ (HB10.out.seq hb)).2.2.2.2.1,(HC6.out _ (HB10.out.seq hb)).2.2.2.2.2.1,(HC6.out _ (HB10.out.seq hb)).2.2.2.2.2.2.1,(HC6.out _ (HB10.out.seq hb)).2.2.2.2.2.2.2.1,(HC6.out _ (HB10.out.seq hb)).2.2.2.2.2.2.2.2.1,(HC6.out _ (HB10.out.seq hb)).2.2.2.2.2.2.2.2.2.1,(HC6.out _ (HB10.out.seq hb)).2.2.2.2.2.2.2.2.2.2.1,(HC6.out _ (HB10.out.seq hb)).2.2.2.2.2.2.2.2.2.2.2.1,(HC6.out _ (HB10.out.seq hb)).2.2.2.2.2.2.2.2.2.2.2.2.1,(HC6.out _ (HB10.out.seq hb)).2.2.2.2.2.2.2.2.2.2.2.2.2.1,(HC6.out _ (HB10.out.seq hb)).2.2.2.2.2.2.2.2.2.2.2.2.2.2⟩
        have HK:=Zq hk
        obtain ⟨c0,c1,c2,c3,c4,c5,c6,c7,c8,c9,c10,c11,c12,c13,c14,c15,c16,c17,c18,c19,c20,c21,c22,c23,c24,c25,c26⟩:=hk _ (Below.refl _ _)
        have hbe:Below W10.heap.size W10 W10.drew:=(Below.refl _ _).drew
        have HKA:=Zq (fun W (hb:Below W10.heap.size W10 W)=>HK0.out.mono (Zah hb))
        have HKB:=Zq (fun W (hb:Below W10.heap.size W10 W)=>HK1.out.mono (Zah hb))
        have HKC:=Zq (fun W (hb:Below W10.heap.size W10 W)=>HK2.out.mono (Zah hb))
        clear hk HK0 HK1 HK2 HZ3 HZ5 HZ7 HC6
        go_upto_region 16 with fail
        go_region_held3 (fun w'=>(w'.cell? ⟨W3.heap.size,0,none⟩=some (.int .i64 E0.op)∧w'.cell? ⟨W3.heap.size,1,none⟩=some (.int .i64 E0.n)∧w'.cell? ⟨W3.heap.size,2,none⟩=some (.string ⟨E0.s.toArray⟩)∧w'.cell? ⟨W3.heap.size,3,none⟩=some (.slice a0 E0.ks.length k0)∧w'.cell? ⟨W5.heap.size,0,none⟩=some (.int .i64 E1.op)∧w'.cell? ⟨W5.heap.size,1,none⟩=some (.int .i64 E1.n)∧w'.cell? ⟨W5.heap.size,2,none⟩=some (.string ⟨E1.s.toArray⟩)∧w'.cell? ⟨W5.heap.size,3,none⟩=some (.slice a1 E1.ks.length k1)∧w'.cell? ⟨W7.heap.size,0,none⟩=some (.int .i64 E2.op)∧w'.cell? ⟨W7.heap.size,1,none⟩=some (.int .i64 E2.n)∧w'.cell? ⟨W7.heap.size,2,none⟩=some (.string ⟨E2.s.toArray⟩)∧w'.cell? ⟨W7.heap.size,3,none⟩=some (.slice a2 E2.ks.length k2)∧w'.cell? ⟨b2,1,none⟩=some (.slice (some ⟨eb0,eo0,none⟩) n ec0)∧w'.cell? ⟨b2,2,none⟩=some (.slice (some ⟨eb1,eo1,none⟩) n ec1)∧w'.cell? ⟨b2,3,none⟩=some (.slice (some ⟨eb2,eo2,none⟩) n ec2)∧w'.cell? ⟨eb0,eo0+i*4,none⟩=some (.int .i64 E0.op)∧w'.cell? ⟨eb0,eo0+i*4+1,none⟩=some (.int .i64 E0.n)∧w'.cell? ⟨eb0,eo0+i*4+2,none⟩=some (.string ⟨E0.s.toArray⟩)∧w'.cell? ⟨eb0,eo0+i*4+3,none⟩=some (.slice ka0 E0.ks.length kc0)∧w'.cell? ⟨eb1,eo1+i*4,none⟩=some (.int .i64 E1.op)∧w'.cell? ⟨eb1,eo1+i*4+1,none⟩=some (.int .i64 E1.n)∧w'.cell? ⟨eb1,eo1+i*4+2,none⟩=some (.string ⟨E1.s.toArray⟩)∧w'.cell? ⟨eb1,eo1+i*4+3,none⟩=some (.slice ka1 E1.ks.length kc1)∧w'.cell? ⟨eb2,eo2+i*4,none⟩=some (.int .i64 E2.op)∧w'.cell? ⟨eb2,eo2+i*4+1,none⟩=some (.int .i64 E2.n)∧w'.cell? ⟨eb2,eo2+i*4+2,none⟩=some (.string ⟨E2.s.toArray⟩)∧w'.cell? ⟨eb2,eo2+i*4+3,none⟩=some (.slice ka2 E2.ks.length kc2))) (go_keep)
         ((first
          | (go_at_call 46; (with_reducible refine (HS2.out _ _ _ (HB10.out.seq hbe2) (HKC.out _ hbe2)).mono ?_); rintro r W13 ⟨rfl,hb⟩; have hbe3:=hbe2.seq hb; have hg:=HK.out _ hbe3; obtain ⟨c0,c1,c2,c3,c4,c5,c6,c7,c8,c9,c10,c11,c12,c13,c14,c15,c16,c17,c18,c19,c20,c21,c22,c23,c24,c25,c26⟩:=hg; clear hb)
          | (go_at_call 46; (with_reducible refine (HS1.out _ _ _ (HB10.out.seq hbe1) (HKB.out _ hbe1)).mono ?_); rintro r W12 ⟨rfl,hb⟩; have hbe2:=hbe1.seq hb; have hg:=HK.out _ hbe2; obtain ⟨c0,c1,c2,c3,c4,c5,c6,c7,c8,c9,c10,c11,c12,c13,c14,c15,c16,c17,c18,c19,c20,c21,c22,c23,c24,c25,c26⟩:=hg; clear hb)
          | (go_at_call 46; (with_reducible refine (HS0.out _ _ _ (HB10.out.seq hbe) (HKA.out _ hbe)).mono ?_); rintro r W11 ⟨rfl,hb⟩; have hbe1:=hbe.seq hb; have hg:=HK.out _ hbe1; obtain ⟨c0,c1,c2,c3,c4,c5,c6,c7,c8,c9,c10,c11,c12,c13,c14,c15,c16,c17,c18,c19,c20,c21,c22,c23,c24,c25,c26⟩:=hg; clear hb)))
        have HBE:=Zq (HB10.out.seq hbe3)
        clear hbe hbe1 hbe2 hbe3 c0 c1 c2 c3 c4 c5 c6 c7 c8 c9 c10 c11 c12 c13 c14 c15 c16 c17 c18 c19 c20 c21 c22 c23 c24 c25 c26 HK HKA HKB HKC HS0 HS1 HS2
        as_aux_lemma =>
         obtain ⟨g0,-,-,-,-,g5,-⟩:=HC4.out _ HBE.out
         go_wp2_with fail
         refine (HFD.out _ HBE.out).mono ?_
         rintro r W ⟨rfl,rfl⟩
         clear HFD HC4 g0 g5
         go_wp2_with fail
         go_roundg (gk - 1)
         case rel=>exact ⟨(i:Int)+1,by go_num,by omega,by omega,HBE⟩
         case measure=>omega
    · have hout:z<0∨(F.l.length:Int)≤z:=by have:=HN.out; omega
      have T:=Zo9 (SchV.mono ⟨_,_,_,_,_,_,HP.out⟩ (GH.le.refl _)) hout
      obtain ⟨E,hE⟩:∃ E,E=Ex.mk 0 0 [] []:=⟨_,rfl⟩
      have HFL:Hid (∀ W,Below w.heap.size w W→Calls Tryz.prog 42 #[.pointer (some ⟨b,0,none⟩),.int .i64 z] W fun r w'=>r = .returned (.tuple #[.agg #[.string ⟨#[]⟩,.int .i64 0,.string ⟨#[]⟩,.string ⟨#[]⟩,.string ⟨#[]⟩],.bool false])∧Below W.heap.size W w'):=Zq T.fld
      have HFO:Hid (∀ W,Below w.heap.size w W→Calls Tryz.prog 43 #[.pointer (some ⟨b,0,none⟩),.int .i64 z] W (exOut E false W)):=Zq (fun W hb=>by rw [hE]; exact T.fo W hb)
      have HRU:Hid (∀ W,Below w.heap.size w W→Calls Tryz.prog 44 #[.pointer (some ⟨b,0,none⟩),.int .i64 z] W (exOut E false W)):=Zq (fun W hb=>by rw [hE]; exact T.ru W hb)
      have HSH:Hid (∀ W,Below w.heap.size w W→Calls Tryz.prog 45 #[.pointer (some ⟨b,0,none⟩),.int .i64 z] W (exOut E false W)):=Zq (fun W hb=>by rw [hE]; exact T.sh W hb)
      have HIN:=Zq (fun W (hb:Below w.heap.size w W)=>ZoL W (HS.out W hb) z hout)
      have HNE:=Zq (fun W (hb:Below w.heap.size w W)=>ZoM W (HS.out W hb) z hout)
      have c0:=Zoq HB.out (ZnY (W:=w) HR.out.box).1.1
      rw [HN.out] at c0
      clear T hE hout
      rcases (by omega:(z<0∧¬ 0≤z)∨(0≤z∧¬ z<(n:Int)∧(n:Int)≤z)) with ⟨k1,k2⟩|⟨k1,k2,k3⟩
      all_goals as_aux_lemma =>
       clear hin
       go_wp2_with fail
       refine (HFL.out _ HB.out).mono ?_
       rintro r W1 ⟨rfl,hb1⟩
       have HST:=Zq (Zpf W1 (.string ⟨#[]⟩) (.int .i64 0) (.string ⟨#[]⟩) (.string ⟨#[]⟩) (.string ⟨#[]⟩) (by simp [Value.oneCell']))
       have HZ1:=Zq (heap_alloc_new W1 (.cells #[.string ⟨#[]⟩,.int .i64 0,.string ⟨#[]⟩,.string ⟨#[]⟩,.string ⟨#[]⟩] 27))
       have hb2:=hb1.alloc hb1.size (.cells #[.string ⟨#[]⟩,.int .i64 0,.string ⟨#[]⟩,.string ⟨#[]⟩,.string ⟨#[]⟩] 27)
       have HB2:=Zq (HB.out.seq hb2)
       clear hb1 hb2 HFL
       go_wp2_with (refine Zay (o:=⟨none,_,_,_,_,_⟩) rfl rfl _ _ _ rfl rfl rfl HST.out ?_)
       clear HST
       generalize W1.alloc (.cells #[.string ⟨#[]⟩,.int .i64 0,.string ⟨#[]⟩,.string ⟨#[]⟩,.string ⟨#[]⟩] 27)=W2 at *
       refine (HFO.out _ HB2.out).mono ?_
       rintro r W3 ⟨hb,a0,k0,rfl,hk⟩
       have HST:=Zq (Zpg W3 (.int .i64 E.op) (.int .i64 E.n) (.string ⟨E.s.toArray⟩) (.slice a0 E.ks.length k0) (by simp [Value.oneCell']))
       have HZ3:=Zq (heap_alloc_new W3 (.cells #[.int .i64 E.op,.int .i64 E.n,.string ⟨E.s.toArray⟩,.slice a0 E.ks.length k0] 61))
       have hn:=(Below.refl W3.heap.size W3).alloc Zs (.cells #[.int .i64 E.op,.int .i64 E.n,.string ⟨E.s.toArray⟩,.slice a0 E.ks.length k0] 61)
       have HK0:=Zq (hk.mono (Zah hn))
       have hb2:=hb.seq hn
       have HB4:=Zq (HB2.out.seq hb2)
       have HZ1:=Zq (blkB hb2 HZ1.out)
       clear hb hk hn hb2 HFO
       go_wp2_with (refine Zay (o:=⟨none,_,_,_,_,_⟩) rfl rfl _ _ _ rfl rfl rfl HST.out ?_)
       clear HST
       generalize W3.alloc (.cells #[.int .i64 E.op,.int .i64 E.n,.string ⟨E.s.toArray⟩,.slice a0 E.ks.length k0] 61)=W4 at *
       refine (HRU.out _ HB4.out).mono ?_
       rintro r W5 ⟨hb,a1,k1,rfl,hk⟩
       have HST:=Zq (Zpg W5 (.int .i64 E.op) (.int .i64 E.n) (.string ⟨E.s.toArray⟩) (.slice a1 E.ks.length k1) (by simp [Value.oneCell']))
       have HZ5:=Zq (heap_alloc_new W5 (.cells #[.int .i64 E.op,.int .i64 E.n,.string ⟨E.s.toArray⟩,.slice a1 E.ks.length k1] 61))
       have hn:=(Below.refl W5.heap.size W5).alloc Zs (.cells #[.int .i64 E.op,.int .i64 E.n,.string ⟨E.s.toArray⟩,.slice a1 E.ks.length k1] 61)
       have HK1:=Zq (hk.mono (Zah hn))
       have hb2:=hb.seq hn
       have HB6:=Zq (HB4.out.seq hb2)
       have HZ1:=Zq (blkB hb2 HZ1.out)
       have HZ3:=Zq (blkB hb2 HZ3.out)
       have HK0:=Zq (HK0.out.mono (Zah hb2))
       clear hb hk hn hb2 HRU
       go_wp2_with (refine Zay (o:=⟨none,_,_,_,_,_⟩) rfl rfl _ _ _ rfl rfl rfl HST.out ?_)
       clear HST
       generalize W5.alloc (.cells #[.int .i64 E.op,.int .i64 E.n,.string ⟨E.s.toArray⟩,.slice a1 E.ks.length k1] 61)=W6 at *
       refine (HSH.out _ HB6.out).mono ?_
       rintro r W7 ⟨hb,a2,k2,rfl,hk⟩
       have HST:=Zq (Zpg W7 (.int .i64 E.op) (.int .i64 E.n) (.string ⟨E.s.toArray⟩) (.slice a2 E.ks.length k2) (by simp [Value.oneCell']))
       have HZ7:=Zq (heap_alloc_new W7 (.cells #[.int .i64 E.op,.int .i64 E.n,.string ⟨E.s.toArray⟩,.slice a2 E.ks.length k2] 61))
       have hn:=(Below.refl W7.heap.size W7).alloc Zs (.cells #[.int .i64 E.op,.int .i64 E.n,.string ⟨E.s.toArray⟩,.slice a2 E.ks.length k2] 61)
       have HK2:=Zq (hk.mono (Zah hn))
       have hb2:=hb.seq hn
       have HB8:=Zq (HB6.out.seq hb2)
       have HZ1:=Zq (blkB hb2 HZ1.out)
       have HZ3:=Zq (blkB hb2 HZ3.out)
       have HZ5:=Zq (blkB hb2 HZ5.out)
       have HK0:=Zq (HK0.out.mono (Zah hb2))
       have HK1:=Zq (HK1.out.mono (Zah hb2))
       clear hb hk hn hb2 HSH
       go_upto_region 12 with (refine Zay (o:=⟨none,_,_,_,_,_⟩) rfl rfl _ _ _ rfl rfl rfl HST.out ?_)
       clear HST
       generalize W7.alloc (.cells #[.int .i64 E.op,.int .i64 E.n,.string ⟨E.s.toArray⟩,.slice a2 E.ks.length k2] 61)=W8 at *
       obtain ⟨y0,y1,y2,y3,y4⟩:=Zf0 HZ1.out
       go_wp2_with fail
       refine (HIN.out _ HB8.out).mono ?_
       rintro r W ⟨rfl,rfl⟩
       go_wp2_with fail
       refine (HNE.out _ HB8.out).mono ?_
       rintro r W ⟨rfl,rfl⟩
       have HBE:=Zq HB8.out
       go_wp2_with fail
       go_roundg (gk - 1)
       case rel=>exact ⟨z+1,by go_num,by omega,by omega,HBE⟩
       case measure=>omega
  · have c0:=Zoq HB.out (ZnY (W:=w) HR.out.box).1.1
    rw [HN.out] at c0
    go_wp2
    try rw [Exit.noGoto_ret]
    go_ret
    exact ⟨rfl,HB.out⟩
end Go.Proofs.YtpfhhikbaeknpaaGreatDoor
