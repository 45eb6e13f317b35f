/- The walk of palaverref11. -/
import Derived.Test.YtpfhhikbaeknpaaGreatDoorKUC
import Derived.Deep.CutRange
import Derived.WalkMore
set_option maxHeartbeats 8000000
set_option maxRecDepth 1000000
set_option linter.all false
namespace Go.Proofs.YtpfhhikbaeknpaaGreatDoor
open Go.RowKit Pal
attribute [local go_sem ↓] Go.wp_at_zero Go.wp_at_succ
def putPost (w:World) (l:List Fd) (b:Nat) (lv:Value) (el:Nat→List OV) (hl:Nat→List Bool) (k:Nat) (f:Fd) (r:Ending) (W':World):Prop :=
 Below w.heap.size w W'∧(match putM (Fd.names l) (Fd.types l) (wantK f k) (textK f k) with
  | .error e=>r = .returned (.int .i64 e)
  | .ok o=>r = .returned (.int .i64 0)∧∃ t' ev' hv' ov,ovE ov=o∧DF w l b t' lv ev' hv' (updV el k (el k++[ov])) (updV hl k (hl k++[ov.isSome])) W')
theorem ZnJ {w:World} {l:List Fd} {b:Nat} {lv:Value} {el:Nat→List OV} {hl:Nat→List Bool} {k:Nat} {f:Fd} {W':World} {e:Int} (hb:Below w.heap.size w W') (h:putM (Fd.names l) (Fd.types l) (wantK f k) (textK f k) = .error e) :
 putPost w l b lv el hl k f (.returned (.int .i64 e)) W':=by unfold putPost; rw [h]; exact ⟨hb,rfl⟩
theorem ZnK {w:World} {l:List Fd} {b:Nat} {lv:Value} {ev hv:Nat→Value} {el:Nat→List OV} {hl:Nat→List Bool} {k:Nat} {f:Fd} {W':World} {t:Tag} {o:OV} (h:putM (Fd.names l) (Fd.types l) (wantK f k) (textK f k) = .ok (ovE o))
 (hD:DF w l b t lv ev hv (updV el k (el k++[o])) (updV hl k (hl k++[o.isSome])) W'):putPost w l b lv el hl k f (.returned (.int .i64 0)) W':=by
 unfold putPost; rw [h]; exact ⟨hD.below,rfl,t,ev,hv,o,rfl,hD⟩
theorem ZnL (s:ByteArray) (e:Ex) (w:World) (hm:s.size≤9223372036854775807) (hp:parseM s.data.toList = .ok e) :
 Calls Tryz.prog 55 #[.string s] w fun r w'=>Below w.heap.size w w'∧∃ a cap,r = .returned (.tuple #[.agg #[.int .i64 e.op,.int .i64 e.n,.string ⟨e.s.toArray⟩,.slice a e.ks.length cap],.int .i64 0,.int .i64 0])∧KV (gn w.heap.size w') (.slice a e.ks.length cap) e.ks:=by
 refine (Zm6 s w hm).mono ?_
 rintro r w' h
 unfold parsePost at h
 rw [hp] at h
 obtain ⟨hb,v,rfl,hv⟩:=h
 obtain ⟨kv,rfl,hk⟩:=hv
 obtain ⟨a,cap,rfl⟩:=hk.form
 exact ⟨hb,a,cap,rfl,hk⟩
theorem ZnM (s:ByteArray) (p:Nat) (k:Int) (w:World) (hm:s.size≤9223372036854775807) (hp:parseM s.data.toList = .error (p,k)) :
 Calls Tryz.prog 55 #[.string s] w fun r w'=>Below w.heap.size w w'∧r = .returned (.tuple #[.agg #[.int .i64 0,.int .i64 0,.string ⟨#[]⟩,.slice none 0 0],.int .i64 p,.int .i64 k]):=by
 refine (Zm6 s w hm).mono ?_
 rintro r w' h
 unfold parsePost at h
 rw [hp] at h
 exact h
theorem ZnN (l:List Fd) (b i k:Nat) (f:Fd) (lv:Value) (ev hv:Nat→Value) (el:Nat→List OV) (hl:Nat→List Bool) (w W:World) (t:Tag) (h:DF w l b t lv ev hv el hl W) (hk:k<3) (hf:l[i]?=some f) (hsh:Short f) (hlen:l.length≤24)
 (hel:(el k).length≤1000) (hhl:(hl k).length≤1000) :
 Calls Tryz.prog 33 #[.pointer (some ⟨b,0,none⟩),.int .i64 i,.int .i64 k] W (putPost w l b lv el hl k f):=by
 have HD:=Zq h
 have HF:=Zq hf
 obtain ⟨n,hn⟩:∃ n,l.length=n:=⟨_,rfl⟩
 obtain ⟨la,lc,hlv⟩:=h.fds.form
 subst hlv
 rw [hn] at h hlen HD ⊢
 have hi:i<n:=by rw [←hn]; exact (List.getElem?_eq_some_iff.1 hf).1
 have hfv:=h.fds
 have HN:=Zq hn
 obtain ⟨fb,fo,he,c0,c1,c2,c3,c4⟩:=(HD.out.fdsV).at hf
 cases he
 obtain ⟨⟨b0,-,-⟩,-⟩:=ZnE h.box hk
 obtain ⟨x,hx⟩:∃ x,textK f k=x:=⟨_,rfl⟩
 have hxl:x.length≤1000000:=by
  rw [←hx]; unfold textK
  split
  · exact hsh.fo
  · split
    · exact hsh.ru
    · exact hsh.sh
 have HX:=Zq hx
 have HTX:=Zq (Zl4 f k W hk)
 unfold fdV at HTX
 rw [hx] at HTX
 clear h hf hn hfv hsh hx
 obtain ⟨fn,ft,ffo,fru,fsh⟩:=f
 simp only at c0 c1 c2 c3 c4 HTX
 go_in
 go_wp2_with fail
 refine HTX.out.mono ?_
 rintro r W1 ⟨rfl,hb1⟩
 have HD1:=Zq (HD.out.call hb1)
 have HS1:Hid (W.heap.size≤W1.heap.size):=Zq hb1.size
 clear hb1 c0 c1 c2 c3 c4 b0 HTX HD
 generalize t.ext W.heap.size 0=t1 at *
 have HP2:=Zq (PU.start HD1.out)
 clear HD1 HS1
 go_upto_region 3 with fail
 generalize W1.alloc (.cells #[.int .i64 0,.int .i64 0,.string ⟨#[]⟩,.slice none 0 0] 61)=W2 at *
 generalize t1.set W1.heap.size 99=t2 at *
 generalize W1.heap.size=be at *
 have hk0:(0:Int)≤(k:Int):=by omega
 have hk3:(k:Int)<3:=by omega
 have hi0:(0:Int)≤(i:Int):=by omega
 by_cases hx:x=[]
 · subst hx
   have HPM:Hid (putM (Fd.names l) (Fd.types l) (wantK ⟨fn,ft,ffo,fru,fsh⟩ k) (textK ⟨fn,ft,ffo,fru,fsh⟩ k) = .ok (ovE none)):=Zq (by rw [HX.out]; exact Zhb _ _ _)
   have HKO:Hid (∀ x,(none:OV)=some x→KV (hz t2 W2) x.2 x.1.ks∧Fine x.1):=Zq (fun x h=>by cases h)
   have HQ:=HP2
   have HL:=Zq (HQ.out.list HKO.out)
   obtain ⟨ea,ec,hev⟩:=(HQ.out.1.exs k hk).form
   obtain ⟨ha,hc,hhv⟩:=(HQ.out.1.has k hk).form
   obtain ⟨en,hen⟩:∃ n,(el k).length=n:=⟨_,rfl⟩
   obtain ⟨hn,hhn⟩:∃ n,(hl k).length=n:=⟨_,rfl⟩
   rw [hen] at hev hel
   rw [hhn] at hhv hhl
   obtain ⟨⟨-,b1,b2⟩,y1,y2⟩:=ZnE HL.out.box hk
   rw [hev] at b1
   rw [hhv] at b2
   obtain ⟨⟨g0,g1,g2,g3⟩,-⟩:=ZdP HQ.out.2.2
   have hbl:=HQ.out.1.lt
   have hbel:=HQ.out.lt
   have hE1:(en:Int)<(en:Int)+1:=by omega
   have hE2:(en:Int)<((en+1:Nat):Int):=by omega
   have hE3:en<en+1:=Nat.lt_succ_self _
   go_upto_region 13 with fail
   go_cut [] from 69 to 82 (fun wc=>∃ ev',Hid (DFL w l b (.slice (some ⟨fb,fo,none⟩) n lc) ev' hv (updV el k (el k++[none])) hl (none) [] wc))
   case first =>
    go_region_law (first|(with_reducible refine ZnH (o:=none) (x0 := .int .i64 0) (x1 := .int .i64 0) (x2 := .string ⟨#[]⟩) (x3 := .slice none 0 0) rfl _ _ rfl rfl rfl hk hev hen hel rfl ((HL.out.alloc _).drew) (by simp) ?_; intro g2 c2 w2 hne hm hz hfz hLL hp1 hp2; obtain ⟨m0,m1⟩:=hm; obtain ⟨⟨z0,hz0⟩,⟨z1,hz1⟩,⟨z2,hz2⟩,⟨z3,hz3⟩⟩:=hz; obtain ⟨f0,f1,f2,f3⟩:=hfz; obtain ⟨hL1,hL2,hL3⟩:=hLL (be,.cells (exOf (none)).toArray 61 (0,0)) (by simp); obtain ⟨⟨g0,g1,g2c,g3⟩,-⟩:=ZdP hL1; replace hL2:be≠b:=hL2; replace hL3:be≠g2:=hL3; have hL4:b≠be:=Ne.symm hL2; have hL5:g2≠be:=Ne.symm hL3; have HP1:=Zq hp1; have HP2:=Zq hp2; clear hp1 hp2 hLL hL1)|(with_reducible refine ZnH (o:=none) (x0 := .int .i64 0) (x1 := .int .i64 0) (x2 := .string ⟨#[]⟩) (x3 := .slice none 0 0) rfl _ _ rfl rfl rfl hk hev hen hel rfl (HL.out.alloc _) (by simp) ?_; intro g2 c2 w2 hne hm hz hfz hLL hp1 hp2; obtain ⟨m0,m1⟩:=hm; obtain ⟨⟨z0,hz0⟩,⟨z1,hz1⟩,⟨z2,hz2⟩,⟨z3,hz3⟩⟩:=hz; obtain ⟨f0,f1,f2,f3⟩:=hfz; obtain ⟨hL1,hL2,hL3⟩:=hLL (be,.cells (exOf (none)).toArray 61 (0,0)) (by simp); obtain ⟨⟨g0,g1,g2c,g3⟩,-⟩:=ZdP hL1; replace hL2:be≠b:=hL2; replace hL3:be≠g2:=hL3; have hL4:b≠be:=Ne.symm hL2; have hL5:g2≠be:=Ne.symm hL3; have HP1:=Zq hp1; have HP2:=Zq hp2; clear hp1 hp2 hLL hL1)|(with_reducible refine ZnH (o:=none) (x0 := .int .i64 0) (x1 := .int .i64 0) (x2 := .string ⟨#[]⟩) (x3 := .slice none 0 0) rfl _ _ rfl rfl rfl hk hev hen hel rfl (HL.out.drew.alloc _) (by simp) ?_; intro g2 c2 w2 hne hm hz hfz hLL hp1 hp2; obtain ⟨m0,m1⟩:=hm; obtain ⟨⟨z0,hz0⟩,⟨z1,hz1⟩,⟨z2,hz2⟩,⟨z3,hz3⟩⟩:=hz; obtain ⟨f0,f1,f2,f3⟩:=hfz; obtain ⟨hL1,hL2,hL3⟩:=hLL (be,.cells (exOf (none)).toArray 61 (0,0)) (by simp); obtain ⟨⟨g0,g1,g2c,g3⟩,-⟩:=ZdP hL1; replace hL2:be≠b:=hL2; replace hL3:be≠g2:=hL3; have hL4:b≠be:=Ne.symm hL2; have hL5:g2≠be:=Ne.symm hL3; have HP1:=Zq hp1; have HP2:=Zq hp2; clear hp1 hp2 hLL hL1))
    all_goals
     go_wp2_with fail
     go_meet
     case rel =>
      refine ⟨updV ev k (.slice (some ⟨g2,0,none⟩) (en+1) c2),?_⟩
      generalize updV ev k (.slice (some ⟨g2,0,none⟩) (en+1) c2)=ev9 at *
      first|(with_reducible exact Zq HP1.out.nil)|(with_reducible exact Zq HP2.out.nil)
   case rest =>
    obtain ⟨ev',HP1⟩:=hcut
    clear g0 g1 g2 g3 b1 b2 y1 y2 hbl hbel HL
    obtain ⟨⟨-,-,b3⟩,-,y3⟩:=ZnE HP1.out.box hk
    rw [hhv] at b3
    have hbl:=HP1.out.lt
    go_upto_region 14 with fail
    go_region_law (first|(with_reducible refine ZnI (z:=false) rfl _ _ rfl rfl rfl hk hhv hhn hhl ((HP1.out.alloc _).drew) (by simp) ?_; intro a3 c3 w3 m0 m1 hp; have HP3:=Zq hp; clear hp)|(with_reducible refine ZnI (z:=false) rfl _ _ rfl rfl rfl hk hhv hhn hhl (HP1.out.alloc _) (by simp) ?_; intro a3 c3 w3 m0 m1 hp; have HP3:=Zq hp; clear hp)|(with_reducible refine ZnI (z:=false) rfl _ _ rfl rfl rfl hk hhv hhn hhl (HP1.out.drew.alloc _) (by simp) ?_; intro a3 c3 w3 m0 m1 hp; have HP3:=Zq hp; clear hp))
    all_goals
     obtain ⟨t9,hd9⟩:=HP3.out
     have HD9:=Zq hd9
     clear hd9 HP3 HP1
     go_wp2
     try rw [Exit.noGoto_ret]
     go_ret
     exact ZnK HPM.out HD9.out
 · have HXN:=Zq hx
   have q0:List.isEmpty x=false:=ZcZ hx
   have q1:¬ (x=[]):=hx
   have hsz:(⟨x.toArray⟩:ByteArray).size≤9223372036854775807:=by show x.toArray.size≤_; simp; omega
   cases hp:parseM x with
   | error z =>
    obtain ⟨p,e⟩:=z
    have he0:(e != 0)=true:=by have:=Zg7 hp; simp; omega
    have HM:=Zq (Zhc (ns:=Fd.names l) (ts:=Fd.types l) (t:=wantK ⟨fn,ft,ffo,fru,fsh⟩ k) hx hp)
    have HP:=Zq (ZnM ⟨x.toArray⟩ p e W2 hsz (by simpa using hp))
    clear hx hsz hp
    go_wp2_with fail
    refine HP.out.mono ?_
    rintro r W3 ⟨hb3,rfl⟩
    have HB3:=Zq ((HP2.out.call hb3).1.below)
    clear hb3
    go_wp2
    try rw [Exit.noGoto_ret]
    go_ret
    exact ZnJ (HB3.out.alloc HB3.out.size _) (by rw [HX.out]; exact HM.out)
   | ok X =>
    have HFI:=Zq (Zg3 hp)
    have HP:=Zq (ZnL ⟨x.toArray⟩ X W2 hsz (by simpa using hp))
    obtain ⟨ty,u,htu⟩:∃ t u,typeOf X (Fd.names l) (Fd.types l)=(t,u):=⟨_,_,rfl⟩
    have HOF:Hid (∀ v nv tv W,EV (gh W) v X→StrsV (gh W) nv (Fd.names l)→IntsV (gh W) tv (Fd.types l)→Calls Tryz.prog 56 #[v,nv,tv] W (fun r W'=>r = .returned (.tuple #[.int .i64 ty,.int .i64 u])∧Below W.heap.size W W')):=Zq (fun v nv tv W hE hN hT=>by
     have h:=ZnC X (Fd.names l) (Fd.types l) v nv tv W HFI.out hE hN hT
     rw [htu] at h
     exact h)
    have HNM:Hid (∀ xa xc bx W,PUX w l b (.slice (some ⟨fb,fo,none⟩) n lc) ev hv el hl be X xa xc bx W→Calls Tryz.prog 41 #[.pointer (some ⟨b,0,none⟩)] W (textsPost (Fd.names l) W)):=Zq (fun xa xc bx W h=>Zl2 l b _ W (by have:=HN.out; omega) h.box0 h.fds)
    have HTY:Hid (∀ xa xc bx W,PUX w l b (.slice (some ⟨fb,fo,none⟩) n lc) ev hv el hl be X xa xc bx W→Calls Tryz.prog 57 #[.pointer (some ⟨b,0,none⟩)] W (intsPost (Fd.types l) W)):=Zq (fun xa xc bx W h=>Zl3 l b _ W (by have:=HN.out; omega) h.box0 h.fds)
    unfold textsPost at HNM
    unfold intsPost at HTY
    have HPM:=Zq hp
    have HTU:=Zq htu
    clear hx hsz hp htu
    go_wp2_with fail
    refine HP.out.mono ?_
    rintro r W3 ⟨hb3,xa,xc,rfl,hk3⟩
    have KK:=Zq (PUX.start HP2.out hb3 hk3)
    have HS3:Hid (W2.heap.size≤W3.heap.size):=Zq hb3.size
    clear hb3 hk3 HP HP2
    go_upto_region 5 with fail
    generalize W3.alloc (.cells #[.int .i64 X.op,.int .i64 X.n,.string ⟨X.s.toArray⟩,.slice xa X.ks.length xc] 61)=W4 at *
    generalize W3.heap.size=bx at *
    go_upto_region 7 with fail
    have KK:=Zq KK.out.drew
    obtain ⟨g0,g1,g2,g3⟩:=KK.out.at0
    go_region_held3 (fun w'=>(w'.cell? ⟨bx,0,none⟩=some (.int .i64 X.op)∧w'.cell? ⟨bx,1,none⟩=some (.int .i64 X.n)∧w'.cell? ⟨bx,2,none⟩=some (.string ⟨X.s.toArray⟩)∧w'.cell? ⟨bx,3,none⟩=some (.slice xa X.ks.length xc))) (go_keep)
     ((first
      | (go_at_call 41; refine (HNM.out _ _ _ _ KK.out).mono ?_; rintro r W5 ⟨hb,v5,rfl,hs5⟩; obtain ⟨sa,sc,rfl⟩:=hs5.form; have KK:=Zq (KK.out.call hb); have HS5:=Zq hs5; have hg:=KK.out.at0; obtain ⟨g0,g1,g2,g3⟩:=hg; clear hb hs5)
      | (go_at_call 57; refine (HTY.out _ _ _ _ KK.out).mono ?_; rintro r W6 ⟨hb,v6,rfl,hs6⟩; obtain ⟨ia,ic,rfl,-⟩:=Zd0 hs6; have KK:=Zq (KK.out.call hb); have HS5:=Zq (HS5.out.mono (Zah hb)); have HS6:=Zq hs6; have hg:=KK.out.at0; obtain ⟨g0,g1,g2,g3⟩:=hg; clear hb hs6)
      | (go_at_call 56; refine (HOF.out _ _ _ _ ⟨_,rfl,KK.out.kv⟩ HS5.out HS6.out).mono ?_; rintro r W7 ⟨rfl,hb⟩; have KK:=Zq (KK.out.call hb); have hg:=KK.out.at0; obtain ⟨g0,g1,g2,g3⟩:=hg; clear hb)))
    all_goals
     by_cases hu:u=0
     · subst hu
       obtain ⟨t7,hp7,hk7,hx7⟩:=KK.out
       obtain ⟨fb7,fo7,he7,-,c1,-⟩:=(hp7.1.fdsV).at HF.out
       cases he7
       simp only at c1
       obtain ⟨⟨b0,-,-⟩,-⟩:=ZnE hp7.1.box hk
       obtain ⟨⟨e0,e1,e2,e3⟩,n0,n1,n2,n3⟩:=ZdP hp7.2.2
       have HQ:=Zq (hp7.set (X,.slice xa X.ks.length xc))
       have HKO:Hid (∀ y,(some (X,.slice xa X.ks.length xc):OV)=some y→KV (hz t7 ((((W7.setCell ⟨be,0,none⟩ (.int .i64 X.op)).setCell ⟨be,1,none⟩ (.int .i64 X.n)).setCell ⟨be,2,none⟩ (.string ⟨X.s.toArray⟩)).setCell ⟨be,3,none⟩ (.slice xa X.ks.length xc))) y.2 y.1.ks∧Fine y.1):=Zq (fun y hy=>by
        cases hy
        have ht:=hp7.2.1
        exact ⟨hk7.mono ((((((Evo.refl t7 W7 (·=99)).setCell ⟨be,0,none⟩ _ ht).setCell ⟨be,1,none⟩ _ ht).setCell ⟨be,2,none⟩ _ ht).setCell ⟨be,3,none⟩ _ ht).hz (by decide)),HFI.out⟩)
       have hbad:ty≠wantK ⟨fn,ft,ffo,fru,fsh⟩ k→putPost w l b (.slice (some ⟨fb,fo,none⟩) n lc) el hl k ⟨fn,ft,ffo,fru,fsh⟩ (.returned (.int .i64 8)) W7:=fun hw=>ZnJ hp7.1.below (by rw [HX.out]; exact Zhe HXN.out HPM.out HTU.out hw)
       have HBAD:=Zq hbad
       have hgood:ty=wantK ⟨fn,ft,ffo,fru,fsh⟩ k→putM (Fd.names l) (Fd.types l) (wantK ⟨fn,ft,ffo,fru,fsh⟩ k) (textK ⟨fn,ft,ffo,fru,fsh⟩ k) = .ok (ovE (some (X,.slice xa X.ks.length xc))):=fun hw=>by rw [HX.out]; exact Zhf HXN.out HPM.out (hw▸HTU.out)
       have HGOOD:=Zq hgood
       clear hp7 hk7 hx7 hbad hgood KK
       go_upto_region 10 with fail
       go_cut [67] from 46 to 66 (fun s67 wc=>∃ z:Bool,s67 = .bool z∧(z=true→ty≠wantK ⟨fn,ft,ffo,fru,fsh⟩ k)∧(z=false→ty=wantK ⟨fn,ft,ffo,fru,fsh⟩ k)∧wc=W7)
       case first =>
        by_cases hk00:k=0
        · have qk:((k:Int) == 0)=true:=by rw [hk00]; rfl
          have qk2:decide (0<(k:Int))=false:=by rw [hk00]; rfl
          have qk3:¬ (0:Int)<(k:Int):=by omega
          have qk4:¬ 0<k:=by omega
          have qk5:decide (0<k)=false:=decide_eq_false qk4
          have hwk:wantK ⟨fn,ft,ffo,fru,fsh⟩ k=ft:=by unfold wantK; rw [if_pos hk00]
          clear hk00
          by_cases hty:ty=ft
          · have qt:(ty != ft)=false:=by rw [hty]; simp
            have qe:(ty == ft)=true:=by rw [hty]; simp
            have HTY2:=Zq hty
            clear hty
            go_wp2_with fail
            go_meet
            case rel=>first|exact ⟨_,rfl,(fun h=>by cases h),fun _=>HTY2.out.trans hwk.symm,rfl⟩|exact ⟨_,rfl,(fun h=>by rw [hwk]; simpa using h),(fun h=>by rw [hwk]; simpa using h),rfl⟩
          · have qt:(ty != ft)=true:=by simpa using hty
            have qe:(ty == ft)=false:=by simpa using hty
            have HTY2:=Zq hty
            clear hty
            go_wp2_with fail
            go_meet
            case rel=>first|exact ⟨_,rfl,(fun _=>by rw [hwk]; exact HTY2.out),(fun h=>by cases h),rfl⟩|exact ⟨_,rfl,(fun h=>by rw [hwk]; simpa using h),(fun h=>by rw [hwk]; simpa using h),rfl⟩
        · have qk:((k:Int) == 0)=false:=by simp; omega
          have qk2:decide (0<(k:Int))=true:=by simp; omega
          have qk3:(0:Int)<(k:Int):=by omega
          have qk4:0<k:=by omega
          have qk5:decide (0<k)=true:=decide_eq_true qk4
          have hwk:wantK ⟨fn,ft,ffo,fru,fsh⟩ k=2:=by unfold wantK; rw [if_neg hk00]
          by_cases hty:ty=2
          · have qt:(ty != 2)=false:=by rw [hty]; simp
            have qe:(ty == 2)=true:=by rw [hty]; rfl
            have HTY2:=Zq hty
            clear hty
            go_wp2_with fail
            go_meet
            case rel=>first|exact ⟨_,rfl,(fun h=>by cases h),fun _=>HTY2.out.trans hwk.symm,rfl⟩|exact ⟨_,rfl,(fun h=>by rw [hwk]; simpa using h),(fun h=>by rw [hwk]; simpa using h),rfl⟩
          · have qt:(ty != 2)=true:=by simpa using hty
            have qe:(ty == 2)=false:=by simpa using hty
            have HTY2:=Zq hty
            clear hty
            go_wp2_with fail
            go_meet
            case rel=>first|exact ⟨_,rfl,(fun _=>by rw [hwk]; exact HTY2.out),(fun h=>by cases h),rfl⟩|exact ⟨_,rfl,(fun h=>by rw [hwk]; simpa using h),(fun h=>by rw [hwk]; simpa using h),rfl⟩
       case rest =>
        obtain ⟨z,rfl,hz1,hz2,hwc⟩:=hcut
        replace hwc:=hwc.symm
        subst hwc
        cases z with
        | true =>
         have HB:=Zq (HBAD.out (hz1 rfl))
         clear hz1 hz2
         go_wp2
         try rw [Exit.noGoto_ret]
         go_ret
         exact HB.out
        | false =>
         have HPM:=Zq (HGOOD.out (hz2 rfl))
         clear hz1 hz2 c1
         go_upto_region 13 with fail
         clear e0 e1 e2 e3 n0 n1 n2 n3 g0 g1 g2 g3 b0
         generalize (((W7.setCell ⟨be,0,none⟩ (.int .i64 X.op)).setCell ⟨be,1,none⟩ (.int .i64 X.n)).setCell ⟨be,2,none⟩ (.string ⟨X.s.toArray⟩)).setCell ⟨be,3,none⟩ (.slice xa X.ks.length xc)=W8 at *
         have HL:=Zq (HQ.out.list HKO.out)
         obtain ⟨ea,ec,hev⟩:=(HQ.out.1.exs k hk).form
         obtain ⟨ha,hc,hhv⟩:=(HQ.out.1.has k hk).form
         obtain ⟨en,hen⟩:∃ n,(el k).length=n:=⟨_,rfl⟩
         obtain ⟨hn,hhn⟩:∃ n,(hl k).length=n:=⟨_,rfl⟩
         rw [hen] at hev hel
         rw [hhn] at hhv hhl
         obtain ⟨⟨-,b1,b2⟩,y1,y2⟩:=ZnE HL.out.box hk
         rw [hev] at b1
         rw [hhv] at b2
         obtain ⟨⟨g0,g1,g2,g3⟩,-⟩:=ZdP HQ.out.2.2
         have hbl:=HQ.out.1.lt
         have hbel:=HQ.out.lt
         have hE1:(en:Int)<(en:Int)+1:=by omega
         have hE2:(en:Int)<((en+1:Nat):Int):=by omega
         have hE3:en<en+1:=Nat.lt_succ_self _
         go_cut [] from 69 to 82 (fun wc=>∃ ev',Hid (DFL w l b (.slice (some ⟨fb,fo,none⟩) n lc) ev' hv (updV el k (el k++[some (X,.slice xa X.ks.length xc)])) hl (some (X,.slice xa X.ks.length xc)) [] wc))
         case first =>
          go_region_law (first|(with_reducible refine ZnH (o:=some (X,.slice xa X.ks.length xc)) (x0 := .int .i64 X.op) (x1 := .int .i64 X.n) (x2 := .string ⟨X.s.toArray⟩) (x3 := .slice xa X.ks.length xc) rfl _ _ rfl rfl rfl hk hev hen hel rfl ((HL.out.alloc _).drew) (by simp) ?_; intro g2 c2 w2 hne hm hz hfz hLL hp1 hp2; obtain ⟨m0,m1⟩:=hm; obtain ⟨⟨z0,hz0⟩,⟨z1,hz1⟩,⟨z2,hz2⟩,⟨z3,hz3⟩⟩:=hz; obtain ⟨f0,f1,f2,f3⟩:=hfz; obtain ⟨hL1,hL2,hL3⟩:=hLL (be,.cells (exOf (some (X,.slice xa X.ks.length xc))).toArray 61 (0,0)) (by simp); obtain ⟨⟨g0,g1,g2c,g3⟩,-⟩:=ZdP hL1; replace hL2:be≠b:=hL2; replace hL3:be≠g2:=hL3; have hL4:b≠be:=Ne.symm hL2; have hL5:g2≠be:=Ne.symm hL3; have HP1:=Zq hp1; have HP2:=Zq hp2; clear hp1 hp2 hLL hL1)|(with_reducible refine ZnH (o:=some (X,.slice xa X.ks.length xc)) (x0 := .int .i64 X.op) (x1 := .int .i64 X.n) (x2 := .string ⟨X.s.toArray⟩) (x3 := .slice xa X.ks.length xc) rfl _ _ rfl rfl rfl hk hev hen hel rfl (HL.out.alloc _) (by simp) ?_; intro g2 c2 w2 hne hm hz hfz hLL hp1 hp2; obtain ⟨m0,m1⟩:=hm; obtain ⟨⟨z0,hz0⟩,⟨z1,hz1⟩,⟨z2,hz2⟩,⟨z3,hz3⟩⟩:=hz; obtain ⟨f0,f1,f2,f3⟩:=hfz; obtain ⟨hL1,hL2,hL3⟩:=hLL (be,.cells (exOf (some (X,.slice xa X.ks.length xc))).toArray 61 (0,0)) (by simp); obtain ⟨⟨g0,g1,g2c,g3⟩,-⟩:=ZdP hL1; replace hL2:be≠b:=hL2; replace hL3:be≠g2:=hL3; have hL4:b≠be:=Ne.symm hL2; have hL5:g2≠be:=Ne.symm hL3; have HP1:=Zq hp1; have HP2:=Zq hp2; clear hp1 hp2 hLL hL1)|(with_reducible refine ZnH (o:=some (X,.slice xa X.ks.length xc)) (x0 := .int .i64 X.op) (x1 := .int .i64 X.n) (x2 := .string ⟨X.s.toArray⟩) (x3 := .slice xa X.ks.length xc) rfl _ _ rfl rfl rfl hk hev hen hel rfl (HL.out.drew.alloc _) (by simp) ?_; intro g2 c2 w2 hne hm hz hfz hLL hp1 hp2; obtain ⟨m0,m1⟩:=hm; obtain ⟨⟨z0,hz0⟩,⟨z1,hz1⟩,⟨z2,hz2⟩,⟨z3,hz3⟩⟩:=hz; obtain ⟨f0,f1,f2,f3⟩:=hfz; obtain ⟨hL1,hL2,hL3⟩:=hLL (be,.cells (exOf (some (X,.slice xa X.ks.length xc))).toArray 61 (0,0)) (by simp); obtain ⟨⟨g0,g1,g2c,g3⟩,-⟩:=ZdP hL1; replace hL2:be≠b:=hL2; replace hL3:be≠g2:=hL3; have hL4:b≠be:=Ne.symm hL2; have hL5:g2≠be:=Ne.symm hL3; have HP1:=Zq hp1; have HP2:=Zq hp2; clear hp1 hp2 hLL hL1))
          all_goals
           go_wp2_with fail
           go_meet
           case rel =>
            refine ⟨updV ev k (.slice (some ⟨g2,0,none⟩) (en+1) c2),?_⟩
            generalize updV ev k (.slice (some ⟨g2,0,none⟩) (en+1) c2)=ev9 at *
            first|(with_reducible exact Zq HP1.out.nil)|(with_reducible exact Zq HP2.out.nil)
         case rest =>
          obtain ⟨ev',HP1⟩:=hcut
          clear g0 g1 g2 g3 b1 b2 y1 y2 hbl hbel HL
          obtain ⟨⟨-,-,b3⟩,-,y3⟩:=ZnE HP1.out.box hk
          rw [hhv] at b3
          have hbl:=HP1.out.lt
          go_upto_region 14 with fail
          go_region_law (first|(with_reducible refine ZnI (z:=true) rfl _ _ rfl rfl rfl hk hhv hhn hhl ((HP1.out.alloc _).drew) (by simp) ?_; intro a3 c3 w3 m0 m1 hp; have HP3:=Zq hp; clear hp)|(with_reducible refine ZnI (z:=true) rfl _ _ rfl rfl rfl hk hhv hhn hhl (HP1.out.alloc _) (by simp) ?_; intro a3 c3 w3 m0 m1 hp; have HP3:=Zq hp; clear hp)|(with_reducible refine ZnI (z:=true) rfl _ _ rfl rfl rfl hk hhv hhn hhl (HP1.out.drew.alloc _) (by simp) ?_; intro a3 c3 w3 m0 m1 hp; have HP3:=Zq hp; clear hp))
          all_goals
           obtain ⟨t9,hd9⟩:=HP3.out
           have HD9:=Zq hd9
           clear hd9 HP3 HP1
           go_wp2
           try rw [Exit.noGoto_ret]
           go_ret
           exact ZnK HPM.out HD9.out
     · have qu:(u != 0)=true:=by simpa using hu
       have HB:Hid (putPost w l b (.slice (some ⟨fb,fo,none⟩) n lc) el hl k ⟨fn,ft,ffo,fru,fsh⟩ (.returned (.int .i64 u)) W7):=Zq (ZnJ KK.out.below (by rw [HX.out]; exact Zhd HXN.out HPM.out HTU.out hu))
       clear hu
       go_wp2
       try rw [Exit.noGoto_ret]
       go_ret
       exact HB.out
end Go.Proofs.YtpfhhikbaeknpaaGreatDoor
