/- The walk of eval's text, of two parts. -/
import Derived.Test.YtikannmgllejfaaGreatDoorKEB
import Derived.Deep.RegionHeld3
set_option maxHeartbeats 8000000
set_option maxRecDepth 1000000
set_option linter.all false
namespace Go.Proofs.YtikannmgllejfaaGreatDoor
open Go.RowKit Pal
theorem ZpG (a b:Bs):((⟨a.toArray⟩:ByteArray)++(⟨b.toArray⟩:ByteArray))=⟨(a++b).toArray⟩:=by apply ByteArray.ext;simp
theorem ZpH (t:Bs):(cnt t<=100/\longM t=vText t)\/(100<cnt t/\longM t=vBad 4):=by
 unfold longM;by_cases h:100<cnt t
 . exact .inr ⟨h,if_pos h⟩
 . exact .inl ⟨by omega,if_neg h⟩
theorem ZpI (names:List Bs) (vals:List Val) (op n:Int) (s:Bs) (k k':Ex) (v:Value) (p:Nat) (w:World) (ho:op=20\/op=21)
 (hE:EvP names vals k) (hE':EvP names vals k') (hok:VOk (ev (look names vals) k)) (hok':VOk (ev (look names vals) k')) (hW:WithV w p names vals) (hK:KV (gh w) v [k,k']) :
 Calls Tryz.prog 109 #[.pointer (some ⟨p,0,none⟩),exV op n s v] w (boxPost (textM op (ev (look names vals) k) (ev (look names vals) k')) w):=by
 obtain ⟨a,cap,rfl⟩:=hK.form;have hcap:=hK.cap;obtain ⟨b,off,ua,uc,rfl,c0,c1,c2,c3,hKu⟩:=hK.at0;obtain ⟨ub,ud,e0,e1,e2,e3,hKv⟩:=hK.at1;have hnd:=ZpC hE hok hW hKu;have hnd':=ZpC hE' hok' hW hKv;generalize ev (look names vals) k=x at *;generalize ev (look names vals) k'=y at *;have HN1:=Zq hnd';have HL:=Zq hW.lay;have hbl:=Yan w _ c0;have hb0:=(((Yab w.heap.size w).alloc Zs (cEx op n s (.slice (some ⟨b,off,none⟩) 2 cap))).alloc (by simp) (.cells #[.int .i64 3] 3));have he0:((w.alloc (cEx op n s (.slice (some ⟨b,off,none⟩) 2 cap))).alloc (.cells #[.int .i64 3] 3)).heap[w.heap.size]?=some (cEx op n s (.slice (some ⟨b,off,none⟩) 2 cap)):=by rw [Yah _ _ _ (by simp)]; exact Yac w _
 have hi0:((w.alloc (cEx op n s (.slice (some ⟨b,off,none⟩) 2 cap))).alloc (.cells #[.int .i64 3] 3)).heap[w.heap.size+1]?=some (.cells (([3]:List Int).map (Value.int .i64)).toArray 3 (0,0)):=by have:=Yac (w.alloc (cEx op n s (.slice (some ⟨b,off,none⟩) 2 cap))) (.cells #[.int .i64 3] 3);simpa using this
 have HN3:=Zq (hnd _ hb0 _ _ _ hi0 (by simp));have HB0:=Zq hb0;have HE0:=Zq he0;have HOK:=Zq hok;have HOK':=Zq hok';have HCS:=Zq (And.intro e0 (And.intro e1 (And.intro e2 e3)));clear hnd hnd' hE hE' hW hK hKu hKv hb0 he0 hi0 hok hok' e0 e1 e2 e3;simp only [List.length_singleton] at *;unfold exV strV;go_in;go_wp2_with fail;refine HN3.out.mono ?_;rintro e W1 ⟨rfl,hb1⟩;have hb2:=HB0.out.seq hb1;have he1:=(hb1.block _ (by simp; omega)).trans HE0.out;have hL1:=HL.out.below hb2;have HB2:=Zq hb2;clear hb1 hb2 HB0 HE0 HN3 c0 c1 c2 c3;rcases Zem HOK.out [3] with ⟨u,hu,hvu⟩|⟨hu,hk1⟩
 . have HE:Hid (textM op x y=u):=Zq (ZpD hu);rw [hu];clear hu;unfold needV needB;go_wp2;(try rw [Yae]);go_ret;exact ⟨by rw [HE.out]; rfl,HB2.out⟩
 . obtain ⟨d0,-,-,d3⟩:=(ZdP he1).1;have HM:=Zq (ZpE (op:=op) (b:=y) hu);obtain ⟨tt,rfl,htt⟩:=HOK.out.k3 (by simpa using hk1);rw [hu];clear hu hk1;unfold needV needB;simp only [ZeC];have htx:=Zpb tt W1 htt hL1;obtain ⟨t1,t2,t3⟩:=Zej htt;have HT3:=Zq t2;have HTX:=Zq htx;clear htx htt hL1;unfold strRet strV at HTX;unfold strV;go_wp2_with fail;refine HTX.out.mono ?_;rintro e W2 ⟨rfl,hb3⟩;have hb4:=HB2.out.seq hb3;have hlt:w.heap.size<W1.heap.size:=Yan W1 _ d0;have d1:W2.cell? ⟨w.heap.size,0,none⟩=some (.int .i64 op):=(hb3.cell (p:=⟨w.heap.size,0,none⟩) hlt).trans d0;have d4:W2.cell? ⟨w.heap.size,3,none⟩=some (.slice (some ⟨b,off,none⟩) 2 cap):=(hb3.cell (p:=⟨w.heap.size,3,none⟩) hlt).trans d3;obtain ⟨e0,e1,e2,e3⟩:=HCS.out;have f0:=(hb4.cell (p:=⟨b,off+4,none⟩) hbl).trans e0;have f1:=(hb4.cell (p:=⟨b,off+4+1,none⟩) hbl).trans e1;have f2:=(hb4.cell (p:=⟨b,off+4+2,none⟩) hbl).trans e2;have f3:=(hb4.cell (p:=⟨b,off+4+3,none⟩) hbl).trans e3;have hbI:=fun l:List Int=>(hb4.alloc hb4.size (.cells (l.map (Value.int .i64)).toArray 3));have hn1:=fun l:List Int=>HN1.out _ (hbI l) W2.heap.size 3 l (Yac W2 _);have HNI:=Zq hn1;have HBI:=Zq hbI;have HL2:=Zq (HL.out.below hb4);clear d0 d3 hlt hb3 hb4 HB2 HTX he1 HN1 HCS e0 e1 e2 e3 hn1 hbI;rcases ho with rfl|rfl
   . have hn3:=HNI.out [3] (by simp);have hbB:=HBI.out [3];simp only [List.map_cons,List.map_nil,List.length_singleton] at hn3 hbB;have HN3:=Zq hn3;have HBB:=Zq hbB;clear hn3 hbB;go_wp2_with fail;refine HN3.out.mono ?_;generalize World.alloc _ _=WB at *;rintro e W3 ⟨rfl,hb5⟩;have hb6:=HBB.out.seq hb5;have HB6:=Zq hb6;have hL6:=HL.out.below hb6;clear hb5 hb6 HBB HN3 HNI HBI f0 f1 f2 f3 d1 d4;rcases Zem HOK'.out [3] with ⟨u,hu,hvu⟩|⟨hu,hk1⟩
     . have HE:Hid (textM 20 (vText tt) y=u):=Zq (by rw [HM.out,hu]; rfl);rw [hu];clear hu;unfold needV needB;go_wp2;(try rw [Yae]);go_ret;exact ⟨by rw [HE.out]; rfl,HB6.out⟩
     . have HM2:Hid (textM 20 (vText tt) y=longM (tt++y.s)):=Zq (by rw [HM.out,hu]; rfl);obtain ⟨uu,rfl,huu⟩:=HOK'.out.k3 (by simpa using hk1);rw [hu];clear hu hk1;unfold needV needB;simp only [ZeC];have htx:=Zpb uu W3 huu hL6;obtain ⟨u1,u2,u3⟩:=Zej huu;have HTX:=Zq htx;clear htx huu hL6;unfold strRet strV at HTX;unfold strV;go_wp2_with fail;refine HTX.out.mono ?_;rintro e W4 ⟨rfl,hb7⟩;have hb8:=HB6.out.seq hb7;clear hb7 HB6 HTX;go_wp2_with fail;simp only [ZpG];have HCB:=Zq (ZpH (tt++uu));have hcc:=Zcx ⟨(tt++uu).toArray⟩ W4 (by rw [ZpB,Yak]; omega);simp only [ZpA] at hcc;have HC:=Zq hcc;have HM3:Hid (textM 20 (vText tt) (vText uu)=longM (tt++uu)):=HM2;clear hcc HM2 HM;generalize tt++uu=ft at *;refine HC.out.mono ?_;rintro e W5 ⟨rfl,hb9⟩;have hb10:=hb8.seq hb9;clear hb8 hb9 HC;rcases HCB.out with ⟨h1,h2⟩|⟨h1,h2⟩
       . have HG2:Hid (textM 20 (vText tt) (vText uu)=vText ft):=Zq (by rw [HM3.out,h2]);have q:decide ((100:Int)<(cnt ft:Int))=false:=Yaj (by omega);clear h2 HM3 h1 HCB;generalize cnt ft=cf at *;go_wp2;(try rw [Yae]);go_ret;exact ⟨by rw [HG2.out]; rfl,hb10⟩
       . have HG2:Hid (textM 20 (vText tt) (vText uu)=vBad 4):=Zq (by rw [HM3.out,h2]);have q:decide ((100:Int)<(cnt ft:Int))=true:=Yam (by omega);clear h2 HM3 h1 HCB;generalize cnt ft=cf at *;go_wp2_with fail;refine (Zpg 4 _).mono ?_;rintro e W6 ⟨rfl,rfl⟩;go_wp2;(try rw [Yae]);go_ret;exact ⟨by rw [HG2.out]; rfl,hb10⟩
   . have hn3:=HNI.out [1] (by simp);have hbB:=HBI.out [1];simp only [List.map_cons,List.map_nil,List.length_singleton] at hn3 hbB;have HN3:=Zq hn3;have HBB:=Zq hbB;clear hn3 hbB;go_wp2_with fail;refine HN3.out.mono ?_;generalize World.alloc _ _=WB at *;rintro e W3 ⟨rfl,hb5⟩;have hb6:=HBB.out.seq hb5;have HB6:=Zq hb6;clear hb5 hb6 HBB HN3 HNI HBI f0 f1 f2 f3 d1 d4;rcases Zem HOK'.out [1] with ⟨u,hu,hvu⟩|⟨hu,hk1⟩
     . have HE:Hid (textM 21 (vText tt) y=u):=Zq (by rw [HM.out,hu]; rfl);rw [hu];clear hu;unfold needV needB;go_wp2;(try rw [Yae]);go_ret;exact ⟨by rw [HE.out]; rfl,HB6.out⟩
     . have HM2:Hid (textM 21 (vText tt) y=longM (takeP y.n.toNat tt)):=Zq (by rw [HM.out,hu]; rfl);obtain ⟨m,rfl,hm⟩:=HOK'.out.k1 (by simpa using hk1);rw [hu];clear hu hk1;unfold needV needB;simp only [ZeA];have HI:=Zq (Zo9 m W3);have hct:=Zpn ⟨tt.toArray⟩ m W3 hm (by rw [ZpB]; omega);rw [ZpA] at hct;unfold strRet strV at hct;have htl:=Zee m.toNat tt HT3.out;have hln:=Zd9 _ (takeP m.toNat tt) Zs;have HM3:Hid (textM 21 (vText tt) (vInt m)=longM (takeP m.toNat tt)):=HM2;have HCT:=Zq hct;clear HM2 HM hct;generalize takeP m.toNat tt=ft at *;have hcc:=fun W=>Zcx ⟨ft.toArray⟩ W (by rw [ZpB]; omega);simp only [ZpA] at hcc;have HC:=Zq hcc;have hng:¬ 100<cnt ft:=(by omega);have HG2:Hid (textM 21 (vText tt) (vInt m)=vText ft):=Zq (by rw [HM3.out]; unfold longM; rw [if_neg hng]);have q:decide ((100:Int)<(cnt ft:Int))=false:=Yaj (by omega);clear hcc htl hln HM3 hng;go_wp2_with fail;refine HI.out.mono ?_;rintro e W4 ⟨rfl,rfl⟩;go_wp2_with fail;refine HCT.out.mono ?_;rintro e W5 ⟨rfl,hb7⟩;have hb8:=HB6.out.seq hb7;clear hb7 HB6 HCT HI;go_wp2_with fail;refine (HC.out _).mono ?_;rintro e W6 ⟨rfl,hb9⟩;have hb10:=hb8.seq hb9;clear hb8 hb9 HC;generalize cnt ft=cf at *;go_wp2;(try rw [Yae]);go_ret;exact ⟨by rw [HG2.out]; rfl,hb10⟩
theorem ZpJ {op:Int} {a b c u:Val} (ho:op=6\/op=16\/op=17\/op=18) (h:need a [2] = .error u):truthM op a b c=u:=by unfold truthM; rw [if_pos ho,h]
theorem ZpK {op:Int} {bb:Bool} {b c:Val} (ho:op=6\/op=16\/op=17\/op=18):truthM op (vBool bb) b c =
 if op=6 then vBool (!bb) else if op=18 then (if bb=true then b else c) else if bb=decide (op=17) then vBool bb else needV (need b [2]):=by
 have hn:need (vBool bb) [2] = .ok (vBool bb):=by simp [need,vBool]
 unfold truthM;rw [if_pos ho,hn];simp only;have e1:(vBool bb).n=if bb then 1 else 0:=rfl;rw [e1];rcases ho with rfl|rfl|rfl|rfl<;>cases bb<;>simp<;>cases need b [2]<;>rfl
theorem KV.at2 {w:World} {b off:Nat} {n cap:Nat} {k0 k1 k:Ex} {ks:List Ex} (t:KV (gh w) (.slice (some ⟨b,off,none⟩) n cap) (k0::k1::k::ks)) :
 ∃ ua uc,w.cell? ⟨b,off+8,none⟩=some (.int .i64 k.op)/\w.cell? ⟨b,off+8+1,none⟩=some (.int .i64 k.n)/\w.cell? ⟨b,off+8+2,none⟩=some (.string ⟨k.s.toArray⟩)/\w.cell? ⟨b,off+8+3,none⟩=some (.slice ua k.ks.length uc)/\KV (gh w) (.slice ua k.ks.length uc) k.ks:=by obtain ⟨b',off',u,ha,c0,c1,c2,c3,hk⟩:=t.at (j:=2) (k:=k) rfl;simp only [Yai,Ybd,and_true] at ha;obtain ⟨rfl,rfl⟩:=ha;obtain ⟨ua,uc,rfl⟩:=hk.form;exact ⟨ua,uc,c0,c1,c2,c3,hk⟩
theorem ZpL {k:Ex} {names:List Bs} {vals:List Val} {p:Nat} {w:World} {ua:Option Addr} {uc:Nat} (hE:EvP names vals k) (hW:WithV w p names vals) (hK:KV (gh w) (.slice ua k.ks.length uc) k.ks) :
 ∀ W,Below w.heap.size w W->Calls Tryz.prog 83 #[.pointer (some ⟨p,0,none⟩),.agg #[.int .i64 k.op,.int .i64 k.n,.string ⟨k.s.toArray⟩,.slice ua k.ks.length uc]] W (boxPost (ev (look names vals) k) W):=by intro W hb;exact hE (.slice ua k.ks.length uc) W p (hW.keep hb) (hK.keep hb)
theorem ZpM (names:List Bs) (vals:List Val) (n:Int) (s:Bs) (k:Ex) (v:Value) (p:Nat) (w:World) 
 (hE0:EvP names vals k) (hok0:VOk (ev (look names vals) k)) (hW:WithV w p names vals) (hK:KV (gh w) v [k]) :
 Calls Tryz.prog 158 #[.pointer (some ⟨p,0,none⟩),exV 6 n s v] w (boxPost (truthM 6 (ev (look names vals) k) vNil vNil) w):=by
 obtain ⟨a,cap,rfl⟩:=hK.form;have hcap:=hK.cap;obtain ⟨b,off,ua,uc,rfl,c0,c1,c2,c3,hK0⟩:=hK.at0;have hnd:=ZpC hE0 hok0 hW hK0;generalize ev (look names vals) k=x at *;have HL:=Zq hW.lay;have hbl:=Yan w _ c0;have hb0:=(((Yab w.heap.size w).alloc Zs (cEx 6 n s (.slice (some ⟨b,off,none⟩) 1 cap))).alloc (by simp) (.cells #[.int .i64 2] 3));have he0:((w.alloc (cEx 6 n s (.slice (some ⟨b,off,none⟩) 1 cap))).alloc (.cells #[.int .i64 2] 3)).heap[w.heap.size]?=some (cEx 6 n s (.slice (some ⟨b,off,none⟩) 1 cap)):=by rw [Yah _ _ _ (by simp)]; exact Yac w _
 have hi0:((w.alloc (cEx 6 n s (.slice (some ⟨b,off,none⟩) 1 cap))).alloc (.cells #[.int .i64 2] 3)).heap[w.heap.size+1]?=some (.cells (([2]:List Int).map (Value.int .i64)).toArray 3 (0,0)):=by have:=Yac (w.alloc (cEx 6 n s (.slice (some ⟨b,off,none⟩) 1 cap))) (.cells #[.int .i64 2] 3);simpa using this
 have HN3:=Zq (hnd _ hb0 _ _ _ hi0 (by simp));have HB0:=Zq hb0;have HE0:=Zq he0;have HOK:=Zq hok0;clear hnd hE0 hW hK hK0 hb0 he0 hi0 hok0 ;simp only [List.length_singleton] at *;unfold exV strV;go_in;go_wp2_with fail;refine HN3.out.mono ?_;rintro e W1 ⟨rfl,hb1⟩;have hb2:=HB0.out.seq hb1;have he1:=(hb1.block _ (by simp; omega)).trans HE0.out;have HB2:=Zq hb2;clear hb1 hb2 HB0 HE0 HN3 c0 c1 c2 c3;rcases Zem HOK.out [2] with ⟨u,hu,hvu⟩|⟨hu,hk1⟩
 . have HE:Hid (truthM 6 x vNil vNil=u):=Zq (ZpJ (by omega) hu);rw [hu];clear hu;unfold needV needB;go_wp2;(try rw [Yae]);go_ret;exact ⟨by rw [HE.out]; rfl,HB2.out⟩
 . obtain ⟨d0,-,-,d3⟩:=(ZdP he1).1;obtain ⟨bb,rfl⟩:=HOK.out.k2 (by simpa using hk1);rw [hu];clear hu hk1 he1;unfold needV needB;simp only [ZeB];have HBL:=Zq (Zpa bb W1);have HM:Hid (truthM 6 (vBool bb) vNil vNil=vBool (!bb)):=Zq (by rw [ZpK (.inl rfl),if_pos rfl]);go_wp2_with fail;refine HBL.out.mono ?_;rintro e W2 ⟨rfl,rfl⟩;go_wp2;(try rw [Yae]);go_ret;exact ⟨by rw [HM.out,ZeB]; rfl,HB2.out⟩
theorem ZpN (names:List Bs) (vals:List Val) (n:Int) (s:Bs) (k k' k'':Ex) (v:Value) (p:Nat) (w:World) 
 (hE0:EvP names vals k) (hE1:EvP names vals k') (hE2:EvP names vals k'') (hok0:VOk (ev (look names vals) k)) (hok1:VOk (ev (look names vals) k')) (hok2:VOk (ev (look names vals) k'')) (hW:WithV w p names vals) (hK:KV (gh w) v [k,k',k'']) :
 Calls Tryz.prog 158 #[.pointer (some ⟨p,0,none⟩),exV 18 n s v] w (boxPost (truthM 18 (ev (look names vals) k) (ev (look names vals) k') (ev (look names vals) k'')) w):=by
 obtain ⟨a,cap,rfl⟩:=hK.form;have hcap:=hK.cap;obtain ⟨b,off,ua,uc,rfl,c0,c1,c2,c3,hK0⟩:=hK.at0;obtain ⟨ub,ud,e0,e1,e2,e3,hK1⟩:=hK.at1;obtain ⟨ue,uf,g0,g1,g2,g3,hK2⟩:=hK.at2;have hnd:=ZpC hE0 hok0 hW hK0;have HV1:=Zq (ZpL hE1 hW hK1);have HV2:=Zq (ZpL hE2 hW hK2);generalize ev (look names vals) k=x at *;generalize ev (look names vals) k'=y at *;generalize ev (look names vals) k''=z at *;have HCS:=Zq (And.intro e0 (And.intro e1 (And.intro e2 e3)));have HCT:=Zq (And.intro g0 (And.intro g1 (And.intro g2 g3)));have HL:=Zq hW.lay;have hbl:=Yan w _ c0;have hb0:=(((Yab w.heap.size w).alloc Zs (cEx 18 n s (.slice (some ⟨b,off,none⟩) 3 cap))).alloc (by simp) (.cells #[.int .i64 2] 3));have he0:((w.alloc (cEx 18 n s (.slice (some ⟨b,off,none⟩) 3 cap))).alloc (.cells #[.int .i64 2] 3)).heap[w.heap.size]?=some (cEx 18 n s (.slice (some ⟨b,off,none⟩) 3 cap)):=by rw [Yah _ _ _ (by simp)]; exact Yac w _
 have hi0:((w.alloc (cEx 18 n s (.slice (some ⟨b,off,none⟩) 3 cap))).alloc (.cells #[.int .i64 2] 3)).heap[w.heap.size+1]?=some (.cells (([2]:List Int).map (Value.int .i64)).toArray 3 (0,0)):=by have:=Yac (w.alloc (cEx 18 n s (.slice (some ⟨b,off,none⟩) 3 cap))) (.cells #[.int .i64 2] 3);simpa using this
 have HN3:=Zq (hnd _ hb0 _ _ _ hi0 (by simp));have HB0:=Zq hb0;have HE0:=Zq he0;have HOK:=Zq hok0;clear hnd hE0 hW hK hK0 hb0 he0 hi0 hok0 hE1 hE2 hK1 hK2 hok1 hok2 e0 e1 e2 e3 g0 g1 g2 g3;simp only [List.length_singleton] at *;unfold exV strV;go_in;go_wp2_with fail;refine HN3.out.mono ?_;rintro e W1 ⟨rfl,hb1⟩;have hb2:=HB0.out.seq hb1;have he1:=(hb1.block _ (by simp; omega)).trans HE0.out;have HB2:=Zq hb2;clear hb1 hb2 HB0 HE0 HN3 c0 c1 c2 c3;rcases Zem HOK.out [2] with ⟨u,hu,hvu⟩|⟨hu,hk1⟩
 . have HE:Hid (truthM 18 x y z=u):=Zq (ZpJ (by omega) hu);rw [hu];clear hu;unfold needV needB;go_wp2;(try rw [Yae]);go_ret;exact ⟨by rw [HE.out]; rfl,HB2.out⟩
 . obtain ⟨d0,-,-,d3⟩:=(ZdP he1).1;obtain ⟨bb,rfl⟩:=HOK.out.k2 (by simpa using hk1);rw [hu];clear hu hk1 he1;unfold needV needB;simp only [ZeB];have HBL:=Zq (Zpa bb W1);have HM:Hid (truthM 18 (vBool bb) y z=if bb=true then y else z):=Zq (by rw [ZpK (by omega),if_neg (by decide),if_pos rfl]);go_wp2_with fail;refine HBL.out.mono ?_;rintro e W2 ⟨rfl,rfl⟩;cases bb
   . have HM2:Hid (truthM 18 (vBool false) y z=z):=Zq (by rw [HM.out]; rfl);have HV:=Zq (HV2.out _ HB2.out);obtain ⟨g0,g1,g2,g3⟩:=HCT.out;have f0:=(HB2.out.cell (p:=⟨b,off+8,none⟩) hbl).trans g0;have f1:=(HB2.out.cell (p:=⟨b,off+8+1,none⟩) hbl).trans g1;have f2:=(HB2.out.cell (p:=⟨b,off+8+2,none⟩) hbl).trans g2;have f3:=(HB2.out.cell (p:=⟨b,off+8+3,none⟩) hbl).trans g3;clear g0 g1 g2 g3 HCS HCT HV1 HV2 HM;go_wp2_with fail;refine HV.out.mono ?_;rintro e W3 ⟨rfl,hb5⟩;have hb6:=HB2.out.seq hb5;go_wp2;(try rw [Yae]);go_ret;exact ⟨by rw [HM2.out]; rfl,hb6⟩
   . have HM2:Hid (truthM 18 (vBool true) y z=y):=Zq (by rw [HM.out]; rfl);have HV:=Zq (HV1.out _ HB2.out);obtain ⟨e0,e1,e2,e3⟩:=HCS.out;have f0:=(HB2.out.cell (p:=⟨b,off+4,none⟩) hbl).trans e0;have f1:=(HB2.out.cell (p:=⟨b,off+4+1,none⟩) hbl).trans e1;have f2:=(HB2.out.cell (p:=⟨b,off+4+2,none⟩) hbl).trans e2;have f3:=(HB2.out.cell (p:=⟨b,off+4+3,none⟩) hbl).trans e3;clear e0 e1 e2 e3 HCS HCT HV1 HV2 HM;go_wp2_with fail;refine HV.out.mono ?_;rintro e W3 ⟨rfl,hb5⟩;have hb6:=HB2.out.seq hb5;go_wp2;(try rw [Yae]);go_ret;exact ⟨by rw [HM2.out]; rfl,hb6⟩
theorem ZpO (names:List Bs) (vals:List Val) (op n:Int) (s:Bs) (k k':Ex) (v:Value) (p:Nat) (w:World) (ho:op=16\/op=17)
 (hE0:EvP names vals k) (hE1:EvP names vals k') (hok0:VOk (ev (look names vals) k)) (hok1:VOk (ev (look names vals) k')) (hW:WithV w p names vals) (hK:KV (gh w) v [k,k']) :
 Calls Tryz.prog 158 #[.pointer (some ⟨p,0,none⟩),exV op n s v] w (boxPost (truthM op (ev (look names vals) k) (ev (look names vals) k') vNil) w):=by
 obtain ⟨a,cap,rfl⟩:=hK.form;have hcap:=hK.cap;obtain ⟨b,off,ua,uc,rfl,c0,c1,c2,c3,hK0⟩:=hK.at0;obtain ⟨ub,ud,e0,e1,e2,e3,hK1⟩:=hK.at1;have hnd:=ZpC hE0 hok0 hW hK0;have HN1:=Zq (ZpC hE1 hok1 hW hK1);generalize ev (look names vals) k=x at *;generalize ev (look names vals) k'=y at *;have HCS:=Zq (And.intro e0 (And.intro e1 (And.intro e2 e3)));have HL:=Zq hW.lay;have hbl:=Yan w _ c0;have hb0:=(((Yab w.heap.size w).alloc Zs (cEx op n s (.slice (some ⟨b,off,none⟩) 2 cap))).alloc (by simp) (.cells #[.int .i64 2] 3));have he0:((w.alloc (cEx op n s (.slice (some ⟨b,off,none⟩) 2 cap))).alloc (.cells #[.int .i64 2] 3)).heap[w.heap.size]?=some (cEx op n s (.slice (some ⟨b,off,none⟩) 2 cap)):=by rw [Yah _ _ _ (by simp)]; exact Yac w _
 have hi0:((w.alloc (cEx op n s (.slice (some ⟨b,off,none⟩) 2 cap))).alloc (.cells #[.int .i64 2] 3)).heap[w.heap.size+1]?=some (.cells (([2]:List Int).map (Value.int .i64)).toArray 3 (0,0)):=by have:=Yac (w.alloc (cEx op n s (.slice (some ⟨b,off,none⟩) 2 cap))) (.cells #[.int .i64 2] 3);simpa using this
 have HN3:=Zq (hnd _ hb0 _ _ _ hi0 (by simp));have HB0:=Zq hb0;have HE0:=Zq he0;have HOK:=Zq hok0;clear hnd hE0 hW hK hK0 hb0 he0 hi0 hok0 hE1 hK1 hok1 e0 e1 e2 e3;simp only [List.length_singleton] at *;unfold exV strV;go_in;go_wp2_with fail;refine HN3.out.mono ?_;rintro e W1 ⟨rfl,hb1⟩;have hb2:=HB0.out.seq hb1;have he1:=(hb1.block _ (by simp; omega)).trans HE0.out;have HB2:=Zq hb2;clear hb1 hb2 HB0 HE0 HN3 c0 c1 c2 c3;rcases Zem HOK.out [2] with ⟨u,hu,hvu⟩|⟨hu,hk1⟩
 . have HE:Hid (truthM op x y vNil=u):=Zq (ZpJ (by omega) hu);rw [hu];clear hu;unfold needV needB;go_wp2;(try rw [Yae]);go_ret;exact ⟨by rw [HE.out]; rfl,HB2.out⟩
 . obtain ⟨d0,-,-,d3⟩:=(ZdP he1).1;obtain ⟨bb,rfl⟩:=HOK.out.k2 (by simpa using hk1);rw [hu];clear hu hk1 he1;unfold needV needB;simp only [ZeB];have HBL:=Zq (Zpa bb W1);have HM:Hid (truthM op (vBool bb) y vNil=if bb=decide (op=17) then vBool bb else needV (need y [2])):=Zq (by rw [ZpK (by omega),if_neg (by omega),if_neg (by omega)]);go_wp2_with fail;refine HBL.out.mono ?_;rintro e W2 ⟨rfl,rfl⟩;obtain ⟨e0,e1,e2,e3⟩:=HCS.out;have f0:=(HB2.out.cell (p:=⟨b,off+4,none⟩) hbl).trans e0;have f1:=(HB2.out.cell (p:=⟨b,off+4+1,none⟩) hbl).trans e1;have f2:=(HB2.out.cell (p:=⟨b,off+4+2,none⟩) hbl).trans e2;have f3:=(HB2.out.cell (p:=⟨b,off+4+3,none⟩) hbl).trans e3;have hbB:=HB2.out.alloc HB2.out.size (.cells (([2]:List Int).map (Value.int .i64)).toArray 3);have hn3:=HN1.out _ hbB W2.heap.size 3 [2] (Yac W2 _) (by simp);simp only [List.map_cons,List.map_nil,List.length_singleton] at hn3 hbB;have HNN:=Zq hn3;have HBB:=Zq hbB;clear e0 e1 e2 e3 HCS HN1 hn3 hbB;rcases ho with rfl|rfl<;>cases bb;all_goals
    first
    | (have HM2:Hid (_=vBool _):=Zq (HM.out.trans (if_pos (by decide)))
       clear HM f0 f1 f2 f3
       go_wp2
       try rw [Yae]
       go_ret
       exact ⟨by rw [HM2.out]; rfl,HB2.out⟩)
    | (have HM2:Hid (_=needV _):=Zq (HM.out.trans (if_neg (by decide)))
       clear HM
       go_wp2_with fail
       refine HNN.out.mono ?_
       rintro e W3 ⟨rfl,hb5⟩
       have hb6:=HBB.out.seq hb5
       go_wp2
       try rw [Yae]
       go_ret
       exact ⟨by rw [HM2.out]; rfl,hb6⟩)
def kindsOf (op:Int):List Int:=if op=14\/op=15 then [1,3] else [1,3,2]
def cmpM (op:Int) (a b:Val):Val:=if op=12 then vBool (sameV a b) else if op=13 then vBool (!sameV a b) else if op=14 then vBool (lessV a b) else vBool (lessV a b || sameV a b)
theorem ZpP {op:Int} {a b c u:Val} (ho:¬ (op=6\/op=16\/op=17\/op=18)) (h:need a (kindsOf op) = .error u):truthM op a b c=u:=by unfold truthM; rw [if_neg ho]; unfold kindsOf at h; rw [h]
theorem ZpQ {op:Int} {a b c u:Val} (ho:¬ (op=6\/op=16\/op=17\/op=18)) (h:need a (kindsOf op) = .ok a) (g:need b [a.k] = .error u):truthM op a b c=u:=by unfold truthM; rw [if_neg ho]; unfold kindsOf at h; rw [h]; simp only; rw [g]
theorem ZpR {op:Int} {a b c:Val} (ho:¬ (op=6\/op=16\/op=17\/op=18)) (h:need a (kindsOf op) = .ok a) (g:need b [a.k] = .ok b):truthM op a b c=cmpM op a b:=by unfold truthM; rw [if_neg ho]; unfold kindsOf at h; rw [h]; simp only; rw [g]; rfl
theorem ZpS (s t:Bs):(s == t)=decide (s=t):=by cases h:decide (s=t)<;>simp_all
def cmpB (op:Int) (l e:Bool):Bool:=if op=12 then e else if op=13 then !e else if op=14 then l else (l || e)
theorem ZpT (op m m':Int):cmpM op (vInt m) (vInt m')=vBool (cmpB op (decide (m<m')) (decide (m=m'))):=by
 have e1:sameV (vInt m) (vInt m')=decide (m=m'):=by simp [sameV,vInt]
 have e2:lessV (vInt m) (vInt m')=decide (m<m'):=by first|rfl|(simp [lessV,vInt]; rfl)
 unfold cmpM cmpB; rw [e1,e2];split
 . rfl
 split
 . rfl
 split<;>rfl
theorem ZpU (op:Int) (s t:Bs):cmpM op (vText s) (vText t)=vBool (cmpB op (Op.bytesLess s t) (decide (s=t))):=by
 have e1:sameV (vText s) (vText t)=decide (s=t):=by simp [sameV,vText]
 have e2:lessV (vText s) (vText t)=Op.bytesLess s t:=by simp [lessV,vText]
 unfold cmpM cmpB; rw [e1,e2];split
 . rfl
 split
 . rfl
 split<;>rfl
theorem ZpV (op:Int) (s t:Bool):cmpM op (vBool s) (vBool t)=vBool (cmpB op false (decide (s=t))):=by
 have e1:sameV (vBool s) (vBool t)=decide (s=t):=by cases s<;>cases t<;>rfl
 have e2:lessV (vBool s) (vBool t)=false:=by simp [lessV,vBool]
 unfold cmpM cmpB; rw [e1,e2];split
 . rfl
 split
 . rfl
 split<;>rfl
theorem ZpW {W:World} {b:Nat} {T:TypeId} {x y z:Int} (h:W.heap[b]?=some (.cells #[.int .i64 x,.int .i64 y,.int .i64 z] T (0,0))):IntsV (gh W) (.slice (some ⟨b,0,none⟩) 2 3) [x,y]:=by
 refine ⟨some ⟨b,0,none⟩,3,rfl,fun h=>(by cases h),by simp,fun j s hj=>⟨b,0,rfl,?_⟩⟩;rw [Zad]
 match j,hj with
 | 0,hj=>simp at hj; subst hj; simp [World.cell?,h]
 | 1,hj=>simp at hj; subst hj; simp [World.cell?,h]
theorem ZpX {W:World} {b:Nat} {T:TypeId} {x y z:Int} (h:W.heap[b]?=some (.cells #[.int .i64 x,.int .i64 y,.int .i64 z] T (0,0))):IntsV (gh W) (.slice (some ⟨b,0,none⟩) 3 3) [x,y,z]:=by
 refine ⟨some ⟨b,0,none⟩,3,rfl,fun h=>(by cases h),by simp,fun j s hj=>⟨b,0,rfl,?_⟩⟩;rw [Zad]
 match j,hj with
 | 0,hj=>simp at hj; subst hj; simp [World.cell?,h]
 | 1,hj=>simp at hj; subst hj; simp [World.cell?,h]
 | 2,hj=>simp at hj; subst hj; simp [World.cell?,h]
theorem ZpY (names:List Bs) (vals:List Val) (op n:Int) (s:Bs) (k k':Ex) (v:Value) (p:Nat) (w:World) (ho:op=12\/op=13\/op=14\/op=15)
 (hE0:EvP names vals k) (hE1:EvP names vals k') (hok0:VOk (ev (look names vals) k)) (hok1:VOk (ev (look names vals) k')) (hW:WithV w p names vals) (hK:KV (gh w) v [k,k']) :
 Calls Tryz.prog 110 #[.pointer (some ⟨p,0,none⟩),exV op n s v] w (boxPost (truthM op (ev (look names vals) k) (ev (look names vals) k') vNil) w):=by
 obtain ⟨a,cap,rfl⟩:=hK.form;have hcap:=hK.cap;obtain ⟨b,off,ua,uc,rfl,c0,c1,c2,c3,hK0⟩:=hK.at0;obtain ⟨ub,ud,e0,e1,e2,e3,hK1⟩:=hK.at1;have HL:=Zq hW.lay;have hbl:=Yan w _ c0;have hb0:=(((Yab w.heap.size w).alloc Zs (cEx op n s (.slice (some ⟨b,off,none⟩) 2 cap))).alloc (by simp) (.cells #[.int .i64 1,.int .i64 3,.int .i64 2] 3));have he0:((w.alloc (cEx op n s (.slice (some ⟨b,off,none⟩) 2 cap))).alloc (.cells #[.int .i64 1,.int .i64 3,.int .i64 2] 3)).heap[w.heap.size]?=some (cEx op n s (.slice (some ⟨b,off,none⟩) 2 cap)):=by rw [Yah _ _ _ (by simp)]; exact Yac w _
 have hi0:((w.alloc (cEx op n s (.slice (some ⟨b,off,none⟩) 2 cap))).alloc (.cells #[.int .i64 1,.int .i64 3,.int .i64 2] 3)).heap[w.heap.size+1]?=some (.cells #[.int .i64 1,.int .i64 3,.int .i64 2] 3 (0,0)):=by have:=Yac (w.alloc (cEx op n s (.slice (some ⟨b,off,none⟩) 2 cap))) (.cells #[.int .i64 1,.int .i64 3,.int .i64 2] 3);simpa using this
 have hI2:=ZpW hi0;have hI3:=ZpX hi0;have hn2:=Zpl k names vals [1,3] (.slice ua k.ks.length uc) _ p _ hE0 hok0 (hW.keep hb0) (hK0.keep hb0) hI2;have hn3:=Zpl k names vals [1,3,2] (.slice ua k.ks.length uc) _ p _ hE0 hok0 (hW.keep hb0) (hK0.keep hb0) hI3;have HN1:=Zq (ZpC hE1 hok1 hW hK1);unfold exV strV at hn2 hn3;generalize ev (look names vals) k=x at *;generalize ev (look names vals) k'=y at *;have HB0:=Zq hb0;have HE0:=Zq he0;have HOK:=Zq hok0;have HOK1:=Zq hok1;have HCS:=Zq (And.intro e0 (And.intro e1 (And.intro e2 e3)));have HN2:=Zq hn2;have HN3:=Zq hn3;clear hE0 hE1 hW hK hK0 hK1 hb0 he0 hi0 hok0 hok1 e0 e1 e2 e3 hI2 hI3 hn2 hn3;unfold exV strV;obtain ⟨op1,hop⟩:∃ o,op=o:=⟨_,rfl⟩;have hT:truthM op x y vNil=truthM op1 x y vNil:=by rw [hop]
 rw [hT];have HOP:=Zq hop;clear hT hop;rcases ho with rfl|rfl|rfl|rfl
 case' inl=>have HN:=HN3; have hno:=Zem HOK.out [1,3,2]; have HKS:Hid (kindsOf op1=[1,3,2]):=Zq (by rw [<-HOP.out]; rfl)
 case' inr.inl=>have HN:=HN3; have hno:=Zem HOK.out [1,3,2]; have HKS:Hid (kindsOf op1=[1,3,2]):=Zq (by rw [<-HOP.out]; rfl)
 case' inr.inr.inl=>have HN:=HN2; have hno:=Zem HOK.out [1,3]; have HKS:Hid (kindsOf op1=[1,3]):=Zq (by rw [<-HOP.out]; rfl)
 case' inr.inr.inr=>have HN:=HN2; have hno:=Zem HOK.out [1,3]; have HKS:Hid (kindsOf op1=[1,3]):=Zq (by rw [<-HOP.out]; rfl)
 all_goals
  clear HN2 HN3;go_in;go_wp2_with fail;refine HN.out.mono ?_;rintro e W1 ⟨rfl,hb1⟩;have hb2:=HB0.out.seq hb1;have he1:=(hb1.block _ (by simp; omega)).trans HE0.out;have HB2:=Zq hb2;clear hb1 hb2 HB0 HE0 HN c0 c1 c2 c3;rcases hno with ⟨u,hu,hvu⟩|⟨hu,hk1⟩
  . have HE:Hid (truthM op1 x y vNil=u):=Zq (ZpP (by rw [<-HOP.out]; decide) (by rw [HKS.out]; exact hu));rw [hu];clear hu;unfold needV needB;go_wp2;(try rw [Yae]);go_ret;exact ⟨by rw [HE.out]; rfl,HB2.out⟩
  . obtain ⟨d0,-,-,d3⟩:=(ZdP he1).1;rw [hu];have HU:=Zq hu;have hkd:=fun w hL=>Zo7 HOK.out w hL;have HKD:=Zq hkd;clear hu he1 hkd;unfold needV needB;have hs:w.heap.size<W1.heap.size:=Yan W1 _ d0;have hk3:∀ W3,Below W1.drew.heap.size W1.drew W3->W3.cell? ⟨w.heap.size,0,none⟩=some (.int .i64 _)/\W3.cell? ⟨w.heap.size,3,none⟩=some (.slice (some ⟨b,off,none⟩) 2 cap) /\
     W3.cell? ⟨b,off+4,none⟩=some (.int .i64 k'.op)/\W3.cell? ⟨b,off+4+1,none⟩=some (.int .i64 k'.n)/\W3.cell? ⟨b,off+4+2,none⟩=some (.string ⟨k'.s.toArray⟩)/\W3.cell? ⟨b,off+4+3,none⟩=some (.slice ub k'.ks.length ud):=fun W3 hb=>by
     have hbw:=HB2.out.drew.seq hb
     obtain ⟨e0,e1,e2,e3⟩:=HCS.out
     refine ⟨?_,?_,?_,?_,?_,?_⟩
     . exact (hb.cell (p:=⟨w.heap.size,0,none⟩) hs).trans d0
     . exact (hb.cell (p:=⟨w.heap.size,3,none⟩) hs).trans d3
     . exact (hbw.cell (p:=⟨b,off+4,none⟩) hbl).trans e0
     . exact (hbw.cell (p:=⟨b,off+4+1,none⟩) hbl).trans e1
     . exact (hbw.cell (p:=⟨b,off+4+2,none⟩) hbl).trans e2
     . exact (hbw.cell (p:=⟨b,off+4+3,none⟩) hbl).trans e3
    have HK3:=Zq hk3;obtain ⟨g0,g1,f0,f1,f2,f3⟩:=hk3 W1.drew (Yab _ _);clear hk3;obtain ⟨bx,hbx⟩:∃ bx,boxV x=bx:=⟨_,rfl⟩;have HBX:=Zq hbx;rw [hbx] at HKD |-;obtain ⟨xk,hxk⟩:∃ xk,x.k=xk:=⟨_,rfl⟩;have HXK:=Zq hxk;rw [hxk] at HKD;clear hbx hxk;go_upto_region 13 with fail;go_region_held3 (fun w'=>(w'.cell? ⟨w.heap.size,3,none⟩=some (.slice (some ⟨b,off,none⟩) 2 cap)/\w'.cell? ⟨b,off+4,none⟩=some (.int .i64 k'.op)/\w'.cell? ⟨b,off+4+1,none⟩=some (.int .i64 k'.n)/\w'.cell? ⟨b,off+4+2,none⟩=some (.string ⟨k'.s.toArray⟩)/\w'.cell? ⟨b,off+4+3,none⟩=some (.slice ub k'.ks.length ud))) (go_keep)
     ((first
      | (go_at_call 159; refine (HKD.out _ (HL.out.below HB2.out.drew)).mono ?_; rintro r W3 ⟨rfl,hb3⟩; have hb4:=HB2.out.drew.seq hb3; have hg:=HK3.out W3 hb3; obtain ⟨h0,h1,h2,h3,h4,h5⟩:=hg)
      | (go_at_call 149; refine (HN1.out _ (hb4.alloc hb4.size _) W3.heap.size 3 [xk] (Yac W3 _) (by simp)).mono ?_; rintro r W5 ⟨rfl,hb5⟩; have hb6:=(hb3.alloc hb3.size _).seq hb5; have hg5:=HK3.out W5 hb6; obtain ⟨i0,i1,i2,i3,i4,i5⟩:=hg5)))
    clear g0 g1 f0 f1 f2 f3 h0 h1 h2 h3 h4 h5 i1 i2 i3 i4 i5 d0 d3 HK3 HKD HCS HN1 hb6;have hb7:=(hb4.alloc hb4.size _).seq hb5;have HB7:=Zq hb7;have HL5:=Zq (HL.out.below hb7);clear hb3 hb4 hb5 hb7;rcases Zem HOK1.out [xk] with ⟨u,hu,hvu⟩|⟨hu,hk2⟩
    . have HE:Hid (truthM op1 x y vNil=u):=Zq (ZpQ (by rw [<-HOP.out]; decide) (by rw [HKS.out]; exact HU.out) (by rw [HXK.out]; exact hu));rw [hu];clear hu;unfold needV needB;go_wp2;(try rw [Yae]);go_ret;exact ⟨by rw [HE.out]; rfl,HB7.out⟩
    . have HM:Hid (truthM op1 x y vNil=cmpM op1 x y):=Zq (ZpR (by rw [<-HOP.out]; decide) (by rw [HKS.out]; exact HU.out) (by rw [HXK.out]; exact hu));rw [hu];clear hu HU;unfold needV needB;have hyk:y.k=xk:=(by simpa using hk2);have hx1:=HXK.out;have hx2:=HBX.out;rw [<-hx2];clear HXK HBX hk2;rw [<-hx1] at hyk;clear hx1 hx2;cases HOK.out with
      | nil=>simp [vNil] at hk1
      | bad m h=>simp [vBad] at hk1
      | int m h =>obtain ⟨m',rfl,h'⟩:=HOK1.out.k1 hyk;rw [ZeA,ZeA];have x1:=ZoK m;have hi:=fun w=>Zo9 m' w;have HI:=Zq hi;have hcs:∃ lb eb,decide (m<m')=lb/\(m == m')=eb/\cmpM op1 (vInt m) (vInt m')=vBool (cmpB op1 lb eb):=⟨_,_,rfl,rfl,by rw [ZpT]; rfl⟩;obtain ⟨lb,eb,hl,he,hc⟩:=hcs;have HC:=Zq hc;clear hk1 hyk hi hc;go_wp2_with fail;refine (HI.out _).mono ?_;rintro e W6 ⟨rfl,rfl⟩;go_wp2_with fail;refine (HI.out _).mono ?_;rintro e W6 ⟨rfl,rfl⟩;cases lb<;>cases eb;all_goals go_wp2;(try rw [Yae]);go_ret;exact ⟨by rw [HM.out,HC.out,ZeB,<-HOP.out]; rfl,HB7.out⟩
      | text tt h =>obtain ⟨uu,rfl,h'⟩:=HOK1.out.k3 hyk;rw [ZeC,ZeC];unfold strV;have x1:=ZoU tt;have x2:=ZoS tt;have hi:=fun w hL=>Zpb uu w h' hL;unfold strRet strV at hi;have HI:=Zq hi;have hcs:∃ lb eb,Op.bytesLess tt uu=lb/\(tt == uu)=eb/\cmpM op1 (vText tt) (vText uu)=vBool (cmpB op1 lb eb):=⟨_,_,rfl,rfl,by rw [ZpU,ZpS]⟩;obtain ⟨lb,eb,hl,he,hc⟩:=hcs;have HC:=Zq hc;clear hk1 hyk hi hc;go_wp2_with fail;refine (HI.out _ HL5.out).mono ?_;rintro e W6 ⟨rfl,hb8⟩;have hL6:=HL5.out.below hb8;have hb9:=HB7.out.seq hb8;have i6:W6.cell? ⟨w.heap.size,0,none⟩=some (.int .i64 _):=(hb8.cell (p:=⟨w.heap.size,0,none⟩) (Yan W5 _ i0)).trans i0;have HL6:=Zq hL6;clear hb8 hL6 i0;go_wp2_with fail;refine (HI.out _ HL6.out).mono ?_;rintro e W7 ⟨rfl,hb10⟩;have hb11:=hb9.seq hb10;have i7:W7.cell? ⟨w.heap.size,0,none⟩=some (.int .i64 _):=(hb10.cell (p:=⟨w.heap.size,0,none⟩) (Yan W6 _ i6)).trans i6;have HB11:=Zq hb11;clear hb9 hb10 hb11 i6;cases lb<;>cases eb;all_goals go_wp2;(try rw [Yae]);go_ret;exact ⟨by rw [HM.out,HC.out,ZeB,<-HOP.out]; rfl,HB11.out⟩
      | bool bb =>(try (simp [vBool] at hk1; done));all_goals obtain ⟨cc,rfl⟩:=HOK1.out.k2 hyk;rw [ZeB,ZeB];have x1:=ZoP bb;have x2:=ZoQ bb;have x3:=ZoN bb;have hi:=fun w=>Zpa cc w;have HI:=Zq hi;have HC:=Zq (ZpV op1 bb cc);clear hk1 hyk hi;go_wp2_with fail;refine (HI.out _).mono ?_;rintro e W6 ⟨rfl,rfl⟩;cases bb<;>cases cc;all_goals go_wp2;(try rw [Yae]);go_ret;exact ⟨by rw [HM.out,HC.out,ZeB,<-HOP.out]; rfl,HB7.out⟩
end Go.Proofs.YtikannmgllejfaaGreatDoor
