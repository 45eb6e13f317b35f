/- The walk of (*parser). -/
import Derived.Test.YtikannmgllejfaaGreatDoorKVc
import Derived.RegionTactic
import Derived.ChangeAlike
import Derived.Deep.RegionWith
import Derived.Deep.RegionLaw
set_option maxHeartbeats 4000000
set_option maxRecDepth 1000000
set_option linter.all false
namespace Go.Proofs.YtikannmgllejfaaGreatDoor
open Go.RowKit Pal
theorem Zgo {pb p:Nat} {toks:List Tok} {t:Tok} {tv:Value} {w W:World} {c:Array Value} (hP:PSt W pb tv p) (hT:TokV (gb pb W) tv toks) (hB:But pb w W) (hz:w.heap.size<W.heap.size)
 (hc:W.heap[w.heap.size]?=some (.cells c 83 (0,0))) :
 ∃ X,(W.alloc (.cells #[.int .i64 t.k,.string ⟨t.s.toArray⟩,.int .i64 t.n,.int .i64 t.p] 114)).drew=X/\PSt X pb tv p/\TokV (gb pb X) tv toks/\But pb w X/\W.heap.size<X.heap.size /\
  X.heap[w.heap.size]?=some (.cells c 83 (0,0))/\X.heap[W.heap.size]?=some (.cells #[.int .i64 t.k,.string ⟨t.s.toArray⟩,.int .i64 t.n,.int .i64 t.p] 114 (0,0)):=by have hb:Below W.heap.size W (W.alloc (.cells #[.int .i64 t.k,.string ⟨t.s.toArray⟩,.int .i64 t.n,.int .i64 t.p] 114)).drew:=((Yab _ _).alloc Zs _).drew;exact ⟨_,rfl,hP.keep hb,SlV.mono hT (But.below (pb:=pb) hb).gb,hB.call hb,by simp,(hb.block _ hz).trans hc,Yac W _⟩
theorem Zgp (pb p:Nat) (toks:List Tok) (tv:Value) (w:World) (hp:PSt w pb tv p) (hT:TokV (gb pb w) tv toks) (hE:Ended (toks.drop p)) (hl:toks.length<=1000)
 (h1:isSg [45] (hd (toks.drop p))=false) (h2:isSg [33] (hd (toks.drop p))=false) (h3:isSg [40] (hd (toks.drop p))=false) (hk:(hd (toks.drop p)).k=1) :
 Calls Tryz.prog 172 #[.pointer (some ⟨pb,0,none⟩)] w (Res pb tv toks (.ok (.mk 1 (hd (toks.drop p)).n [] []) (toks.drop p).tail) w):=by
 have hpl:=hp.cells.2.2.2;have HS:=Zq (ZdV pb p toks tv w hp hT hE hl h1 h2 h3);have hat:=hE.at;have HTL:=Zq (ZdR toks p);have K1:((hd (toks.drop p)).k == 1)=true:=by simp [hk]
 clear hk;generalize hd (toks.drop p)=t at *;clear h1 h2 h3 hE hp hT;go_in;go_wp2_with fail;refine HS.out.mono ?_;rintro e W2 ⟨rfl,hP2,hB2,hT2,hz2,hc2⟩;obtain ⟨ta,tcap,rfl⟩:=hT2.form;obtain ⟨tb,toff,rfl,k0,k1,k2,k3⟩:=TokV.at (SlV.mono hT2 (Zdu pb W2)) hat.1;obtain ⟨c0,c1,f1,hpl2⟩:=hP2.cells;have i1:(p:Int)<(toks.length:Int):=by have:=hat.2; omega
 have i0:(0:Int)<=(p:Int):=by omega
 have htl:tb<W2.heap.size:=Yan W2 _ k0;unfold strV at *;have a0:=Zdw htl k0;have a1:=Zdw htl k1;have a2:=Zdw htl k2;have a3:=Zdw htl k3;have a4:=Zdw hpl2 c0;have a5:=Zdw hpl2 c1;obtain ⟨X,hX,hPX,hTX,hBX,hzX,hcX,htX⟩:=Zgo (t:=t) hP2 hT2 hB2 (by omega) hc2;have HX:=Zq hX;have HPX:=Zq hPX;have HBX:=Zq hBX;have HTX:=Zq hTX;have HCX:=Zq hcX;have HTT:=Zq htX;have hat2:=hat.2;clear hX hPX hBX hTX hcX htX hat hP2 hT2 hB2 hc2 HS;go_wp2;go_region;rw [HX.out];clear a0 a1 a2 a3 a4 a5 c0 c1 f1 k0 k1 k2 k3 htl;obtain ⟨c0,c1,f1,hplX⟩:=HPX.out.cells;obtain ⟨⟨d0,d1,d2,d3⟩,e0,e1,e2,e3⟩:=ZdP HCX.out;obtain ⟨⟨g0,g1,g2,g3⟩,-⟩:=ZdP HTT.out;have n1:¬ w.heap.size=pb:=by omega
 have n2:¬ W2.heap.size=pb:=by omega
 have n3:¬ pb=w.heap.size:=by omega
 have n4:¬ pb=W2.heap.size:=by omega
 go_wp2;refine Yaf (v:=exV 1 t.n [] (.slice none 0 0)) ?_ rfl ?_
 . simp [results,Tryz.results172,go_sem,exV,strV,d0,d1,d2,d3]
 . exact ZdS (HBX.out.setPb 1 _) hpl (KV.nil _) (HPX.out.set _ _ rfl) HTL.out.symm _ _ _ _
theorem Zgq (pb p:Nat) (toks:List Tok) (tv:Value) (w:World) (hp:PSt w pb tv p) (hT:TokV (gb pb w) tv toks) (hE:Ended (toks.drop p)) (hl:toks.length<=1000)
 (h1:isSg [45] (hd (toks.drop p))=false) (h2:isSg [33] (hd (toks.drop p))=false) (h3:isSg [40] (hd (toks.drop p))=false) (hk:(hd (toks.drop p)).k=2) :
 Calls Tryz.prog 172 #[.pointer (some ⟨pb,0,none⟩)] w (Res pb tv toks (.ok (.mk 2 0 (hd (toks.drop p)).s []) (toks.drop p).tail) w):=by
 have hpl:=hp.cells.2.2.2;have HS:=Zq (ZdV pb p toks tv w hp hT hE hl h1 h2 h3);have hat:=hE.at;have HTL:=Zq (ZdR toks p);have K1:((hd (toks.drop p)).k == 1)=false:=by simp [hk]
 have K2:((hd (toks.drop p)).k == 2)=true:=by simp [hk]
 clear hk;generalize hd (toks.drop p)=t at *;clear h1 h2 h3 hE hp hT;go_in;go_wp2_with fail;refine HS.out.mono ?_;rintro e W2 ⟨rfl,hP2,hB2,hT2,hz2,hc2⟩;obtain ⟨ta,tcap,rfl⟩:=hT2.form;obtain ⟨tb,toff,rfl,k0,k1,k2,k3⟩:=TokV.at (SlV.mono hT2 (Zdu pb W2)) hat.1;obtain ⟨c0,c1,f1,hpl2⟩:=hP2.cells;have i1:(p:Int)<(toks.length:Int):=by have:=hat.2; omega
 have i0:(0:Int)<=(p:Int):=by omega
 have htl:tb<W2.heap.size:=Yan W2 _ k0;unfold strV at *;have a0:=Zdw htl k0;have a1:=Zdw htl k1;have a2:=Zdw htl k2;have a3:=Zdw htl k3;have a4:=Zdw hpl2 c0;have a5:=Zdw hpl2 c1;obtain ⟨X,hX,hPX,hTX,hBX,hzX,hcX,htX⟩:=Zgo (t:=t) hP2 hT2 hB2 (by omega) hc2;have HX:=Zq hX;have HPX:=Zq hPX;have HBX:=Zq hBX;have HTX:=Zq hTX;have HCX:=Zq hcX;have HTT:=Zq htX;have hat2:=hat.2;clear hX hPX hBX hTX hcX htX hat hP2 hT2 hB2 hc2 HS;go_wp2;go_region;rw [HX.out];clear a0 a1 a2 a3 a4 a5 c0 c1 f1 k0 k1 k2 k3 htl;obtain ⟨c0,c1,f1,hplX⟩:=HPX.out.cells;obtain ⟨⟨d0,d1,d2,d3⟩,e0,e1,e2,e3⟩:=ZdP HCX.out;obtain ⟨⟨g0,g1,g2,g3⟩,-⟩:=ZdP HTT.out;have n1:¬ w.heap.size=pb:=by omega
 have n2:¬ W2.heap.size=pb:=by omega
 have n3:¬ pb=w.heap.size:=by omega
 have n4:¬ pb=W2.heap.size:=by omega
 go_wp2;refine Yaf (v:=exV 2 0 t.s (.slice none 0 0)) ?_ rfl ?_
 . simp [results,Tryz.results172,go_sem,exV,strV,d0,d1,d2,d3]
 . exact ZdS (HBX.out.setPb 1 _) hpl (KV.nil _) (HPX.out.set _ _ rfl) HTL.out.symm _ _ _ _
theorem Zgr (pb p:Nat) (toks:List Tok) (tv:Value) (w:World) (hp:PSt w pb tv p) (hT:TokV (gb pb w) tv toks) (hE:Ended (toks.drop p)) (hl:toks.length<=1000)
 (h1:isSg [45] (hd (toks.drop p))=false) (h2:isSg [33] (hd (toks.drop p))=false) (h3:isSg [40] (hd (toks.drop p))=false) (hk1:(hd (toks.drop p)).k≠1) (hk2:(hd (toks.drop p)).k≠2) (hk3:(hd (toks.drop p)).k≠3) :
 Calls Tryz.prog 172 #[.pointer (some ⟨pb,0,none⟩)] w (Res pb tv toks (.bad (hd (toks.drop p)).p) w):=by
 have hpl:=hp.cells.2.2.2;have HS:=Zq (ZdV pb p toks tv w hp hT hE hl h1 h2 h3);have hat:=hE.at;have HTL:=Zq (ZdR toks p);have K1:((hd (toks.drop p)).k == 1)=false:=Zr hk1;have K2:((hd (toks.drop p)).k == 2)=false:=Zr hk2;have K3:((hd (toks.drop p)).k == 3)=false:=Zr hk3;clear hk1 hk2 hk3;generalize hd (toks.drop p)=t at *;clear h1 h2 h3 hE hp hT;go_in;go_wp2_with fail;refine HS.out.mono ?_;rintro e W2 ⟨rfl,hP2,hB2,hT2,hz2,hc2⟩;obtain ⟨ta,tcap,rfl⟩:=hT2.form;obtain ⟨tb,toff,rfl,k0,k1,k2,k3⟩:=TokV.at (SlV.mono hT2 (Zdu pb W2)) hat.1;obtain ⟨c0,c1,f1,hpl2⟩:=hP2.cells;have i1:(p:Int)<(toks.length:Int):=by have:=hat.2; omega
 have i0:(0:Int)<=(p:Int):=by omega
 have htl:tb<W2.heap.size:=Yan W2 _ k0;unfold strV at *;have a0:=Zdw htl k0;have a1:=Zdw htl k1;have a2:=Zdw htl k2;have a3:=Zdw htl k3;have a4:=Zdw hpl2 c0;have a5:=Zdw hpl2 c1;obtain ⟨X,hX,hPX,hTX,hBX,hzX,hcX,htX⟩:=Zgo (t:=t) hP2 hT2 hB2 (by omega) hc2;have HX:=Zq hX;have HPX:=Zq hPX;have HBX:=Zq hBX;have HTX:=Zq hTX;have HCX:=Zq hcX;have HTT:=Zq htX;have hat2:=hat.2;clear hX hPX hBX hTX hcX htX hat hP2 hT2 hB2 hc2 HS;go_wp2;go_region;rw [HX.out];clear a0 a1 a2 a3 a4 a5 c0 c1 f1 k0 k1 k2 k3 htl;obtain ⟨c0,c1,f1,hplX⟩:=HPX.out.cells;obtain ⟨⟨d0,d1,d2,d3⟩,e0,e1,e2,e3⟩:=ZdP HCX.out;obtain ⟨⟨g0,g1,g2,g3⟩,-⟩:=ZdP HTT.out;have n1:¬ w.heap.size=pb:=by omega
 have n2:¬ W2.heap.size=pb:=by omega
 have n3:¬ pb=w.heap.size:=by omega
 have n4:¬ pb=W2.heap.size:=by omega
 go_wp2;exact ⟨rfl,HBX.out,rfl⟩
theorem Zgs (pb p:Nat) (toks:List Tok) (tv:Value) (x:PR) (w:World) (hp:PSt w pb tv p) (hT:TokV (gb pb w) tv toks) (hE:Ended (toks.drop p)) (hl:toks.length<=1000)
 (h1:isSg [45] (hd (toks.drop p))=false) (h2:isSg [33] (hd (toks.drop p))=false) (h3:isSg [40] (hd (toks.drop p))=false) (hk:(hd (toks.drop p)).k=3)
 (hnam:∀ W,PSt W pb tv (p+1)->TokV (gb pb W) tv toks->Calls Tryz.prog 216 #[.pointer (some ⟨pb,0,none⟩),strV (hd (toks.drop p)).s] W (Res pb tv toks x W)) :
 Calls Tryz.prog 172 #[.pointer (some ⟨pb,0,none⟩)] w (Res pb tv toks x w):=by
 have hpl:=hp.cells.2.2.2;have HS:=Zq (ZdV pb p toks tv w hp hT hE hl h1 h2 h3);have hat:=hE.at;have HTL:=Zq (ZdR toks p);have K1:((hd (toks.drop p)).k == 1)=false:=by simp [hk]
 have K2:((hd (toks.drop p)).k == 2)=false:=by simp [hk]
 have K3:((hd (toks.drop p)).k == 3)=true:=by simp [hk]
 have HN:=Zq hnam;clear hk hnam;generalize hd (toks.drop p)=t at *;clear h1 h2 h3 hE hp hT;go_in;go_wp2_with fail;refine HS.out.mono ?_;rintro e W2 ⟨rfl,hP2,hB2,hT2,hz2,hc2⟩;obtain ⟨ta,tcap,rfl⟩:=hT2.form;obtain ⟨tb,toff,rfl,k0,k1,k2,k3⟩:=TokV.at (SlV.mono hT2 (Zdu pb W2)) hat.1;obtain ⟨c0,c1,f1,hpl2⟩:=hP2.cells;have i1:(p:Int)<(toks.length:Int):=by have:=hat.2; omega
 have i0:(0:Int)<=(p:Int):=by omega
 have htl:tb<W2.heap.size:=Yan W2 _ k0;unfold strV at *;have a0:=Zdw htl k0;have a1:=Zdw htl k1;have a2:=Zdw htl k2;have a3:=Zdw htl k3;have a4:=Zdw hpl2 c0;have a5:=Zdw hpl2 c1;obtain ⟨X,hX,hPX,hTX,hBX,hzX,hcX,htX⟩:=Zgo (t:=t) hP2 hT2 hB2 (by omega) hc2;have HX:=Zq hX;have HPX:=Zq hPX;have HBX:=Zq hBX;have HTX:=Zq hTX;have HCX:=Zq hcX;have HTT:=Zq htX;have hat2:=hat.2;clear hX hPX hBX hTX hcX htX hat hP2 hT2 hB2 hc2 HS;go_wp2;go_region;rw [HX.out];clear a0 a1 a2 a3 a4 a5 c0 c1 f1 k0 k1 k2 k3 htl;obtain ⟨c0,c1,f1,hplX⟩:=HPX.out.cells;obtain ⟨⟨d0,d1,d2,d3⟩,e0,e1,e2,e3⟩:=ZdP HCX.out;obtain ⟨⟨g0,g1,g2,g3⟩,-⟩:=ZdP HTT.out;have hP3:=HPX.out.set ((p:Int)+1) (p+1) (by omega);have hB3:But pb X (X.setCell ⟨pb,1,none⟩ (.int .i64 ((p:Int)+1))):=(But.refl pb X).setPb 1 _;have hT3:=SlV.mono HTX.out hB3.gb;have hc3:(X.setCell ⟨pb,1,none⟩ (.int .i64 ((p:Int)+1))).heap[w.heap.size]?=some zEx:=by rw [hB3.block _ (by omega) (by omega)]; exact HCX.out
 have hz3:(X.setCell ⟨pb,1,none⟩ (.int .i64 ((p:Int)+1))).heap.size=X.heap.size:=by simp [World.setCell]
 clear d0 d1 d2 d3 e0 e1 e2 e3;go_wp2_with fail;refine (HN.out _ hP3 hT3).mono ?_;cases x with
 | out=>rintro e W3 ⟨-,h⟩; exact h.elim
 | bad q =>rintro e W3 ⟨hB4,rfl⟩;go_wp2;exact ⟨rfl,(HBX.out.trans hB3).trans hB4,rfl⟩
 | ok ex r =>
  rintro e W3 ⟨hB4,⟨v,rfl,kv,rfl,hK⟩,p',hd3,hP4⟩;have hc4:W3.heap[w.heap.size]?=some zEx:=(by rw [hB4.block _ (by omega) (by omega)]; exact hc3);obtain ⟨ka,kc,rfl⟩:=hK.form;obtain ⟨⟨c0,c1,c2,c3⟩,f0,f1,f2,f3⟩:=ZdP hc4;have HK:=Zq hK;have HD:=Zq hd3;have hBW:=(HBX.out.trans hB3).trans hB4;unfold exV strV;clear hK hd3 hc4 hc3 hT3 hB3 hP3;go_wp2;refine Yaf (v:=exV ex.op ex.n ex.s (.slice ka ex.ks.length kc)) ?_ rfl ?_
  . simp [results,Tryz.results172,go_sem,exV,strV,c0,c1,c2,c3]
  . rw [Ex.eta ex];exact ZdS hBW hpl (HK.out.into (by omega) (fun b _ _=>rfl)) hP4 HD.out _ _ _ _
def zeroE (W:World) (B:Nat):Prop:=W.heap[B]?=some zEx
def TwoOK (f:Nat):Prop:=∀ (n pb p:Nat) (toks:List Tok) (tv:Value) (w:World),n<=5->PSt w pb tv p->TokV (gb pb w) tv toks->Ended (toks.drop p)->toks.length<=1000->parseJ f (.two n) (toks.drop p) ≠ .out ->
 Calls Tryz.prog 121 #[.pointer (some ⟨pb,0,none⟩),.int .i64 n] w (Res pb tv toks (parseJ f (.two n) (toks.drop p)) w)
def OneOK (f:Nat):Prop:=∀ (pb p:Nat) (toks:List Tok) (tv:Value) (w:World),PSt w pb tv p->TokV (gb pb w) tv toks->Ended (toks.drop p)->toks.length<=1000->parseJ f .one (toks.drop p) ≠ .out ->
 Calls Tryz.prog 172 #[.pointer (some ⟨pb,0,none⟩)] w (Res pb tv toks (parseJ f .one (toks.drop p)) w)
theorem Zgt (f n pb p:Nat) (toks:List Tok) (tv:Value) (w:World) (hn:4<n) (hn5:n<=5) (hp:PSt w pb tv p) (hT:TokV (gb pb w) tv toks) (hE:Ended (toks.drop p)) (hl:toks.length<=1000)
 (hne:parseJ (f+1) (.two n) (toks.drop p) ≠ .out) (ih:OneOK f) :
 Calls Tryz.prog 121 #[.pointer (some ⟨pb,0,none⟩),.int .i64 n] w (Res pb tv toks (parseJ (f+1) (.two n) (toks.drop p)) w):=by
 have he:parseJ (f+1) (.two n) (toks.drop p)=parseJ f .one (toks.drop p):=by
  conv=>lhs; unfold parseJ
  rw [if_pos hn]
 rw [he] at hne |-;have hpl:=hp.cells.2.2.2;have hb0:Below w.heap.size w (w.alloc zEx):=(Yab w.heap.size w).alloc Zs _;have hz0:zeroE (w.alloc zEx) w.heap.size:=Yac w _;have HC:=Zq (ih pb p toks tv _ (hp.keep hb0) (SlV.mono hT (But.below (pb:=pb) hb0).gb) hE hl hne);have hB0:But pb w (w.alloc zEx):=But.below hb0;have hsz:(w.alloc zEx).heap.size=w.heap.size+1:=by simp
 generalize parseJ f .one (toks.drop p)=x at *;have i1:(4:Int)<(n:Int):=by omega
 clear hn he ih hp hT hE hne hb0;go_in;go_wp2_with fail;refine HC.out.mono ?_;clear HC;generalize w.alloc zEx=W0 at *;cases x with
 | out=>rintro e W3 ⟨-,h⟩; exact h.elim
 | bad q =>rintro e W3 ⟨hB4,rfl⟩;go_wp2;exact ⟨rfl,hB0.trans hB4,rfl⟩
 | ok ex r =>
  rintro e W3 ⟨hB4,⟨v,rfl,kv,rfl,hK⟩,p',hd3,hP4⟩;have hc4:zeroE W3 w.heap.size:=(by unfold zeroE at *; rw [hB4.block _ (by omega) (by omega)]; exact hz0);obtain ⟨ka,kc,rfl⟩:=hK.form;obtain ⟨⟨c0,c1,c2,c3⟩,f0,f1,f2,f3⟩:=ZdP hc4;have HK:=Zq hK;have HD:=Zq hd3;have hBW:=hB0.trans hB4;unfold exV strV;clear hK hd3 hc4 hz0 hB0;go_wp2;refine Yaf (v:=exV ex.op ex.n ex.s (.slice ka ex.ks.length kc)) ?_ rfl ?_
  . simp [results,Tryz.results121,go_sem,exV,strV,c0,c1,c2,c3]
  . rw [Ex.eta ex];exact ZdS hBW hpl (HK.out.into (by omega) (fun b _ _=>rfl)) hP4 HD.out _ _ _ _
theorem Zgu {P:Program} {t:Tag} {w:World} {ops:Array Oper} {o:Oper} {a:Act} {K:Act->World->Prop} {Q:Exit->Act->World->Prop} {E:Prop} (hgd:o.guard=none) (s x:Operand) (st:TypeId)
 (ho:o.op = .call { callee := .builtin .append,args:=#[s,x],argTypes:=#[st,st] })
 (e:TypeId) (i:TypeInfo) (z:Value) (size bytes:Nat) (ht:P.underlying st=some (.slice e)) (hi:P.info? e=some i) (hz:i.zero=some z)
 (hsize:i.size=size) (hby:i.bytes=bytes) (hzs:z.cells.size=size) (hsz:0<size)
 {k:Nat} {v:Value} {n:Nat} {xs:List Value} (hs:a.eval s=v) (hown:Row t k w e size v n xs) (cs:Array Value) (ce:TypeId) (fr:Nat × Nat)
 (g0:Nat) (hx:a.eval x = .slice (some ⟨g0,0,none⟩) 1 1) (hg0:g0=w.heap.size) (hl:cs.size=size) (h1:∀ u∈cs.toList,u.oneCell'=true)
 (h63:n+1<=maxLen) (hbytes:(n+1)*bytes<=140737488355328)
 (h:∀ v' t' w',Row t' k w' e size v' (n+1) (xs++cs.toList)->Evo t w t' w' (·=k)->K (a.put o.dst v') w') :
 if Region.wanted o (yielded ops a.tmps)=true then Oper.wp P o a (w.alloc (.cells cs ce fr)) K Q else E:=by
 have hw:Region.wanted o (yielded ops a.tmps)=true:=by simp [Region.wanted,hgd]
 rw [if_pos hw];subst hg0;have ev0:Evo t w (t.set w.heap.size (k+1)) (w.alloc (.cells cs ce fr)) (·=k):=(Ybg t w _).alloc (k+1) _;have ev1:Evo t w (t.set w.heap.size (k+1)) (w.alloc (.cells cs ce fr)) (fun _=>False):=(Ybg t w _).alloc (k+1) _;obtain ⟨v',t',w',hrun,hr,he,_⟩:=Zaa (P:=P) o.type st e i z size bytes ht hi hz hsize hby hzs hsz (hown.keep ev1 (by simp)) ⟨w.heap.size,0,none⟩ 1 1 cs.toList (by simpa using hl) (fun j u hj=>by have hadd:(⟨w.heap.size,0,none⟩:Addr).add j=⟨w.heap.size,j,none⟩:=(by unfold Addr.add; split<;>simp_all);rw [hadd];have hg:(w.alloc (.cells cs ce fr)).heap[w.heap.size]?=some (.cells cs ce fr):=Yac w _;rw [cell_of_row _ _ j cs ce fr hg];simpa using hj) h1 h63 hbytes;have hK:=h v' t' w' hr (ev0.trans he);unfold Oper.wp;simp [execOp,ho,resolve,invoke,builtin,hs,hx,hrun,Result.andThen];exact hK
def exCells (x:Ex × Value):List Value:=[.int .i64 x.1.op,.int .i64 x.1.n,strV x.1.s,x.2]
theorem Zgv (x:Ex × Value):(exCells x).length=4:=rfl
structure ArgIn (n0 pb B5:Nat) (tau:Tag) (tv:Value) (toks:List Tok) (W:World) (p:Nat) (op:Int) (l:List (Ex × Value)) (sv:Value):Prop where
 st:PSt W pb tv p
 tok:TokV (gp (fun b=>b<n0/\b≠pb) W) tv toks
 z:zeroE W n0
 c:W.heap[B5]?=some (.cells #[.int .i64 op,.int .i64 0,.string ⟨#[]⟩,sv] 83 (0,0))
 row:Row tau 1 W 83 4 sv l.length (l.flatMap exCells)
 k:∀ x∈l,KV (gp (fun b=>(n0<b/\b≠B5)/\tau b≠1) W) x.2 x.1.ks
 ge:∀ b,tau b=1->(n0<b/\b≠B5)/\b<W.heap.size
 lt:n0<B5
 pb:pb<n0
section
variable {n0 pb B5 : Nat} {tau : Tag} {tv : Value} {toks : List Tok} {W : World} {p : Nat} {op : Int} {l : List (Ex × Value)} {sv : Value}
theorem ArgIn.lts (h:ArgIn n0 pb B5 tau tv toks W p op l sv):n0<W.heap.size/\B5<W.heap.size:=by have z:=h.z;unfold zeroE at z;exact ⟨(Yaa.1 z).1,(Yaa.1 h.c).1⟩
theorem ArgIn.tokb (h:ArgIn n0 pb B5 tau tv toks W p op l sv):TokV (gb pb W) tv toks:=SlV.mono h.tok (ZdL W (fun h=>h.2 rfl))
theorem ArgIn.but {W':World} {p':Nat} (h:ArgIn n0 pb B5 tau tv toks W p op l sv) (hB:But pb W W') (hP:PSt W' pb tv p'):ArgIn n0 pb B5 tau tv toks W' p' op l sv:=by
 have hpb:=h.pb;have hlt:=h.lt;have z:=h.z;have c:=h.c;obtain ⟨l1,l2⟩:=h.lts;unfold zeroE at z;have hpt:tau pb≠1:=fun e=>by have:=(h.ge pb e).1.1; omega
 have hE:Evo tau W tau W' (·=tau pb):=⟨hB.os,hB.tape,hB.output,hB.size,fun _ _=>rfl,fun b hb hn=>hB.block b hb (fun e=>hn (by rw [e]))⟩;have hs:=hB.size;exact ⟨hP,SlV.mono h.tok (ZdJ fun b hb hl=>⟨hb,hB.block _ hl hb.2⟩),by unfold zeroE; rw [hB.block _ l1 (by omega)]; exact z,by rw [hB.block _ l2 (by omega)]; exact c,
  h.row.keep hE (fun e=>hpt e.symm),fun x hx=>(h.k x hx).mono (ZdJ fun b hb hl=>⟨hb,hB.block _ hl (by omega)⟩),fun b hb=>⟨(h.ge b hb).1,by have:=(h.ge b hb).2; omega⟩,hlt,hpb⟩
theorem ArgIn.keep {W':World} (h:ArgIn n0 pb B5 tau tv toks W p op l sv) (hB:Below W.heap.size W W'):ArgIn n0 pb B5 tau tv toks W' p op l sv:=h.but (But.below hB) (h.st.keep hB)
theorem ArgIn.kv (h:ArgIn n0 pb B5 tau tv toks W p op l sv):KV (gp (fun b=>n0<b/\b≠B5) W) sv (l.map Prod.fst):=by
 obtain ⟨a,cap,hv,h1,h2,h3,h4⟩:=SlV.ofRow exCells l (⟨.mk 0 0 [] [],.nilIface⟩:Ex × Value) (by decide) Zgv h.row;have ht:=h.row.tag;subst hv;have hlm:l.length=(l.map Prod.fst).length:=by simp
 rw [hlm] at h1 h2 h4 |-;have hbk:∀ b off,a=some ⟨b,off,none⟩->n0<b/\b≠B5:=by intro b off e;subst e;exact (h.ge b (ht b rfl)).1
 have hcell:∀ (b off i:Nat) (x:Value),a=some ⟨b,off,none⟩->(gh W).cell b i=some x->(gp (fun b=>n0<b/\b≠B5) W).cell b i=some x:=by intro b off i x e hc;unfold GH.cell gp;rw [if_pos (hbk b off e)];exact hc
 have hget:∀ (j:Nat) (k:Ex),(l.map Prod.fst)[j]?=some k->j<(l.map Prod.fst).length/\∃ x∈l,l.getD j ⟨.mk 0 0 [] [],.nilIface⟩=x/\x.1=k:=by
  intro j k hj;obtain ⟨hjl,-⟩:=Yag.1 hj;rw [Yax] at hj;cases hx:l[j]? with
  | none=>rw [hx] at hj; cases hj
  | some x =>rw [hx] at hj;simp only [Option.map_some,Yai] at hj;refine ⟨hjl,x,Yay hx,?_,hj⟩;rw [Yau,hx]; rfl
 refine .mk (l.map Prod.fst) a cap (fun j=>(l.getD j ⟨.mk 0 0 [] [],.nilIface⟩).2) (fun e=>?_) h2 h3 (fun j k hj=>?_) (fun j k hj=>?_)
 . have:=h1 e;exact ⟨Yal this.1,this.2⟩
 . obtain ⟨hjl,x,hx,hg,rfl⟩:=hget j k hj;have e0:=h4 j 0 _ hjl (by simp only [hg]; rfl);have e1:=h4 j 1 _ hjl (by simp only [hg]; rfl);have e2:=h4 j 2 _ hjl (by simp only [hg]; rfl);have e3:=h4 j 3 _ hjl (by simp only [hg]; rfl);obtain ⟨b,off,ha,c0⟩:=e0;obtain ⟨b1,off1,ha1,c1⟩:=e1;obtain ⟨b2,off2,ha2,c2⟩:=e2;obtain ⟨b3,off3,ha3,c3⟩:=e3;rw [ha] at ha1 ha2 ha3;simp only [Yai,Ybd,and_true] at ha1 ha2 ha3;obtain ⟨rfl,rfl⟩:=ha1;obtain ⟨rfl,rfl⟩:=ha2;obtain ⟨rfl,rfl⟩:=ha3;refine ⟨b,off,ha,?_,?_,?_,?_⟩
   . have:=hcell b off _ _ ha c0; rw [show off+(4*j+0)=off+j*4 by omega] at this; exact this
   . have:=hcell b off _ _ ha c1; rw [show off+(4*j+1)=off+j*4+1 by omega] at this; exact this
   . have:=hcell b off _ _ ha c2; rw [show off+(4*j+2)=off+j*4+2 by omega] at this; exact this
   . have:=hcell b off _ _ ha c3; rw [show off+(4*j+3)=off+j*4+3 by omega] at this; simp only [hg]; exact this
 . obtain ⟨hjl,x,hx,hg,rfl⟩:=hget j k hj;simp only [hg];exact (h.k x hx).mono (ZdJ fun b hb _=>⟨hb.1,rfl⟩)
theorem ArgIn.app {t':Tag} {w':World} {v':Value} {e:Ex} {u:Value} (h:ArgIn n0 pb B5 tau tv toks W p op l sv) (hr:Row t' 1 w' 83 4 v' (l.length+1) (l.flatMap exCells++exCells (e,u)))
 (he:Evo tau W t' w' (·=1)) (hu:KV (gp (fun b=>(n0<b/\b≠B5)/\tau b≠1) W) u e.ks) :
 ∃ t2,ArgIn n0 pb B5 t2 tv toks (w'.setCell ⟨B5,3,none⟩ v') p op (l++[(e,u)]) v'/\∀ w0:World,w0.heap.size=n0->But pb w0 W->But pb w0 (w'.setCell ⟨B5,3,none⟩ v'):=by
 have hpb:=h.pb;have hlt:=h.lt;have z:=h.z;have c:=h.c;obtain ⟨l1,l2⟩:=h.lts;have st:=h.st;unfold zeroE PSt at *;have lp:=(Yaa.1 st).1;have nt:∀ b,¬ (n0<b/\b≠B5)->tau b≠1:=fun b hb e=>hb (h.ge b e).1;have hblk:∀ b,b<W.heap.size->tau b≠1->w'.heap[b]?=W.heap[b]?:=fun b hb hn=>he.block b hb hn;have hset:∀ b,b≠B5->(w'.setCell ⟨B5,3,none⟩ v').heap[b]?=w'.heap[b]?:=fun b hb=>Yat _ _ _ _ (fun e=>hb e);have hlive:∀ b,v'.ownBlock=some b->b<w'.heap.size:=by
  intro b hb;rcases hr.own.2 with ⟨rfl,hn⟩|⟨g,cap,cur,rfl,hbg,hgg,hn,hc,hs,ht⟩
  . simp [Value.ownBlock] at hb
  . simp [Value.ownBlock] at hb;subst hb;exact (Yaa.1 hgg).1
 have hs:=he.size;have hnew:∀ b,b<w'.heap.size->t' b=1->n0<b/\b≠B5:=by
  intro b hb e;by_cases hbl:b<W.heap.size
  . rw [he.tag b hbl] at e; exact (h.ge b e).1
  . exact ⟨by omega,by omega⟩
 refine ⟨fun b=>if b<w'.heap.size then t' b else 0,⟨?_,?_,?_,?_,?_,?_,?_,hlt,hpb⟩,?_⟩
 . unfold PSt; rw [hset _ (by omega),hblk _ lp (nt _ (by omega))]; exact st
 . refine SlV.mono h.tok (ZdJ fun b hb hl=>⟨hb,?_⟩);rw [hset _ (by omega),hblk _ hl (nt _ (by omega))]
 . unfold zeroE; rw [hset _ (by omega),hblk _ l1 (nt _ (by omega))]; exact z
 . have hc2:w'.heap[B5]?=some (.cells #[.int .i64 op,.int .i64 0,.string ⟨#[]⟩,sv] 83 (0,0)):=(by rw [hblk _ l2 (nt _ (by omega))]; exact c);simp [World.setCell,Yap,hc2]
 . have hfl:(l++[(e,u)]).flatMap exCells=l.flatMap exCells++exCells (e,u):=(by rw [List.flatMap_append]; simp);rw [hfl,Yak];have hr2:Row (fun b=>if b<w'.heap.size then t' b else 0) 1 w' 83 4 v' (l.length+1) (l.flatMap exCells++exCells (e,u)):=⟨hr.own,fun g hg=>by show (if g<w'.heap.size then t' g else 0)=1;rw [if_pos (hlive g hg)]; exact hr.tag g hg⟩;refine hr2.keep (w':=w'.setCell ⟨B5,3,none⟩ v') (K:=fun x=>x≠1) ((Ybg _ w' _).setCell ⟨B5,3,none⟩ v' ?_) (by simp);show (if B5<w'.heap.size then t' B5 else 0)≠1;rw [if_pos (by omega),he.tag _ l2];exact nt _ (by omega)
 . have hle:(gp (fun b=>(n0<b/\b≠B5)/\tau b≠1) W).le (gp (fun b=>(n0<b/\b≠B5)/\(if b<w'.heap.size then t' b else 0)≠1) (w'.setCell ⟨B5,3,none⟩ v')) :=
    ZdJ fun b hb hl=>⟨⟨hb.1,by rw [if_pos (by omega),he.tag b hl]; exact hb.2⟩,by rw [hset _ hb.1.2,hblk _ hl hb.2]⟩
   intro x hx;rcases List.mem_append.1 hx with hx|hx
   . exact (h.k x hx).mono hle
   . simp only [List.mem_singleton] at hx;subst hx;exact hu.mono hle
 . intro b hb;have hb2:(if b<w'.heap.size then t' b else 0)=1:=hb;by_cases hl:b<w'.heap.size
   . rw [if_pos hl] at hb2;exact ⟨hnew b hl hb2,by simp [World.setCell]; exact hl⟩
   . rw [if_neg hl] at hb2; omega
 . intro w0 h0 hB;refine But.setNew ⟨he.os.trans hB.os,he.tape.trans hB.tape,he.output.trans hB.output,Nat.le_trans hB.size hs,fun b hb hn=>?_⟩ (p:=⟨B5,3,none⟩) (by show w0.heap.size<=B5; omega) v';have:=hB.size;rw [hblk b (by omega) (nt _ (by omega))];exact hB.block b hb hn
end
def namX (f:Nat) (s:Bs) (rest:List Tok):PR :=
 if word s=false then .ok (.mk 4 0 s []) rest
 else if s=wTrue then .ok (.mk 3 1 [] []) rest
 else if s=wFalse then .ok (.mk 3 0 [] []) rest
 else if isSg [40] (hd rest) then parseJ f (.args (opOf s) (arOf s) []) rest.tail
 else .bad (hd rest).p
theorem Zgw {f:Nat} {ts:List Tok} (hk:(hd ts).k=3):parseJ (f+1) .one ts=namX f (hd ts).s ts.tail:=by have h1:∀ s,isSg s (hd ts)=false:=fun s=>Yaj (fun h=>by have:=h.1; omega);unfold parseJ namX;simp [h1,hk]
theorem Zgx (pb p:Nat) (toks:List Tok) (tv:Value) (w:World) (hp:PSt w pb tv p) (hT:TokV (gb pb w) tv toks) :
 But pb w (w.alloc zEx)/\PSt (w.alloc zEx) pb tv p/\zeroE (w.alloc zEx) w.heap.size :=
 ⟨But.below ((Yab w.heap.size w).alloc Zs _),hp.keep ((Yab w.heap.size w).alloc Zs _),Yac w _⟩
theorem word_tf:word wTrue=true/\word wFalse=true:=by decide
theorem Zgy (pb p:Nat) (toks:List Tok) (tv:Value) (w:World) (s:Bs) (ex:Ex) (hp:PSt w pb tv p) (hT:TokV (gb pb w) tv toks)
 (hs:(word s=false/\ex = .mk 4 0 s [])\/(s=wTrue/\ex = .mk 3 1 [] [])\/(s=wFalse/\ex = .mk 3 0 [] [])) :
 Calls Tryz.prog 216 #[.pointer (some ⟨pb,0,none⟩),strV s] w (Res pb tv toks (.ok ex (toks.drop p)) w):=by
 have hpl:=hp.cells.2.2.2;obtain ⟨hB0,hP0,hz0⟩:=Zgx pb p toks tv w hp hT;have fin:∀ (op n:Int) (t:Bs),Res pb tv toks (.ok (.mk op n t []) (toks.drop p)) w (.returned (exV op n t (.slice none 0 0))) (w.alloc (cEx op n t (.slice none 0 0))):=fun op n t =>
  ⟨But.below ((Yab w.heap.size w).alloc Zs _),⟨_,rfl,_,rfl,KV.nil _⟩,p,rfl,hp.keep ((Yab w.heap.size w).alloc Zs _)⟩
 have FIN:=Zq fin;clear fin hp hT hB0 hP0 hz0;rcases hs with ⟨hs,rfl⟩|⟨rfl,rfl⟩|⟨rfl,rfl⟩
 . have HW:=Zq (ZcR s);rw [hs] at HW;clear hs;unfold strV at *;go_in;go_wp2_with fail;refine (HW.out _).mono ?_;rintro e W2 ⟨rfl,rfl⟩;go_wp2;refine Yaf (v:=exV 4 0 s (.slice none 0 0)) ?_ rfl (FIN.out 4 0 s);simp [results,Tryz.results216,go_sem,exV,strV]
 . have HW:=Zq (ZcR wTrue);rw [word_tf.1] at HW;unfold strV at *;simp only [wTrue] at *;go_in;go_wp2_with fail;refine (HW.out _).mono ?_;rintro e W2 ⟨rfl,rfl⟩;go_wp2;refine Yaf (v:=exV 3 1 [] (.slice none 0 0)) ?_ rfl (FIN.out 3 1 []);simp [results,Tryz.results216,go_sem,exV,strV]
 . have HW:=Zq (ZcR wFalse);rw [word_tf.2] at HW;unfold strV at *;simp only [wFalse] at *;go_in;go_wp2_with fail;refine (HW.out _).mono ?_;rintro e W2 ⟨rfl,rfl⟩;go_wp2;refine Yaf (v:=exV 3 0 [] (.slice none 0 0)) ?_ rfl (FIN.out 3 0 []);simp [results,Tryz.results216,go_sem,exV,strV]
end Go.Proofs.YtikannmgllejfaaGreatDoor
