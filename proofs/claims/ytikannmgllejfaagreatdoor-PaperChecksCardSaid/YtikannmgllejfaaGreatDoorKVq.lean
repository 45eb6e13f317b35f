/- The walk of (*parser). -/
import Derived.Test.YtikannmgllejfaaGreatDoorKVd
import Derived.Test.YtikannmgllejfaaGreatDoorKVp
import Derived.IntWalk
set_option maxHeartbeats 8000000
set_option maxRecDepth 1000000
set_option linter.all false
namespace Go.Proofs.YtikannmgllejfaaGreatDoor
open Go.RowKit Pal
def calls6:List Bs:=[wIf,wLen,wCat,wCut,wUp,wHas]
theorem ZgU {s:Bs} (h:word s=true) (h1:¬ s=wTrue) (h2:¬ s=wFalse):s∈calls6:=by
 unfold word at h;simp only [List.contains_eq_mem,decide_eq_true_eq,Ybc,List.mem_nil_iff,or_false] at h;unfold calls6;simp only [Ybc,List.mem_nil_iff,or_false];rcases h with h|h|h|h|h|h|h|h
 . exact absurd h h1
 . exact absurd h h2
 all_goals simp [h]
theorem ZgV (s : Bs) : 1 <= arOf s /\ arOf s <= 3 := by unfold arOf; repeat' split
                                                        all_goals omega
theorem infoEx:(Tryz.prog.info? 83).map (fun i=>(i.zero,i.size,i.bytes))=some (some (.agg #[.int .i64 0,.int .i64 0,.string ⟨#[]⟩,.slice none 0 0]),4,56):=by kernel_rfl
def call0 (w:World) (op:Int):World:=(w.alloc zEx).alloc (.cells #[.int .i64 op,.int .i64 0,.string ⟨#[]⟩,.slice none 0 0] 83)
theorem ZgW (pb p:Nat) (toks:List Tok) (tv:Value) (w:World) (op:Int) (hp:PSt w pb tv p) (hT:TokV (gb pb w) tv toks) :
 ArgIn w.heap.size pb (w.heap.size+1) T0 tv toks (call0 w op) p op [] (.slice none 0 0)/\But pb w (call0 w op):=by
 have hB:But pb w (call0 w op):=((But.refl pb w).alloc _).alloc _;have hpl:=hp.cells.2.2.2;refine ⟨⟨(hp.keep ((Yab w.heap.size w).alloc Zs _)).keep ((Yab _ _).alloc Zs _),?_,?_,?_,Row.nil _ _ _ _ _,by simp,fun b h=>by simp [T0] at h,by omega,hpl⟩,hB⟩
 . exact SlV.mono hT (fun b o hh=>by
    unfold gb at hh;unfold gp;split at hh
    . cases hh
    . rename_i hn;have hl:=(Yaa.1 hh).1;rw [if_pos ⟨hl,hn⟩,hB.block b hl hn]; exact hh)
 . unfold zeroE call0;rw [Yah _ _ _ (by simp)];exact Yac w _
 . have:=Yac (w.alloc zEx) (.cells #[.int .i64 op,.int .i64 0,.string ⟨#[]⟩,.slice none 0 0] 83);rw [show (w.alloc zEx).heap.size=w.heap.size+1 by simp] at this;exact this
theorem ArgIn.tokw {n0 pb B5:Nat} {tau:Tag} {tv:Value} {toks:List Tok} {W:World} {p:Nat} {op:Int} {l:List (Ex × Value)} {sv:Value} (h:ArgIn n0 pb B5 tau tv toks W p op l sv) (t:Tok) :
 ∃ X,(W.alloc (.cells #[.int .i64 t.k,.string ⟨t.s.toArray⟩,.int .i64 t.n,.int .i64 t.p] 114)).drew=X/\ArgIn n0 pb B5 tau tv toks X p op l sv/\(∀ w0,But pb w0 W->But pb w0 X)/\W.heap.size<X.heap.size /\
  X.heap[W.heap.size]?=some (.cells #[.int .i64 t.k,.string ⟨t.s.toArray⟩,.int .i64 t.n,.int .i64 t.p] 114 (0,0)):=by have hb:Below W.heap.size W (W.alloc (.cells #[.int .i64 t.k,.string ⟨t.s.toArray⟩,.int .i64 t.n,.int .i64 t.p] 114)).drew:=((Yab _ _).alloc Zs _).drew;exact ⟨_,rfl,h.keep hb,fun w0 hB=>hB.call hb,by simp,Yac W _⟩
theorem ArgIn.appc {n0 pb B5:Nat} {tau t':Tag} {tv:Value} {toks:List Tok} {W w':World} {p:Nat} {op:Int} {l:List (Ex × Value)} {sv:Value} (h:ArgIn n0 pb B5 tau tv toks W p op l sv) (he:Evo tau W t' w' (·=1)) :
 w'.heap[B5]?=some (.cells #[.int .i64 op,.int .i64 0,.string ⟨#[]⟩,sv] 83 (0,0)):=by rw [he.block B5 h.lts.2 (fun e=>(h.ge B5 e).1.2 rfl)]; exact h.c
theorem ArgIn.newk {n0 pb B5:Nat} {tau:Tag} {tv:Value} {toks:List Tok} {X W:World} {p:Nat} {op:Int} {l:List (Ex × Value)} {sv v:Value} {ks:List Ex} (h:ArgIn n0 pb B5 tau tv toks X p op l sv) (hk:KV (gn X.heap.size W) v ks) :
 KV (gp (fun b=>(n0<b/\b≠B5)/\tau b≠1) W) v ks:=by have:=h.lts;exact hk.mono (ZdJ fun b hb _=>⟨⟨⟨by omega,by omega⟩,fun e=>by have:=(h.ge b e).2; omega⟩,rfl⟩)
theorem ArgIn.drew {n0 pb B5:Nat} {tau:Tag} {tv:Value} {toks:List Tok} {W:World} {p:Nat} {op:Int} {l:List (Ex × Value)} {sv:Value} (h:ArgIn n0 pb B5 tau tv toks W p op l sv):ArgIn n0 pb B5 tau tv toks W.drew p op l sv :=
 h.but ((But.refl pb W).drew) h.st
theorem one4 (a b:Int) (s:ByteArray) (x:Option Addr) (n c:Nat):∀ u∈(#[.int .i64 a,.int .i64 b,.string s,.slice x n c]:Array Value).toList,u.oneCell'=true:=by intro u hu;simp only [Ybc,List.mem_nil_iff,or_false] at hu;rcases hu with rfl|rfl|rfl|rfl<;>rfl
theorem ZgX {g:Nat} {op:Int} {ks:List Ex} {ts:List Tok}:parseJ (g+1) (.args op 0 ks) ts=if isSg [41] (hd ts) then .ok (.mk op 0 [] ks) ts.tail else .bad (hd ts).p:=by conv=>lhs; unfold parseJ
def argX (g:Nat) (op:Int) (left:Nat) (ks:List Ex) (ts:List Tok):PR :=
 if op=22 then
  if (hd ts).k≠3\/word (hd ts).s=true then .bad (hd ts).p
  else parseJ g (.args op left (ks++[.mk 4 0 (hd ts).s []])) ts.tail
 else (parseJ g (.two 0) ts).then fun e r=>parseJ g (.args op left (ks++[e])) r
theorem ZgY {g left:Nat} {op:Int} {ts:List Tok}:parseJ (g+1) (.args op (left+1) []) ts=argX g op left [] ts:=by
 conv=>lhs; unfold parseJ
 simp only [ne_eq,not_true_eq_false,false_and,if_false,if_true];rfl
theorem ZgZ {g left:Nat} {op:Int} {ks:List Ex} {ts:List Tok} (hk:ks≠[]) (hs:isSg [44] (hd ts)=false):parseJ (g+1) (.args op (left+1) ks) ts = .bad (hd ts).p:=by
 conv=>lhs; unfold parseJ
 simp only [ne_eq,hk,not_false_eq_true,true_and,hs,if_true]
theorem Zg0 {g left:Nat} {op:Int} {ks:List Ex} {ts:List Tok} (hk:ks≠[]) (hs:isSg [44] (hd ts)=true):parseJ (g+1) (.args op (left+1) ks) ts=argX g op left ks ts.tail:=by
 conv=>lhs; unfold parseJ
 simp only [ne_eq,hk,not_false_eq_true,true_and,hs,Bool.true_eq_false,if_false];rfl
theorem Zg1 (f pb p:Nat) (toks:List Tok) (tv:Value) (w:World) (s:Bs) (X:PR) (hp:PSt w pb tv p) (hT:TokV (gb pb w) tv toks) (hE:Ended (toks.drop p)) (hl:toks.length<=1000)
 (hs:s∈calls6) (hX:(if isSg [40] (hd (toks.drop p)) then parseJ f (.args (opOf s) (arOf s) []) (toks.drop p).tail else .bad (hd (toks.drop p)).p)=X) (hne:X ≠ .out)
 (ih:∀ g,g<f->TwoOK g) (ih1:∀ g,g<f->OneOK g) :
 Calls Tryz.prog 216 #[.pointer (some ⟨pb,0,none⟩),strV s] w (Res pb tv toks X w):=by
 obtain ⟨tin,hin,tz0,tz1,tz2⟩:=info_parts infoEx;obtain ⟨hA,hB⟩:=ZgW pb p toks tv w (opOf s) hp hT;have hat:=hE.at.1;have hpl:=hp.cells.2.2.2;have hw:word s=true:=by unfold word; unfold calls6 at hs;simp only [Ybc,List.mem_nil_iff,or_false] at hs;rcases hs with rfl|rfl|rfl|rfl|rfl|rfl<;>decide
 have hs1:(s == [116,114,117,101])=false:=Zr (fun e=>by subst e; revert hs; decide);have hs2:(s == [102,97,108,115,101])=false:=Zr (fun e=>by subst e; revert hs; decide);have HW:=Zq (ZcR s);rw [hw] at HW;have HC:=Zq (fun w=>ZdE s w (by unfold calls6 at hs; exact hs));have har:=ZgV s;clear hs hw hp hT;unfold strV at *;generalize hop:opOf s=op at *;generalize har2:arOf s=ar at *;clear hop har2;cases hsg:isSg [40] (hd (toks.drop p)) with
 | false =>have HM:=Zq (ZdA pb p toks _ [40] tv _ hA.st hA.tokb hat hl hsg);rw [hsg,if_neg (by simp)] at hX;subst hX;unfold call0 strV at *;clear hE hsg hat ih ih1;go_in;go_wp2_with fail;refine (HW.out _).mono ?_;rintro e W2 ⟨rfl,rfl⟩;go_wp2_with fail;refine (HC.out _).mono ?_;rintro e W2 ⟨rfl,rfl⟩;go_wp2_with fail;refine HM.out.mono ?_;rintro e W3 ⟨hB3,rfl⟩;go_wp2;exact ⟨rfl,hB.trans hB3,rfl⟩
 | true =>
  have HM:=Zq (ZdB pb p toks _ [40] tv _ hA.st hA.tokb hat hl hsg (by simp));rw [hsg,if_pos rfl,ZdR] at hX;have hE1:Ended (toks.drop (p+1)):=(by rw [<-ZdR]; exact hE.tail (by have:=Zbb hsg; omega));have HA:=Zq hA;have HB:=Zq hB;have HX:=Zq hX;have HI:=Zq ih;have HI1:=Zq ih1;unfold call0 strV at HM;clear hE hsg hat hA hB hX ih ih1;go_in;go_wp2_with fail;refine (HW.out _).mono ?_;rintro e W2 ⟨rfl,rfl⟩;go_wp2_with fail;refine (HC.out _).mono ?_;rintro e W2 ⟨rfl,rfl⟩;go_wp2_with fail;refine HM.out.mono ?_;rintro e W3 ⟨hB3,rfl,hP3⟩;have hA3:=HA.out.but hB3 hP3;have hBW:=HB.out.trans hB3;clear HM hB3 hP3 HA HB;go_wp2;go_loopg [33] f (fun g i wr=>∃ (tau:Tag) (p' left:Nat) (l:List (Ex × Value)) (sv:Value),i = .int .i64 l.length/\ArgIn w.heap.size pb (w.heap.size+1) tau tv toks wr p' op l sv/\But pb w wr/\Ended (toks.drop p')/\g<=f/\l.length+left=ar/\Hid (parseJ g (.args op left (l.map Prod.fst)) (toks.drop p')=X));(case atStart=>exact ⟨T0,p+1,ar,[],_,rfl,hA3,hBW,hE1,Nat.le_refl _,by simp,HX⟩);case round =>
   obtain ⟨tau,p',left,l,sv,rfl,hA,hB,hE,hg,hleft,HX⟩:=hrel;have hat:=hE.at.1;cases gk with
   | zero=>exact absurd HX.out.symm hne
   | succ g =>
   cases left with
   | zero =>
    rw [ZgX] at HX;have hi:¬ ((l.length:Int)<(ar:Int)):=(by omega);cases hsg:isSg [41] (hd (toks.drop p')) with
    | false =>have HM:=Zq (ZdA pb p' toks _ [41] tv _ hA.st hA.tokb hat hl hsg);rw [hsg,if_neg (by simp)] at HX;have hx:=HX.out;subst hx;unfold strV at HM;clear hsg hat HX hE;go_wp2_with fail;refine HM.out.mono ?_;rintro e W3 ⟨hB3,rfl⟩;go_wp2;exact ⟨rfl,hB.trans hB3,rfl⟩
    | true =>
     have HM:=Zq (ZdB pb p' toks _ [41] tv _ hA.st hA.tokb hat hl hsg (by simp));rw [hsg,if_pos rfl,ZdR] at HX;have hx:=HX.out;subst hx;unfold strV at HM;clear hsg hat HX hE;go_wp2_with fail;refine HM.out.mono ?_;rintro e W4 ⟨hB4,rfl,hP4⟩;have hA4:=hA.but hB4 hP4;have hB5:=hB.trans hB4;obtain ⟨⟨c0,c1,c2,c3⟩,f0,f1,f2,f3⟩:=ZdP hA4.c;obtain ⟨⟨d0,d1,d2,d3⟩,g0,g1,g2,g3⟩:=ZdP hA4.z;have HZ:=Zq hA4.z;have HK:=Zq hA4.kv;obtain ⟨ka,kc,hkv⟩:=hA4.row.form;subst hkv;clear HM hA hB hB4 hA4 hA3 hBW;go_wp2;refine Yaf (v:=exV op 0 [] (.slice ka l.length kc)) ?_ rfl ?_
     . have hh:=ZdP (ZdM HZ.out (.int .i64 op) (.int .i64 0) (.string ⟨#[]⟩) (.slice ka l.length kc));simp [results,Tryz.results216,go_sem,exV,strV,hh.1]
     . exact ZdS (op:=op) (n:=0) (s:=[]) hB5 hpl (HK.out.mono (ZdJ fun b hb _=>⟨hb.1,rfl⟩)) hP4 rfl (.int .i64 op) (.int .i64 0) (.string ⟨#[]⟩) (.slice ka l.length kc)
   | succ left =>
    have hi:(l.length:Int)<(ar:Int):=(by omega);have hl3:l.length<=3:=(by omega);have hcase:l=[]\/(l≠[]/\isSg [44] (hd (toks.drop p'))=false)\/(l≠[]/\isSg [44] (hd (toks.drop p'))=true):=by
     by_cases h0:l=[]
     . exact .inl h0
     . cases isSg [44] (hd (toks.drop p')) with
       | false=>exact .inr (.inl ⟨h0,rfl⟩)
       | true=>exact .inr (.inr ⟨h0,rfl⟩)
    rcases hcase with hl0|⟨hl0,hsg⟩|⟨hl0,hsg⟩
    case' inl =>have hi0:¬ ((0:Int)<(l.length:Int)):=(by rw [hl0]; simp);have HX4:Hid (argX g op left (l.map Prod.fst) (toks.drop p')=X):=Zq (by have:=HX.out; rw [hl0,List.map_nil,ZgY] at this; rw [hl0]; exact this);have hA4:=hA;have hB4:=hB;have hE4:=hE;clear hA hB hE HX hat hl0 hA3 hBW;generalize p'=q at *;go_wp2
    case inr.inl =>have hi0:(0:Int)<(l.length:Int):=(by have:=List.length_pos_iff.2 hl0; omega);have hkn:l.map Prod.fst≠[]:=(by simpa using hl0);have HM:=Zq (ZdA pb p' toks _ [44] tv _ hA.st hA.tokb hat hl hsg);have hx:=HX.out;rw [ZgZ hkn hsg] at hx;subst hx;unfold strV at HM;clear hsg hat HX hE hkn hl0;go_wp2_with fail;refine HM.out.mono ?_;rintro e W3 ⟨hB3,rfl⟩;go_wp2;exact ⟨rfl,hB.trans hB3,rfl⟩
    case' inr.inr =>have hi0:(0:Int)<(l.length:Int):=(by have:=List.length_pos_iff.2 hl0; omega);have hkn:l.map Prod.fst≠[]:=(by simpa using hl0);have HM:=Zq (ZdB pb p' toks _ [44] tv _ hA.st hA.tokb hat hl hsg (by simp));have HX4:Hid (argX g op left (l.map Prod.fst) (toks.drop (p'+1))=X):=Zq (by have:=HX.out; rw [Zg0 hkn hsg,ZdR] at this; exact this);have hE4:Ended (toks.drop (p'+1)):=(by rw [<-ZdR]; exact hE.tail (by have:=Zbb hsg; omega));unfold strV at HM;clear hsg hat HX hE hkn hl0 hA3 hBW;go_wp2_with fail;refine HM.out.mono ?_;rintro e W4 ⟨hB3,rfl,hP4⟩;have hA4:=hA.but hB3 hP4;have hB4:=hB.trans hB3;clear HM hA hB hB3 hP4;generalize p'+1=q at *;go_wp2
    all_goals
     obtain ⟨ta,tcap,htv⟩:=hA4.tokb.form;subst htv;obtain ⟨tb,toff,htt,k0,k1,k2,k3⟩:=TokV.at (SlV.mono hA4.tokb (Zdu pb _)) hE4.at.1;subst htt;obtain ⟨c0,c1,f1,hpl2⟩:=hA4.st.cells;have hat2:=hE4.at.2;have i1:(q:Int)<(toks.length:Int):=(by omega);have i0:(0:Int)<=(q:Int):=(by omega);have htl:=Yan _ _ k0;obtain ⟨X5,hX5,hA5,hB5,hz5,ht5⟩:=hA4.tokw (hd (toks.drop q));unfold strV at *;have a0:=Zdw htl k0;have a1:=Zdw htl k1;have a2:=Zdw htl k2;have a3:=Zdw htl k3;have a4:=Zdw hpl2 c0;have a5:=Zdw hpl2 c1;have hB6:=hB5 w hB4;have HX5:=Zq hX5;have HA5:=Zq hA5;have HB6:=Zq hB6;have HT5:=Zq ht5;clear hX5 hA5 hB5 hB6 ht5 hA4 hB4;go_region;rw [HX5.out];clear a0 a1 a2 a3 a4 a5 c0 c1 f1 k0 k1 k2 k3 htl;obtain ⟨⟨c0,c1,c2,c3⟩,f0,f1,f2,f3⟩:=ZdP HA5.out.c;obtain ⟨⟨d0,d1,d2,d3⟩,-⟩:=ZdP HT5.out;by_cases h22:op=22
     . subst h22;by_cases hbad:(hd (toks.drop q)).k≠3\/word (hd (toks.drop q)).s=true
       . have hx:=HX4.out;unfold argX at hx;rw [if_pos rfl,if_pos hbad] at hx;subst hx;by_cases hk:(hd (toks.drop q)).k=3
         . have hw:=hbad.resolve_left (by simp [hk]);have HW:=Zq (ZcR (hd (toks.drop q)).s);rw [hw] at HW;clear hbad hw;go_wp2_with fail;refine (HW.out _).mono ?_;rintro e W6 ⟨rfl,rfl⟩;go_wp2;exact ⟨rfl,HB6.out,rfl⟩
         . go_wp2;exact ⟨rfl,HB6.out,rfl⟩
       . have hk:(hd (toks.drop q)).k=3:=Classical.byContradiction fun h=>hbad (.inl h);have hw:word (hd (toks.drop q)).s=false:=by
          cases h:word (hd (toks.drop q)).s with
          | false=>rfl
          | true=>exact absurd (.inr h) hbad
         have hx:=HX4.out;unfold argX at hx;rw [if_pos rfl,if_neg hbad,ZdR] at hx;have hE5:Ended (toks.drop (q+1)):=(by rw [<-ZdR]; exact hE4.tail (by omega));cases g with
         | zero=>exact absurd hx.symm hne
         | succ g0 =>
         have hone:parseJ (g0+1) .one (toks.drop q) = .ok (.mk 4 0 (hd (toks.drop q)).s []) (toks.drop (q+1)):=(by rw [Zgw hk,ZdR]; unfold namX; rw [if_pos hw]);have hC0:=HI1.out (g0+1) (by omega) pb q toks _ X5.drew HA5.out.drew.st HA5.out.drew.tokb hE4 hl (by rw [hone]; intro h; cases h);rw [hone] at hC0;have HC:=Zq hC0;have HX6:=Zq hx;have HW:=Zq (ZcR (hd (toks.drop q)).s);rw [hw] at HW;clear hbad hx hone hC0;generalize (hd (toks.drop q)).s=nm at *;go_wp2_with fail;refine (HW.out _).mono ?_;rintro e W6 ⟨rfl,rfl⟩;obtain ⟨ka,kc,hkv⟩:=HA5.out.row.form;subst hkv;go_wp2;go_region_law (first|(refine Zgu rfl _ _ 36 rfl 83 tin _ 4 56 Tryz.underlying36 hin tz0 tz1 tz2 rfl (by decide) rfl HA6.out.row #[.int .i64 (4:Int),.int .i64 (0:Int),.string ⟨nm.toArray⟩,.slice kb (0:Nat) kd] 83 (0,0) _ rfl ?c0 rfl ?c1 ?c2 ?c3 ?_; (case c0=>simp); (case c1=>exact one4 _ _ _ _ _ _); (case c2=>unfold maxLen; omega); (case c3=>omega); intro v' t' w' hr3 he3; obtain ⟨va,vc,hv'⟩:=hr3.form; subst hv'; have HC6:=Zq (HA6.out.appc he3); obtain ⟨⟨q0,q1,q2,q3⟩,q4,q5,q6,q7⟩:=ZdP HC6.out; have HR3:=Zq hr3; have HE3:=Zq he3; clear hr3 he3)|(go_simp; go_at_call 172; refine HC.out.mono ?_; rintro e W7 ⟨hB7,⟨v,rfl,kv,rfl,hK7⟩,p7,hd7,hP7⟩; have HA6:=Zq (HA5.out.drew.but hB7 hP7); obtain ⟨⟨m0,m1,m2,m3⟩,n0,n1,n2,n3⟩:=ZdQ HA6.out.c; obtain ⟨⟨r0,r1,r2,r3⟩,t0,t1,t2,t3⟩:=ZdP HA6.out.c; have HK7:=Zq (HA5.out.drew.newk hK7); obtain ⟨kb,kd,hkv7⟩:=hK7.form; subst hkv7; unfold exV strV at *));all_goals obtain ⟨t2,hA7,hB7f⟩:=HA6.out.app (e := .mk 4 0 nm []) HR3.out HE3.out HK7.out;have hB7:=hB7f w rfl (HB6.out.drew.trans hB7);have HA7:=Zq hA7;have HB7:=Zq hB7;have HD7:=Zq hd7;have HX7:Hid (parseJ (g0+1) (.args 22 left ((l++[((Ex.mk 4 0 nm []),Value.slice kb 0 kd)]).map Prod.fst)) (toks.drop p7)=X):=Zq (by rw [HD7.out,Ybe]; exact HX6.out);have HE7:Hid (Ended (toks.drop p7)):=Zq (by rw [HD7.out]; exact hE5);clear hA7 hB7f hB7 hd7 hE5 hE4 hE1 hP7;go_wp2;go_roundg (g0+1);(case rel=>exact ⟨t2,p7,left,_,_,by rw [Yak]; go_num,HA7.out,HB7.out,HE7.out,by omega,by rw [Yak]; simp; omega,HX7⟩);case measure=>omega
     . have hx:=HX4.out;unfold argX at hx;rw [if_neg h22] at hx;have hy:parseJ g (.two 0) (toks.drop q) ≠ .out:=fun h=>by rw [h] at hx; exact hne hx.symm
       have hC0:=HI.out g (by omega) 0 pb q toks _ X5.drew (by omega) HA5.out.drew.st HA5.out.drew.tokb hE4 hl hy;rw [show ((0:Nat):Int)=0 from rfl] at hC0;have HP:=Zq (fun e r=>Zbe g (.two 0) (toks.drop q) hE4 e r);have HC:=Zq hC0;have HX6:=Zq hx;have HY:=Zq hy;clear hC0 hx HX4 hy;generalize parseJ g (.two 0) (toks.drop q)=y at *;obtain ⟨ka,kc,hkv⟩:=HA5.out.row.form;subst hkv;cases y with
       | out=>exact absurd rfl HY.out
       | bad q2 =>have hx:=HX6.out;simp only [PR.then] at hx;subst hx;have hBD:=Zq HB6.out.drew;go_wp2;go_region_with (go_at_call 121; refine HC.out.mono ?_; rintro e W7 ⟨hB7,rfl⟩; refine ZgP Tryz.prog ⟨#[],[]⟩ W7 ⟨rfl,hBD.out.trans hB7,rfl⟩ ?_);all_goals trivial
       | ok e2 r2 =>go_wp2;go_region_law (first|(refine Zgu rfl _ _ 36 rfl 83 tin _ 4 56 Tryz.underlying36 hin tz0 tz1 tz2 rfl (by decide) rfl HA6.out.row #[.int .i64 e2.op,.int .i64 e2.n,.string ⟨e2.s.toArray⟩,.slice kb e2.ks.length kd] 83 (0,0) _ rfl ?c0 rfl ?c1 ?c2 ?c3 ?_; (case c0=>simp); (case c1=>exact one4 _ _ _ _ _ _); (case c2=>unfold maxLen; omega); (case c3=>omega); intro v' t' w' hr3 he3; obtain ⟨va,vc,hv'⟩:=hr3.form; subst hv'; have HC6:=Zq (HA6.out.appc he3); obtain ⟨⟨q0,q1,q2,q3⟩,q4,q5,q6,q7⟩:=ZdP HC6.out; have HR3:=Zq hr3; have HE3:=Zq he3; clear hr3 he3)|(go_simp; go_at_call 121; refine HC.out.mono ?_; rintro e W7 ⟨hB7,⟨v,rfl,kv,rfl,hK7⟩,p7,hd7,hP7⟩; have HA6:=Zq (HA5.out.drew.but hB7 hP7); obtain ⟨⟨m0,m1,m2,m3⟩,n0,n1,n2,n3⟩:=ZdQ HA6.out.c; obtain ⟨⟨r0,r1,r2,r3⟩,t0,t1,t2,t3⟩:=ZdP HA6.out.c; have HK7:=Zq (HA5.out.drew.newk hK7); obtain ⟨kb,kd,hkv7⟩:=hK7.form; subst hkv7; unfold exV strV at *));all_goals obtain ⟨t2,hA7,hB7f⟩:=HA6.out.app (e:=e2) HR3.out HE3.out HK7.out;have hB7:=hB7f w rfl (HB6.out.drew.trans hB7);have HA7:=Zq hA7;have HB7:=Zq hB7;have HD7:=Zq hd7;have HX7:Hid (parseJ g (.args op left ((l++[(e2,Value.slice kb e2.ks.length kd)]).map Prod.fst)) (toks.drop p7)=X):=Zq (by rw [HD7.out,Ybe]; exact HX6.out);have HE7:Hid (Ended (toks.drop p7)):=Zq (by rw [HD7.out]; exact (HP.out e2 _ rfl).1);clear hA7 hB7f hB7 hd7 hE4 hE1 hP7;go_wp2;go_roundg g;(case rel=>exact ⟨t2,p7,left,_,_,by rw [Yak]; go_num,HA7.out,HB7.out,HE7.out,by omega,by rw [Yak]; simp; omega,HX7⟩);case measure=>omega
end Go.Proofs.YtikannmgllejfaaGreatDoor
