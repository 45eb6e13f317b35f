/- The walk of eval's eval, by induction; of eval. -/
import Derived.Test.YtikannmgllejfaaGreatDoorKED
import Derived.Test.YtikannmgllejfaaGreatDoorKEC
import Derived.Test.YtikannmgllejfaaGreatDoorKSC
set_option maxHeartbeats 8000000
set_option maxRecDepth 1000000
set_option linter.all false
namespace Go.Proofs.YtikannmgllejfaaGreatDoor
open Go.RowKit Pal
theorem Zqk (op n:Int) (s:Bs) (a:Option Addr) (len cap:Nat) (p:Nat) (w:World) (R:Val) (h:op=5\/op=7\/op=8\/op=9\/op=10\/op=11)
 (hc:Calls Tryz.prog 108 #[.pointer (some ⟨p,0,none⟩),exV op n s (.slice a len cap)] (w.alloc (cEx op n s (.slice a len cap))) (boxPost R (w.alloc (cEx op n s (.slice a len cap))))) :
 Calls Tryz.prog 83 #[.pointer (some ⟨p,0,none⟩),exV op n s (.slice a len cap)] w (boxPost R w):=by have hb0:=(Yab w.heap.size w).alloc Zs (cEx op n s (.slice a len cap));have HC:=Zq hc;have HB:=Zq hb0;clear hc hb0;unfold exV strV at *;rcases h with rfl|rfl|rfl|rfl|rfl|rfl;all_goals go_in;go_wp2_with fail;refine HC.out.mono ?_;rintro e W ⟨rfl,hb⟩;have hb2:=HB.out.seq hb;go_wp2;go_ret;exact ⟨rfl,hb2⟩
theorem Zql (op n:Int) (s:Bs) (a:Option Addr) (len cap:Nat) (p:Nat) (w:World) (R:Val) (h:op=19\/op=20\/op=21\/op=23)
 (hc:Calls Tryz.prog 109 #[.pointer (some ⟨p,0,none⟩),exV op n s (.slice a len cap)] (w.alloc (cEx op n s (.slice a len cap))) (boxPost R (w.alloc (cEx op n s (.slice a len cap))))) :
 Calls Tryz.prog 83 #[.pointer (some ⟨p,0,none⟩),exV op n s (.slice a len cap)] w (boxPost R w):=by have hb0:=(Yab w.heap.size w).alloc Zs (cEx op n s (.slice a len cap));have HC:=Zq hc;have HB:=Zq hb0;clear hc hb0;unfold exV strV at *;rcases h with rfl|rfl|rfl|rfl;all_goals go_in;go_wp2_with fail;refine HC.out.mono ?_;rintro e W ⟨rfl,hb⟩;have hb2:=HB.out.seq hb;go_wp2;go_ret;exact ⟨rfl,hb2⟩
theorem Zqm (op n:Int) (s:Bs) (a:Option Addr) (len cap:Nat) (p:Nat) (w:World) (R:Val) (h:op=6\/op=12\/op=13\/op=14\/op=15\/op=16\/op=17\/op=18)
 (hc:Calls Tryz.prog 110 #[.pointer (some ⟨p,0,none⟩),exV op n s (.slice a len cap)] (w.alloc (cEx op n s (.slice a len cap))) (boxPost R (w.alloc (cEx op n s (.slice a len cap))))) :
 Calls Tryz.prog 83 #[.pointer (some ⟨p,0,none⟩),exV op n s (.slice a len cap)] w (boxPost R w):=by have hb0:=(Yab w.heap.size w).alloc Zs (cEx op n s (.slice a len cap));have HC:=Zq hc;have HB:=Zq hb0;clear hc hb0;unfold exV strV at *;rcases h with rfl|rfl|rfl|rfl|rfl|rfl|rfl|rfl;all_goals go_in;go_wp2_with fail;refine HC.out.mono ?_;rintro e W ⟨rfl,hb⟩;have hb2:=HB.out.seq hb;go_wp2;go_ret;exact ⟨rfl,hb2⟩
theorem Zqn (op n:Int) (s:Bs) (a:Option Addr) (len cap:Nat) (p:Nat) (w:World) (R:Val) (h:op=6\/op=16\/op=17\/op=18)
 (hc:Calls Tryz.prog 158 #[.pointer (some ⟨p,0,none⟩),exV op n s (.slice a len cap)] (w.alloc (cEx op n s (.slice a len cap))) (boxPost R (w.alloc (cEx op n s (.slice a len cap))))) :
 Calls Tryz.prog 110 #[.pointer (some ⟨p,0,none⟩),exV op n s (.slice a len cap)] w (boxPost R w):=by have hb0:=(Yab w.heap.size w).alloc Zs (cEx op n s (.slice a len cap));have HC:=Zq hc;have HB:=Zq hb0;clear hc hb0;unfold exV strV at *;rcases h with rfl|rfl|rfl|rfl;all_goals go_in;go_wp2_with fail;refine HC.out.mono ?_;rintro e W ⟨rfl,hb⟩;have hb2:=HB.out.seq hb;go_wp2;go_ret;exact ⟨rfl,hb2⟩
def leafV (op n:Int) (s:Bs):Val:=if op=1 then vInt n else if op=2 then vText s else vBool (decide (n=1))
theorem Zqo (op n:Int) (s:Bs) (a:Option Addr) (len cap:Nat) (p:Nat) (w:World) (h:op=1\/op=2\/op=3) :
 Calls Tryz.prog 83 #[.pointer (some ⟨p,0,none⟩),exV op n s (.slice a len cap)] w (boxPost (leafV op n s) w):=by
 have hb0:=(Yab w.heap.size w).alloc Zs (cEx op n s (.slice a len cap));have HB:=Zq hb0;clear hb0;unfold exV strV at *;rcases h with rfl|rfl|rfl
 . go_in;go_wp2;go_ret;exact ⟨rfl,HB.out⟩
 . go_in;go_wp2;go_ret;exact ⟨rfl,HB.out⟩
 . have HN:Hid (boxV (leafV 3 n s) = .iface 4 (.bool (n == 1))):=Zq (by unfold leafV; rw [if_neg (by decide),if_neg (by decide),ZeB]; rfl);go_in;go_wp2;go_ret;exact ⟨by rw [HN.out]; rfl,HB.out⟩
theorem Zqp (names:List Bs) (vals:List Val) (n:Int) (s:Bs) (a:Option Addr) (len cap:Nat) (p:Nat) (w:World) (hW:WithV w p names vals) :
 Calls Tryz.prog 83 #[.pointer (some ⟨p,0,none⟩),exV 4 n s (.slice a len cap)] w (boxPost (look names vals s) w):=by have hb0:=(Yab w.heap.size w).alloc Zs (cEx 4 n s (.slice a len cap));have hc:=ZsI s names vals p _ (hW.keep hb0);have HC:=Zq hc;have HB:=Zq hb0;clear hb0 hc hW;unfold exV strV at *;go_in;go_wp2_with fail;refine HC.out.mono ?_;rintro e W ⟨rfl,hb⟩;have hb2:=HB.out.seq hb;go_wp2;go_ret;exact ⟨rfl,hb2⟩
theorem Zqq (names:List Bs) (vals:List Val) (n:Int) (s:Bs) (k:Ex) (v:Value) (p:Nat) (w:World) (hW:WithV w p names vals) (hK:KV (gh w) v [k]) :
 Calls Tryz.prog 83 #[.pointer (some ⟨p,0,none⟩),exV 22 n s v] w (boxPost (vBool (decide (¬ ((look names vals k.s).k=0\/(look names vals k.s).k=4)))) w):=by
 obtain ⟨a,cap,rfl⟩:=hK.form;have hcap:=hK.cap;obtain ⟨b,off,ua,uc,rfl,c0,c1,c2,c3,hK0⟩:=hK.at0;have hbl:=Yan w _ c0;have hb0:=(Yab w.heap.size w).alloc Zs (cEx 22 n s (.slice (some ⟨b,off,none⟩) 1 cap));have hc:=ZsI k.s names vals p _ (hW.keep hb0);have hok:=hW.ok k.s;generalize look names vals k.s=x at *;have HC:=Zq hc;have HB:=Zq hb0;clear hb0 hc hW hK hK0;simp only [List.length_singleton] at *;unfold exV strV boxPost at *;cases hok with
 | nil =>
  go_in;go_wp2_with fail;refine HC.out.mono ?_;rintro e W ⟨rfl,hb⟩;rw [Zez];have hb2:=HB.out.seq hb;clear HC hb;have x4:∀ (T:TypeId) (w:World),(Instr.typeAssert .nilIface T 48 true).run Tryz.prog w = .ok (.tuple #[.agg #[.int .i64 0,.int .i64 0,.string ⟨#[]⟩],.bool false]) w:=fun _ _=>by kernel_rfl
  go_wp2;go_ret;exact ⟨rfl,hb2⟩
 | bad m h =>go_in;go_wp2_with fail;refine HC.out.mono ?_;rintro e W ⟨rfl,hb⟩;rw [ZeD];have hb2:=HB.out.seq hb;clear HC hb;have x4:=ZoX m;go_wp2;go_ret;exact ⟨rfl,hb2⟩
 | int m h =>go_in;go_wp2_with fail;refine HC.out.mono ?_;rintro e W ⟨rfl,hb⟩;rw [ZeA];have hb2:=HB.out.seq hb;clear HC hb;have x4:=ZoM m;go_wp2;go_ret;exact ⟨rfl,hb2⟩
 | bool m =>go_in;go_wp2_with fail;refine HC.out.mono ?_;rintro e W ⟨rfl,hb⟩;rw [ZeB];have hb2:=HB.out.seq hb;clear HC hb;have x4:=ZoR m;go_wp2;go_ret;exact ⟨rfl,hb2⟩
 | text t h =>go_in;go_wp2_with fail;refine HC.out.mono ?_;rintro e W ⟨rfl,hb⟩;rw [ZeC];unfold strV;have hb2:=HB.out.seq hb;clear HC hb;have x4:=ZoW t;go_wp2;go_ret;exact ⟨rfl,hb2⟩
theorem kid1 {op:Int} {ks:List Ex} (h:(ks.length:Int)=arity op) (ho:op=5\/op=6\/op=19\/op=22\/op=23):∃ k,ks=[k]:=by
 have:ks.length=1:=by unfold arity at h; rw [if_neg (by omega),if_pos ho] at h; omega
 match ks,this with
 | [k],_=>exact ⟨k,rfl⟩
theorem kid2 {op:Int} {ks:List Ex} (h:(ks.length:Int)=arity op) (ho:(7<=op/\op<=17)\/op=20\/op=21):∃ k k',ks=[k,k']:=by
 have:ks.length=2:=by unfold arity at h; rw [if_neg (by omega),if_neg (by omega),if_pos ho] at h; omega
 match ks,this with
 | [k,k'],_=>exact ⟨k,k',rfl⟩
theorem kid3 {op:Int} {ks:List Ex} (h:(ks.length:Int)=arity op) (ho:op=18):∃ k k' k'',ks=[k,k',k'']:=by
 have:ks.length=3:=by unfold arity at h; rw [if_neg (by omega),if_neg (by omega),if_neg (by omega),if_pos ho] at h; omega
 match ks,this with
 | [k,k',k''],_=>exact ⟨k,k',k'',rfl⟩
theorem Zqr {op:Int} {n:Nat} (h:(n:Int)=arity op):1<=op/\op<=23:=by
 unfold arity at h;split at h
 . omega
 . split at h
   . omega
   . split at h
     . omega
     . split at h<;>omega
theorem Zqs (names:List Bs) (vals:List Val) (e:Ex):Good e->EvP names vals e:=by
 refine Ex.ind (P:=fun e=>Good e->EvP names vals e) ?_ e;intro op n s ks ih hG;cases hG with
 | mk _ _ _ _ ha hn hk =>
 intro v W p hW hK;simp only [Ex.op,Ex.n,Ex.s,Ex.ks] at hK |-;have hE:∀ k∈ks,EvP names vals k:=fun k hm=>ih k hm (hk k hm);have hok:∀ k∈ks,VOk (ev (look names vals) k):=fun k hm=>Zex (fun s=>hW.ok s) k (hk k hm);have hl:=Zd6 ha;have hop:=Zqr hl;obtain ⟨a,cap,rfl⟩:=hK.form;have hb0:=(Yab W.heap.size W).alloc Zs (cEx op n s (.slice a ks.length cap));have hW0:=hW.keep hb0;have hK0:=hK.keep hb0;have hb1:=((Yab W.heap.size W).alloc Zs (cEx op n s (.slice a ks.length cap))).alloc (by simp) (cEx op n s (.slice a ks.length cap));have hW1:=hW.keep hb1;have hK1:=hK.keep hb1;rw [Zeu];by_cases hnum:op=5\/(7<=op/\op<=11)
 . have e1:evOp (look names vals) op n s ks ((evL (look names vals) ks).getD 0 vNil) ((evL (look names vals) ks).getD 1 vNil) ((evL (look names vals) ks).getD 2 vNil)=finN op (numX (look names vals) ks):=by
    have hq:(op=5/\ks.length=1)\/((7<=op/\op<=11)/\ks.length=2):=by
     rcases hnum with h|h
     . obtain ⟨k,rfl⟩:=kid1 hl (.inl h); exact .inl ⟨h,rfl⟩
     . obtain ⟨k,k',rfl⟩:=kid2 hl (.inl (by omega)); exact .inr ⟨h,rfl⟩
    rw [<-Zqi _ _ _ hq];unfold evOp;rw [if_neg (by omega),if_neg (by omega),if_neg (by omega),if_neg (by omega),if_neg (by omega),if_pos hnum]
   rw [e1];refine Zqk op n s a ks.length cap p W _ (by omega) (Zqj names vals op n s ks _ p _ ?_ hE hok hW0 hK0);rcases hnum with h|h
   . obtain ⟨k,rfl⟩:=kid1 hl (.inl h); exact .inl ⟨h,rfl⟩
   . obtain ⟨k,k',rfl⟩:=kid2 hl (.inl (by omega)); exact .inr ⟨h,rfl⟩
 by_cases hleaf:op=1\/op=2\/op=3
 . have e1:evOp (look names vals) op n s ks ((evL (look names vals) ks).getD 0 vNil) ((evL (look names vals) ks).getD 1 vNil) ((evL (look names vals) ks).getD 2 vNil)=leafV op n s:=(by unfold evOp leafV;rcases hleaf with rfl|rfl|rfl<;>simp);rw [e1];exact Zqo op n s a ks.length cap p W hleaf
 by_cases h4:op=4
 . subst h4;exact Zqp names vals n s a ks.length cap p W hW
 by_cases h22:op=22
 . subst h22;obtain ⟨k,rfl⟩:=kid1 hl (by omega);exact Zqq names vals n s k _ p W hW hK
 by_cases ht1:op=19\/op=23
 . obtain ⟨k,rfl⟩:=kid1 hl (by omega);have hc:=ZpF names vals op n s k _ p _ ht1 (hE k (by simp)) (hok k (by simp)) hW0 hK0;have e1:evOp (look names vals) op n s [k] ((evL (look names vals) [k]).getD 0 vNil) ((evL (look names vals) [k]).getD 1 vNil) ((evL (look names vals) [k]).getD 2 vNil)=textM op (ev (look names vals) k) vNil:=(by rw [Zew,Zev];unfold evOp;rw [if_neg (by omega),if_neg (by omega),if_neg (by omega),if_neg (by omega),if_neg (by omega),if_neg (by omega),if_pos (by omega)];rfl);rw [e1];exact Zql op n s a 1 cap p W _ (by omega) hc
 by_cases ht2:op=20\/op=21
 . obtain ⟨k,k',rfl⟩:=kid2 hl (by omega);have hc:=ZpI names vals op n s k k' _ p _ ht2 (hE k (by simp)) (hE k' (by simp)) (hok k (by simp)) (hok k' (by simp)) hW0 hK0;have e1:evOp (look names vals) op n s [k,k'] ((evL (look names vals) [k,k']).getD 0 vNil) ((evL (look names vals) [k,k']).getD 1 vNil) ((evL (look names vals) [k,k']).getD 2 vNil)=textM op (ev (look names vals) k) (ev (look names vals) k'):=(by rw [Zew,Zew,Zev];unfold evOp;rw [if_neg (by omega),if_neg (by omega),if_neg (by omega),if_neg (by omega),if_neg (by omega),if_neg (by omega),if_pos (by omega)];rfl);rw [e1];exact Zql op n s a 2 cap p W _ (by omega) hc
 have e0:∀ a b c,evOp (look names vals) op n s ks a b c=truthM op a b c:=by intro a b c;unfold evOp;rw [if_neg (by omega),if_neg (by omega),if_neg (by omega),if_neg (by omega),if_neg (by omega),if_neg (by omega),if_neg (by omega)]
 rw [e0];by_cases h6:op=6
 . subst h6;obtain ⟨k,rfl⟩:=kid1 hl (by omega);have hc:=ZpM names vals n s k _ p _ (hE k (by simp)) (hok k (by simp)) hW1 hK1;rw [Zew,Zev];exact Zqm 6 n s a 1 cap p W _ (by omega) (Zqn 6 n s a 1 cap p _ _ (by omega) hc)
 by_cases h18:op=18
 . subst h18;obtain ⟨k,k',k'',rfl⟩:=kid3 hl rfl;have hc:=ZpN names vals n s k k' k'' _ p _ (hE k (by simp)) (hE k' (by simp)) (hE k'' (by simp)) (hok k (by simp)) (hok k' (by simp)) (hok k'' (by simp)) hW1 hK1;rw [Zew,Zew,Zew,Zev];exact Zqm 18 n s a 3 cap p W _ (by omega) (Zqn 18 n s a 3 cap p _ _ (by omega) hc)
 obtain ⟨k,k',rfl⟩:=kid2 hl (by omega);rw [Zew,Zew,Zev];by_cases h16:op=16\/op=17
 . have hc:=ZpO names vals op n s k k' _ p _ h16 (hE k (by simp)) (hE k' (by simp)) (hok k (by simp)) (hok k' (by simp)) hW1 hK1;exact Zqm op n s a 2 cap p W _ (by omega) (Zqn op n s a 2 cap p _ _ (by omega) hc)
 . have hc:=ZpY names vals op n s k k' _ p _ (by omega) (hE k (by simp)) (hE k' (by simp)) (hok k (by simp)) (hok k' (by simp)) hW0 hK0;exact Zqm op n s a 2 cap p W _ (by omega) hc
def valPost (v:Val) (w:World) (e:Ending) (w':World):Prop:=e = .returned (valV v)/\Below w.heap.size w w'
theorem Zqt {W:World} {B:Nat} (y0 y1 y2:Value):(((W.setCell ⟨B,0,none⟩ y0).setCell ⟨B,1,none⟩ y1).setCell ⟨B,2,none⟩ y2).heap.size=W.heap.size:=by simp [World.setCell]
theorem Zqu (e:Ex) (names:List Bs) (vals:List Val) (v nv vv:Value) (w:World) (hF:Fine e) (hV:VFine vals) (hL:Lay (gh w)) (hE:EV (gh w) v e) (hN:StrsV (gh w) nv names) (hA:ValsV (gh w) vv vals) :
 Calls Tryz.prog 59 #[v,nv,vv] w (valPost (evalM e names vals) w):=by
 obtain ⟨kv,rfl,hK⟩:=hE;obtain ⟨a,cap,rfl⟩:=hK.form;obtain ⟨na,nc,rfl⟩:=hN.form;obtain ⟨va,vc,rfl,-⟩:=hA.form;have hb0:=((Yab w.heap.size w).alloc Zs (cEx e.op e.n e.s (.slice a e.ks.length cap))).alloc (by simp) (.cells #[.int .i64 0,.int .i64 0,.string ⟨#[]⟩] 48);have hz0:((w.alloc (cEx e.op e.n e.s (.slice a e.ks.length cap))).alloc (.cells #[.int .i64 0,.int .i64 0,.string ⟨#[]⟩] 48)).heap[w.heap.size+1]?=some (.cells #[.int .i64 0,.int .i64 0,.string ⟨#[]⟩] 48 (0,0)):=by have:=Yac (w.alloc (cEx e.op e.n e.s (.slice a e.ks.length cap))) (.cells #[.int .i64 0,.int .i64 0,.string ⟨#[]⟩] 48);simpa using this
 have hx0:((w.alloc (cEx e.op e.n e.s (.slice a e.ks.length cap))).alloc (.cells #[.int .i64 0,.int .i64 0,.string ⟨#[]⟩] 48)).heap[w.heap.size]?=some (cEx e.op e.n e.s (.slice a e.ks.length cap)):=by rw [Yah _ _ _ (by simp)]; exact Yac w _
 have hck:=Zdt e (exV e.op e.n e.s (.slice a e.ks.length cap)) _ hF (hL.below hb0) ⟨_,rfl,hK.keep hb0⟩;have hev:∀ W,Below w.heap.size w W->check e=true->∀ p,W.heap[p]?=some (.cells #[.slice na names.length nc,.slice va vals.length vc] 130 (0,0)) ->
  Calls Tryz.prog 83 #[.pointer (some ⟨p,0,none⟩),exV e.op e.n e.s (.slice a e.ks.length cap)] W (boxPost (ev (look names vals) e) W):=fun W hb hc p hp =>
  Zqs names vals e (Zel hF hc) _ W p ⟨hL.below hb,hV,_,_,hp,hN.mono (Zah hb),hA.mono (Zah hb)⟩ (hK.keep hb)
 have hvo:check e=true->VOk (ev (look names vals) e):=fun hc=>Zex (fun s=>look_ok names vals s (fun v hv=>(hV v hv).1)) e (Zel hF hc);have hevm:evalM e names vals=if check e=true then ev (look names vals) e else vNil:=rfl;have HEM:=Zq hevm;have HVO:=Zq hvo;have HEV:=Zq hev;have HCK:=Zq hck;have HB0:=Zq hb0;have HZ0:=Zq hz0;have HX0:=Zq hx0;have HL:=Zq hL;clear hck hev hvo hevm hb0 hz0 hx0 hL hF hV hK hN hA;unfold exV strV at *;cases hc:check e with
 | false =>have HM:Hid (evalM e names vals=vNil):=Zq (by rw [HEM.out,hc]; rfl);rw [hc] at HCK;clear HEM HVO HEV hc;go_in;go_wp2_with fail;refine HCK.out.mono ?_;rintro r W ⟨rfl,hb⟩;have hbW:=HB0.out.seq hb;have hzW:=(hb.block _ (by simp)).trans HZ0.out;obtain ⟨⟨c0,c1,c2⟩,f0,f1,f2⟩:=ZeG hzW;have HZ:=Zq hzW;have HB:=Zq hbW;clear hb hbW hzW HB0 HZ0 HX0 HCK;go_wp2;have hh:=ZeG (ZeH HZ.out (.int .i64 0) (.int .i64 0) (.string ⟨#[]⟩));refine Yaf (v:=valV vNil) (by simp [results,Tryz.results59,go_sem,valV,strV,vNil,hh.1]) rfl ⟨by rw [HM.out],ZeJ HB.out (by omega) _ _ _⟩
 | true =>have hvv:=HVO.out hc;have HM:Hid (evalM e names vals=ev (look names vals) e):=Zq (by rw [HEM.out,hc]; rfl);have HEV2:=Zq (fun W hb=>HEV.out W hb hc);rw [hc] at HCK;generalize ev (look names vals) e=x at *;have hub:=fun w hL=>Zo6 hvv w hL;unfold unboxPost valV strV at hub;have HUB:=Zq hub;clear HEM HVO HEV hc hub hvv;unfold boxPost at HEV2;generalize boxV x=bx at *;go_in;go_wp2_with fail;refine HCK.out.mono ?_;rintro r W ⟨rfl,hb⟩;have hbW:=HB0.out.seq hb;have hzW:=(hb.block _ (by simp)).trans HZ0.out;have hxW:=(hb.block _ (by simp; omega)).trans HX0.out;have hlt:w.heap.size+1<W.heap.size:=(Yaa.1 hzW).1;obtain ⟨d0,d1,d2,d3⟩:=Zc7 hxW;obtain ⟨⟨m0,m1,m2,m3⟩,-⟩:=ZdQ hxW;have hbA:=hbW.alloc hbW.size (.cells #[.slice na names.length nc,.slice va vals.length vc] 130);have hev:=HEV2.out _ hbA W.heap.size (Yac W _);have hbn:Below W.heap.size W (W.alloc (.cells #[.slice na names.length nc,.slice va vals.length vc] 130)):=(Yab _ _).alloc Zs _;have hzA:=(hbn.block _ hlt).trans hzW;have HZA:=Zq hzA;have HEA:=Zq hev;have HBA:=Zq hbA;clear hb hbW hzW hxW HB0 HZ0 HX0 HCK HEV2 hbA hev hbn hzA;go_wp2_with fail;refine HEA.out.mono ?_;rintro r W2 ⟨rfl,hb2⟩;have hbB:=HBA.out.seq hb2;have hzB:=(hb2.block _ (by simp; omega)).trans HZA.out;have HZB:=Zq hzB;have HBB:=Zq hbB;clear hb2 hbB hzB HEA HBA HZA;go_wp2_with fail;refine (HUB.out _ (HL.out.below HBB.out)).mono ?_;rintro r W3 ⟨rfl,hb3⟩;have hbC:=HBB.out.seq hb3;have hltB:w.heap.size+1<W2.heap.size:=(Yaa.1 HZB.out).1;have hzC:=(hb3.block _ hltB).trans HZB.out;have hltC:w.heap.size+1<W3.heap.size:=(Yaa.1 hzC).1;obtain ⟨⟨c0,c1,c2⟩,f0,f1,f2⟩:=ZeG hzC;have HZC:=Zq hzC;have HBC:=Zq hbC;have HLC:=Zq hltC;clear hb3 hbC hzC HZB HBB HUB hlt hltB d0 d1 d2 d3;go_wp2;have hzD:=(Yah (((W3.setCell ⟨w.heap.size+1,0,none⟩ (.int .i64 x.k)).setCell ⟨w.heap.size+1,1,none⟩ (.int .i64 x.n)).setCell ⟨w.heap.size+1,2,none⟩ (.string ⟨x.s.toArray⟩)) (.cells #[.int .i64 x.k,.int .i64 x.n,.string ⟨x.s.toArray⟩] 48) (w.heap.size+1) (by rw [Zqt]; exact HLC.out)).trans (ZeH HZC.out (.int .i64 x.k) (.int .i64 x.n) (.string ⟨x.s.toArray⟩));have hh:=ZeG hzD;have hbD:=ZeJ HBC.out (show w.heap.size<=w.heap.size+1 by omega) (.int .i64 x.k) (.int .i64 x.n) (.string ⟨x.s.toArray⟩);refine Yaf (v:=valV x) (by simp [results,Tryz.results59,go_sem,valV,strV,hh.1]) rfl ⟨by rw [HM.out],hbD.alloc hbD.size _⟩
end Go.Proofs.YtikannmgllejfaaGreatDoor
