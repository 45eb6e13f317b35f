/- The parser: all its functions, by induction. -/
import Derived.Test.YtikannmgllejfaaGreatDoorKVq
import Derived.Test.YtikannmgllejfaaGreatDoorKVd
import Derived.Defers
import Derived.Recover
import Derived.Test.YtikannmgllejfaaGreatDoorKPl
import Derived.Test.YtikannmgllejfaaGreatDoorKVb
import Derived.Lib.ParseIntBTie
set_option maxHeartbeats 4000000
set_option maxRecDepth 1000000
set_option linter.all false
namespace Go.Proofs.YtikannmgllejfaaGreatDoor
open Go.RowKit Pal
theorem Zg2 {f:Nat} {ts:List Tok} (h:isSg [45] (hd ts)=true):parseJ (f+1) .one ts=(parseJ f .one ts.tail).then fun e r => .ok (.mk 5 0 [] [e]) r:=by
 conv=>lhs; unfold parseJ
 rw [if_pos h]
theorem Zg3 {f:Nat} {ts:List Tok} (h1:isSg [45] (hd ts)=false) (h:isSg [33] (hd ts)=true):parseJ (f+1) .one ts=(parseJ f .one ts.tail).then fun e r => .ok (.mk 6 0 [] [e]) r:=by
 conv=>lhs; unfold parseJ
 rw [if_neg (by simp [h1]),if_pos h]
theorem Zg4 {f:Nat} {ts:List Tok} (h1:isSg [45] (hd ts)=false) (h2:isSg [33] (hd ts)=false) (h:isSg [40] (hd ts)=true) :
 parseJ (f+1) .one ts=(parseJ f (.two 0) ts.tail).then fun e r=>if isSg [41] (hd r) then .ok e r.tail else .bad (hd r).p:=by
 conv=>lhs; unfold parseJ
 rw [if_neg (by simp [h1]),if_neg (by simp [h2]),if_pos h]
theorem Zg5 {f:Nat} {ts:List Tok} (h1:isSg [45] (hd ts)=false) (h2:isSg [33] (hd ts)=false) (h3:isSg [40] (hd ts)=false) (hk:(hd ts).k=1) :
 parseJ (f+1) .one ts = .ok (.mk 1 (hd ts).n [] []) ts.tail:=by
 conv=>lhs; unfold parseJ
 rw [if_neg (by simp [h1]),if_neg (by simp [h2]),if_neg (by simp [h3]),if_pos hk]
theorem Zg6 {f:Nat} {ts:List Tok} (h1:isSg [45] (hd ts)=false) (h2:isSg [33] (hd ts)=false) (h3:isSg [40] (hd ts)=false) (hk:(hd ts).k=2) :
 parseJ (f+1) .one ts = .ok (.mk 2 0 (hd ts).s []) ts.tail:=by
 conv=>lhs; unfold parseJ
 rw [if_neg (by simp [h1]),if_neg (by simp [h2]),if_neg (by simp [h3]),if_neg (by omega),if_pos hk]
theorem Zg7 {f:Nat} {ts:List Tok} (h1:isSg [45] (hd ts)=false) (h2:isSg [33] (hd ts)=false) (h3:isSg [40] (hd ts)=false) (hk1:(hd ts).k≠1) (hk2:(hd ts).k≠2) (hk3:(hd ts).k≠3) :
 parseJ (f+1) .one ts = .bad (hd ts).p:=by
 conv=>lhs; unfold parseJ
 rw [if_neg (by simp [h1]),if_neg (by simp [h2]),if_neg (by simp [h3]),if_neg hk1,if_neg hk2,if_neg hk3]
theorem Zg8 (f:Nat) (ih:∀ g,g<=f->TwoOK g/\OneOK g):OneOK (f+1):=by
 intro pb p toks tv w hp hT hE hl hne;have then_ne:∀ {x:PR} {k:Ex->List Tok->PR},x.then k ≠ .out->x ≠ .out:=fun h e=>by rw [e] at h; exact h rfl
 have htl:(toks.drop p).tail=toks.drop (p+1):=ZdR toks p;cases h1:isSg [45] (hd (toks.drop p)) with
 | true =>have hE1:Ended (toks.drop (p+1)):=(by rw [<-htl]; exact hE.tail (by have:=Zbb h1; omega));rw [Zg2 h1,htl] at hne |-;exact ZdW pb p toks tv _ w hp hT hE hl h1 (fun W hpW hTW=>(ih f Zs).2 pb (p+1) toks tv W hpW hTW hE1 hl (then_ne hne))
 | false =>
 cases h2:isSg [33] (hd (toks.drop p)) with
 | true =>have hE1:Ended (toks.drop (p+1)):=(by rw [<-htl]; exact hE.tail (by have:=Zbb h2; omega));rw [Zg3 h1 h2,htl] at hne |-;exact ZdX pb p toks tv _ w hp hT hE hl h2 (fun W hpW hTW=>(ih f Zs).2 pb (p+1) toks tv W hpW hTW hE1 hl (then_ne hne))
 | false =>
 cases h3:isSg [40] (hd (toks.drop p)) with
 | true =>have hE1:Ended (toks.drop (p+1)):=(by rw [<-htl]; exact hE.tail (by have:=Zbb h3; omega));rw [Zg4 h1 h2 h3,htl] at hne |-;exact ZdY pb p toks tv _ w hp hT hE hl h3 (fun e r h=>(Zbe _ _ _ hE1 e r h).1) (fun W hpW hTW=>(ih f Zs).1 0 pb (p+1) toks tv W (by omega) hpW hTW hE1 hl (then_ne hne))
 | false =>
 by_cases k1:(hd (toks.drop p)).k=1
 . rw [Zg5 h1 h2 h3 k1];exact Zgp pb p toks tv w hp hT hE hl h1 h2 h3 k1
 by_cases k2:(hd (toks.drop p)).k=2
 . rw [Zg6 h1 h2 h3 k2];exact Zgq pb p toks tv w hp hT hE hl h1 h2 h3 k2
 by_cases k3:(hd (toks.drop p)).k=3
 . have hE1:Ended (toks.drop (p+1)):=(by rw [<-htl]; exact hE.tail (by omega));rw [Zgw k3,htl] at hne |-;refine Zgs pb p toks tv _ w hp hT hE hl h1 h2 h3 k3 (fun W hpW hTW=>?_);generalize (hd (toks.drop p)).s=s at *;unfold namX at hne |-;by_cases hw:word s=false
   . rw [if_pos hw];exact Zgy pb (p+1) toks tv W s _ hpW hTW (.inl ⟨hw,rfl⟩)
   . rw [if_neg hw] at hne |-;by_cases ht:s=wTrue
     . rw [if_pos ht];exact Zgy pb (p+1) toks tv W s _ hpW hTW (.inr (.inl ⟨ht,rfl⟩))
     . rw [if_neg ht] at hne |-;by_cases hf:s=wFalse
       . rw [if_pos hf];exact Zgy pb (p+1) toks tv W s _ hpW hTW (.inr (.inr ⟨hf,rfl⟩))
       . rw [if_neg hf] at hne |-;exact Zg1 f pb (p+1) toks tv W s _ hpW hTW hE1 hl (ZgU (by simpa using hw) ht hf) rfl hne (fun g hg=>(ih g (by omega)).1) (fun g hg=>(ih g (by omega)).2)
 . rw [Zg7 h1 h2 h3 k1 k2 k3];exact Zgr pb p toks tv w hp hT hE hl h1 h2 h3 k1 k2 k3
theorem Zg9 (f:Nat) (ih:∀ g,g<=f->TwoOK g/\OneOK g):TwoOK (f+1):=by
 intro n pb p toks tv w hn hp hT hE hl hne;by_cases h:4<n
 . exact Zgt f n pb p toks tv w h hn hp hT hE hl hne (ih f Zs).2
 . exact ZgT f n pb p toks tv w _ (by omega) hp hT hE hl rfl hne (fun g hg=>(ih g hg).1)
theorem Zha:∀ f,∀ g,g<=f->TwoOK g/\OneOK g:=by
 intro f;induction f with
 | zero =>intro g hg;have:g=0:=(by omega);subst this;exact ⟨fun _ _ _ _ _ _ _ _ _ _ _ h=>absurd rfl h,fun _ _ _ _ _ _ _ _ _ h=>absurd rfl h⟩
 | succ f ih =>
  intro g hg;by_cases h:g<=f
  . exact ih g h
  . have:g=f+1:=(by omega);subst this;exact ⟨Zg9 f ih,Zg8 f ih⟩
theorem Zhb (f:Nat):TwoOK f:=(Zha f f Zs).1
def zeroV:Value := .agg #[.int .i64 0,.int .i64 0,.string ⟨#[]⟩,.slice none 0 0]
theorem Zhc {w:World} {b:Nat} {x:Value} {T:TypeId} (h:w.heap[b]?=some (.cells #[x] T (0,0))):w.cell? ⟨b,0,none⟩=some x/\w.frozen? ⟨b,0,none⟩=false:=by simp [World.cell?,World.frozen?,h]
theorem Zhd (p q r:Value) (w:World) :
 CallsD Tryz.prog 120 #[p,q,r] .returning w fun e u' w'=>e = .returned (.tuple #[])/\u' = .returning/\w'=w:=by refine callsD_of_wpS Tryz.func120 rfl fun c₀ cs hu=>?_;apply wpS_seq;apply wpS_region;simp [wpOpsS,go_sem,recoverD,hu,Tryz.ntmps120,Exit.thenS];refine wpS_of_wp ?_;go_wp2;cases c₀;simp_all [bodyPostS,results,Tryz.results120]
theorem Zhe (B:Nat) (q0:Int) (k0:Bool) (y0 y1:Int) (y2:Bs) (y3:Option Addr) (n3 c3:Nat) (p:Nat) (older:List PanicEntry) (w:World)
 (h0:w.heap[B]?=some (.cells #[.int .i64 y0,.int .i64 y1,strV y2,.slice y3 n3 c3] 83 (0,0))) (h1:w.heap[B+1]?=some (.cells #[.int .i64 q0] 3 (0,0))) (h2:w.heap[B+2]?=some (.cells #[.bool k0] 4 (0,0))) :
 CallsD Tryz.prog 120 #[.pointer (some ⟨B,0,none⟩),.pointer (some ⟨B+1,0,none⟩),.pointer (some ⟨B+2,0,none⟩)] (.panicking ({ v := .iface 172 (.agg #[.int .i64 p]),recovered:=false }::older)) w fun e u' w' =>
  e = .returned (.tuple #[])/\u' = .panicking ({ v := .iface 172 (.agg #[.int .i64 p]),recovered:=true }::older) /\
  w'=((((((w.setCell ⟨B,0,none⟩ (.int .i64 0)).setCell ⟨B,1,none⟩ (.int .i64 0)).setCell ⟨B,2,none⟩ (.string ⟨#[]⟩)).setCell ⟨B,3,none⟩ (.slice none 0 0)).setCell ⟨B+1,0,none⟩ (.int .i64 p)).setCell ⟨B+2,0,none⟩ (.bool false)).drew:=by
 obtain ⟨⟨a0,a1,a2,a3⟩,b0,b1,b2,b3⟩:=ZdP h0;obtain ⟨a4,b4⟩:=Zhc h1;obtain ⟨a5,b5⟩:=Zhc h2;unfold strV at *;clear h0 h1 h2;refine callsD_of_wpS Tryz.func120 rfl fun c₀ cs hu=>?_;apply wpS_seq;apply wpS_region;simp [wpOpsS,go_sem,recoverD,hu,Tryz.ntmps120,Exit.thenS];refine wpS_of_wp ?_;have hta:∀ (xT:TypeId) (w:World),(Instr.typeAssert (.iface 172 (.agg #[.int .i64 (p:Int)])) xT 172 false).run Tryz.prog w = .ok (.agg #[.int .i64 (p:Int)]) w:=fun _ _=>by kernel_rfl
 have hfd:∀ (w:World),(Instr.field 172 (.agg #[.int .i64 (p:Int)]) 0).run Tryz.prog w = .ok (.int .i64 (p:Int)) w:=fun _=>by kernel_rfl
 go_wp2;go_region;all_goals cases c₀;simp_all (config:={ zetaDelta:=true }) [bodyPostS,results,Tryz.results120]
def readPost (toks:List Tok) (w:World) (e:Ending) (w':World):Prop :=
 Below w.heap.size w w'/\(match readL toks with
  | .error q=>e = .returned (.tuple #[zeroV,.int .i64 q,.bool false])
  | .ok ex=>∃ v,e = .returned (.tuple #[v,.int .i64 0,.bool true])/\EV (gn w.heap.size w') v ex)
def read0 (w:World) (tv:Value):World :=
 (((w.alloc zEx).alloc (.cells #[.int .i64 0] 3)).alloc (.cells #[.bool false] 4)).alloc (.cells #[tv,.int .i64 0] 175)
structure ReadIn (w:World) (tv:Value) (toks:List Tok) (p:Nat) (W:World):Prop where
 below:Below w.heap.size w W
 st:PSt W (w.heap.size+3) tv p
 tok:TokV (gb (w.heap.size+3) W) tv toks
 e:W.heap[w.heap.size]?=some (.cells #[.int .i64 0,.int .i64 0,strV [],.slice none 0 0] 83 (0,0))
 q:W.heap[w.heap.size+1]?=some (.cells #[.int .i64 0] 3 (0,0))
 ok:W.heap[w.heap.size+2]?=some (.cells #[.bool false] 4 (0,0))
theorem Zhf (w:World) (tv:Value) (toks:List Tok) (hT:TokV (gh w) tv toks):ReadIn w tv toks 0 (read0 w tv):=by
 have hb:Below w.heap.size w (read0 w tv):=((((Yab w.heap.size w).alloc Zs _).alloc (by simp) _).alloc (by simp; omega) _).alloc (by simp; omega) _;refine ⟨hb,?_,SlV.mono hT (fun b o hh=>?_),?_,?_,?_⟩
 . unfold PSt read0;have:=Yac ((((w.alloc zEx).alloc (.cells #[.int .i64 0] 3)).alloc (.cells #[.bool false] 4))) (.cells #[tv,.int .i64 0] 175);simpa using this
 . have hl:=(Yaa.1 hh).1;unfold gb;rw [if_neg (by omega),hb.block b hl]; exact hh
 . unfold read0;rw [Yah _ _ _ (by simp; omega),Yah _ _ _ (by simp; omega),Yah _ _ _ (by simp)];exact Yac w _
 . unfold read0;rw [Yah _ _ _ (by simp),Yah _ _ _ (by simp)];have:=Yac (w.alloc zEx) (.cells #[.int .i64 0] 3);simpa using this
 . unfold read0;rw [Yah _ _ _ (by simp)];have:=Yac ((w.alloc zEx).alloc (.cells #[.int .i64 0] 3)) (.cells #[.bool false] 4);simpa using this
theorem ReadIn.but {w W W':World} {tv:Value} {toks:List Tok} {p p':Nat} (h:ReadIn w tv toks p W) (hB:But (w.heap.size+3) W W') (hP:PSt W' (w.heap.size+3) tv p'):ReadIn w tv toks p' W':=by
 have l0:=(Yaa.1 h.e).1;have l1:=(Yaa.1 h.q).1;have l2:=(Yaa.1 h.ok).1;have hb:=h.below;exact ⟨⟨hB.os.trans hb.os,hB.tape.trans hb.tape,hB.output.trans hb.output,Nat.le_trans hb.size hB.size,fun b hl=>(hB.block b (Nat.lt_of_lt_of_le hl hb.size) (by omega)).trans (hb.block b hl)⟩,
  hP,SlV.mono h.tok hB.gb,by rw [hB.block _ l0 (by omega)]; exact h.e,by rw [hB.block _ l1 (by omega)]; exact h.q,by rw [hB.block _ l2 (by omega)]; exact h.ok⟩
theorem Zhg {w W:World} {B:Nat} {x0 x1 x2 x3 y z:Value} (hb:Below w.heap.size w W) (hB:w.heap.size<=B) (h0:W.heap[B]?=some (.cells #[x0,x1,x2,x3] 83 (0,0))) (h1:W.heap[B+1]?=some (.cells #[y] 3 (0,0))) (h2:W.heap[B+2]?=some (.cells #[z] 4 (0,0)))
 (y0 y1 y2 y3 u v:Value) {X:World} (hX:((((((W.setCell ⟨B,0,none⟩ y0).setCell ⟨B,1,none⟩ y1).setCell ⟨B,2,none⟩ y2).setCell ⟨B,3,none⟩ y3).setCell ⟨B+1,0,none⟩ u).setCell ⟨B+2,0,none⟩ v)=X) :
 Below w.heap.size w X/\X.cell? ⟨B,0,none⟩=some y0/\X.cell? ⟨B,1,none⟩=some y1/\X.cell? ⟨B,2,none⟩=some y2/\X.cell? ⟨B,3,none⟩=some y3/\X.cell? ⟨B+1,0,none⟩=some u/\X.cell? ⟨B+2,0,none⟩=some v /\
 (∀ b,b≠B->b≠B+1->b≠B+2->X.heap[b]?=W.heap[b]?):=by
 subst hX;refine ⟨(((((hb.setCell (p:=⟨B,0,none⟩) hB _).setCell (p:=⟨B,1,none⟩) hB _).setCell (p:=⟨B,2,none⟩) hB _).setCell (p:=⟨B,3,none⟩) hB _).setCell (p:=⟨B+1,0,none⟩) (by show w.heap.size<=B+1; omega) _).setCell (p:=⟨B+2,0,none⟩) (by show w.heap.size<=B+2; omega) _,?_⟩;have e0:(((((((W.setCell ⟨B,0,none⟩ y0).setCell ⟨B,1,none⟩ y1).setCell ⟨B,2,none⟩ y2).setCell ⟨B,3,none⟩ y3).setCell ⟨B+1,0,none⟩ u).setCell ⟨B+2,0,none⟩ v)).heap[B]?=some (.cells #[y0,y1,y2,y3] 83 (0,0)):=by rw [Yat _ _ _ _ (by show B≠B+2; omega),Yat _ _ _ _ (by show B≠B+1; omega)];exact ZdM h0 y0 y1 y2 y3
 have e1:(((((((W.setCell ⟨B,0,none⟩ y0).setCell ⟨B,1,none⟩ y1).setCell ⟨B,2,none⟩ y2).setCell ⟨B,3,none⟩ y3).setCell ⟨B+1,0,none⟩ u).setCell ⟨B+2,0,none⟩ v)).heap[B+1]?=some (.cells #[u] 3 (0,0)):=by rw [Yat _ _ _ _ (by show B+1≠B+2; omega)];simp [World.setCell,Yap];exact ⟨_,h1,rfl⟩
 have e2:(((((((W.setCell ⟨B,0,none⟩ y0).setCell ⟨B,1,none⟩ y1).setCell ⟨B,2,none⟩ y2).setCell ⟨B,3,none⟩ y3).setCell ⟨B+1,0,none⟩ u).setCell ⟨B+2,0,none⟩ v)).heap[B+2]?=some (.cells #[v] 4 (0,0)):=by simp [World.setCell,Yap];exact ⟨_,h2,rfl⟩
 have eo:∀ b,b≠B->b≠B+1->b≠B+2->(((((((W.setCell ⟨B,0,none⟩ y0).setCell ⟨B,1,none⟩ y1).setCell ⟨B,2,none⟩ y2).setCell ⟨B,3,none⟩ y3).setCell ⟨B+1,0,none⟩ u).setCell ⟨B+2,0,none⟩ v)).heap[b]?=W.heap[b]?:=fun b n0 n1 n2=>by rw [Yat _ _ _ _ n2,Yat _ _ _ _ n1,ZdN n0]
 generalize ((((((W.setCell ⟨B,0,none⟩ y0).setCell ⟨B,1,none⟩ y1).setCell ⟨B,2,none⟩ y2).setCell ⟨B,3,none⟩ y3).setCell ⟨B+1,0,none⟩ u).setCell ⟨B+2,0,none⟩ v)=X at *;obtain ⟨⟨c0,c1,c2,c3⟩,-⟩:=ZdP e0;exact ⟨c0,c1,c2,c3,(Zhc e1).1,(Zhc e2).1,eo⟩
theorem ReadIn.res {w W W':World} {tv:Value} {toks:List Tok} {p:Nat} (h:ReadIn w tv toks p W) (hB:But (w.heap.size+3) W W') :
 Below w.heap.size w W'/\W'.heap[w.heap.size]?=some (.cells #[.int .i64 0,.int .i64 0,strV [],.slice none 0 0] 83 (0,0))/\W'.heap[w.heap.size+1]?=some (.cells #[.int .i64 0] 3 (0,0))/\W'.heap[w.heap.size+2]?=some (.cells #[.bool false] 4 (0,0)):=by
 have l0:=(Yaa.1 h.e).1;have l1:=(Yaa.1 h.q).1;have l2:=(Yaa.1 h.ok).1;have hb:=h.below;exact ⟨⟨hB.os.trans hb.os,hB.tape.trans hb.tape,hB.output.trans hb.output,Nat.le_trans hb.size hB.size,fun b hl=>(hB.block b (Nat.lt_of_lt_of_le hl hb.size) (by omega)).trans (hb.block b hl)⟩,
  by rw [hB.block _ l0 (by omega)]; exact h.e,by rw [hB.block _ l1 (by omega)]; exact h.q,by rw [hB.block _ l2 (by omega)]; exact h.ok⟩
theorem Zhh (toks:List Tok):toks.drop 0=toks:=rfl
theorem Zhi (toks:List Tok) (tv:Value) (w:World) (hT:TokV (gh w) tv toks) (hE:Ended toks) (hl:toks.length<=1000) :
 Calls Tryz.prog 89 #[tv] w (readPost toks w):=by
 have hR0:=Zhf w tv toks hT;have hne:parseJ (8*toks.length+8) (.two 0) toks ≠ .out:=Zbf _ _ _ hE (by simp only [Job.need]; omega) (fun n h=>by cases h; omega) (fun n e h=>by cases h);have hC0:=Zhb (8*toks.length+8) 0 (w.heap.size+3) 0 toks tv (read0 w tv) (by omega) hR0.st hR0.tok hE hl hne;rw [show ((0:Nat):Int)=0 from rfl,Zhh] at hC0;have HPL:=Zq (fun e r=>Zbe (8*toks.length+8) (.two 0) toks hE e r);have hr:readL toks=match parseJ (8*toks.length+8) (.two 0) toks with
  | .out => .error 0
  | .bad p => .error p
  | .ok e r=>if (hd r).k=0 then .ok e else .error (hd r).p:=rfl
 have hmf:∀ (fn:Fn) (first cap:Array Value) (w:World),(Instr.makeFunc fn first cap).run Tryz.prog w = .ok (.func fn first cap) w:=fun _ _ _ _=>rfl;generalize parseJ (8*toks.length+8) (.two 0) toks=x at *;have HR:=Zq hr;have HC:=Zq hC0;have HR0:=Zq hR0;obtain ⟨ta,tcap,htv⟩:=hT.form;subst htv;have HT:=Zq hT;clear hr hC0 hne hT hE hR0;unfold read0 at HC HR0;go_enter_defers Tryz.func89,Tryz.ntmps89;go_wp2_with fail;refine HC.out.mono ?_;clear HC;cases x with
 | out=>rintro e W4 ⟨-,h⟩; exact h.elim
 | bad q =>rintro e W4 ⟨hB4,rfl⟩;obtain ⟨hb,h0,h1,h2⟩:=HR0.out.res hB4;have HR2:Hid (readL toks = .error q):=HR;clear HR HR0 hB4;unfold pan;go_wp2;refine leaves_cons (f:=120) (args:=#[.pointer (some ⟨w.heap.size,0,none⟩),.pointer (some ⟨w.heap.size+1,0,none⟩),.pointer (some ⟨w.heap.size+2,0,none⟩)]) (by simp) (by simp [go_sem]) ?_;refine (Zhe w.heap.size 0 false 0 0 [] none 0 0 q [] _ h0 h1 h2).mono ?_;rintro e u' w'' ⟨rfl,rfl,hw⟩;generalize hX:((((((W4.setCell ⟨w.heap.size,0,none⟩ (.int .i64 0)).setCell ⟨w.heap.size,1,none⟩ (.int .i64 0)).setCell ⟨w.heap.size,2,none⟩ (.string ⟨#[]⟩)).setCell ⟨w.heap.size,3,none⟩ (.slice none 0 0)).setCell ⟨w.heap.size+1,0,none⟩ (.int .i64 q)).setCell ⟨w.heap.size+2,0,none⟩ (.bool false))=X at hw;obtain ⟨hbX,d0,d1,d2,d3,d4,d5,-⟩:=Zhg hb Zs h0 h1 h2 _ _ _ _ _ _ hX;subst hw;have HF:Hid (readPost toks w (.returned (.tuple #[zeroV,.int .i64 q,.bool false])) X.drew):=Zq ⟨hbX.drew,by rw [HR2.out]⟩;clear hX hbX hb h0 h1 h2 HR2;unfold zeroV at HF;simp [Leaves,settle,results,Tryz.results89,go_sem,d0,d1,d2,d3,d4,d5];exact HF.out
 | ok ex r =>
  rintro e W4 ⟨hB4,⟨v,rfl,kv,rfl,hK⟩,p4,hd4,hP4⟩;have hI:=HR0.out.but hB4 hP4;have hEr:=(HPL.out ex r rfl).1;rw [<-hd4] at hEr;have hat:=hEr.at;have hn4:W4.heap.size>=w.heap.size+4:=(by have:=hB4.size;have h4:(read0 w (.slice ta toks.length tcap)).heap.size=w.heap.size+4:=(by simp [read0]);unfold read0 at h4;omega);have h4:(read0 w (.slice ta toks.length tcap)).heap.size=w.heap.size+4:=(by simp [read0]);unfold read0 at h4;rw [h4] at hK;have HR2:Hid (readL toks=if (hd r).k=0 then .ok ex else .error (hd r).p):=HR;rw [<-hd4] at HR2;obtain ⟨ka,kc,hkv⟩:=hK.form;subst hkv;obtain ⟨⟨c0,c1,c2,c3⟩,f0,f1,f2,f3⟩:=ZdP hI.e;have hb5:=hI.below;have hP5:=hI.st.set4 (B:=w.heap.size) (by omega) (.int .i64 ex.op) (.int .i64 ex.n) (.string ⟨ex.s.toArray⟩) (.slice ka ex.ks.length kc);have he5:=ZdM hI.e (.int .i64 ex.op) (.int .i64 ex.n) (.string ⟨ex.s.toArray⟩) (.slice ka ex.ks.length kc);have ho5:=fun b (hb:b≠w.heap.size)=>ZdN (W:=W4) (B:=w.heap.size) (b:=b) hb (.int .i64 ex.op) (.int .i64 ex.n) (.string ⟨ex.s.toArray⟩) (.slice ka ex.ks.length kc);have hz5:=ZdO (W:=W4) (B:=w.heap.size) (.int .i64 ex.op) (.int .i64 ex.n) (.string ⟨ex.s.toArray⟩) (.slice ka ex.ks.length kc);have hB5:Below w.heap.size w ((((W4.setCell ⟨w.heap.size,0,none⟩ (.int .i64 ex.op)).setCell ⟨w.heap.size,1,none⟩ (.int .i64 ex.n)).setCell ⟨w.heap.size,2,none⟩ (.string ⟨ex.s.toArray⟩)).setCell ⟨w.heap.size,3,none⟩ (.slice ka ex.ks.length kc)) :=
   (((hb5.setCell (p:=⟨w.heap.size,0,none⟩) Zs _).setCell (p:=⟨w.heap.size,1,none⟩) Zs _).setCell (p:=⟨w.heap.size,2,none⟩) Zs _).setCell (p:=⟨w.heap.size,3,none⟩) Zs _
  have hq5:=(ho5 (w.heap.size+1) (by omega)).trans hI.q;have hk5:=(ho5 (w.heap.size+2) (by omega)).trans hI.ok;have hK5:KV (gn (w.heap.size+4) ((((W4.setCell ⟨w.heap.size,0,none⟩ (.int .i64 ex.op)).setCell ⟨w.heap.size,1,none⟩ (.int .i64 ex.n)).setCell ⟨w.heap.size,2,none⟩ (.string ⟨ex.s.toArray⟩)).setCell ⟨w.heap.size,3,none⟩ (.slice ka ex.ks.length kc))) (.slice ka ex.ks.length kc) ex.ks :=
   hK.mono (ZdJ fun b hb _=>⟨hb,ho5 b (by omega)⟩)
  have hat2:=hat.2;have i1:(p4:Int)<(toks.length:Int):=(by omega);have i0:(0:Int)<=(p4:Int):=(by omega);have HAT:=Zq hat.1;have HB5:=Zq hB5;have HP5:=Zq hP5;have HE5:=Zq he5;have HQ5:=Zq hq5;have HK5:=Zq hk5;have HKV:=Zq hK5;have HZ5:=Zq hz5;clear HR HR0 hB4 hI hEr hat hK hd4 HPL hP4 h4 hb5 hP5 he5 ho5 hz5 hB5 hq5 hk5 hK5;generalize hd (toks.drop p4)=t at *;unfold exV strV;go_upto_region 4 with fail;generalize ((((W4.setCell ⟨w.heap.size,0,none⟩ (.int .i64 ex.op)).setCell ⟨w.heap.size,1,none⟩ (.int .i64 ex.n)).setCell ⟨w.heap.size,2,none⟩ (.string ⟨ex.s.toArray⟩)).setCell ⟨w.heap.size,3,none⟩ (.slice ka ex.ks.length kc))=W5 at *;clear c0 c1 c2 c3 f0 f1 f2 f3;obtain ⟨tb,toff,htt,k0,k1,k2,k3⟩:=TokV.at (SlV.mono HT.out (Zah HB5.out)) HAT.out;subst htt;obtain ⟨c0,c1,-,hpl⟩:=HP5.out.cells;have htl:tb<W5.heap.size:=Yan W5 _ k0;unfold strV at *;have a0:=Zdw htl k0;have a1:=Zdw htl k1;have a2:=Zdw htl k2;have a3:=Zdw htl k3;have a5:∀ o:Obj,(W5.alloc o).cell? ⟨w.heap.size+1+1+1,1,none⟩=some (.int .i64 p4):=Zdw hpl c1;have c5:W5.cell? ⟨w.heap.size+1+1+1,1,none⟩=some (.int .i64 p4):=c1;clear c0 c1;go_upto_region 5 with fail;clear a0 a1 a2 a3 a5 c5 k0 k1 k2 k3;have lz0:w.heap.size<W5.heap.size:=(by omega);have hb6:=HB5.out.alloc HB5.out.size (.cells #[.int .i64 t.k,.string ⟨t.s.toArray⟩,.int .i64 t.n,.int .i64 t.p] 114);have ho6:=fun b hb=>Yah W5 (.cells #[.int .i64 t.k,.string ⟨t.s.toArray⟩,.int .i64 t.n,.int .i64 t.p] 114) b hb;have ht6:=Yac W5 (.cells #[.int .i64 t.k,.string ⟨t.s.toArray⟩,.int .i64 t.n,.int .i64 t.p] 114);have he6:=(ho6 w.heap.size (by omega)).trans HE5.out;have hq6:=(ho6 (w.heap.size+1) (by omega)).trans HQ5.out;have hk6:=(ho6 (w.heap.size+2) (by omega)).trans HK5.out;have hkv6:KV (gn (w.heap.size+4) (W5.alloc (.cells #[.int .i64 t.k,.string ⟨t.s.toArray⟩,.int .i64 t.n,.int .i64 t.p] 114))) (.slice ka ex.ks.length kc) ex.ks:=HKV.out.mono (ZdJ fun b hb hl=>⟨hb,ho6 b hl⟩);have HB6:=Zq hb6;have HE6:=Zq he6;have HQ6:=Zq hq6;have HK6:=Zq hk6;have HKV6:=Zq hkv6;have HT6:=Zq ht6;clear hb6 ho6 ht6 he6 hq6 hk6 hkv6;generalize W5.alloc (.cells #[.int .i64 t.k,.string ⟨t.s.toArray⟩,.int .i64 t.n,.int .i64 t.p] 114)=W6 at *;obtain ⟨⟨t0,t1,t2,t3⟩,-⟩:=ZdP HT6.out;clear HT6;obtain ⟨⟨c0,c1,c2,c3⟩,f0,f1,f2,f3⟩:=ZdP HE6.out;obtain ⟨c4,f4⟩:=Zhc HQ6.out;have c5:W6.cell? ⟨w.heap.size+1+1,0,none⟩=some (.bool false):=(Zhc HK6.out).1;have f5:W6.frozen? ⟨w.heap.size+1+1,0,none⟩=false:=(Zhc HK6.out).2;clear HB5 HP5 HE5 HQ5 HK5 HKV HZ5 HT;by_cases hk:t.k=0
  . rw [if_pos hk] at HR2;go_wp2;refine leaves_cons (f:=120) (args:=#[.pointer (some ⟨w.heap.size,0,none⟩),.pointer (some ⟨w.heap.size+1,0,none⟩),.pointer (some ⟨w.heap.size+2,0,none⟩)]) (by simp) (by simp [go_sem]) ?_;refine (Zhd _ _ _ _).mono ?_;rintro e u' w'' ⟨rfl,rfl,hw⟩;generalize hX:((((((W6.setCell ⟨w.heap.size,0,none⟩ (.int .i64 ex.op)).setCell ⟨w.heap.size,1,none⟩ (.int .i64 ex.n)).setCell ⟨w.heap.size,2,none⟩ (.string ⟨ex.s.toArray⟩)).setCell ⟨w.heap.size,3,none⟩ (.slice ka ex.ks.length kc)).setCell ⟨w.heap.size+1,0,none⟩ (.int .i64 0)).setCell ⟨w.heap.size+2,0,none⟩ (.bool true))=X at hw;obtain ⟨hbX,d0,d1,d2,d3,d4,d5,ho⟩:=Zhg HB6.out Zs HE6.out HQ6.out HK6.out _ _ _ _ _ _ hX;subst hw;have HF:Hid (readPost toks w (.returned (.tuple #[exV ex.op ex.n ex.s (.slice ka ex.ks.length kc),.int .i64 0,.bool true])) w''):=Zq ⟨hbX,by
     rw [HR2.out];exact ⟨_,rfl,_,rfl,HKV6.out.mono (fun b o hh=>by
      unfold gn gp at hh;split at hh
      . rename_i hb;unfold gn gp;rw [if_pos (by omega),ho b (by omega) (by omega) (by omega)]; exact hh
      . cases hh)⟩⟩
    clear hX hbX HB6 HE6 HQ6 HK6 HR2 c0 c1 c2 c3 c4 c5 f0 f1 f2 f3 f4 f5;unfold exV strV at HF;simp [Leaves,settle,results,Tryz.results89,go_sem,d0,d1,d2,d3,d4,d5];exact HF.out
  . rw [if_neg hk] at HR2;go_wp2;refine leaves_cons (f:=120) (args:=#[.pointer (some ⟨w.heap.size,0,none⟩),.pointer (some ⟨w.heap.size+1,0,none⟩),.pointer (some ⟨w.heap.size+2,0,none⟩)]) (by simp) (by simp [go_sem]) ?_;refine (Zhe w.heap.size 0 false ex.op ex.n ex.s ka ex.ks.length kc t.p [] _ HE6.out HQ6.out HK6.out).mono ?_;rintro e u' w'' ⟨rfl,rfl,hw⟩;generalize hX:((((((W6.setCell ⟨w.heap.size,0,none⟩ (.int .i64 0)).setCell ⟨w.heap.size,1,none⟩ (.int .i64 0)).setCell ⟨w.heap.size,2,none⟩ (.string ⟨#[]⟩)).setCell ⟨w.heap.size,3,none⟩ (.slice none 0 0)).setCell ⟨w.heap.size+1,0,none⟩ (.int .i64 t.p)).setCell ⟨w.heap.size+2,0,none⟩ (.bool false))=X at hw;obtain ⟨hbX,d0,d1,d2,d3,d4,d5,-⟩:=Zhg HB6.out Zs HE6.out HQ6.out HK6.out _ _ _ _ _ _ hX;subst hw;have HF:Hid (readPost toks w (.returned (.tuple #[zeroV,.int .i64 t.p,.bool false])) X.drew):=Zq ⟨hbX.drew,by rw [HR2.out]⟩;clear hX hbX HB6 HE6 HQ6 HK6 HR2 c0 c1 c2 c3 c4 c5 f0 f1 f2 f3 f4 f5;unfold zeroV at HF;simp [Leaves,settle,results,Tryz.results89,go_sem,d0,d1,d2,d3,d4,d5];exact HF.out
structure TokF (t:Tok):Prop where
 n : -9223372036854775808<=t.n/\t.n<=9223372036854775807
 s:t.s.length<=140737488355328
theorem Zhj:(-9223372036854775808:Int)<=0/\(0:Int)<=9223372036854775807:=by decide
theorem Zhk:∀ (f:Nat) (l:Bs) (t:Bs) (n z:Nat),unqL f l=some (t,n,z)->t.length<=4*f:=by
 intro f;induction f with
 | zero=>intro l t n z h; cases h
 | succ f ih =>
  intro l t n z h;unfold unqL at h
  repeat' split at h
  all_goals (first
   | (cases h; done)
   | (simp only [Yai,Yaw] at h; obtain ⟨rfl,-,-⟩:=h; simp; done)
   | (rename_i t' n' y' hu
      simp only [Yai,Yaw] at h
      obtain ⟨rfl,-,-⟩:=h
      have h1:=ih _ _ _ _ hu
      rw [Yak]
      have h2:=(Zbr (rn l)).2
      omega)
   | (rename_i r y he t' n' y' hu
      simp only [Yai,Yaw] at h
      obtain ⟨rfl,-,-⟩:=h
      have h1:=ih _ _ _ _ hu
      rw [Yak]
      have h2:=(Zbr r).2
      omega)
   | (rename_i t' n' y' hu
      simp only [Yai,Yaw] at h
      obtain ⟨rfl,-,-⟩:=h
      have h1:=ih _ _ _ _ hu
      rw [Yak]
      refine Nat.le_trans (Nat.add_le_add (Zbr _).2 h1) (by omega)))
theorem Zhl {l:Bs} {k:Int} {s:Bs} {n:Int} {z:Nat} (hl:l.length<=1000000) (h:tok1 l=some (k,s,n,z)) (p:Nat):TokF ⟨k,s,n,p⟩:=by
 unfold tok1 at h
 repeat' split at h
 all_goals (first|(cases h; done)|skip)
 . rename_i v hv;simp only [Yai,Yaw] at h;obtain ⟨-,rfl,rfl,-⟩:=h;unfold numOf at hv;split at hv
   . rename_i v' he;simp only [Yai] at hv;subst hv;have:=Lib.parseIntB_bounds he;exact ⟨⟨by have:=this.1; simpa using this,by have:=this.2; simp at this; show v'<=_; omega⟩,by simp⟩
   . cases hv
 . simp only [Yai,Yaw] at h;obtain ⟨-,rfl,rfl,-⟩:=h;exact ⟨Zhj,by show (List.take _ _).length<=_; rw [List.length_take]; omega⟩
 . rename_i t n' z' hu hn;simp only [Yai,Yaw] at h;obtain ⟨-,rfl,rfl,-⟩:=h;have:=Zhk _ _ _ _ _ hu;exact ⟨Zhj,by show t.length<=_; omega⟩
 . simp only [Yai,Yaw] at h;obtain ⟨-,rfl,rfl,-⟩:=h;exact ⟨Zhj,by show (List.take _ _).length<=_; rw [List.length_take]; omega⟩
 . simp only [Yai,Yaw] at h;obtain ⟨-,rfl,rfl,-⟩:=h;exact ⟨Zhj,by show (List.take _ _).length<=_; rw [List.length_take]; omega⟩
theorem Zhm:∀ (f p:Nat) (l:Bs) (ts:List Tok),l.length<=1000000->lexL f p l = .ok ts->Ended ts/\ts.length<=f/\∀ t∈ts,TokF t:=by
 intro f;induction f with
 | zero=>intro p l ts _ h; cases h
 | succ f ih =>
  intro p l ts hl h;unfold lexL at h;split at h
  . simp only [Except.ok.injEq] at h;subst h;refine ⟨.last _ rfl,by simp,fun t ht=>?_⟩;simp only [List.mem_singleton] at ht;subst ht;exact ⟨Zhj,by simp⟩
  . split at h
    . have g:=ih _ _ _ (by rw [Yav]; omega) h;exact ⟨g.1,by omega,g.2.2⟩
    . split at h
      . cases h
      . rename_i k s n z ht;split at h
        . cases h
        . rename_i us hu;simp only [Except.ok.injEq] at h;subst h;have g:=ih _ _ _ (by rw [Yav]; omega) hu;refine ⟨.cons _ g.1,by simp; omega,fun t hm=>?_⟩;rcases Ybc.1 hm with rfl|hm
          . exact Zhl hl ht p
          . exact g.2.2 t hm
theorem Zhn {l:Bs} {ts:List Tok} (hl:l.length<=1000000) (h:lexAll l = .ok ts):Ended ts/\ts.length<=l.length+1/\∀ t∈ts,TokF t:=Zhm _ _ _ _ hl h
theorem Zho:TokF noTok:=⟨Zhj,by simp [noTok]⟩
theorem Zhp {ts:List Tok} (h:∀ t∈ts,TokF t):TokF (hd ts):=by
 cases ts with
 | nil=>exact Zho
 | cons t us=>exact h t (by simp)
theorem Zhq {ts:List Tok} (h:∀ t∈ts,TokF t):∀ t∈ts.tail,TokF t:=fun t ht=>h t (List.mem_of_mem_tail ht)
theorem Zhr {o:Int} (h:0<=o/\o<=100) : -9223372036854775808<=o/\o<=9223372036854775807:=by omega
theorem Zhs (s : Bs) : 0 <= opOf s /\ opOf s <= 100 := by unfold opOf; repeat' split
                                                          all_goals omega
theorem Zht {n:Nat} {t:Tok} {op:Int} {sw:Bool} (h:lvT n t=some (op,sw)):0<=op/\op<=100:=by
 unfold lvT lv at h
 repeat' split at h
 all_goals (first|(cases h; done)|(simp only [Yai,Yaw] at h; obtain ⟨rfl,rfl⟩:=h; omega))
def Job.fine:Job->Prop
 | .two _ | .one=>True
 | .loop _ e=>Fine e
 | .args op _ ks=>(0<=op/\op<=100)/\∀ k∈ks,Fine k
theorem Zhu {sw:Bool} {a b:Ex} (ha:Fine a) (hb:Fine b):∀ k∈kidsOf sw a b,Fine k:=by intro k hk;unfold kidsOf at hk;split at hk<;>(simp at hk; rcases hk with rfl|rfl<;>assumption)
theorem Zhv:∀ (f:Nat) (j:Job) (ts:List Tok),j.fine->(∀ t∈ts,TokF t)->∀ e r,parseJ f j ts = .ok e r->Fine e/\∀ t∈r,TokF t:=by
 intro f;induction f with
 | zero=>intro j ts _ _ e r h; cases h
 | succ f ih =>
  have then_ok:∀ {x:PR} {k:Ex->List Tok->PR} {e r},x.then k = .ok e r->∃ e1 r1,x = .ok e1 r1/\k e1 r1 = .ok e r:=by
   intro x k e r h;cases x with
   | out=>cases h
   | bad p=>cases h
   | ok e1 r1=>exact ⟨e1,r1,rfl,h⟩
  intro j ts hj ht e r h;have htl:=Zhq ht;have hh:=Zhp ht;cases j with
  | two n =>
   unfold parseJ at h;split at h
   . exact ih .one ts trivial ht e r h
   . obtain ⟨e1,r1,h1,h2⟩:=then_ok h;have g1:=ih _ _ (show Job.fine (.two _) from trivial) ht _ _ h1;exact ih _ _ (show Job.fine (.loop _ _) from g1.1) g1.2 _ _ h2
  | loop n e0 =>
   unfold parseJ at h;split at h
   . simp only [PR.ok.injEq] at h;obtain ⟨rfl,rfl⟩:=h;exact ⟨hj,ht⟩
   . rename_i op sw hl;obtain ⟨e1,r1,h1,h2⟩:=then_ok h;have g1:=ih _ _ (show Job.fine (.two _) from trivial) htl _ _ h1;have gf:Fine (.mk op 0 [] (kidsOf sw e0 e1)) := .mk _ _ _ _ (Zhr (Zht hl)) Zhj (by simp) (Zhu hj g1.1);split at h2
     . simp only [PR.ok.injEq] at h2;obtain ⟨rfl,rfl⟩:=h2;exact ⟨gf,g1.2⟩
     . exact ih _ _ (show Job.fine (.loop _ _) from gf) g1.2 _ _ h2
  | one =>
   unfold parseJ at h;split at h
   . obtain ⟨e1,r1,h1,h2⟩:=then_ok h;have g1:=ih _ _ (show Job.fine .one from trivial) htl _ _ h1;simp only [PR.ok.injEq] at h2;obtain ⟨rfl,rfl⟩:=h2;exact ⟨.mk _ _ _ _ (Zhr (by omega)) Zhj (by simp) (by simpa using g1.1),g1.2⟩
   . split at h
     . obtain ⟨e1,r1,h1,h2⟩:=then_ok h;have g1:=ih _ _ (show Job.fine .one from trivial) htl _ _ h1;simp only [PR.ok.injEq] at h2;obtain ⟨rfl,rfl⟩:=h2;exact ⟨.mk _ _ _ _ (Zhr (by omega)) Zhj (by simp) (by simpa using g1.1),g1.2⟩
     . split at h
       . obtain ⟨e1,r1,h1,h2⟩:=then_ok h;have g1:=ih _ _ (show Job.fine (.two _) from trivial) htl _ _ h1;split at h2
         . simp only [PR.ok.injEq] at h2;obtain ⟨rfl,rfl⟩:=h2;exact ⟨g1.1,Zhq g1.2⟩
         . cases h2
       . split at h
         . simp only [PR.ok.injEq] at h;obtain ⟨rfl,rfl⟩:=h;exact ⟨.mk _ _ _ _ (Zhr (by omega)) hh.n (by simp) (by simp),htl⟩
         . split at h
           . simp only [PR.ok.injEq] at h;obtain ⟨rfl,rfl⟩:=h;exact ⟨.mk _ _ _ _ (Zhr (by omega)) Zhj hh.s (by simp),htl⟩
           . split at h
             . split at h
               . simp only [PR.ok.injEq] at h;obtain ⟨rfl,rfl⟩:=h;exact ⟨.mk _ _ _ _ (Zhr (by omega)) Zhj hh.s (by simp),htl⟩
               . split at h
                 . simp only [PR.ok.injEq] at h;obtain ⟨rfl,rfl⟩:=h;exact ⟨.mk _ _ _ _ (Zhr (by omega)) (Zhr (by omega)) (by simp) (by simp),htl⟩
                 . split at h
                   . simp only [PR.ok.injEq] at h;obtain ⟨rfl,rfl⟩:=h;exact ⟨.mk _ _ _ _ (Zhr (by omega)) Zhj (by simp) (by simp),htl⟩
                   . split at h
                     . exact ih _ _ (show Job.fine (.args _ _ _) from ⟨Zhs _,by simp⟩) (Zhq htl) _ _ h
                     . cases h
             . cases h
  | args op left ks =>
   unfold parseJ at h;cases left with
   | zero =>
    simp only at h;split at h
    . simp only [PR.ok.injEq] at h;obtain ⟨rfl,rfl⟩:=h;exact ⟨.mk _ _ _ _ (Zhr hj.1) Zhj (by simp) hj.2,htl⟩
    . cases h
   | succ left =>
    simp only at h;split at h
    . cases h
    . have hx:∀ t∈(if ks=[] then ts else ts.tail),TokF t:=(by split<;>assumption);generalize (if ks=[] then ts else ts.tail)=t1 at h hx;have app:∀ {e1:Ex},Fine e1->∀ k∈ks++[e1],Fine k:=fun {e1} he k hk=>by
       rcases List.mem_append.1 hk with hk|hk
       . exact hj.2 k hk
       . simp only [List.mem_singleton] at hk;subst hk;exact he
      split at h
      . split at h
        . cases h
        . exact ih _ _ (show Job.fine (.args _ _ _) from ⟨hj.1,app (.mk _ _ _ _ (Zhr (by omega)) Zhj (Zhp hx).s (by simp))⟩) (Zhq hx) _ _ h
      . obtain ⟨e1,r1,h1,h2⟩:=then_ok h;have g1:=ih _ _ (show Job.fine (.two _) from trivial) hx _ _ h1;exact ih _ _ (show Job.fine (.args _ _ _) from ⟨hj.1,app g1.1⟩) g1.2 _ _ h2
theorem Zhw {ts:List Tok} {e:Ex} (ht:∀ t∈ts,TokF t) (h:readL ts = .ok e):Fine e:=by
 unfold readL at h;split at h
 . cases h
 . cases h
 . rename_i e1 r h1;split at h
   . simp only [Except.ok.injEq] at h;subst h;exact (Zhv _ _ _ (show Job.fine (.two _) from trivial) ht _ _ h1).1
   . cases h
def parsePost (s:ByteArray) (w:World) (e:Ending) (w':World):Prop :=
 Below w.heap.size w w'/\(match parseM s.data.toList with
  | .error (p,k)=>e = .returned (.tuple #[zeroV,.int .i64 p,.int .i64 k])
  | .ok ex=>∃ v,e = .returned (.tuple #[v,.int .i64 0,.int .i64 0])/\EV (gn w.heap.size w') v ex)
theorem Zhx {n:Nat} {a W:World} (h:Below n a W) {B:Nat} (hB:n<=B) (y0 y1 y2 y3:Value):Below n a ((((W.setCell ⟨B,0,none⟩ y0).setCell ⟨B,1,none⟩ y1).setCell ⟨B,2,none⟩ y2).setCell ⟨B,3,none⟩ y3) :=
 (((h.setCell (p:=⟨B,0,none⟩) hB _).setCell (p:=⟨B,1,none⟩) hB _).setCell (p:=⟨B,2,none⟩) hB _).setCell (p:=⟨B,3,none⟩) hB _
theorem Zhy {a b c:World} (h:Below a.heap.size a b) (g:Below b.heap.size b c):Below a.heap.size a c :=
 ⟨g.os.trans h.os,g.tape.trans h.tape,g.output.trans h.output,Nat.le_trans h.size g.size,fun x hx=>(g.block x (Nat.lt_of_lt_of_le hx h.size)).trans (h.block x hx)⟩
theorem Zhz (s:ByteArray) (w:World) (p:Nat) (k:Int) (hk:k=5\/k=7)
 (hc:Calls Tryz.prog 65 #[.string s] (w.alloc zEx) fun e w'=>e = .returned (.tuple #[.slice none 0 0,.int .i64 p,.int .i64 k])/\Below (w.heap.size+1) (w.alloc zEx) w')
 (hm:parseM s.data.toList = .error (p,k)) :
 Calls Tryz.prog 67 #[.string s] w (parsePost s w):=by have HC:=Zq hc;have HM:=Zq hm;clear hc hm;rcases hk with rfl|rfl;all_goals go_in;go_wp2_with fail;refine HC.out.mono ?_;rintro e W ⟨rfl,hb⟩;have hz:W.heap[w.heap.size]?=some zEx:=(by rw [hb.block _ (by omega)]; exact Yac w _);obtain ⟨⟨c0,c1,c2,c3⟩,f0,f1,f2,f3⟩:=ZdP hz;have hbw:Below w.heap.size w W:=⟨hb.os,hb.tape,hb.output,by have:=hb.size; simp at this; omega,fun x hx=>(hb.block x (by omega)).trans (Yah w _ x hx)⟩;have HZ:=Zq hz;have HB:=Zq hbw;clear hb hz hbw;go_wp2;have hh:=ZdP (ZdM HZ.out (.int .i64 0) (.int .i64 0) (.string ⟨#[]⟩) (.slice none 0 0));refine Yaf (v := .tuple #[zeroV,.int .i64 p,.int .i64 _]) (by simp [results,Tryz.results67,go_sem,zeroV,hh.1]; rfl) rfl ?_;refine ⟨Zhx HB.out Zs _ _ _ _,?_⟩;rw [HM.out]
theorem ZhA (s:ByteArray) (w:World) (ts:List Tok) (hs:s.size<=400) (hL:Lay (gh w)) (hlx:lexAll s.data.toList = .ok ts) :
 Calls Tryz.prog 67 #[.string s] w (parsePost s w):=by
 have hb0:Below w.heap.size w (w.alloc zEx):=(Yab w.heap.size w).alloc Zs _;have hlex:=ZcN s _ hs (hL.below hb0);have hF:=Zhn (l:=s.data.toList) (by rw [Zcg]; omega) hlx;rw [Zcg] at hF;have hM:parseM s.data.toList=match readL ts with
  | .error q => .error (q,6)
  | .ok e=>if check e=true then .ok e else .error (0,7):=by
  unfold parseM
  rw [if_neg (by rw [Zcg]; omega),hlx]
  rfl
 have HC:=Zq hlex;have HLX:=Zq hlx;have HM:=Zq hM;have HF:=Zq hF;have HL:=Zq hL;clear hlex hlx hM hF hL hb0;go_in;go_wp2_with fail;refine HC.out.mono ?_;rintro e W1 ⟨hb1,hpost⟩;rw [HLX.out] at hpost;obtain ⟨tv,rfl,hT1⟩:=hpost;have hz1:W1.heap[w.heap.size]?=some zEx:=by rw [hb1.block _ (by simp)]; exact Yac w _
 have hbw1:Below w.heap.size w W1:=⟨hb1.os,hb1.tape,hb1.output,by have:=hb1.size; simp at this; omega,fun x hx=>(hb1.block x (by simp; omega)).trans (Yah w _ x hx)⟩;have hrd:=Zhi ts tv W1 hT1 HF.out.1 (by have:=HF.out.2.1; omega);have HR:=Zq hrd;have HZ1:=Zq hz1;have HB1:=Zq hbw1;clear hb1 hT1 hrd hz1 hbw1 HC;go_wp2_with fail;refine HR.out.mono ?_;rintro e W2 ⟨hb2,hpost⟩;have l1:=(Yaa.1 HZ1.out).1;have hz2:W2.heap[w.heap.size]?=some zEx:=by rw [hb2.block _ l1]; exact HZ1.out
 have hbw2:=Zhy HB1.out hb2;have l2:w.heap.size<W2.heap.size:=(Yaa.1 hz2).1;clear HR HZ1 HB1 hb2;cases hrl:readL ts with
 | error q =>rw [hrl] at hpost;have HM2:Hid (parseM s.data.toList = .error (q,6)):=Zq (by rw [HM.out,hrl]);simp only at hpost;subst hpost;have HZ:=Zq ((Yah W2 zEx _ l2).trans hz2);have HB:=Zq (hbw2.alloc hbw2.size zEx);unfold zeroV;clear hz2 hbw2 hrl HM;go_upto_region 5 with fail;generalize W2.alloc zEx=W3 at *;obtain ⟨⟨c0,c1,c2,c3⟩,f0,f1,f2,f3⟩:=ZdP HZ.out;go_wp2;have hh:=ZdP (ZdM HZ.out (.int .i64 0) (.int .i64 0) (.string ⟨#[]⟩) (.slice none 0 0));refine Yaf (v := .tuple #[zeroV,.int .i64 q,.int .i64 6]) (by simp [results,Tryz.results67,go_sem,zeroV,hh.1]) rfl ?_;refine ⟨Zhx HB.out Zs _ _ _ _,?_⟩;rw [HM2.out]
 | ok ex =>
  rw [hrl] at hpost;obtain ⟨v,rfl,kv,rfl,hK⟩:=hpost;have hFx:Fine ex:=Zhw HF.out.2.2 hrl;have HM2:Hid (parseM s.data.toList=if check ex=true then .ok ex else .error (0,7)):=Zq (by rw [HM.out,hrl]);obtain ⟨ka,kc,hkv⟩:=hK.form;subst hkv;have hb3:=(Yab W2.heap.size W2).alloc Zs (cEx ex.op ex.n ex.s (.slice ka ex.ks.length kc));have hck:=Zdt ex (exV ex.op ex.n ex.s (.slice ka ex.ks.length kc)) _ hFx (HL.out.below (Zhy hbw2 hb3)) ⟨_,rfl,(hK.mono (ZdK _ W2)).keep hb3⟩;have HC:=Zq hck;have HZ:=Zq ((hb3.block _ l2).trans hz2);have HE:=Zq (Yac W2 (cEx ex.op ex.n ex.s (.slice ka ex.ks.length kc)));have HB:=Zq (Zhy hbw2 hb3);have HK:Hid (KV (gp (fun b=>w.heap.size<b) (W2.alloc (cEx ex.op ex.n ex.s (.slice ka ex.ks.length kc)))) (.slice ka ex.ks.length kc) ex.ks):=Zq (hK.mono (ZdJ fun b hb hl=>⟨by omega,hb3.block b hl⟩));have hl3:(W2.alloc (cEx ex.op ex.n ex.s (.slice ka ex.ks.length kc))).heap.size=W2.heap.size+1:=(by simp);clear hck hb3 hK hFx hz2 hbw2 hrl HM;unfold exV strV at HC;unfold exV strV;go_wp2_with fail;refine HC.out.mono ?_;rintro e W4 ⟨rfl,hb4⟩;generalize W2.alloc (cEx ex.op ex.n ex.s (.slice ka ex.ks.length kc))=W3 at *;have hz4:=(hb4.block _ (by omega)).trans HZ.out;have he4:=(hb4.block _ (by omega)).trans HE.out;have HB4:=Zq (Zhy HB.out hb4);have HK4:Hid (KV (gp (fun b=>w.heap.size<b) W4) (.slice ka ex.ks.length kc) ex.ks):=Zq (HK.out.mono (ZdJ fun b hb hl=>⟨hb,hb4.block b hl⟩));have HZ4:=Zq hz4;obtain ⟨⟨c0,c1,c2,c3⟩,f0,f1,f2,f3⟩:=ZdP hz4;obtain ⟨⟨d0,d1,d2,d3⟩,-⟩:=ZdP he4;clear HC HZ HE HB HK hb4 hz4 he4;cases hck:check ex with
  | false =>rw [hck,if_neg (by simp)] at HM2;clear hck;go_wp2;have hh:=ZdP (ZdM HZ4.out (.int .i64 0) (.int .i64 0) (.string ⟨#[]⟩) (.slice none 0 0));refine Yaf (v := .tuple #[zeroV,.int .i64 0,.int .i64 7]) (by simp [results,Tryz.results67,go_sem,zeroV,hh.1]) rfl ?_;refine ⟨Zhx HB4.out Zs _ _ _ _,?_⟩;rw [HM2.out]; rfl
  | true =>rw [hck,if_pos rfl] at HM2;clear hck;go_wp2;have hh:=ZdP (ZdM HZ4.out (.int .i64 ex.op) (.int .i64 ex.n) (.string ⟨ex.s.toArray⟩) (.slice ka ex.ks.length kc));refine Yaf (v := .tuple #[exV ex.op ex.n ex.s (.slice ka ex.ks.length kc),.int .i64 0,.int .i64 0]) (by simp [results,Tryz.results67,go_sem,exV,strV,hh.1]) rfl ?_;refine ⟨Zhx HB4.out Zs _ _ _ _,?_⟩;rw [HM2.out];exact ⟨_,rfl,_,rfl,HK4.out.mono (ZdJ fun b hb _=>⟨by omega,ZdN (by omega) _ _ _ _⟩)⟩
theorem ZhB (s:ByteArray) (w:World) (hm:s.size<=9223372036854775807) (hL:Lay (gh w)) :
 Calls Tryz.prog 67 #[.string s] w (parsePost s w):=by
 have hb0:Below w.heap.size w (w.alloc zEx):=(Yab w.heap.size w).alloc Zs _;have hz:(w.alloc zEx).heap.size=w.heap.size+1:=by simp
 by_cases hs:s.size<=400
 . cases hx:lexAll s.data.toList with
   | error p =>
    refine Zhz s w p 5 (.inl rfl) ((ZcN s _ hs (hL.below hb0)).mono ?_) ?_
    . rintro e w' ⟨hb,hp⟩;rw [hx] at hp;rw [hz] at hb;exact ⟨hp,hb⟩
    . unfold parseM;rw [if_neg (by rw [Zcg]; omega),hx]
   | ok ts=>exact ZhA s w ts hs hL hx
 . refine Zhz s w 400 7 (.inr rfl) ((ZcM s _ (by omega) hm).mono ?_) ?_
   . rintro e w' ⟨rfl,rfl⟩;refine ⟨rfl,?_⟩;have:=Yab (w.heap.size+1) (w.alloc zEx);exact this
   . unfold parseM;rw [if_pos (by rw [Zcg]; omega)]
end Go.Proofs.YtikannmgllejfaaGreatDoor
