/- The walk of (*parser). -/
import Derived.Test.YtikannmgllejfaaGreatDoorKVb
import Derived.RegionTactic
import Derived.ChangeAlike
import Derived.StillTailTactics
set_option maxHeartbeats 4000000
set_option maxRecDepth 1000000
set_option linter.all false
namespace Go.Proofs.YtikannmgllejfaaGreatDoor
open Go.RowKit Pal
def takesPost (pb:Nat) (tv:Value) (p:Nat) (t:Tok) (signs:List Bs) (w:World) (e:Ending) (w':World):Prop :=
 But pb w w'/\(if t.k=4/\t.s∈signs then e = .returned (strV t.s)/\PSt w' pb tv (p+1) else e = .returned (strV [])/\PSt w' pb tv p)
theorem Zdx (pb p:Nat) (toks:List Tok) (t:Tok) (signs:List Bs) (tv sv:Value) (w:World) (hp:PSt w pb tv p) (hT:TokV (gb pb w) tv toks) (ht:toks[p]?=some t) (hS:StrsV (gb pb w) sv signs)
 (hl:toks.length<=1000) (hsl:signs.length<=1000) :
 Calls Tryz.prog 173 #[.pointer (some ⟨pb,0,none⟩),sv] w (takesPost pb tv p t signs w):=by
 have hTg:TokV (gh w) tv toks:=SlV.mono hT (Zdu pb w);obtain ⟨ta,tcap,rfl⟩:=hT.form;obtain ⟨tb,toff,rfl,k0,k1,k2,k3⟩:=hTg.at ht;have hSg:StrsV (gh w) sv signs:=hS.mono (Zdu pb w);obtain ⟨sa,sc,rfl⟩:=hSg.form;obtain ⟨c0,c1,f1,hpl⟩:=hp.cells;have hpt:=(Yag.1 ht).1;have i1:(p:Int)<(toks.length:Int):=by omega
 have i0:(0:Int)<=(p:Int):=by omega
 have HP:=Zq hp;clear hp hT hTg ht hS;unfold strV at k1;have htl:tb<w.heap.size:=Yan w _ k0;have a0:=Zdw htl k0;have a1:=Zdw htl k1;have a2:=Zdw htl k2;have a3:=Zdw htl k3;have a4:=Zdw hpl c0;have a5:=Zdw hpl c1;go_in;go_wp2;go_region;go_wp2;have hbW:Below w.heap.size w (w.alloc (.cells #[.int .i64 t.k,.string ⟨t.s.toArray⟩,.int .i64 t.n,.int .i64 t.p] 114)).drew:=((Yab w.heap.size w).alloc Zs _).drew;have hblk:(w.alloc (.cells #[.int .i64 t.k,.string ⟨t.s.toArray⟩,.int .i64 t.n,.int .i64 t.p] 114)).drew.heap[w.heap.size]?=some (.cells #[.int .i64 t.k,.string ⟨t.s.toArray⟩,.int .i64 t.n,.int .i64 t.p] 114 (0,0)):=Yac w _;have hPW:=HP.out.keep hbW;have hSW:=hSg.mono (Zah hbW);generalize hW:(w.alloc (.cells #[.int .i64 t.k,.string ⟨t.s.toArray⟩,.int .i64 t.n,.int .i64 t.p] 114)).drew=W at *;clear hW a0 a1 a2 a3 a4 a5 c0 c1 f1 k0 k1 k2 k3;obtain ⟨c0,c1,f1,hplW⟩:=hPW.cells;obtain ⟨d0,d1,-,-⟩:=Zc7 hblk;have HPW:=Zq hPW;have HBW:=Zq (But.below (pb:=pb) hbW);clear hPW hblk hbW htl hpl;go_loop [20] (fun i=>∃ k:Nat,k<=signs.length/\i = .int .i64 k/\Hid (∀ j s,j<k->signs[j]?=some s->¬ (t.k=4/\t.s=s))) (fun i=>signs.length - (intOf i).toNat);case atStart=>exact ⟨0,by omega,rfl,Zq (fun j s hj=>by omega)⟩
 case round =>
  obtain ⟨k,hk,rfl,HN⟩:=hrel;by_cases hlt:k<signs.length
  . obtain ⟨sb,soff,rfl,s0⟩:=hSW.at (Yad hlt);have HG:=Zq (Yad hlt);unfold strV at s0;generalize signs[k]=s at s0 HG;by_cases h4:t.k=4
    . have H4:(t.k == 4)=true:=(by simp [h4]);by_cases hs:t.s=s
      . have HS:(t.s == s)=true:=(by simp [hs]);have HC:Hid (t.k=4/\t.s∈signs):=Zq ⟨h4,by rw [hs]; exact Yay HG.out⟩;have HSS:=Zq hs;clear h4 hs;go_wp2;go_ret;refine ⟨HBW.out.setPb 1 _,?_⟩;rw [if_pos HC.out];refine ⟨by rw [HSS.out]; rfl,?_⟩;exact HPW.out.set _ _ (by omega)
      . have HS:(t.s == s)=false:=ZcO hs;have HX:=Zq hs;clear h4 hs;go_wp2;refine ⟨⟨k+1,by omega,by go_num,Zq (fun j x hj hx hh=>?_)⟩,by simp [intOf]; omega⟩;by_cases e:j=k
        . subst e;rw [HG.out] at hx;cases hx;exact HX.out hh.2
        . exact HN.out j x (by omega) hx hh
    . have H4:(t.k == 4)=false:=Zr h4;have HX:=Zq h4;clear h4;go_wp2;refine ⟨⟨k+1,by omega,by go_num,Zq (fun j x hj hx hh=>HX.out hh.1)⟩,by simp [intOf]; omega⟩
  . obtain rfl:k=signs.length:=(by omega);have HC:Hid (¬ (t.k=4/\t.s∈signs)):=Zq (fun h=>by obtain ⟨j,hj,e⟩:=List.getElem_of_mem h.2;exact HN.out j (signs[j]) hj (Yad hj) ⟨h.1,e.symm⟩);go_wp2;go_ret;refine ⟨HBW.out,?_⟩;rw [if_neg HC.out];exact ⟨rfl,HPW.out⟩
theorem Zdy (pb p:Nat) (toks:List Tok) (t:Tok) (signs:List Bs) (tv sv:Value) (w:World) (hp:PSt w pb tv p) (hT:TokV (gb pb w) tv toks) (ht:toks[p]?=some t) (hS:StrsV (gb pb w) sv signs)
 (hl:toks.length<=1000) (hsl:signs.length<=1000) (h:t.k=4/\t.s∈signs) :
 Calls Tryz.prog 173 #[.pointer (some ⟨pb,0,none⟩),sv] w fun e w'=>But pb w w'/\e = .returned (strV t.s)/\PSt w' pb tv (p+1) :=
 (Zdx pb p toks t signs tv sv w hp hT ht hS hl hsl).mono fun e w' hh=>by unfold takesPost at hh; rw [if_pos h] at hh; exact hh
theorem Zdz (pb p:Nat) (toks:List Tok) (t:Tok) (signs:List Bs) (tv sv:Value) (w:World) (hp:PSt w pb tv p) (hT:TokV (gb pb w) tv toks) (ht:toks[p]?=some t) (hS:StrsV (gb pb w) sv signs)
 (hl:toks.length<=1000) (hsl:signs.length<=1000) (h:¬ (t.k=4/\t.s∈signs)) :
 Calls Tryz.prog 173 #[.pointer (some ⟨pb,0,none⟩),sv] w fun e w'=>But pb w w'/\e = .returned (strV [])/\PSt w' pb tv p :=
 (Zdx pb p toks t signs tv sv w hp hT ht hS hl hsl).mono fun e w' hh=>by unfold takesPost at hh; rw [if_neg h] at hh; exact hh
theorem StrsV.new {pb:Nat} {w:World} (hp:pb<w.heap.size) (l:List Bs) (T:TypeId) (hm:l.length<=maxLen):StrsV (gb pb (w.alloc (.cells (l.map strV).toArray T (0,0)))) (.slice (some ⟨w.heap.size,0,none⟩) l.length l.length) l:=by refine ⟨_,_,rfl,fun h=>(by cases h),Nat.le_refl _,hm,fun j s hj=>⟨w.heap.size,0,rfl,?_⟩⟩;have hnb:(w.alloc (.cells (l.map strV).toArray T (0,0))).heap[w.heap.size]?=some (.cells (l.map strV).toArray T (0,0)):=Yac w _;unfold GH.cell gb;rw [if_neg (by omega),hnb];simp [hj]
def pan (p:Nat):List PanicEntry:=[{ v := .iface 172 (.agg #[.int .i64 p]),recovered:=false }]
theorem ZdA (pb p:Nat) (toks:List Tok) (t:Tok) (sign:Bs) (tv:Value) (w:World) (hp:PSt w pb tv p) (hT:TokV (gb pb w) tv toks) (ht:toks[p]?=some t)
 (hl:toks.length<=1000) (hsg:isSg sign t=false) :
 Calls Tryz.prog 215 #[.pointer (some ⟨pb,0,none⟩),strV sign] w fun e w'=>But pb w w'/\e = .panicked (pan t.p):=by
 have hb0:Below w.heap.size w (w.alloc (.cells #[.string ⟨sign.toArray⟩] 9)):=(Yab w.heap.size w).alloc Zs _;have hno:¬ (t.k=4/\t.s∈[sign]):=fun h=>by have:=of_decide_eq_false hsg;simp at h; exact this h
 have htk:=Zdz pb p toks t [sign] tv (.slice (some ⟨w.heap.size,0,none⟩) 1 1) _ (hp.keep hb0) (SlV.mono hT (But.below (pb:=pb) hb0).gb) ht (StrsV.new hp.cells.2.2.2 [sign] 9 (by simp [maxLen])) hl (by simp) hno;have HT:=Zq htk;clear htk hno;unfold strV at *;go_in;go_wp2_with fail;refine HT.out.mono ?_;rintro e W1 ⟨hB,rfl,hP1⟩;have hBT:But pb w W1:=(But.below hb0).trans hB;have hT1:TokV (gb pb W1) tv toks:=SlV.mono hT hBT.gb;have hTg:TokV (gh W1) tv toks:=SlV.mono hT1 (Zdu pb W1);obtain ⟨ta,tcap,rfl⟩:=hT.form;obtain ⟨tb,toff,rfl,k0,k1,k2,k3⟩:=hTg.at ht;obtain ⟨c0,c1,f1,hpl⟩:=hP1.cells;have hpt:=(Yag.1 ht).1;have i1:(p:Int)<(toks.length:Int):=by omega
 have i0:(0:Int)<=(p:Int):=by omega
 clear hT hT1 hTg ht k0 k1 k2 HT hp hP1 hB hb0;go_wp2;go_still_tail 13,(by kernel_rfl);go_wp2;exact ⟨rfl,hBT.drew,rfl⟩
theorem ZdB (pb p:Nat) (toks:List Tok) (t:Tok) (sign:Bs) (tv:Value) (w:World) (hp:PSt w pb tv p) (hT:TokV (gb pb w) tv toks) (ht:toks[p]?=some t)
 (hl:toks.length<=1000) (hsg:isSg sign t=true) (hne:¬ sign=[]) :
 Calls Tryz.prog 215 #[.pointer (some ⟨pb,0,none⟩),strV sign] w fun e w'=>But pb w w'/\e = .returned (.tuple #[])/\PSt w' pb tv (p+1):=by
 have hb0:Below w.heap.size w (w.alloc (.cells #[.string ⟨sign.toArray⟩] 9)):=(Yab w.heap.size w).alloc Zs _;have hyes:t.k=4/\t.s∈[sign]:=by have:=of_decide_eq_true hsg; simpa using this
 have htk:=Zdy pb p toks t [sign] tv (.slice (some ⟨w.heap.size,0,none⟩) 1 1) _ (hp.keep hb0) (SlV.mono hT (But.below (pb:=pb) hb0).gb) ht (StrsV.new hp.cells.2.2.2 [sign] 9 (by simp [maxLen])) hl (by simp) hyes;have e1:t.s=sign:=by simpa using hyes.2
 rw [e1] at htk;have HT:=Zq htk;have he:=ZcZ hne;clear htk hyes e1 hsg hne;unfold strV at *;go_in;go_wp2_with fail;refine HT.out.mono ?_;rintro e W1 ⟨hB,rfl,hP1⟩;have hBT:But pb w W1:=(But.below hb0).trans hB;go_wp2;go_end0;exact ⟨hBT,rfl,hP1⟩
def lvS (n:Nat):List Bs :=
 if n=0 then [[124]] else if n=1 then [[38]] else if n=2 then [[61],[33,61],[60],[60,61],[62],[62,61]] else if n=3 then [[43],[45]] else [[42],[47],[37]]
def opS (s:Bs):Int :=
 if s=[43] then 7 else if s=[45] then 8 else if s=[42] then 9 else if s=[47] then 10 else if s=[37] then 11 else if s=[61] then 12 else if s=[33,61] then 13
 else if s=[60] then 14 else if s=[62] then 14 else if s=[60,61] then 15 else if s=[62,61] then 15 else if s=[38] then 16 else 17
def allS:List Bs:=[[43],[45],[42],[47],[37],[61],[33,61],[60],[62],[60,61],[62,61],[38],[124]]
theorem ZdC {n:Nat} {s:Bs} (h:s∈lvS n):s∈allS:=by
 have H:(∀ x∈lvS 0,x∈allS)/\(∀ x∈lvS 1,x∈allS)/\(∀ x∈lvS 2,x∈allS)/\(∀ x∈lvS 3,x∈allS)/\(∀ x∈lvS 4,x∈allS):=by decide
 rcases (by omega:n=0\/n=1\/n=2\/n=3\/4<=n) with rfl|rfl|rfl|rfl|h4
 . exact H.1 s h
 . exact H.2.1 s h
 . exact H.2.2.1 s h
 . exact H.2.2.2.1 s h
 . refine H.2.2.2.2 s ?_;unfold lvS at h |-;rw [if_neg (by omega),if_neg (by omega),if_neg (by omega),if_neg (by omega)] at h;exact h
theorem ZdD (s:Bs) (w:World) (h:s∈allS) :
 Calls Tryz.prog 175 #[strV s] w fun e w'=>e = .returned (.int .i64 (opS s))/\w=w':=by simp only [allS,Ybc,List.mem_nil_iff,or_false] at h;rcases h with rfl|rfl|rfl|rfl|rfl|rfl|rfl|rfl|rfl|rfl|rfl|rfl|rfl;all_goals unfold strV;go_in;go_wp2;go_ret;exact ⟨rfl,rfl⟩
theorem ZdE (s:Bs) (w:World) (h:s∈[wIf,wLen,wCat,wCut,wUp,wHas]) :
 Calls Tryz.prog 231 #[strV s] w fun e w'=>e = .returned (.tuple #[.int .i64 (opOf s),.int .i64 (arOf s)])/\w=w':=by simp only [Ybc,List.mem_nil_iff,or_false] at h;rcases h with rfl|rfl|rfl|rfl|rfl|rfl;all_goals simp only [strV,wIf,wLen,wCat,wCut,wUp,wHas];go_in;go_wp2;go_ret2;exact ⟨rfl,rfl⟩
theorem ZdF (l:List Bs) (w:World) (T:TypeId) (hm:l.length<=maxLen):Below w.heap.size w (w.alloc (.cells (l.map strV).toArray T (0,0)))/\∀ pb,pb<w.heap.size->StrsV (gb pb (w.alloc (.cells (l.map strV).toArray T (0,0)))) (.slice (some ⟨w.heap.size,0,none⟩) l.length l.length) l :=
 ⟨(Yab _ _).alloc Zs _,fun _ hp=>StrsV.new hp l T hm⟩
theorem ZdG (n:Nat) (w:World) (h:n<=4) :
 Calls Tryz.prog 174 #[.int .i64 n] w fun e w'=>∃ sv,e = .returned sv/\Below w.heap.size w w'/\∀ pb,pb<w.heap.size->StrsV (gb pb w') sv (lvS n):=by
 rcases (by omega:n=0\/n=1\/n=2\/n=3\/n=4) with rfl|rfl|rfl|rfl|rfl
 . go_in;go_wp2;go_ret;exact ⟨_,rfl,ZdF [[124]] w 9 (by simp [maxLen])⟩
 . go_in;go_wp2;go_ret;exact ⟨_,rfl,ZdF [[38]] w 9 (by simp [maxLen])⟩
 . go_in;go_wp2;go_ret;exact ⟨_,rfl,ZdF [[61],[33,61],[60],[60,61],[62],[62,61]] w 9 (by simp [maxLen])⟩
 . go_in;go_wp2;go_ret;exact ⟨_,rfl,ZdF [[43],[45]] w 9 (by simp [maxLen])⟩
 . go_in;go_wp2;go_ret;exact ⟨_,rfl,ZdF [[42],[47],[37]] w 9 (by simp [maxLen])⟩
theorem ZdH {n:Nat} {t:Tok} (h:lvT n t=none):¬ (t.k=4/\t.s∈lvS n):=by
 rintro ⟨h4,hs⟩;unfold lvT lv at h;rw [if_pos h4] at h;unfold lvS at hs
 repeat' split at h
 all_goals (first|(cases h; done)|(simp_all; done))
theorem ZdI {n:Nat} {t:Tok} {op:Int} {sw:Bool} (h:lvT n t=some (op,sw)):(t.k=4/\t.s∈lvS n)/\opS t.s=op/\sw=(decide (t.s=[62]) || decide (t.s=[62,61]))/\¬ t.s=[]:=by
 unfold lvT lv at h;unfold lvS
 repeat' split at h
 all_goals (first|(cases h; done)|(simp only [Yai,Yaw] at h; obtain ⟨rfl,rfl⟩:=h; simp_all [opS]; done))
def gp (p:Nat->Prop) [DecidablePred p] (w:World):GH:=fun b=>if p b then w.heap[b]? else none
theorem ZdJ {p q:Nat->Prop} [DecidablePred p] [DecidablePred q] {w w':World} (h:∀ b,p b->b<w.heap.size->q b/\w'.heap[b]?=w.heap[b]?):(gp p w).le (gp q w'):=fun b o hh=>by
 unfold gp at hh |-
 split at hh
 . rename_i hp
   have:=h b hp (Yaa.1 hh).1
   rw [if_pos this.1,this.2]; exact hh
 . cases hh
theorem ZdK (p:Nat->Prop) [DecidablePred p] (w:World):(gp p w).le (gh w):=fun b o hh=>by
 unfold gp at hh
 split at hh
 . exact hh
 . cases hh
abbrev gn (n:Nat) (w:World):GH:=gp (fun b=>n<=b) w
theorem ZdL {p:Nat->Prop} [DecidablePred p] {pb:Nat} (w:World) (h:¬ p pb):(gp p w).le (gb pb w):=fun b o hh=>by
 unfold gp at hh
 unfold gb
 split at hh
 . rename_i hp
   rw [if_neg (fun e=>h (by rw [<-e]; exact hp))]; exact hh
 . cases hh
theorem ZdM {W:World} {B:Nat} {x0 x1 x2 x3:Value} {T:TypeId} (h:W.heap[B]?=some (.cells #[x0,x1,x2,x3] T (0,0))) (y0 y1 y2 y3:Value) :
 ((((W.setCell ⟨B,0,none⟩ y0).setCell ⟨B,1,none⟩ y1).setCell ⟨B,2,none⟩ y2).setCell ⟨B,3,none⟩ y3).heap[B]?=some (.cells #[y0,y1,y2,y3] T (0,0)):=by simp [World.setCell,Yap,h]
theorem ZdN {W:World} {B b:Nat} (hb:b≠B) (y0 y1 y2 y3:Value) :
 ((((W.setCell ⟨B,0,none⟩ y0).setCell ⟨B,1,none⟩ y1).setCell ⟨B,2,none⟩ y2).setCell ⟨B,3,none⟩ y3).heap[b]?=W.heap[b]?:=by simp [World.setCell,Yap,Ne.symm hb]
theorem ZdO {W:World} {B:Nat} (y0 y1 y2 y3:Value) :
 ((((W.setCell ⟨B,0,none⟩ y0).setCell ⟨B,1,none⟩ y1).setCell ⟨B,2,none⟩ y2).setCell ⟨B,3,none⟩ y3).heap.size=W.heap.size:=by simp [World.setCell]
theorem But.set4 {pb:Nat} {a W:World} (h:But pb a W) {B:Nat} (hB:a.heap.size<=B) (y0 y1 y2 y3:Value) :
 But pb a ((((W.setCell ⟨B,0,none⟩ y0).setCell ⟨B,1,none⟩ y1).setCell ⟨B,2,none⟩ y2).setCell ⟨B,3,none⟩ y3) :=
 (((h.setNew (p:=⟨B,0,none⟩) hB _).setNew (p:=⟨B,1,none⟩) hB _).setNew (p:=⟨B,2,none⟩) hB _).setNew (p:=⟨B,3,none⟩) hB _
theorem ZdP {W:World} {B:Nat} {x0 x1 x2 x3:Value} {T:TypeId} (h:W.heap[B]?=some (.cells #[x0,x1,x2,x3] T (0,0))) :
 (W.cell? ⟨B,0,none⟩=some x0/\W.cell? ⟨B,1,none⟩=some x1/\W.cell? ⟨B,2,none⟩=some x2/\W.cell? ⟨B,3,none⟩=some x3) /\
 (W.frozen? ⟨B,0,none⟩=false/\W.frozen? ⟨B,1,none⟩=false/\W.frozen? ⟨B,2,none⟩=false/\W.frozen? ⟨B,3,none⟩=false):=by simp [World.cell?,World.frozen?,h]
theorem ZdQ {W:World} {B:Nat} {x0 x1 x2 x3:Value} {T:TypeId} (h:W.heap[B]?=some (.cells #[x0,x1,x2,x3] T (0,0))) :
 ((∀ o:Obj,(W.alloc o).cell? ⟨B,0,none⟩=some x0)/\(∀ o:Obj,(W.alloc o).cell? ⟨B,1,none⟩=some x1)/\(∀ o:Obj,(W.alloc o).cell? ⟨B,2,none⟩=some x2)/\(∀ o:Obj,(W.alloc o).cell? ⟨B,3,none⟩=some x3)) /\
 ((∀ o:Obj,(W.alloc o).frozen? ⟨B,0,none⟩=false)/\(∀ o:Obj,(W.alloc o).frozen? ⟨B,1,none⟩=false)/\(∀ o:Obj,(W.alloc o).frozen? ⟨B,2,none⟩=false)/\(∀ o:Obj,(W.alloc o).frozen? ⟨B,3,none⟩=false)):=by have hlt:B<W.heap.size:=(Yaa.1 h).1;have A:=fun o:Obj=>ZdP (W:=W.alloc o) (B:=B) (x0:=x0) (x1:=x1) (x2:=x2) (x3:=x3) (T:=T) (by rw [Yah W o _ hlt]; exact h);exact ⟨⟨fun o=>(A o).1.1,fun o=>(A o).1.2.1,fun o=>(A o).1.2.2.1,fun o=>(A o).1.2.2.2⟩,fun o=>(A o).2.1,fun o=>(A o).2.2.1,fun o=>(A o).2.2.2.1,fun o=>(A o).2.2.2.2⟩
theorem KV.one {h:GH} {b:Nat} {a:Ex} {u T} (hb:h b=some (.cells #[.int .i64 a.op,.int .i64 a.n,strV a.s,u] T (0,0))) (ka:KV h u a.ks):KV h (.slice (some ⟨b,0,none⟩) 1 1) [a]:=by
 refine .mk [a] (some ⟨b,0,none⟩) 1 (fun _=>u) (fun h=>by cases h) Zs (by simp [maxLen]) (fun j k hj=>⟨b,0,rfl,?_⟩) (fun j k hj=>?_)
 . match j,hj with
   | 0,hj=>simp at hj; subst hj; simp [GH.cell,hb]
 . match j,hj with
   | 0,hj=>simp at hj; subst hj; exact ka
theorem KV.two {h:GH} {b:Nat} {a c:Ex} {u v T} (hb:h b=some (.cells #[.int .i64 a.op,.int .i64 a.n,strV a.s,u,.int .i64 c.op,.int .i64 c.n,strV c.s,v] T (0,0))) (ka:KV h u a.ks) (kc:KV h v c.ks):KV h (.slice (some ⟨b,0,none⟩) 2 2) [a,c]:=by
 refine .mk [a,c] (some ⟨b,0,none⟩) 2 (fun j=>if j=0 then u else v) (fun h=>by cases h) Zs (by simp [maxLen]) (fun j k hj=>⟨b,0,rfl,?_⟩) (fun j k hj=>?_)
 . match j,hj with
   | 0,hj=>simp at hj; subst hj; simp [GH.cell,hb]
   | 1,hj=>simp at hj; subst hj; simp [GH.cell,hb]
 . match j,hj with
   | 0,hj=>simp at hj; subst hj; exact ka
   | 1,hj=>simp at hj; subst hj; exact kc
def Res (pb:Nat) (tv:Value) (toks:List Tok) (x:PR) (w:World) (e:Ending) (w':World):Prop :=
 But pb w w'/\(match x with
  | .ok ex r=>(∃ v,e = .returned v/\EV (gn w.heap.size w') v ex)/\∃ p',toks.drop p'=r/\PSt w' pb tv p'
  | .bad q=>e = .panicked (pan q)
  | .out=>False)
theorem Ended.at {toks:List Tok} {p:Nat} (h:Ended (toks.drop p)):toks[p]?=some (hd (toks.drop p))/\p<toks.length:=by
 have hl:=h.len;rw [Yav] at hl;have hp:p<toks.length:=by omega
 refine ⟨?_,hp⟩;rw [Yas hp];simp [hd,hp]
theorem ZdR (toks:List Tok) (p:Nat):(toks.drop p).tail=toks.drop (p+1):=by rw [List.tail_drop]
theorem PSt.set4 {W:World} {pb B:Nat} {tv:Value} {p:Nat} (h:PSt W pb tv p) (hB:pb≠B) (y0 y1 y2 y3:Value):PSt ((((W.setCell ⟨B,0,none⟩ y0).setCell ⟨B,1,none⟩ y1).setCell ⟨B,2,none⟩ y2).setCell ⟨B,3,none⟩ y3) pb tv p:=by unfold PSt at *;rw [ZdN hB]; exact h
theorem ZdS {pb:Nat} {tv:Value} {toks:List Tok} {w W:World} {op n:Int} {s:Bs} {kv:Value} {ks:List Ex} {r:List Tok} {p':Nat}
 (hB:But pb w W) (hpl:pb<w.heap.size) (hK:KV (gp (fun b=>w.heap.size<b) W) kv ks) (hP:PSt W pb tv p') (hd:toks.drop p'=r) (y0 y1 y2 y3:Value) :
 Res pb tv toks (.ok (.mk op n s ks) r) w (.returned (exV op n s kv)) ((((W.setCell ⟨w.heap.size,0,none⟩ y0).setCell ⟨w.heap.size,1,none⟩ y1).setCell ⟨w.heap.size,2,none⟩ y2).setCell ⟨w.heap.size,3,none⟩ y3):=by refine ⟨hB.set4 Zs _ _ _ _,⟨_,rfl,kv,rfl,hK.mono (ZdJ fun b hb _=>⟨by omega,ZdN (by omega) _ _ _ _⟩)⟩,p',hd,hP.set4 (by omega) _ _ _ _⟩
theorem KV.into {n m:Nat} {w w':World} {v:Value} {ks:List Ex} (k:KV (gn n w) v ks) (hn:m<n) (h:∀ b,n<=b->b<w.heap.size->w'.heap[b]?=w.heap[b]?):KV (gp (fun b=>m<b) w') v ks :=
 k.mono (ZdJ fun b hb hl=>⟨by omega,h b hb hl⟩)
def sg3:List Bs:=[[45],[33],[40]]
theorem ZdT (pb p:Nat) (toks:List Tok) (tv:Value) (w:World) (hp:PSt w pb tv p) (hT:TokV (gb pb w) tv toks) :
 ∃ W,((w.alloc zEx).alloc (.cells #[.string ⟨#[45]⟩,.string ⟨#[33]⟩,.string ⟨#[40]⟩] 9))=W /\
  PSt W pb tv p/\TokV (gb pb W) tv toks/\But pb w W/\W.heap.size=w.heap.size+2/\StrsV (gb pb W) (.slice (some ⟨w.heap.size+1,0,none⟩) 3 3) sg3 /\
  W.heap[w.heap.size]?=some zEx:=by
 have hpl:=hp.cells.2.2.2;have hb0:Below w.heap.size w (w.alloc zEx):=(Yab w.heap.size w).alloc Zs _;have hB0:(w.alloc zEx).heap[w.heap.size]?=some zEx:=Yac w _;have hz0:(w.alloc zEx).heap.size=w.heap.size+1:=by simp
 generalize w.alloc zEx=W0 at *;have hb1:Below W0.heap.size W0 (W0.alloc (.cells (sg3.map strV).toArray 9 (0,0))):=(Yab _ _).alloc Zs _;have hst:=StrsV.new (pb:=pb) (w:=W0) (by omega) sg3 9 (by simp [maxLen,sg3]);refine ⟨_,rfl,(hp.keep hb0).keep hb1,SlV.mono hT ((But.below (pb:=pb) hb0).call hb1).gb,(But.below hb0).call hb1,by simp; omega,?_,?_⟩
 . rw [hz0] at hst; exact hst
 . have:=hb1.block w.heap.size (by omega); exact this.trans hB0
def oneStart (pb p:Nat) (toks:List Tok) (tv:Value) (w:World) (r:Bs) (e:Ending) (w':World):Prop :=
 e = .returned (strV r)/\PSt w' pb tv p/\But pb w w'/\TokV (gb pb w') tv toks/\w.heap.size+2<=w'.heap.size/\w'.heap[w.heap.size]?=some zEx
theorem ZdU (pb p:Nat) (toks:List Tok) (tv:Value) (w:World) (hp:PSt w pb tv p) (hT:TokV (gb pb w) tv toks) (hE:Ended (toks.drop p)) (hl:toks.length<=1000) (s:Bs) (hs:isSg s (hd (toks.drop p))=true) (hm:s∈sg3) :
 Calls Tryz.prog 173 #[.pointer (some ⟨pb,0,none⟩),.slice (some ⟨w.heap.size+1,0,none⟩) 3 3] ((w.alloc zEx).alloc (.cells #[.string ⟨#[45]⟩,.string ⟨#[33]⟩,.string ⟨#[40]⟩] 9)) (oneStart pb (p+1) toks tv w s):=by have hpl:=hp.cells.2.2.2;obtain ⟨W,hW,hP,hTW,hB,hz,hS,hc⟩:=ZdT pb p toks tv w hp hT;rw [hW];have h:=of_decide_eq_true hs;refine (Zdy pb p toks _ sg3 tv _ W hP hTW hE.at.1 hS hl (by simp [sg3]) ⟨h.1,by rw [h.2]; exact hm⟩).mono ?_;rintro e w' ⟨hB2,rfl,hP2⟩;have:=hB2.size;exact ⟨by rw [h.2],hP2,hB.trans hB2,SlV.mono hTW hB2.gb,by omega,by rw [hB2.block _ (by omega) (by omega)]; exact hc⟩
theorem ZdV (pb p:Nat) (toks:List Tok) (tv:Value) (w:World) (hp:PSt w pb tv p) (hT:TokV (gb pb w) tv toks) (hE:Ended (toks.drop p)) (hl:toks.length<=1000) (h1:isSg [45] (hd (toks.drop p))=false) (h2:isSg [33] (hd (toks.drop p))=false) (h3:isSg [40] (hd (toks.drop p))=false) :
 Calls Tryz.prog 173 #[.pointer (some ⟨pb,0,none⟩),.slice (some ⟨w.heap.size+1,0,none⟩) 3 3] ((w.alloc zEx).alloc (.cells #[.string ⟨#[45]⟩,.string ⟨#[33]⟩,.string ⟨#[40]⟩] 9)) (oneStart pb p toks tv w []):=by
 have hpl:=hp.cells.2.2.2;obtain ⟨W,hW,hP,hTW,hB,hz,hS,hc⟩:=ZdT pb p toks tv w hp hT;rw [hW];have g1:=of_decide_eq_false h1;have g2:=of_decide_eq_false h2;have g3:=of_decide_eq_false h3;refine (Zdz pb p toks _ sg3 tv _ W hP hTW hE.at.1 hS hl (by simp [sg3]) (fun hh=>?_)).mono ?_
 . have:=hh.2;simp only [sg3,Ybc,List.mem_nil_iff,or_false] at this;rcases this with e|e|e
   . exact g1 ⟨hh.1,e⟩
   . exact g2 ⟨hh.1,e⟩
   . exact g3 ⟨hh.1,e⟩
 rintro e w' ⟨hB2,rfl,hP2⟩;have:=hB2.size;exact ⟨rfl,hP2,hB.trans hB2,SlV.mono hTW hB2.gb,by omega,by rw [hB2.block _ (by omega) (by omega)]; exact hc⟩
theorem ZdW (pb p:Nat) (toks:List Tok) (tv:Value) (x:PR) (w:World) (hp:PSt w pb tv p) (hT:TokV (gb pb w) tv toks) (hE:Ended (toks.drop p)) (hl:toks.length<=1000)
 (hs:isSg [45] (hd (toks.drop p))=true)
 (hrec:∀ W,PSt W pb tv (p+1)->TokV (gb pb W) tv toks->Calls Tryz.prog 172 #[.pointer (some ⟨pb,0,none⟩)] W (Res pb tv toks x W)) :
 Calls Tryz.prog 172 #[.pointer (some ⟨pb,0,none⟩)] w (Res pb tv toks (x.then fun e r => .ok (.mk 5 0 [] [e]) r) w):=by
 have hpl:=hp.cells.2.2.2;have HS:=Zq (ZdU pb p toks tv w hp hT hE hl [45] hs (by simp [sg3]));have HR:=Zq hrec;clear hs hrec hE hp hT;go_in;go_wp2_with fail;refine HS.out.mono ?_;rintro e W2 ⟨rfl,hP2,hB2,hT2,hz2,hc2⟩;unfold strV;go_wp2_with fail;refine (HR.out _ hP2 hT2).mono ?_;cases x with
 | out=>rintro e W3 ⟨-,h⟩; exact h.elim
 | bad q =>rintro e W3 ⟨hB3,rfl⟩;go_wp2;exact ⟨rfl,hB2.trans hB3,rfl⟩
 | ok ex r =>
  rintro e W3 ⟨hB3,⟨v,rfl,kv,rfl,hK⟩,p',hd3,hP3⟩;have hc3:W3.heap[w.heap.size]?=some zEx:=(by rw [hB3.block _ (by omega) (by omega)]; exact hc2);obtain ⟨ka,kc,rfl⟩:=hK.form;have hz3:=hB3.size;obtain ⟨⟨c0,c1,c2,c3⟩,f0,f1,f2,f3⟩:=ZdQ hc3;unfold exV strV;have HD:=Zq hd3;clear hd3;have HK:=Zq hK;clear hK;go_wp2;refine Yaf (v:=exV 5 0 [] (.slice (some ⟨W3.heap.size,0,none⟩) 1 1)) ?_ rfl ?_
  . simp [results,Tryz.results172,go_sem,exV,strV,c0,c1,c2,c3]
  . refine ZdS ((hB2.trans hB3).alloc _) hpl (KV.one (b:=W3.heap.size) (a:=ex) (u := .slice ka ex.ks.length kc) (T:=83) ?_ (HK.out.into (by omega) (fun b _ hl=>Yah W3 _ b hl))) (hP3.keep ((Yab _ _).alloc Zs _)) HD.out _ _ _ _;unfold gp;rw [if_pos (by omega)];exact Yac W3 _
theorem ZdX (pb p:Nat) (toks:List Tok) (tv:Value) (x:PR) (w:World) (hp:PSt w pb tv p) (hT:TokV (gb pb w) tv toks) (hE:Ended (toks.drop p)) (hl:toks.length<=1000)
 (hs:isSg [33] (hd (toks.drop p))=true)
 (hrec:∀ W,PSt W pb tv (p+1)->TokV (gb pb W) tv toks->Calls Tryz.prog 172 #[.pointer (some ⟨pb,0,none⟩)] W (Res pb tv toks x W)) :
 Calls Tryz.prog 172 #[.pointer (some ⟨pb,0,none⟩)] w (Res pb tv toks (x.then fun e r => .ok (.mk 6 0 [] [e]) r) w):=by
 have hpl:=hp.cells.2.2.2;have HS:=Zq (ZdU pb p toks tv w hp hT hE hl [33] hs (by simp [sg3]));have HR:=Zq hrec;clear hs hrec hE hp hT;go_in;go_wp2_with fail;refine HS.out.mono ?_;rintro e W2 ⟨rfl,hP2,hB2,hT2,hz2,hc2⟩;unfold strV;go_wp2_with fail;refine (HR.out _ hP2 hT2).mono ?_;cases x with
 | out=>rintro e W3 ⟨-,h⟩; exact h.elim
 | bad q =>rintro e W3 ⟨hB3,rfl⟩;go_wp2;exact ⟨rfl,hB2.trans hB3,rfl⟩
 | ok ex r =>
  rintro e W3 ⟨hB3,⟨v,rfl,kv,rfl,hK⟩,p',hd3,hP3⟩;have hc3:W3.heap[w.heap.size]?=some zEx:=(by rw [hB3.block _ (by omega) (by omega)]; exact hc2);obtain ⟨ka,kc,rfl⟩:=hK.form;have hz3:=hB3.size;obtain ⟨⟨c0,c1,c2,c3⟩,f0,f1,f2,f3⟩:=ZdQ hc3;unfold exV strV;have HD:=Zq hd3;clear hd3;have HK:=Zq hK;clear hK;go_wp2;refine Yaf (v:=exV 6 0 [] (.slice (some ⟨W3.heap.size,0,none⟩) 1 1)) ?_ rfl ?_
  . simp [results,Tryz.results172,go_sem,exV,strV,c0,c1,c2,c3]
  . refine ZdS ((hB2.trans hB3).alloc _) hpl (KV.one (b:=W3.heap.size) (a:=ex) (u := .slice ka ex.ks.length kc) (T:=83) ?_ (HK.out.into (by omega) (fun b _ hl=>Yah W3 _ b hl))) (hP3.keep ((Yab _ _).alloc Zs _)) HD.out _ _ _ _;unfold gp;rw [if_pos (by omega)];exact Yac W3 _
theorem ZdY (pb p:Nat) (toks:List Tok) (tv:Value) (x:PR) (w:World) (hp:PSt w pb tv p) (hT:TokV (gb pb w) tv toks) (hE:Ended (toks.drop p)) (hl:toks.length<=1000)
 (hs:isSg [40] (hd (toks.drop p))=true) (hx:∀ e r,x = .ok e r->Ended r)
 (hrec:∀ W,PSt W pb tv (p+1)->TokV (gb pb W) tv toks->Calls Tryz.prog 121 #[.pointer (some ⟨pb,0,none⟩),.int .i64 0] W (Res pb tv toks x W)) :
 Calls Tryz.prog 172 #[.pointer (some ⟨pb,0,none⟩)] w (Res pb tv toks (x.then fun e r=>if isSg [41] (hd r) then .ok e r.tail else .bad (hd r).p) w):=by
 have hpl:=hp.cells.2.2.2;have HS:=Zq (ZdU pb p toks tv w hp hT hE hl [40] hs (by simp [sg3]));have HR:=Zq hrec;clear hs hrec hE hp hT;go_in;go_wp2_with fail;refine HS.out.mono ?_;rintro e W2 ⟨rfl,hP2,hB2,hT2,hz2,hc2⟩;unfold strV;go_wp2_with fail;refine (HR.out _ hP2 hT2).mono ?_;cases x with
 | out=>rintro e W3 ⟨-,h⟩; exact h.elim
 | bad q =>rintro e W3 ⟨hB3,rfl⟩;go_wp2;exact ⟨rfl,hB2.trans hB3,rfl⟩
 | ok ex r =>
  rintro e W3 ⟨hB3,⟨v,rfl,kv,rfl,hK⟩,p',hd3,hP3⟩;have hEr:=hx ex r rfl;rw [<-hd3] at hEr;have hc3:W3.heap[w.heap.size]?=some zEx:=(by rw [hB3.block _ (by omega) (by omega)]; exact hc2);obtain ⟨ka,kc,rfl⟩:=hK.form;have hz3:=hB3.size;have hT3:=SlV.mono hT2 hB3.gb;have hB3':=hB2.trans hB3;have hbn:Below W3.heap.size W3 (W3.alloc (cEx ex.op ex.n ex.s (.slice ka ex.ks.length kc))):=(Yab _ _).alloc Zs _;have hP4:=hP3.keep hbn;have hT4:=SlV.mono hT3 (But.below (pb:=pb) hbn).gb;have hB4:=hB3'.call hbn;have hn4:(W3.alloc (cEx ex.op ex.n ex.s (.slice ka ex.ks.length kc))).heap[W3.heap.size]?=some (cEx ex.op ex.n ex.s (.slice ka ex.ks.length kc)):=Yac W3 _;have hc4:(W3.alloc (cEx ex.op ex.n ex.s (.slice ka ex.ks.length kc))).heap[w.heap.size]?=some zEx:=(by rw [hbn.block _ (by omega)]; exact hc3);have hz4:W3.heap.size<(W3.alloc (cEx ex.op ex.n ex.s (.slice ka ex.ks.length kc))).heap.size:=(by simp);have hK4:=hK.mono (ZdJ (p:=fun b=>W2.heap.size<=b) (q:=fun b=>W2.heap.size<=b/\b≠W3.heap.size) (w':=W3.alloc (cEx ex.op ex.n ex.s (.slice ka ex.ks.length kc))) (fun b hb hl=>⟨⟨hb,by omega⟩,hbn.block b hl⟩));have HD:=Zq hd3;have HER:=Zq hEr;unfold exV strV;clear hd3 hEr hK hP3 hT3 hB3 hbn hT2 hc3;by_cases hm:isSg [41] (hd r)=true
  . have HM:=Zq hm;have MU:Hid (∀ W,PSt W pb tv p'->TokV (gb pb W) tv toks->Calls Tryz.prog 215 #[.pointer (some ⟨pb,0,none⟩),strV [41]] W fun e w'=>But pb W w'/\e = .returned (.tuple #[])/\PSt w' pb tv (p'+1)):=Zq fun W h1 h2=>ZdB pb p' toks (hd r) [41] tv W h1 h2 (by have:=HER.out.at.1; rw [HD.out] at this; exact this) hl hm (by simp);clear hm;go_wp2_with fail;refine (MU.out _ hP4 hT4).mono ?_;rintro e W5 ⟨hB5,rfl,hP5⟩;have hn5:W5.heap[W3.heap.size]?=some (cEx ex.op ex.n ex.s (.slice ka ex.ks.length kc)):=(by rw [hB5.block _ hz4 (by omega)]; exact hn4);have hc5:W5.heap[w.heap.size]?=some zEx:=(by rw [hB5.block _ (by omega) (by omega)]; exact hc4);obtain ⟨⟨c0,c1,c2,c3⟩,f0,f1,f2,f3⟩:=ZdP hc5;obtain ⟨⟨d0,d1,d2,d3⟩,-,-,-,-⟩:=ZdP hn5;have HK:=Zq (hK4.mono (ZdJ (p:=fun b=>W2.heap.size<=b/\b≠W3.heap.size) (q:=fun b=>w.heap.size<b) (w':=W5) (fun b hb hl=>⟨by omega,hB5.block b hl (by omega)⟩)));clear hn5 hc5 hn4 hc4 hK4 hz4;go_wp2;refine Yaf (v:=exV ex.op ex.n ex.s (.slice ka ex.ks.length kc)) ?_ rfl ?_
    . simp [results,Tryz.results172,go_sem,exV,strV,c0,c1,c2,c3]
    . have hres:((PR.ok ex r).then fun e r=>if isSg [41] (hd r) then .ok e r.tail else .bad (hd r).p) = .ok (.mk ex.op ex.n ex.s ex.ks) r.tail:=(by show (if isSg [41] (hd r) then PR.ok ex r.tail else .bad (hd r).p)=_;rw [if_pos HM.out,<-Ex.eta]);rw [hres];exact ZdS (hB4.trans hB5) hpl HK.out hP5 (by rw [<-HD.out,ZdR]) _ _ _ _
  . have hm':isSg [41] (hd r)=false:=(by simpa using hm);have HM:=Zq hm;have MU:Hid (∀ W,PSt W pb tv p'->TokV (gb pb W) tv toks->Calls Tryz.prog 215 #[.pointer (some ⟨pb,0,none⟩),strV [41]] W fun e w'=>But pb W w'/\e = .panicked (pan (hd r).p)):=Zq fun W h1 h2=>ZdA pb p' toks (hd r) [41] tv W h1 h2 (by have:=HER.out.at.1; rw [HD.out] at this; exact this) hl hm';clear hm hm';go_wp2_with fail;refine (MU.out _ hP4 hT4).mono ?_;rintro e W5 ⟨hB5,rfl⟩;go_wp2;have hres:((PR.ok ex r).then fun e r=>if isSg [41] (hd r) then .ok e r.tail else .bad (hd r).p) = .bad (hd r).p:=(by show (if isSg [41] (hd r) then PR.ok ex r.tail else .bad (hd r).p)=_;rw [if_neg HM.out]);rw [hres];exact ⟨rfl,hB4.trans hB5,rfl⟩
end Go.Proofs.YtikannmgllejfaaGreatDoor
