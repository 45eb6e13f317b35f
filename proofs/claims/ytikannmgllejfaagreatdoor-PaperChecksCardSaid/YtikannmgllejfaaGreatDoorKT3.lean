/- The walks of types. -/
import Derived.Test.YtikannmgllejfaaGreatDoorKEA
import Derived.Test.YtikannmgllejfaaGreatDoorKVc
set_option maxHeartbeats 4000000
set_option maxRecDepth 1000000
set_option linter.all false
namespace Go.Proofs.YtikannmgllejfaaGreatDoor
open Go.RowKit Pal
theorem ZeK (a b c:Int) (w:World) :
 Calls Tryz.prog 123 #[.int .i64 3,.agg #[.int .i64 a,.int .i64 b,.int .i64 c]] w (madePost (made 3 a b c) w):=by go_in;go_wp2;go_quiet (fail);go_wp2;all_goals go_ret;exact Zd5 (by simp_all [made]) (Ybb ((Yab _ _).alloc Zs _) _)
theorem ZeL (a b c:Int) (w:World) :
 Calls Tryz.prog 123 #[.int .i64 23,.agg #[.int .i64 a,.int .i64 b,.int .i64 c]] w (madePost (made 23 a b c) w):=by go_in;go_wp2;go_quiet (fail);go_wp2;all_goals go_ret;exact Zd5 (by simp_all [made]) (Ybb ((Yab _ _).alloc Zs _) _)
theorem ZeM (a b c:Int) (w:World) :
 Calls Tryz.prog 123 #[.int .i64 14,.agg #[.int .i64 a,.int .i64 b,.int .i64 c]] w (madePost (made 14 a b c) w):=by go_in;go_wp2;go_quiet (fail);go_wp2;all_goals go_ret;exact Zd5 (by simp_all [made]) (Ybb ((Yab _ _).alloc Zs _) _)
theorem ZeN (a b c:Int) (w:World) :
 Calls Tryz.prog 123 #[.int .i64 1,.agg #[.int .i64 a,.int .i64 b,.int .i64 c]] w (madePost (made 1 a b c) w):=by go_in;go_wp2;go_quiet (fail);go_wp2;all_goals go_ret;exact Zd5 (by simp_all [made]) (Ybb ((Yab _ _).alloc Zs _) _)
theorem ZeO (a b c:Int) (w:World) :
 Calls Tryz.prog 123 #[.int .i64 5,.agg #[.int .i64 a,.int .i64 b,.int .i64 c]] w (madePost (made 5 a b c) w):=by go_in;go_wp2;go_quiet (fail);go_wp2;all_goals go_ret;exact Zd5 (by simp_all [made]) (Ybb ((Yab _ _).alloc Zs _) _)
theorem ZeP (a b c:Int) (w:World) :
 Calls Tryz.prog 123 #[.int .i64 22,.agg #[.int .i64 a,.int .i64 b,.int .i64 c]] w (madePost (made 22 a b c) w):=by go_in;go_wp2;go_quiet (fail);go_wp2;all_goals go_ret;exact Zd5 (by simp_all [made]) (Ybb ((Yab _ _).alloc Zs _) _)
theorem ZeQ (a b c:Int) (w:World) :
 Calls Tryz.prog 123 #[.int .i64 21,.agg #[.int .i64 a,.int .i64 b,.int .i64 c]] w (madePost (made 21 a b c) w):=by go_in;go_wp2;go_quiet (fail);go_wp2;all_goals go_ret;exact Zd5 (by simp_all [made]) (Ybb ((Yab _ _).alloc Zs _) _)
theorem ZeR (a b c:Int) (w:World) :
 Calls Tryz.prog 123 #[.int .i64 13,.agg #[.int .i64 a,.int .i64 b,.int .i64 c]] w (madePost (made 13 a b c) w):=by go_in;go_wp2;go_quiet (fail);go_wp2;all_goals go_ret;exact Zd5 (by simp_all [made]) (Ybb ((Yab _ _).alloc Zs _) _)
theorem ZeS (a b c:Int) (w:World) :
 Calls Tryz.prog 123 #[.int .i64 2,.agg #[.int .i64 a,.int .i64 b,.int .i64 c]] w (madePost (made 2 a b c) w):=by go_in;go_wp2;go_quiet (fail);go_wp2;all_goals go_ret;exact Zd5 (by simp_all [made]) (Ybb ((Yab _ _).alloc Zs _) _)
theorem ZeT (a b c:Int) (w:World) :
 Calls Tryz.prog 123 #[.int .i64 7,.agg #[.int .i64 a,.int .i64 b,.int .i64 c]] w (madePost (made 7 a b c) w):=by go_in;go_wp2;go_quiet (fail);go_wp2;all_goals go_ret;exact Zd5 (by simp_all [made]) (Ybb ((Yab _ _).alloc Zs _) _)
theorem ZeU (a b c:Int) (w:World) :
 Calls Tryz.prog 123 #[.int .i64 20,.agg #[.int .i64 a,.int .i64 b,.int .i64 c]] w (madePost (made 20 a b c) w):=by go_in;go_wp2;go_quiet (fail);go_wp2;all_goals go_ret;exact Zd5 (by simp_all [made]) (Ybb ((Yab _ _).alloc Zs _) _)
theorem ZeV (a b c:Int) (w:World) :
 Calls Tryz.prog 123 #[.int .i64 19,.agg #[.int .i64 a,.int .i64 b,.int .i64 c]] w (madePost (made 19 a b c) w):=by go_in;go_wp2;go_quiet (fail);go_wp2;all_goals go_ret;exact Zd5 (by simp_all [made]) (Ybb ((Yab _ _).alloc Zs _) _)
theorem ZeW (a b c:Int) (w:World) :
 Calls Tryz.prog 123 #[.int .i64 12,.agg #[.int .i64 a,.int .i64 b,.int .i64 c]] w (madePost (made 12 a b c) w):=by go_in;go_wp2;go_quiet (fail);go_wp2;all_goals go_ret;exact Zd5 (by simp_all [made]) (Ybb ((Yab _ _).alloc Zs _) _)
theorem ZeX (a b c:Int) (w:World) :
 Calls Tryz.prog 123 #[.int .i64 8,.agg #[.int .i64 a,.int .i64 b,.int .i64 c]] w (madePost (made 8 a b c) w):=by go_in;go_wp2;go_quiet (fail);go_wp2;all_goals go_ret;exact Zd5 (by simp_all [made]) (Ybb ((Yab _ _).alloc Zs _) _)
theorem ZeY (a b c:Int) (w:World) :
 Calls Tryz.prog 123 #[.int .i64 9,.agg #[.int .i64 a,.int .i64 b,.int .i64 c]] w (madePost (made 9 a b c) w):=by go_in;go_wp2;go_quiet (fail);go_wp2;all_goals go_ret;exact Zd5 (by simp_all [made]) (Ybb ((Yab _ _).alloc Zs _) _)
theorem ZeZ (a b c:Int) (w:World) :
 Calls Tryz.prog 123 #[.int .i64 10,.agg #[.int .i64 a,.int .i64 b,.int .i64 c]] w (madePost (made 10 a b c) w):=by go_in;go_wp2;go_quiet (fail);go_wp2;all_goals go_ret;exact Zd5 (by simp_all [made]) (Ybb ((Yab _ _).alloc Zs _) _)
theorem Ze0 (a b c:Int) (w:World) :
 Calls Tryz.prog 123 #[.int .i64 18,.agg #[.int .i64 a,.int .i64 b,.int .i64 c]] w (madePost (made 18 a b c) w):=by go_in;go_wp2;go_quiet (fail);go_wp2;all_goals go_ret;exact Zd5 (by simp_all [made]) (Ybb ((Yab _ _).alloc Zs _) _)
theorem Ze1 (a b c:Int) (w:World) :
 Calls Tryz.prog 123 #[.int .i64 15,.agg #[.int .i64 a,.int .i64 b,.int .i64 c]] w (madePost (made 15 a b c) w):=by go_in;go_wp2;go_quiet (fail);go_wp2;all_goals go_ret;exact Zd5 (by simp_all [made]) (Ybb ((Yab _ _).alloc Zs _) _)
theorem Ze2 (a b c:Int) (w:World) :
 Calls Tryz.prog 123 #[.int .i64 17,.agg #[.int .i64 a,.int .i64 b,.int .i64 c]] w (madePost (made 17 a b c) w):=by go_in;go_wp2;go_quiet (fail);go_wp2;all_goals go_ret;exact Zd5 (by simp_all [made]) (Ybb ((Yab _ _).alloc Zs _) _)
theorem Ze3 (a b c:Int) (w:World) :
 Calls Tryz.prog 123 #[.int .i64 16,.agg #[.int .i64 a,.int .i64 b,.int .i64 c]] w (madePost (made 16 a b c) w):=by go_in;go_wp2;go_quiet (fail);go_wp2;all_goals go_ret;exact Zd5 (by simp_all [made]) (Ybb ((Yab _ _).alloc Zs _) _)
theorem Ze4 (a b c:Int) (w:World) :
 Calls Tryz.prog 123 #[.int .i64 6,.agg #[.int .i64 a,.int .i64 b,.int .i64 c]] w (madePost (made 6 a b c) w):=by go_in;go_wp2;go_quiet (fail);go_wp2;all_goals go_ret;exact Zd5 (by simp_all [made]) (Ybb ((Yab _ _).alloc Zs _) _)
theorem Ze5 (a b c:Int) (w:World) :
 Calls Tryz.prog 123 #[.int .i64 11,.agg #[.int .i64 a,.int .i64 b,.int .i64 c]] w (madePost (made 11 a b c) w):=by go_in;go_wp2;go_quiet (fail);go_wp2;all_goals go_ret;exact Zd5 (by simp_all [made]) (Ybb ((Yab _ _).alloc Zs _) _)
theorem Ze6 (op a b c:Int) (w:World) (h:1<=op/\op<=23/\op≠4) :
 Calls Tryz.prog 123 #[.int .i64 op,.agg #[.int .i64 a,.int .i64 b,.int .i64 c]] w (madePost (made op a b c) w):=by
 rcases (by omega:op=1\/op=2\/op=3\/op=5\/op=6\/op=7\/op=8\/op=9\/op=10\/op=11\/op=12\/op=13\/op=14\/op=15\/op=16\/op=17\/op=18\/op=19\/op=20\/op=21\/op=22\/op=23) with rfl|rfl|rfl|rfl|rfl|rfl|rfl|rfl|rfl|rfl|rfl|rfl|rfl|rfl|rfl|rfl|rfl|rfl|rfl|rfl|rfl|rfl
 . exact ZeN a b c w
 . exact ZeS a b c w
 . exact ZeK a b c w
 . exact ZeO a b c w
 . exact Ze4 a b c w
 . exact ZeT a b c w
 . exact ZeX a b c w
 . exact ZeY a b c w
 . exact ZeZ a b c w
 . exact Ze5 a b c w
 . exact ZeW a b c w
 . exact ZeR a b c w
 . exact ZeM a b c w
 . exact Ze1 a b c w
 . exact Ze3 a b c w
 . exact Ze2 a b c w
 . exact Ze0 a b c w
 . exact ZeV a b c w
 . exact ZeU a b c w
 . exact ZeQ a b c w
 . exact ZeP a b c w
 . exact ZeL a b c w
inductive Ar:Ex->Prop
 | mk (op n:Int) (s:Bs) (ks:List Ex) (ho:1<=op/\op<=23) (hl:ks.length<=3) (hk:∀ k∈ks,Ar k):Ar (.mk op n s ks)
theorem Ze7 {op:Int} {n:Nat} (h:(n:Int)=arity op):(1<=op/\op<=23)/\n<=3:=by
 unfold arity at h;split at h
 . omega
 . split at h
   . omega
   . split at h
     . omega
     . split at h<;>omega
theorem Ze8 {op n:Int} {s:Bs} {ks:List Ex} (h:alone op n s ks=true):(ks.length:Int)=arity op:=by unfold alone at h;rw [Bool.and_eq_true,decide_eq_true_eq] at h;exact h.1
theorem Ze9:∀ (e:Ex) (deep left:Nat),(chk e deep left).isSome=true->Ar e:=by
 intro e;refine Ex.ind (P:=fun e=>∀ (deep left:Nat),(chk e deep left).isSome=true->Ar e) ?_ e;intro op n s ks ih deep left h;by_cases hc:left=0\/24<deep\/alone op n s ks=false
 . rw [Zdn hc] at h; cases h
 . rw [Zdo hc] at h;have ha:alone op n s ks=true:=by
    cases hb:alone op n s ks with
    | true=>rfl
    | false=>exact absurd (.inr (.inr hb)) hc
   have h3:=Ze7 (Ze8 ha);refine .mk op n s ks h3.1 h3.2 ?_;have go:∀ (l:List Ex),(∀ k∈l,k∈ks)->∀ left,(chkL l (deep+1) left).isSome=true->∀ k∈l,Ar k:=by
    intro l;induction l with
    | nil=>intro _ _ _ k hk; cases hk
    | cons a t iht =>
     intro hm left h k hk;rw [Zdm] at h;cases hca:chk a (deep+1) left with
     | none=>rw [hca] at h; cases h
     | some m =>
      rw [hca,Option.bind_some] at h;rcases Ybc.1 hk with rfl|hk
      . exact ih k (hm k (by simp)) _ _ (by rw [hca]; rfl)
      . exact iht (fun x hx=>hm x (by simp [hx])) m h k hk
   exact go ks (fun _ h=>h) _ h
theorem Zfa {e:Ex} (h:check e=true):Ar e:=Ze9 e 1 128 h
def valE (r:Except Int Int):Int:=match r with | .ok t=>t | .error _=>0
def errE (r:Except Int Int):Int:=match r with | .ok _=>0 | .error f=>f
def ofPost (r:Except Int Int) (w:World) (e:Ending) (w':World):Prop:=e = .returned (.tuple #[.int .i64 (valE r),.int .i64 (errE r)])/\Below w.heap.size w w'
def cont (ts:List Int) (r:Except Int (List Int)):Except Int (List Int):=match r with | .ok us => .ok (ts++us) | .error f => .error f
theorem Zfb (ns:List Bs) (tys:List Int):typL ns tys [] = .ok []:=by rw [typL]
theorem Zfc {ns:List Bs} {tys:List Int} {k:Ex} {ks:List Ex} {f:Int} (h:typ ns tys k = .error f):typL ns tys (k::ks) = .error f:=by rw [typL,h]
theorem Zfd {ns:List Bs} {tys:List Int} {k:Ex} {ks:List Ex} {t:Int} (h:typ ns tys k = .ok t) (ts:List Int):cont ts (typL ns tys (k::ks))=cont (ts++[t]) (typL ns tys ks):=by
 rw [typL,h];simp only;cases typL ns tys ks with
 | error f=>rfl
 | ok us=>simp [cont]
theorem Zfe {ns:List Bs} {tys:List Int} {op n:Int} {s:Bs} {ks:List Ex} {f:Int} (h:typL ns tys ks = .error f):typ ns tys (.mk op n s ks) = .error f:=by rw [typ,h]
theorem Zff {ns:List Bs} {tys:List Int} {n:Int} {s:Bs} {ks:List Ex} {ts:List Int} (h:typL ns tys ks = .ok ts):typ ns tys (.mk 4 n s ks)=if findT ns tys s=0 then .error 9 else .ok (findT ns tys s):=by rw [typ,h]; rfl
theorem Zfg {ns:List Bs} {tys:List Int} {op n:Int} {s:Bs} {ks:List Ex} {ts:List Int} (h:typL ns tys ks = .ok ts) (h4:op≠4):typ ns tys (.mk op n s ks) =
 if made op (ts.getD 0 0) (ts.getD 1 0) (ts.getD 2 0)=0 then .error 8 else .ok (made op (ts.getD 0 0) (ts.getD 1 0) (ts.getD 2 0)):=by rw [typ,h]; simp only; rw [if_neg h4]
theorem Zfh:∀ (ns:List Bs) (tys:List Int) (e:Ex) (f:Int),typ ns tys e = .error f->f=8\/f=9:=by
 intro ns tys e;refine Ex.ind (P:=fun e=>∀ f,typ ns tys e = .error f->f=8\/f=9) ?_ e;intro op n s ks ih f h;cases hl:typL ns tys ks with
 | error g =>
  rw [Zfe hl] at h;simp only [Except.error.injEq] at h;subst h;have go:∀ (l:List Ex),(∀ k∈l,k∈ks)->∀ g,typL ns tys l = .error g->g=8\/g=9:=by
   intro l;induction l with
   | nil=>intro _ g hg; rw [Zfb] at hg; cases hg
   | cons a t iht =>
    intro hm g hg;rw [typL] at hg;cases ha:typ ns tys a with
    | error x=>rw [ha] at hg; simp only [Except.error.injEq] at hg; subst hg; exact ih a (hm a (by simp)) _ ha
    | ok u =>
     rw [ha] at hg;simp only at hg;cases ht:typL ns tys t with
     | error x=>rw [ht] at hg; simp only [Except.error.injEq] at hg; subst hg; exact iht (fun k hk=>hm k (by simp [hk])) _ ht
     | ok us=>rw [ht] at hg; cases hg
  exact go ks (fun _ h=>h) _ hl
 | ok ts =>
  by_cases h4:op=4
  . subst h4;rw [Zff hl] at h;split at h
    . simp only [Except.error.injEq] at h; omega
    . cases h
  . rw [Zfg hl h4] at h;split at h
    . simp only [Except.error.injEq] at h; omega
    . cases h
def kd (ts:List Int):Obj := .cells #[.int .i64 (ts.getD 0 0),.int .i64 (ts.getD 1 0),.int .i64 (ts.getD 2 0)] 177 (0,0)
theorem Zfi {W:World} {B:Nat} {ts:List Int} (h:W.heap[B]?=some (kd ts)):W.cell? ⟨B,0,none⟩=some (.int .i64 (ts.getD 0 0))/\W.cell? ⟨B,1,none⟩=some (.int .i64 (ts.getD 1 0))/\W.cell? ⟨B,2,none⟩=some (.int .i64 (ts.getD 2 0)) /\
 W.frozen? ⟨B,0,none⟩=false/\W.frozen? ⟨B,1,none⟩=false/\W.frozen? ⟨B,2,none⟩=false:=by unfold kd at h;simp [World.cell?,World.frozen?,h]
theorem Zfj {W:World} {B:Nat} {ts:List Int} (h:W.heap[B]?=some (kd ts)) (k:Nat) (hk:ts.length=k) (h3:k<3) (t:Int):(W.setCell ⟨B,k,none⟩ (.int .i64 t)).heap[B]?=some (kd (ts++[t])):=by
 unfold kd at h |-
 match ts,k,hk,h3 with
 | [],0,_,_=>simp [World.setCell,Yap,h]
 | [a],1,_,_=>simp [World.setCell,Yap,h]
 | [a,b],2,_,_=>simp [World.setCell,Yap,h]
theorem set_other {W:World} {b:Nat} {p:Addr} (h:b≠p.block) (v:Value):(W.setCell p v).heap[b]?=W.heap[b]?:=Yat _ _ _ _ h
theorem Zfk {W:World} {B:Nat} {ts:List Int} (h:W.heap[B]?=some (kd ts)) (k:Nat) (h3:k<3):(∃ x,W.cell? ⟨B,k,none⟩=some (.int .i64 x))/\W.frozen? ⟨B,k,none⟩=false:=by
 have c:=Zfi h;rcases (by omega:k=0\/k=1\/k=2) with rfl|rfl|rfl
 . exact ⟨⟨_,c.1⟩,c.2.2.2.1⟩
 . exact ⟨⟨_,c.2.1⟩,c.2.2.2.2.1⟩
 . exact ⟨⟨_,c.2.2.1⟩,c.2.2.2.2.2⟩
theorem Zfl (names:List Bs) (types:List Int) (nv tv:Value) (e:Ex):∀ (v:Value) (w:World),Ar e->StrsV (gh w) nv names->IntsV (gh w) tv types->KV (gh w) v e.ks ->
 Calls Tryz.prog 90 #[exV e.op e.n e.s v,nv,tv] w (ofPost (typ names types e) w):=by
 refine Ex.ind (P:=fun e=>∀ (v:Value) (w:World),Ar e->StrsV (gh w) nv names->IntsV (gh w) tv types->KV (gh w) v e.ks ->
  Calls Tryz.prog 90 #[exV e.op e.n e.s v,nv,tv] w (ofPost (typ names types e) w)) ?_ e
 intro op n s ks ih v w hA hN hT hK;simp only [Ex.op,Ex.n,Ex.s,Ex.ks] at hK |-;obtain ⟨a,cap,rfl⟩:=hK.form;have hl3:ks.length<=3:=by cases hA with|mk _ _ _ _ _ h _=>exact h
 have HO:Hid (1<=op/\op<=23):=by cases hA with|mk _ _ _ _ h _ _=>exact Zq h
 have HAk:Hid (∀ k∈ks,Ar k):=by cases hA with|mk _ _ _ _ _ _ h=>exact Zq h
 have HI:=Zq ih;obtain ⟨R,hR⟩:∃ R,typL names types ks=R:=⟨_,rfl⟩;have HR:=Zq hR;have hcap:=hK.cap;clear ih hR hA;unfold exV strV;go_in;go_wp2;have hb0:Below w.heap.size w ((w.alloc (cEx op n s (.slice a ks.length cap))).alloc (kd [])):=((Yab _ _).alloc Zs _).alloc (by simp) _;have he0:((w.alloc (cEx op n s (.slice a ks.length cap))).alloc (kd [])).heap[w.heap.size]?=some (cEx op n s (.slice a ks.length cap)):=by rw [Yah _ _ _ (by simp)]; exact Yac w _
 have hk0:((w.alloc (cEx op n s (.slice a ks.length cap))).alloc (kd [])).heap[w.heap.size+1]?=some (kd []):=by have:=Yac (w.alloc (cEx op n s (.slice a ks.length cap))) (kd []);simpa using this
 go_loopg [20] ks.length (fun g i wr=>∃ (k:Nat) (ts:List Int),i = .int .i64 k/\ts.length=k/\k+g=ks.length/\Below w.heap.size w wr /\
  wr.heap[w.heap.size]?=some (cEx op n s (.slice a ks.length cap))/\wr.heap[w.heap.size+1]?=some (kd ts)/\Hid (cont ts (typL names types (ks.drop k))=R))
 case atStart=>exact ⟨0,[],rfl,rfl,by omega,hb0,he0,hk0,Zq (by rw [<-HR.out,List.drop_zero]; cases typL names types ks<;>rfl)⟩
 case round =>
  obtain ⟨k,ts,rfl,hts,hg,hbw,he,hkd,HC⟩:=hrel;clear hb0 he0 hk0;by_cases hlt:k<ks.length
  . have hKr:=hK.keep hbw;obtain ⟨b,off,u,rfl,c0,c1,c2,c3,hKu⟩:=hKr.at (Yad hlt);obtain ⟨ua,uc,rfl⟩:=hKu.form;have hmem:ks[k]∈ks:=List.getElem_mem hlt;have hdr:ks.drop k=ks[k]::ks.drop (k+1):=Yas hlt;have hbA:=(Yab wr.heap.size wr).alloc Zs (.cells #[.int .i64 ks[k].op,.int .i64 ks[k].n,.string ⟨ks[k].s.toArray⟩,.slice ua ks[k].ks.length uc] 83);have hbB:=hbw.seq hbA;have hx:=HI.out ks[k] hmem (.slice ua ks[k].ks.length uc) _ (HAk.out _ hmem) (hN.mono (Zah hbB)) (hT.mono (Zah hbB)) (hKu.keep hbA);have HCC:=HC.out;rw [hdr] at HCC;have HD:=Zq HCC;have hB1:w.heap.size+1<wr.heap.size:=(Yaa.1 hkd).1;have he1:=(hbA.block _ (by omega)).trans he;have hk1:=(hbA.block _ hB1).trans hkd;have hz1:wr.heap.size<(wr.alloc (.cells #[.int .i64 ks[k].op,.int .i64 ks[k].n,.string ⟨ks[k].s.toArray⟩,.slice ua ks[k].ks.length uc] 83)).heap.size:=(by simp);unfold exV strV at hx;unfold strV at c2;have HX:=Zq hx;have HE1:=Zq he1;have HK1:=Zq hk1;clear hx HCC hdr hKu hKr HC hbA he hkd hmem he1 hk1 HI HAk;go_wp2_with fail;refine HX.out.mono ?_;generalize wr.alloc (.cells #[.int .i64 ks[k].op,.int .i64 ks[k].n,.string ⟨ks[k].s.toArray⟩,.slice ua ks[k].ks.length uc] 83)=W1 at *;rintro e W2 ⟨rfl,hb2⟩;have hb3:=hbB.seq hb2;have he2:=(hb2.block _ (by omega)).trans HE1.out;have hk2:=(hb2.block _ (by omega)).trans HK1.out;clear hb2 hbB HX HE1 HK1 c0 c1 c2 c3;cases ht:typ names types ks[k] with
    | error f =>have HE:Hid (R = .error f):=Zq (by rw [<-HD.out,Zfc ht]; rfl);have hf:=Zfh _ _ _ _ ht;have q:(f != 0)=true:=Yao.2 (by omega);have HV:Hid (valE (.error f)=0/\errE (.error f)=f):=Zq ⟨rfl,rfl⟩;clear ht hf;rw [HV.out.1,HV.out.2];go_wp2;go_ret2;refine ⟨?_,hb3⟩;rw [Zfe (HR.out.trans HE.out)];rfl
    | ok t =>have HE:Hid (cont (ts++[t]) (typL names types (ks.drop (k+1)))=R):=Zq (by rw [<-HD.out,Zfd ht]);have HV:Hid (valE (.ok t)=t/\errE (.ok t)=0):=Zq ⟨rfl,rfl⟩;obtain ⟨⟨x,cx⟩,fx⟩:=Zfk hk2 k (by omega);have k3:(k:Int)<3:=(by omega);have HK2:=Zq hk2;have HTS:=Zq hts;have HE2:=Zq he2;clear ht hk2 hts he2;rw [HV.out.1,HV.out.2];go_wp2;go_roundg (gk - 1);(case rel=>exact ⟨k+1,ts++[t],by go_num,by rw [Yak,HTS.out]; rfl,by omega,hb3.setCell (p:=⟨w.heap.size+1,k,none⟩) (by simp) _,by rw [set_other (by simp)]; exact HE2.out,Zfj HK2.out k HTS.out (by omega) t,HE⟩);case measure=>omega
  . have hnil:ks.drop k=[]:=Yar (by omega);have HC2:Hid (typL names types ks = .ok ts):=Zq (by rw [HR.out,<-HC.out,hnil,Zfb]; simp [cont]);clear hnil HC HI HAk hK;obtain ⟨d0,-,d2,-⟩:=(ZdP he).1;obtain ⟨x0,x1,x2,-⟩:=Zfi hkd;have HE:=Zq he;have HKD:=Zq hkd;clear he hkd;by_cases h4:op=4
    . subst h4;have hf:=Zd4 s names types nv tv wr (hN.mono (Zah hbw)) (hT.mono (Zah hbw));unfold strV at hf;have HF:=Zq hf;have HT:Hid (typ names types (.mk 4 n s ks)=if findT names types s=0 then .error 9 else .ok (findT names types s)):=Zq (Zff HC2.out);clear hf;go_wp2_with fail;refine HF.out.mono ?_;rintro e W ⟨rfl,rfl⟩;by_cases h0:findT names types s=0
      . have HV:Hid (decide (findT names types s≠0)=false):=Zq (Yaj (by simpa using h0));have HT2:Hid (typ names types (.mk 4 n s ks) = .error 9):=Zq (by rw [HT.out,if_pos h0]);clear h0;rw [HV.out];go_wp2;go_ret2;refine ⟨?_,hbw⟩;rw [HT2.out]; rfl
      . have HV:Hid (decide (findT names types s≠0)=true):=Zq (Yam h0);have HT2:Hid (typ names types (.mk 4 n s ks) = .ok (findT names types s)):=Zq (by rw [HT.out,if_neg h0]);clear h0;rw [HV.out];go_wp2;go_ret2;refine ⟨?_,hbw⟩;rw [HT2.out]; rfl
    . have q4:(op == 4)=false:=Zr h4;have hm:=Ze6 op (ts.getD 0 0) (ts.getD 1 0) (ts.getD 2 0) wr ⟨HO.out.1,HO.out.2,h4⟩;have HT:=Zq (Zfg (n:=n) (s:=s) HC2.out h4);obtain ⟨m,hmm⟩:∃ m,made op (ts.getD 0 0) (ts.getD 1 0) (ts.getD 2 0)=m:=⟨_,rfl⟩;rw [hmm] at hm HT;have HM:=Zq hm;clear hm hmm h4;generalize ts.getD 0 0=y0 at *;generalize ts.getD 1 0=y1 at *;generalize ts.getD 2 0=y2 at *;go_wp2_with fail;refine HM.out.mono ?_;rintro e W ⟨rfl,hb4⟩;have hb5:=hbw.seq hb4;by_cases h0:m=0
      . subst h0;have HT2:Hid (typ names types (.mk op n s ks) = .error 8):=Zq (by rw [HT.out,if_pos rfl]);go_wp2;go_ret2;refine ⟨?_,hb5⟩;rw [HT2.out]; rfl
      . have HT2:Hid (typ names types (.mk op n s ks) = .ok m):=Zq (by rw [HT.out,if_neg h0]);have q0:(m == 0)=false:=Zr h0;clear h0;go_wp2;go_ret2;refine ⟨?_,hb5⟩;rw [HT2.out]; rfl
end Go.Proofs.YtikannmgllejfaaGreatDoor
