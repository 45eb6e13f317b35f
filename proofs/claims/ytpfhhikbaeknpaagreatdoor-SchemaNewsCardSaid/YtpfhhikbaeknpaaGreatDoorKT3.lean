/- The walks of types. -/
import Derived.Test.YtpfhhikbaeknpaaGreatDoorKVb
import Derived.Test.YtpfhhikbaeknpaaGreatDoorKVc
import Derived.Lib.MapLaws
set_option maxHeartbeats 4000000
set_option maxRecDepth 1000000
set_option linter.all false
namespace Go.Proofs.YtpfhhikbaeknpaaGreatDoor
open Go.RowKit Pal
theorem ZdZ {w:World} {a:Option Addr} {n cap:Nat} {xs:List Int} (t:IntsV (gh w) (.slice a n cap) xs) {j:Nat} {x:Int} (hj:xs[j]?=some x):∃ b off,a=some ⟨b,off,none⟩∧w.cell? ⟨b,off+j,none⟩=some (.int .i64 x):=by
 obtain ⟨a',cap',hv,hn,hl,hx⟩:=t
 simp only [Value.slice.injEq] at hv
 obtain ⟨rfl,rfl,rfl⟩:=hv
 obtain ⟨b,off,ha,hc⟩:=hx j x hj
 rw [Zad] at hc
 exact ⟨b,off,ha,hc⟩
theorem Zd0 {h:GH} {v:Value} {xs:List Int} (t:IntsV h v xs):∃ a cap,v = .slice a xs.length cap∧xs.length≤17592186044416:=by obtain ⟨a,cap,hv,_,hl,_⟩:=t; exact ⟨a,cap,hv,hl⟩
theorem Zd1 (ts:List Int) (s:Bs):findT [] ts s=0:=by unfold findT; rfl
theorem Zd2 {m s:Bs} {ms:List Bs} {ts:List Int} (h:m=s):findT (m::ms) ts s=(match ts with|t::_=>if 1≤t∧t≤3 then t else 0|[]=>0):=by rw [findT.eq_def]; simp only; rw [if_pos h]; cases ts<;>rfl
theorem Zd3 {m s:Bs} {ms:List Bs} {ts:List Int} (h:¬ m=s):findT (m::ms) ts s=findT ms ts.tail s:=by rw [findT.eq_def]; simp only; rw [if_neg h]
def findPost (t:Int) (w:World) (e:Ending) (w':World):Prop:=e = .returned (.tuple #[.int .i64 t,.bool (decide (t≠0))])∧w=w'
theorem Zd4 (s:Bs) (names:List Bs) (types:List Int) (nv tv:Value) (w:World) (hN:StrsV (gh w) nv names) (hT:IntsV (gh w) tv types) :
 Calls Tryz.prog 102 #[strV s,nv,tv] w (findPost (findT names types s) w):=by
 obtain ⟨na,nc,rfl⟩:=hN.form
 obtain ⟨ta,tc,rfl,htl⟩:=Zd0 hT
 have hnl:names.length≤9223372036854775807:=by
  obtain ⟨_,_,hv,_,h1,h2,_⟩:=hN
  simp only [Value.slice.injEq] at hv
  unfold maxLen at h2
  omega
 obtain ⟨R,hR⟩:∃ R,findT names types s=R:=⟨_,rfl⟩
 rw [hR]
 have HR:=Zq hR
 clear hR
 unfold strV
 go_in
 go_wp2
 go_step3
 go_wp2
 go_step3
 go_wp2
 go_loopg [8,13] names.length (fun g m i wr=>∃ k:Nat,m = .int .i64 (-1)∧i = .int .i64 k∧k+g=names.length∧wr=w∧Hid (findT (names.drop k) (types.drop k) s=R))
 case atStart=>exact ⟨0,rfl,rfl,by omega,rfl,Zq HR.out⟩
 case round =>
  obtain ⟨k,rfl,rfl,hg,rfl,HC⟩:=hrel
  have k0:¬ ((k:Int)<0):=by omega
  have k1:decide ((k:Int)<0)=false:=decide_eq_false k0
  by_cases hlt:k<names.length
  · obtain ⟨b,off,rfl,c0⟩:=hN.at (List.getElem?_eq_getElem hlt)
    unfold strV at c0
    have hdr:names.drop k=names[k]::names.drop (k+1):=List.drop_eq_getElem_cons hlt
    by_cases hs:names[k]=s
    · have hc:=HC.out
      rw [hdr,Zd2 hs] at hc
      have q:(names[k] == s)=true:=by simp [hs]
      by_cases hlt2:k<types.length
      · rw [List.drop_eq_getElem_cons hlt2] at hc
        simp only at hc
        obtain ⟨b2,off2,rfl,c2⟩:=ZdZ hT (List.getElem?_eq_getElem hlt2)
        generalize types[k]=t at *
        have HD:=Zq hc
        have q2:(decide (types.length≤k))=false:=decide_eq_false (by omega)
        have q3:¬ types.length≤k:=by omega
        clear hc hdr HC hN hT
        by_cases h1:1≤t
        · by_cases h2:t≤3
          · have HE:Hid (R=t):=Zq (by rw [←HD.out,if_pos ⟨h1,h2⟩])
            have HF:Hid (decide (t≠0)=true):=Zq (decide_eq_true (by omega))
            clear hs
            go_wp2
            try rw [Exit.noGoto_ret]
            go_ret2
            refine ⟨?_,rfl⟩
            rw [HE.out,HF.out]; rfl
          · have HE:Hid (R=0):=Zq (by rw [←HD.out,if_neg (fun h=>h2 h.2)])
            have h3:3<t:=by omega
            clear hs h2
            go_wp2
            try rw [Exit.noGoto_ret]
            go_ret2
            (refine ⟨?_,rfl⟩; rw [HE.out]; rfl)
        · have HE:Hid (R=0):=Zq (by rw [←HD.out,if_neg (fun h=>h1 h.1)])
          have h3:t<1:=by omega
          clear hs h1
          go_wp2
          try rw [Exit.noGoto_ret]
          go_ret2
          (refine ⟨?_,rfl⟩; rw [HE.out]; rfl)
      · rw [List.drop_eq_nil_of_le (by omega)] at hc
        have HE:Hid (R=0):=Zq (by rw [←hc])
        have q3:types.length≤k:=by omega
        clear hc hdr HC hs hN hT
        go_wp2
        try rw [Exit.noGoto_ret]
        go_ret2
        (refine ⟨?_,rfl⟩; rw [HE.out]; rfl)
    · have hc:=HC.out
      rw [hdr,Zd3 hs,List.tail_drop] at hc
      have HD:=Zq hc
      have q:(names[k] == s)=false:=ZcO hs
      clear hc hdr HC hs
      go_wp2
      go_roundg (gk - 1)
      case rel=>exact ⟨k+1,rfl,by go_num,by omega,rfl,Zq HD.out⟩
      case measure=>omega
  · have HE:Hid (R=0):=Zq (by rw [←HC.out,List.drop_eq_nil_of_le (by omega),Zd1])
    clear HC
    go_wp2
    try rw [Exit.noGoto_ret]
    go_ret2
    (refine ⟨?_,rfl⟩; rw [HE.out]; rfl)
def madePost (t:Int) (w:World) (e:Ending) (w':World):Prop:=e = .returned (.int .i64 t)∧Below w.heap.size w w'
theorem Zd5 {t u:Int} (h:t=u) {w w':World} (hb:Below w.heap.size w w'):madePost u w (.returned (.int .i64 t)) w':=⟨by rw [h],hb⟩
theorem Zd6 {op n:Int} {s:Bs} {ks:List Ex} (h:alone op n s ks=true):(ks.length:Int)=arity op:=by
 unfold alone at h
 rw [Bool.and_eq_true,decide_eq_true_eq] at h
 exact h.1
inductive VOk:Val→Prop
 | nil:VOk vNil
 | int (n:Int) (h : -9223372036854775808≤n∧n≤9223372036854775807):VOk (vInt n)
 | bool (b:Bool):VOk (vBool b)
 | text (s:Bs) (h:textOk s=true):VOk (vText s)
 | bad (n:Int) (h:1≤n∧n≤4):VOk (vBad n)
inductive Good:Ex→Prop
 | mk (op n:Int) (s:Bs) (ks:List Ex) (ha:alone op n s ks=true) (hn : -9223372036854775808≤n∧n≤9223372036854775807) (hk:∀ k∈ks,Good k):Good (.mk op n s ks)
theorem Zd7:∀ (e:Ex) (deep left:Nat),Fine e→(chk e deep left).isSome=true→Good e:=by
 intro e
 refine Ex.ind (P:=fun e=>∀ (deep left:Nat),Fine e→(chk e deep left).isSome=true→Good e) ?_ e
 intro op n s ks ih deep left hF h
 by_cases hc:left=0∨24<deep∨alone op n s ks=false
 · rw [Zdn hc] at h; cases h
 · rw [Zdo hc] at h
   have ha:alone op n s ks=true:=by
    cases hb:alone op n s ks with
    | true=>rfl
    | false=>exact absurd (.inr (.inr hb)) hc
   have hFk:=hF.kids.2
   have hFn : -9223372036854775808≤n∧n≤9223372036854775807:=by cases hF; assumption
   refine .mk op n s ks ha hFn ?_
   have go:∀ (l:List Ex),(∀ k∈l,k∈ks)→∀ left,(chkL l (deep+1) left).isSome=true→∀ k∈l,Good k:=by
    intro l
    induction l with
    | nil=>intro _ _ _ k hk; cases hk
    | cons a t iht =>
     intro hm left h k hk
     rw [Zdm] at h
     cases hca:chk a (deep+1) left with
     | none=>rw [hca] at h; cases h
     | some m =>
      rw [hca,Option.bind_some] at h
      rcases List.mem_cons.1 hk with rfl|hk
      · exact ih k (hm k (by simp)) _ _ (hFk k (hm k (by simp))) (by rw [hca]; rfl)
      · exact iht (fun x hx=>hm x (by simp [hx])) m h k hk
   exact go ks (fun _ h=>h) _ h
theorem Zd8 {e:Ex} (hF:Fine e) (h:check e=true):Good e:=Zd7 e 1 128 hF h
def ValsV (h:GH) (v:Value) (l:List Val):Prop:=∃ a cap,v = .slice a l.length cap∧(a=none→l=[])∧l.length≤cap∧cap≤maxLen ∧
 ∀ j x,l[j]?=some x→∃ b off,a=some ⟨b,off,none⟩∧h.cell b (off+j*3)=some (.int .i64 x.k)∧h.cell b (off+j*3+1)=some (.int .i64 x.n)∧h.cell b (off+j*3+2)=some (strV x.s)
def VFine (l:List Val):Prop:=∀ v∈l,(-9223372036854775808≤v.n∧v.n≤9223372036854775807)∧v.s.length≤9223372036854775806
theorem Zd9 (a b c:Int) (w:World) :
 Calls Tryz.prog 103 #[.int .i64 3,.agg #[.int .i64 a,.int .i64 b,.int .i64 c]] w (madePost (made 3 a b c) w):=by
 go_in
 go_wp2
 go_quiet (fail)
 go_wp2
 all_goals
  go_ret
  exact Zd5 (by simp_all [made]) (below_drewN ((Below.refl _ _).alloc Zs _) _)
theorem Zea (a b c:Int) (w:World) :
 Calls Tryz.prog 103 #[.int .i64 23,.agg #[.int .i64 a,.int .i64 b,.int .i64 c]] w (madePost (made 23 a b c) w):=by
 go_in
 go_wp2
 go_quiet (fail)
 go_wp2
 all_goals
  go_ret
  exact Zd5 (by simp_all [made]) (below_drewN ((Below.refl _ _).alloc Zs _) _)
theorem Zeb (a b c:Int) (w:World) :
 Calls Tryz.prog 103 #[.int .i64 14,.agg #[.int .i64 a,.int .i64 b,.int .i64 c]] w (madePost (made 14 a b c) w):=by
 go_in
 go_wp2
 go_quiet (fail)
 go_wp2
 all_goals
  go_ret
  exact Zd5 (by simp_all [made]) (below_drewN ((Below.refl _ _).alloc Zs _) _)
theorem Zec (a b c:Int) (w:World) :
 Calls Tryz.prog 103 #[.int .i64 1,.agg #[.int .i64 a,.int .i64 b,.int .i64 c]] w (madePost (made 1 a b c) w):=by
 go_in
 go_wp2
 go_quiet (fail)
 go_wp2
 all_goals
  go_ret
  exact Zd5 (by simp_all [made]) (below_drewN ((Below.refl _ _).alloc Zs _) _)
theorem Zed (a b c:Int) (w:World) :
 Calls Tryz.prog 103 #[.int .i64 5,.agg #[.int .i64 a,.int .i64 b,.int .i64 c]] w (madePost (made 5 a b c) w):=by
 go_in
 go_wp2
 go_quiet (fail)
 go_wp2
 all_goals
  go_ret
  exact Zd5 (by simp_all [made]) (below_drewN ((Below.refl _ _).alloc Zs _) _)
theorem Zee (a b c:Int) (w:World) :
 Calls Tryz.prog 103 #[.int .i64 22,.agg #[.int .i64 a,.int .i64 b,.int .i64 c]] w (madePost (made 22 a b c) w):=by
 go_in
 go_wp2
 go_quiet (fail)
 go_wp2
 all_goals
  go_ret
  exact Zd5 (by simp_all [made]) (below_drewN ((Below.refl _ _).alloc Zs _) _)
theorem Zef (a b c:Int) (w:World) :
 Calls Tryz.prog 103 #[.int .i64 21,.agg #[.int .i64 a,.int .i64 b,.int .i64 c]] w (madePost (made 21 a b c) w):=by
 go_in
 go_wp2
 go_quiet (fail)
 go_wp2
 all_goals
  go_ret
  exact Zd5 (by simp_all [made]) (below_drewN ((Below.refl _ _).alloc Zs _) _)
theorem Zeg (a b c:Int) (w:World) :
 Calls Tryz.prog 103 #[.int .i64 13,.agg #[.int .i64 a,.int .i64 b,.int .i64 c]] w (madePost (made 13 a b c) w):=by
 go_in
 go_wp2
 go_quiet (fail)
 go_wp2
 all_goals
  go_ret
  exact Zd5 (by simp_all [made]) (below_drewN ((Below.refl _ _).alloc Zs _) _)
theorem Zeh (a b c:Int) (w:World) :
 Calls Tryz.prog 103 #[.int .i64 2,.agg #[.int .i64 a,.int .i64 b,.int .i64 c]] w (madePost (made 2 a b c) w):=by
 go_in
 go_wp2
 go_quiet (fail)
 go_wp2
 all_goals
  go_ret
  exact Zd5 (by simp_all [made]) (below_drewN ((Below.refl _ _).alloc Zs _) _)
theorem Zei (a b c:Int) (w:World) :
 Calls Tryz.prog 103 #[.int .i64 7,.agg #[.int .i64 a,.int .i64 b,.int .i64 c]] w (madePost (made 7 a b c) w):=by
 go_in
 go_wp2
 go_quiet (fail)
 go_wp2
 all_goals
  go_ret
  exact Zd5 (by simp_all [made]) (below_drewN ((Below.refl _ _).alloc Zs _) _)
theorem Zej (a b c:Int) (w:World) :
 Calls Tryz.prog 103 #[.int .i64 20,.agg #[.int .i64 a,.int .i64 b,.int .i64 c]] w (madePost (made 20 a b c) w):=by
 go_in
 go_wp2
 go_quiet (fail)
 go_wp2
 all_goals
  go_ret
  exact Zd5 (by simp_all [made]) (below_drewN ((Below.refl _ _).alloc Zs _) _)
theorem Zek (a b c:Int) (w:World) :
 Calls Tryz.prog 103 #[.int .i64 19,.agg #[.int .i64 a,.int .i64 b,.int .i64 c]] w (madePost (made 19 a b c) w):=by
 go_in
 go_wp2
 go_quiet (fail)
 go_wp2
 all_goals
  go_ret
  exact Zd5 (by simp_all [made]) (below_drewN ((Below.refl _ _).alloc Zs _) _)
theorem Zel (a b c:Int) (w:World) :
 Calls Tryz.prog 103 #[.int .i64 12,.agg #[.int .i64 a,.int .i64 b,.int .i64 c]] w (madePost (made 12 a b c) w):=by
 go_in
 go_wp2
 go_quiet (fail)
 go_wp2
 all_goals
  go_ret
  exact Zd5 (by simp_all [made]) (below_drewN ((Below.refl _ _).alloc Zs _) _)
theorem Zem (a b c:Int) (w:World) :
 Calls Tryz.prog 103 #[.int .i64 8,.agg #[.int .i64 a,.int .i64 b,.int .i64 c]] w (madePost (made 8 a b c) w):=by
 go_in
 go_wp2
 go_quiet (fail)
 go_wp2
 all_goals
  go_ret
  exact Zd5 (by simp_all [made]) (below_drewN ((Below.refl _ _).alloc Zs _) _)
theorem Zen (a b c:Int) (w:World) :
 Calls Tryz.prog 103 #[.int .i64 9,.agg #[.int .i64 a,.int .i64 b,.int .i64 c]] w (madePost (made 9 a b c) w):=by
 go_in
 go_wp2
 go_quiet (fail)
 go_wp2
 all_goals
  go_ret
  exact Zd5 (by simp_all [made]) (below_drewN ((Below.refl _ _).alloc Zs _) _)
theorem Zeo (a b c:Int) (w:World) :
 Calls Tryz.prog 103 #[.int .i64 10,.agg #[.int .i64 a,.int .i64 b,.int .i64 c]] w (madePost (made 10 a b c) w):=by
 go_in
 go_wp2
 go_quiet (fail)
 go_wp2
 all_goals
  go_ret
  exact Zd5 (by simp_all [made]) (below_drewN ((Below.refl _ _).alloc Zs _) _)
theorem Zep (a b c:Int) (w:World) :
 Calls Tryz.prog 103 #[.int .i64 18,.agg #[.int .i64 a,.int .i64 b,.int .i64 c]] w (madePost (made 18 a b c) w):=by
 go_in
 go_wp2
 go_quiet (fail)
 go_wp2
 all_goals
  go_ret
  exact Zd5 (by simp_all [made]) (below_drewN ((Below.refl _ _).alloc Zs _) _)
theorem Zeq (a b c:Int) (w:World) :
 Calls Tryz.prog 103 #[.int .i64 15,.agg #[.int .i64 a,.int .i64 b,.int .i64 c]] w (madePost (made 15 a b c) w):=by
 go_in
 go_wp2
 go_quiet (fail)
 go_wp2
 all_goals
  go_ret
  exact Zd5 (by simp_all [made]) (below_drewN ((Below.refl _ _).alloc Zs _) _)
theorem Zer (a b c:Int) (w:World) :
 Calls Tryz.prog 103 #[.int .i64 17,.agg #[.int .i64 a,.int .i64 b,.int .i64 c]] w (madePost (made 17 a b c) w):=by
 go_in
 go_wp2
 go_quiet (fail)
 go_wp2
 all_goals
  go_ret
  exact Zd5 (by simp_all [made]) (below_drewN ((Below.refl _ _).alloc Zs _) _)
theorem Zes (a b c:Int) (w:World) :
 Calls Tryz.prog 103 #[.int .i64 16,.agg #[.int .i64 a,.int .i64 b,.int .i64 c]] w (madePost (made 16 a b c) w):=by
 go_in
 go_wp2
 go_quiet (fail)
 go_wp2
 all_goals
  go_ret
  exact Zd5 (by simp_all [made]) (below_drewN ((Below.refl _ _).alloc Zs _) _)
theorem Zet (a b c:Int) (w:World) :
 Calls Tryz.prog 103 #[.int .i64 6,.agg #[.int .i64 a,.int .i64 b,.int .i64 c]] w (madePost (made 6 a b c) w):=by
 go_in
 go_wp2
 go_quiet (fail)
 go_wp2
 all_goals
  go_ret
  exact Zd5 (by simp_all [made]) (below_drewN ((Below.refl _ _).alloc Zs _) _)
theorem Zeu (a b c:Int) (w:World) :
 Calls Tryz.prog 103 #[.int .i64 11,.agg #[.int .i64 a,.int .i64 b,.int .i64 c]] w (madePost (made 11 a b c) w):=by
 go_in
 go_wp2
 go_quiet (fail)
 go_wp2
 all_goals
  go_ret
  exact Zd5 (by simp_all [made]) (below_drewN ((Below.refl _ _).alloc Zs _) _)
theorem Zev (op a b c:Int) (w:World) (h:1≤op∧op≤23∧op≠4) :
 Calls Tryz.prog 103 #[.int .i64 op,.agg #[.int .i64 a,.int .i64 b,.int .i64 c]] w (madePost (made op a b c) w):=by
 rcases (by omega:op=1∨op=2∨op=3∨op=5∨op=6∨op=7∨op=8∨op=9∨op=10∨op=11∨op=12∨op=13∨op=14∨op=15∨op=16∨op=17∨op=18∨op=19∨op=20∨op=21∨op=22∨op=23) with rfl|rfl|rfl|rfl|rfl|rfl|rfl|rfl|rfl|rfl|rfl|rfl|rfl|rfl|rfl|rfl|rfl|rfl|rfl|rfl|rfl|rfl
 · exact Zec a b c w
 · exact Zeh a b c w
 · exact Zd9 a b c w
 · exact Zed a b c w
 · exact Zet a b c w
 · exact Zei a b c w
 · exact Zem a b c w
 · exact Zen a b c w
 · exact Zeo a b c w
 · exact Zeu a b c w
 · exact Zel a b c w
 · exact Zeg a b c w
 · exact Zeb a b c w
 · exact Zeq a b c w
 · exact Zes a b c w
 · exact Zer a b c w
 · exact Zep a b c w
 · exact Zek a b c w
 · exact Zej a b c w
 · exact Zef a b c w
 · exact Zee a b c w
 · exact Zea a b c w
inductive Ar:Ex→Prop
 | mk (op n:Int) (s:Bs) (ks:List Ex) (ho:1≤op∧op≤23) (hl:ks.length≤3) (hk:∀ k∈ks,Ar k):Ar (.mk op n s ks)
theorem Zew {op:Int} {n:Nat} (h:(n:Int)=arity op):(1≤op∧op≤23)∧n≤3:=by
 unfold arity at h
 split at h
 · omega
 · split at h
   · omega
   · split at h
     · omega
     · split at h<;>omega
theorem Zex {op n:Int} {s:Bs} {ks:List Ex} (h:alone op n s ks=true):(ks.length:Int)=arity op:=by
 unfold alone at h
 rw [Bool.and_eq_true,decide_eq_true_eq] at h
 exact h.1
theorem Zey:∀ (e:Ex) (deep left:Nat),(chk e deep left).isSome=true→Ar e:=by
 intro e
 refine Ex.ind (P:=fun e=>∀ (deep left:Nat),(chk e deep left).isSome=true→Ar e) ?_ e
 intro op n s ks ih deep left h
 by_cases hc:left=0∨24<deep∨alone op n s ks=false
 · rw [Zdn hc] at h; cases h
 · rw [Zdo hc] at h
   have ha:alone op n s ks=true:=by
    cases hb:alone op n s ks with
    | true=>rfl
    | false=>exact absurd (.inr (.inr hb)) hc
   have h3:=Zew (Zex ha)
   refine .mk op n s ks h3.1 h3.2 ?_
   have go:∀ (l:List Ex),(∀ k∈l,k∈ks)→∀ left,(chkL l (deep+1) left).isSome=true→∀ k∈l,Ar k:=by
    intro l
    induction l with
    | nil=>intro _ _ _ k hk; cases hk
    | cons a t iht =>
     intro hm left h k hk
     rw [Zdm] at h
     cases hca:chk a (deep+1) left with
     | none=>rw [hca] at h; cases h
     | some m =>
      rw [hca,Option.bind_some] at h
      rcases List.mem_cons.1 hk with rfl|hk
      · exact ih k (hm k (by simp)) _ _ (by rw [hca]; rfl)
      · exact iht (fun x hx=>hm x (by simp [hx])) m h k hk
   exact go ks (fun _ h=>h) _ h
theorem Zez {e:Ex} (h:check e=true):Ar e:=Zey e 1 128 h
def valE (r:Except Int Int):Int:=match r with | .ok t=>t | .error _=>0
def errE (r:Except Int Int):Int:=match r with | .ok _=>0 | .error f=>f
def ofPost (r:Except Int Int) (w:World) (e:Ending) (w':World):Prop:=e = .returned (.tuple #[.int .i64 (valE r),.int .i64 (errE r)])∧Below w.heap.size w w'
def cont (ts:List Int) (r:Except Int (List Int)):Except Int (List Int):=match r with | .ok us => .ok (ts++us) | .error f => .error f
theorem ZeA (ns:List Bs) (tys:List Int):typL ns tys [] = .ok []:=by rw [typL]
theorem ZeB {ns:List Bs} {tys:List Int} {k:Ex} {ks:List Ex} {f:Int} (h:typ ns tys k = .error f):typL ns tys (k::ks) = .error f:=by rw [typL,h]
theorem ZeC {ns:List Bs} {tys:List Int} {k:Ex} {ks:List Ex} {t:Int} (h:typ ns tys k = .ok t) (ts:List Int):cont ts (typL ns tys (k::ks))=cont (ts++[t]) (typL ns tys ks):=by
 rw [typL,h]
 simp only
 cases typL ns tys ks with
 | error f=>rfl
 | ok us=>simp [cont]
theorem ZeD {ns:List Bs} {tys:List Int} {op n:Int} {s:Bs} {ks:List Ex} {f:Int} (h:typL ns tys ks = .error f):typ ns tys (.mk op n s ks) = .error f:=by rw [typ,h]
theorem ZeE {ns:List Bs} {tys:List Int} {n:Int} {s:Bs} {ks:List Ex} {ts:List Int} (h:typL ns tys ks = .ok ts):typ ns tys (.mk 4 n s ks)=if findT ns tys s=0 then .error 9 else .ok (findT ns tys s):=by rw [typ,h]; rfl
theorem ZeF {ns:List Bs} {tys:List Int} {op n:Int} {s:Bs} {ks:List Ex} {ts:List Int} (h:typL ns tys ks = .ok ts) (h4:op≠4):typ ns tys (.mk op n s ks) =
 if made op (ts.getD 0 0) (ts.getD 1 0) (ts.getD 2 0)=0 then .error 8 else .ok (made op (ts.getD 0 0) (ts.getD 1 0) (ts.getD 2 0)):=by rw [typ,h]; simp only; rw [if_neg h4]
theorem ZeG:∀ (ns:List Bs) (tys:List Int) (e:Ex) (f:Int),typ ns tys e = .error f→f=8∨f=9:=by
 intro ns tys e
 refine Ex.ind (P:=fun e=>∀ f,typ ns tys e = .error f→f=8∨f=9) ?_ e
 intro op n s ks ih f h
 cases hl:typL ns tys ks with
 | error g =>
  rw [ZeD hl] at h
  simp only [Except.error.injEq] at h
  subst h
  have go:∀ (l:List Ex),(∀ k∈l,k∈ks)→∀ g,typL ns tys l = .error g→g=8∨g=9:=by
   intro l
   induction l with
   | nil=>intro _ g hg; rw [ZeA] at hg; cases hg
   | cons a t iht =>
    intro hm g hg
    rw [typL] at hg
    cases ha:typ ns tys a with
    | error x=>rw [ha] at hg; simp only [Except.error.injEq] at hg; subst hg; exact ih a (hm a (by simp)) _ ha
    | ok u =>
     rw [ha] at hg
     simp only at hg
     cases ht:typL ns tys t with
     | error x=>rw [ht] at hg; simp only [Except.error.injEq] at hg; subst hg; exact iht (fun k hk=>hm k (by simp [hk])) _ ht
     | ok us=>rw [ht] at hg; cases hg
  exact go ks (fun _ h=>h) _ hl
 | ok ts =>
  by_cases h4:op=4
  · subst h4
    rw [ZeE hl] at h
    split at h
    · simp only [Except.error.injEq] at h; omega
    · cases h
  · rw [ZeF hl h4] at h
    split at h
    · simp only [Except.error.injEq] at h; omega
    · cases h
def kd (ts:List Int):Obj := .cells #[.int .i64 (ts.getD 0 0),.int .i64 (ts.getD 1 0),.int .i64 (ts.getD 2 0)] 159 (0,0)
theorem ZeH {W:World} {B:Nat} {ts:List Int} (h:W.heap[B]?=some (kd ts)):W.cell? ⟨B,0,none⟩=some (.int .i64 (ts.getD 0 0))∧W.cell? ⟨B,1,none⟩=some (.int .i64 (ts.getD 1 0))∧W.cell? ⟨B,2,none⟩=some (.int .i64 (ts.getD 2 0)) ∧
 W.frozen? ⟨B,0,none⟩=false∧W.frozen? ⟨B,1,none⟩=false∧W.frozen? ⟨B,2,none⟩=false:=by
 unfold kd at h
 simp [World.cell?,World.frozen?,h]
theorem ZeI {W:World} {B:Nat} {ts:List Int} (h:W.heap[B]?=some (kd ts)) (k:Nat) (hk:ts.length=k) (h3:k<3) (t:Int):(W.setCell ⟨B,k,none⟩ (.int .i64 t)).heap[B]?=some (kd (ts++[t])):=by
 unfold kd at h ⊢
 match ts,k,hk,h3 with
 | [],0,_,_=>simp [World.setCell,Array.getElem?_modify,h]
 | [a],1,_,_=>simp [World.setCell,Array.getElem?_modify,h]
 | [a,b],2,_,_=>simp [World.setCell,Array.getElem?_modify,h]
theorem set_other {W:World} {b:Nat} {p:Addr} (h:b≠p.block) (v:Value):(W.setCell p v).heap[b]?=W.heap[b]?:=Below.heap_setCell _ _ _ _ h
theorem ZeJ {W:World} {B:Nat} {ts:List Int} (h:W.heap[B]?=some (kd ts)) (k:Nat) (h3:k<3):(∃ x,W.cell? ⟨B,k,none⟩=some (.int .i64 x))∧W.frozen? ⟨B,k,none⟩=false:=by
 have c:=ZeH h
 rcases (by omega:k=0∨k=1∨k=2) with rfl|rfl|rfl
 · exact ⟨⟨_,c.1⟩,c.2.2.2.1⟩
 · exact ⟨⟨_,c.2.1⟩,c.2.2.2.2.1⟩
 · exact ⟨⟨_,c.2.2.1⟩,c.2.2.2.2.2⟩
theorem ZeK (names:List Bs) (types:List Int) (nv tv:Value) (e:Ex):∀ (v:Value) (w:World),Ar e→StrsV (gh w) nv names→IntsV (gh w) tv types→KV (gh w) v e.ks →
 Calls Tryz.prog 72 #[exV e.op e.n e.s v,nv,tv] w (ofPost (typ names types e) w):=by
 refine Ex.ind (P:=fun e=>∀ (v:Value) (w:World),Ar e→StrsV (gh w) nv names→IntsV (gh w) tv types→KV (gh w) v e.ks →
  Calls Tryz.prog 72 #[exV e.op e.n e.s v,nv,tv] w (ofPost (typ names types e) w)) ?_ e
 intro op n s ks ih v w hA hN hT hK
 simp only [Ex.op,Ex.n,Ex.s,Ex.ks] at hK ⊢
 obtain ⟨a,cap,rfl⟩:=hK.form
 have hl3:ks.length≤3:=by cases hA with|mk _ _ _ _ _ h _=>exact h
 have HO:Hid (1≤op∧op≤23):=by cases hA with|mk _ _ _ _ h _ _=>exact Zq h
 have HAk:Hid (∀ k∈ks,Ar k):=by cases hA with|mk _ _ _ _ _ _ h=>exact Zq h
 have HI:=Zq ih
 obtain ⟨R,hR⟩:∃ R,typL names types ks=R:=⟨_,rfl⟩
 have HR:=Zq hR
 have hcap:=hK.cap
 clear ih hR hA
 unfold exV strV
 go_in
 go_wp2
 have hb0:Below w.heap.size w ((w.alloc (.cells #[.int .i64 op,.int .i64 n,.string ⟨s.toArray⟩,.slice a ks.length cap] 61)).alloc (kd [])):=((Below.refl _ _).alloc Zs _).alloc (by simp) _
 have he0:((w.alloc (.cells #[.int .i64 op,.int .i64 n,.string ⟨s.toArray⟩,.slice a ks.length cap] 61)).alloc (kd [])).heap[w.heap.size]?=some (.cells #[.int .i64 op,.int .i64 n,.string ⟨s.toArray⟩,.slice a ks.length cap] 61 (0,0)):=by
  rw [Lib.alloc_old _ _ _ (by simp)]; exact heap_alloc_new w _
 have hk0:((w.alloc (.cells #[.int .i64 op,.int .i64 n,.string ⟨s.toArray⟩,.slice a ks.length cap] 61)).alloc (kd [])).heap[w.heap.size+1]?=some (kd []):=by
  have:=heap_alloc_new (w.alloc (.cells #[.int .i64 op,.int .i64 n,.string ⟨s.toArray⟩,.slice a ks.length cap] 61)) (kd [])
  simpa using this
 go_loopg [20] ks.length (fun g i wr=>∃ (k:Nat) (ts:List Int),i = .int .i64 k∧ts.length=k∧k+g=ks.length∧Below w.heap.size w wr ∧
  wr.heap[w.heap.size]?=some (.cells #[.int .i64 op,.int .i64 n,.string ⟨s.toArray⟩,.slice a ks.length cap] 61 (0,0))∧wr.heap[w.heap.size+1]?=some (kd ts)∧Hid (cont ts (typL names types (ks.drop k))=R))
 case atStart=>exact ⟨0,[],rfl,rfl,by omega,hb0,he0,hk0,Zq (by rw [←HR.out,List.drop_zero]; cases typL names types ks<;>rfl)⟩
 case round =>
  obtain ⟨k,ts,rfl,hts,hg,hbw,he,hkd,HC⟩:=hrel
  clear hb0 he0 hk0
  by_cases hlt:k<ks.length
  · have hKr:=hK.keep hbw
    obtain ⟨b,off,u,rfl,c0,c1,c2,c3,hKu⟩:=hKr.at (List.getElem?_eq_getElem hlt)
    obtain ⟨ua,uc,rfl⟩:=hKu.form
    have hmem:ks[k]∈ks:=List.getElem_mem hlt
    have hdr:ks.drop k=ks[k]::ks.drop (k+1):=List.drop_eq_getElem_cons hlt
    have hbA:=(Below.refl wr.heap.size wr).alloc Zs (.cells #[.int .i64 ks[k].op,.int .i64 ks[k].n,.string ⟨ks[k].s.toArray⟩,.slice ua ks[k].ks.length uc] 61)
    have hbB:=hbw.seq hbA
    have hx:=HI.out ks[k] hmem (.slice ua ks[k].ks.length uc) _ (HAk.out _ hmem) (hN.mono (Zah hbB)) (hT.mono (Zah hbB)) (hKu.keep hbA)
    have HCC:=HC.out
    rw [hdr] at HCC
    have HD:=Zq HCC
    have hB1:w.heap.size+1<wr.heap.size:=(Array.getElem?_eq_some_iff.1 hkd).1
    have he1:=(hbA.block _ (by omega)).trans he
    have hk1:=(hbA.block _ hB1).trans hkd
    have hz1:wr.heap.size<(wr.alloc (.cells #[.int .i64 ks[k].op,.int .i64 ks[k].n,.string ⟨ks[k].s.toArray⟩,.slice ua ks[k].ks.length uc] 61)).heap.size:=by simp
    unfold exV strV at hx
    unfold strV at c2
    have HX:=Zq hx
    have HE1:=Zq he1
    have HK1:=Zq hk1
    clear hx HCC hdr hKu hKr HC hbA he hkd hmem he1 hk1 HI HAk
    go_wp2_with fail
    refine HX.out.mono ?_
    generalize wr.alloc (.cells #[.int .i64 ks[k].op,.int .i64 ks[k].n,.string ⟨ks[k].s.toArray⟩,.slice ua ks[k].ks.length uc] 61)=W1 at *
    rintro e W2 ⟨rfl,hb2⟩
    have hb3:=hbB.seq hb2
    have he2:=(hb2.block _ (by omega)).trans HE1.out
    have hk2:=(hb2.block _ (by omega)).trans HK1.out
    clear hb2 hbB HX HE1 HK1 c0 c1 c2 c3
    cases ht:typ names types ks[k] with
    | error f =>
     have HE:Hid (R = .error f):=Zq (by rw [←HD.out,ZeB ht]; rfl)
     have hf:=ZeG _ _ _ _ ht
     have q:(f != 0)=true:=bne_iff_ne.2 (by omega)
     have HV:Hid (valE (.error f)=0∧errE (.error f)=f):=Zq ⟨rfl,rfl⟩
     clear ht hf
     rw [HV.out.1,HV.out.2]
     go_wp2
     go_ret2
     refine ⟨?_,hb3⟩
     rw [ZeD (HR.out.trans HE.out)]
     rfl
    | ok t =>
     have HE:Hid (cont (ts++[t]) (typL names types (ks.drop (k+1)))=R):=Zq (by rw [←HD.out,ZeC ht])
     have HV:Hid (valE (.ok t)=t∧errE (.ok t)=0):=Zq ⟨rfl,rfl⟩
     obtain ⟨⟨x,cx⟩,fx⟩:=ZeJ hk2 k (by omega)
     have k3:(k:Int)<3:=by omega
     have HK2:=Zq hk2
     have HTS:=Zq hts
     have HE2:=Zq he2
     clear ht hk2 hts he2
     rw [HV.out.1,HV.out.2]
     go_wp2
     go_roundg (gk - 1)
     case rel=>exact ⟨k+1,ts++[t],by go_num,by rw [List.length_append,HTS.out]; rfl,by omega,hb3.setCell (p:=⟨w.heap.size+1,k,none⟩) (by simp) _,by rw [set_other (by simp)]; exact HE2.out,ZeI HK2.out k HTS.out (by omega) t,HE⟩
     case measure=>omega
  · have hnil:ks.drop k=[]:=List.drop_eq_nil_of_le (by omega)
    have HC2:Hid (typL names types ks = .ok ts):=Zq (by rw [HR.out,←HC.out,hnil,ZeA]; simp [cont])
    clear hnil HC HI HAk hK
    obtain ⟨d0,-,d2,-⟩:=(ZdP he).1
    obtain ⟨x0,x1,x2,-⟩:=ZeH hkd
    have HE:=Zq he
    have HKD:=Zq hkd
    clear he hkd
    by_cases h4:op=4
    · subst h4
      have hf:=Zd4 s names types nv tv wr (hN.mono (Zah hbw)) (hT.mono (Zah hbw))
      unfold strV at hf
      have HF:=Zq hf
      have HT:Hid (typ names types (.mk 4 n s ks)=if findT names types s=0 then .error 9 else .ok (findT names types s)):=Zq (ZeE HC2.out)
      clear hf
      go_wp2_with fail
      refine HF.out.mono ?_
      rintro e W ⟨rfl,rfl⟩
      by_cases h0:findT names types s=0
      · have HV:Hid (decide (findT names types s≠0)=false):=Zq (decide_eq_false (by simpa using h0))
        have HT2:Hid (typ names types (.mk 4 n s ks) = .error 9):=Zq (by rw [HT.out,if_pos h0])
        clear h0
        rw [HV.out]
        go_wp2
        go_ret2
        refine ⟨?_,hbw⟩
        rw [HT2.out]; rfl
      · have HV:Hid (decide (findT names types s≠0)=true):=Zq (decide_eq_true h0)
        have HT2:Hid (typ names types (.mk 4 n s ks) = .ok (findT names types s)):=Zq (by rw [HT.out,if_neg h0])
        clear h0
        rw [HV.out]
        go_wp2
        go_ret2
        refine ⟨?_,hbw⟩
        rw [HT2.out]; rfl
    · have q4:(op == 4)=false:=Zr h4
      have hm:=Zev op (ts.getD 0 0) (ts.getD 1 0) (ts.getD 2 0) wr ⟨HO.out.1,HO.out.2,h4⟩
      have HT:=Zq (ZeF (n:=n) (s:=s) HC2.out h4)
      obtain ⟨m,hmm⟩:∃ m,made op (ts.getD 0 0) (ts.getD 1 0) (ts.getD 2 0)=m:=⟨_,rfl⟩
      rw [hmm] at hm HT
      have HM:=Zq hm
      clear hm hmm h4
      generalize ts.getD 0 0=y0 at *
      generalize ts.getD 1 0=y1 at *
      generalize ts.getD 2 0=y2 at *
      go_wp2_with fail
      refine HM.out.mono ?_
      rintro e W ⟨rfl,hb4⟩
      have hb5:=hbw.seq hb4
      by_cases h0:m=0
      · subst h0
        have HT2:Hid (typ names types (.mk op n s ks) = .error 8):=Zq (by rw [HT.out,if_pos rfl])
        go_wp2
        go_ret2
        refine ⟨?_,hb5⟩
        rw [HT2.out]; rfl
      · have HT2:Hid (typ names types (.mk op n s ks) = .ok m):=Zq (by rw [HT.out,if_neg h0])
        have q0:(m == 0)=false:=Zr h0
        clear h0
        go_wp2
        go_ret2
        refine ⟨?_,hb5⟩
        rw [HT2.out]; rfl
end Go.Proofs.YtpfhhikbaeknpaaGreatDoor
