/- The walk of types.made, whole. -/
import Derived.Test.YtpfhhikbaeknpaaGreatDoorKVb
import Derived.Test.YtpfhhikbaeknpaaGreatDoorKVc
import Derived.Lib.MapLaws
set_option linter.unusedSectionVars false
set_option linter.unusedSimpArgs false
set_option linter.unusedVariables false
namespace Go.Proofs.YtpfhhikbaeknpaaGreatDoor
open Go.RowKit Pal
theorem intsV_at {w:World} {a:Option Addr} {n cap:Nat} {xs:List Int} (t:IntsV (gh w) (.slice a n cap) xs) {j:Nat} {x:Int} (hj:xs[j]?=some x):∃ b off,a=some ⟨b,off,none⟩∧w.cell? ⟨b,off+j,none⟩=some (.int .i64 x):=by
 obtain ⟨a',cap',hv,hn,hl,hx⟩:=t
 simp only [Value.slice.injEq] at hv
 obtain ⟨rfl,rfl,rfl⟩:=hv
 obtain ⟨b,off,ha,hc⟩:=hx j x hj
 rw [gh_cell] at hc
 exact ⟨b,off,ha,hc⟩
theorem intsV_form {h:GH} {v:Value} {xs:List Int} (t:IntsV h v xs):∃ a cap,v = .slice a xs.length cap∧xs.length≤17592186044416:=by obtain ⟨a,cap,hv,_,hl,_⟩:=t; exact ⟨a,cap,hv,hl⟩
theorem findT_nil (ts:List Int) (s:Bs):findT [] ts s=0:=by unfold findT; rfl
theorem findT_hit {m s:Bs} {ms:List Bs} {ts:List Int} (h:m=s):findT (m::ms) ts s=(match ts with|t::_=>if 1≤t∧t≤3 then t else 0|[]=>0):=by rw [findT.eq_def]; simp only; rw [if_pos h]; cases ts<;>rfl
theorem findT_miss {m s:Bs} {ms:List Bs} {ts:List Int} (h:¬ m=s):findT (m::ms) ts s=findT ms ts.tail s:=by rw [findT.eq_def]; simp only; rw [if_neg h]
def findPost (t:Int) (w:World) (e:Ending) (w':World):Prop:=e = .returned (.tuple #[.int .i64 t,.bool (decide (t≠0))])∧w=w'
set_option maxRecDepth 1000000 in
set_option maxHeartbeats 2000000 in
theorem find_any (s:Bs) (names:List Bs) (types:List Int) (nv tv:Value) (w:World) (hN:StrsV (gh w) nv names) (hT:IntsV (gh w) tv types) :
 Calls Tryz.prog 102 #[strV s,nv,tv] w (findPost (findT names types s) w):=by
 obtain ⟨na,nc,rfl⟩:=hN.form
 obtain ⟨ta,tc,rfl,htl⟩:=intsV_form hT
 have hnl:names.length≤9223372036854775807:=by
  obtain ⟨_,_,hv,_,h1,h2,_⟩:=hN
  simp only [Value.slice.injEq] at hv
  unfold maxLen at h2
  omega
 obtain ⟨R,hR⟩:∃ R,findT names types s=R:=⟨_,rfl⟩
 rw [hR]
 have HR:=Lib.hid hR
 clear hR
 unfold strV
 go_enter Tryz.func102,Tryz.ntmps102
 go_wp2
 go_step3
 go_wp2
 go_step3
 go_wp2
 go_loopg [8,13] names.length (fun g m i wr=>∃ k:Nat,m = .int .i64 (-1)∧i = .int .i64 k∧k+g=names.length∧wr=w∧Hid (findT (names.drop k) (types.drop k) s=R))
 case atStart=>exact ⟨0,rfl,rfl,by omega,rfl,Lib.hid HR.out⟩
 case round =>
  obtain ⟨k,rfl,rfl,hg,rfl,HC⟩:=hrel
  have k0:¬ ((k:Int)<0):=by omega
  have k1:decide ((k:Int)<0)=false:=decide_eq_false k0
  by_cases hlt:k<names.length
  · obtain ⟨b,off,rfl,c0⟩:=hN.at (List.getElem?_eq_getElem hlt)
    unfold strV at c0
    have hdr:names.drop k=names[k]::names.drop (k+1):=List.drop_eq_getElem_cons hlt
    by_cases hs:names[k]=s
    · have hc:=HC.out
      rw [hdr,findT_hit hs] at hc
      have q:(names[k] == s)=true:=by simp [hs]
      by_cases hlt2:k<types.length
      · rw [List.drop_eq_getElem_cons hlt2] at hc
        simp only at hc
        obtain ⟨b2,off2,rfl,c2⟩:=intsV_at hT (List.getElem?_eq_getElem hlt2)
        generalize types[k]=t at *
        have HD:=Lib.hid hc
        have q2:(decide (types.length≤k))=false:=decide_eq_false (by omega)
        have q3:¬ types.length≤k:=by omega
        clear hc hdr HC hN hT
        by_cases h1:1≤t
        · by_cases h2:t≤3
          · have HE:Hid (R=t):=Lib.hid (by rw [←HD.out,if_pos ⟨h1,h2⟩])
            have HF:Hid (decide (t≠0)=true):=Lib.hid (decide_eq_true (by omega))
            clear hs
            go_wp2
            try rw [Exit.noGoto_ret]
            go_ret2
            refine ⟨?_,rfl⟩
            rw [HE.out,HF.out]; rfl
          · have HE:Hid (R=0):=Lib.hid (by rw [←HD.out,if_neg (fun h=>h2 h.2)])
            have h3:3<t:=by omega
            clear hs h2
            go_wp2
            try rw [Exit.noGoto_ret]
            go_ret2
            (refine ⟨?_,rfl⟩; rw [HE.out]; rfl)
        · have HE:Hid (R=0):=Lib.hid (by rw [←HD.out,if_neg (fun h=>h1 h.1)])
          have h3:t<1:=by omega
          clear hs h1
          go_wp2
          try rw [Exit.noGoto_ret]
          go_ret2
          (refine ⟨?_,rfl⟩; rw [HE.out]; rfl)
      · rw [List.drop_eq_nil_of_le (by omega)] at hc
        have HE:Hid (R=0):=Lib.hid (by rw [←hc])
        have q3:types.length≤k:=by omega
        clear hc hdr HC hs hN hT
        go_wp2
        try rw [Exit.noGoto_ret]
        go_ret2
        (refine ⟨?_,rfl⟩; rw [HE.out]; rfl)
    · have hc:=HC.out
      rw [hdr,findT_miss hs,List.tail_drop] at hc
      have HD:=Lib.hid hc
      have q:(names[k] == s)=false:=beq_no hs
      clear hc hdr HC hs
      go_wp2
      go_roundg (gk - 1)
      case rel=>exact ⟨k+1,rfl,by go_num,by omega,rfl,Lib.hid HD.out⟩
      case measure=>omega
  · have HE:Hid (R=0):=Lib.hid (by rw [←HC.out,List.drop_eq_nil_of_le (by omega),findT_nil])
    clear HC
    go_wp2
    try rw [Exit.noGoto_ret]
    go_ret2
    (refine ⟨?_,rfl⟩; rw [HE.out]; rfl)
def madePost (t:Int) (w:World) (e:Ending) (w':World):Prop:=e = .returned (.int .i64 t)∧Below w.heap.size w w'
theorem madePost_mk {t u:Int} (h:t=u) {w w':World} (hb:Below w.heap.size w w'):madePost u w (.returned (.int .i64 t)) w':=⟨by rw [h],hb⟩
theorem alone_kids {op n:Int} {s:Bs} {ks:List Ex} (h:alone op n s ks=true):(ks.length:Int)=arity op:=by
 unfold alone at h
 rw [Bool.and_eq_true,decide_eq_true_eq] at h
 exact h.1
inductive VOk:Val→Prop
 | nil:VOk vNil
 | int (n:Int) (h : -9223372036854775808≤n∧n≤9223372036854775807):VOk (vInt n)
 | bool (b:Bool):VOk (vBool b)
 | text (s:Bs) (h:textOk s=true):VOk (vText s)
 | bad (n:Int) (h:1≤n∧n≤4):VOk (vBad n)
inductive Good:Ex→Prop
 | mk (op n:Int) (s:Bs) (ks:List Ex) (ha:alone op n s ks=true) (hn : -9223372036854775808≤n∧n≤9223372036854775807) (hk:∀ k∈ks,Good k):Good (.mk op n s ks)
theorem chk_good:∀ (e:Ex) (deep left:Nat),Fine e→(chk e deep left).isSome=true→Good e:=by
 intro e
 refine Ex.ind (P:=fun e=>∀ (deep left:Nat),Fine e→(chk e deep left).isSome=true→Good e) ?_ e
 intro op n s ks ih deep left hF h
 by_cases hc:left=0∨24<deep∨alone op n s ks=false
 · rw [chk_no hc] at h; cases h
 · rw [chk_yes hc] at h
   have ha:alone op n s ks=true:=by
    cases hb:alone op n s ks with
    | true=>rfl
    | false=>exact absurd (.inr (.inr hb)) hc
   have hFk:=hF.kids.2
   have hFn : -9223372036854775808≤n∧n≤9223372036854775807:=by cases hF; assumption
   refine .mk op n s ks ha hFn ?_
   have go:∀ (l:List Ex),(∀ k∈l,k∈ks)→∀ left,(chkL l (deep+1) left).isSome=true→∀ k∈l,Good k:=by
    intro l
    induction l with
    | nil=>intro _ _ _ k hk; cases hk
    | cons a t iht =>
     intro hm left h k hk
     rw [chkL_cons] at h
     cases hca:chk a (deep+1) left with
     | none=>rw [hca] at h; cases h
     | some m =>
      rw [hca,Option.bind_some] at h
      rcases List.mem_cons.1 hk with rfl|hk
      · exact ih k (hm k (by simp)) _ _ (hFk k (hm k (by simp))) (by rw [hca]; rfl)
      · exact iht (fun x hx=>hm x (by simp [hx])) m h k hk
   exact go ks (fun _ h=>h) _ h
theorem check_good {e:Ex} (hF:Fine e) (h:check e=true):Good e:=chk_good e 1 128 hF h
def ValsV (h:GH) (v:Value) (l:List Val):Prop:=∃ a cap,v = .slice a l.length cap∧(a=none→l=[])∧l.length≤cap∧cap≤maxLen ∧
 ∀ j x,l[j]?=some x→∃ b off,a=some ⟨b,off,none⟩∧h.cell b (off+j*3)=some (.int .i64 x.k)∧h.cell b (off+j*3+1)=some (.int .i64 x.n)∧h.cell b (off+j*3+2)=some (strV x.s)
def VFine (l:List Val):Prop:=∀ v∈l,(-9223372036854775808≤v.n∧v.n≤9223372036854775807)∧v.s.length≤9223372036854775806
set_option maxRecDepth 1000000 in
set_option maxHeartbeats 4000000 in
theorem made_3 (a b c:Int) (w:World) :
 Calls Tryz.prog 103 #[.int .i64 3,.agg #[.int .i64 a,.int .i64 b,.int .i64 c]] w (madePost (made 3 a b c) w):=by
 go_enter Tryz.func103,Tryz.ntmps103
 go_wp2
 go_quiet (fail)
 go_wp2
 all_goals
  go_ret
  exact madePost_mk (by simp_all [made]) (below_drewN ((Below.refl _ _).alloc (Nat.le_refl _) _) _)
set_option maxRecDepth 1000000 in
set_option maxHeartbeats 4000000 in
theorem made_23 (a b c:Int) (w:World) :
 Calls Tryz.prog 103 #[.int .i64 23,.agg #[.int .i64 a,.int .i64 b,.int .i64 c]] w (madePost (made 23 a b c) w):=by
 go_enter Tryz.func103,Tryz.ntmps103
 go_wp2
 go_quiet (fail)
 go_wp2
 all_goals
  go_ret
  exact madePost_mk (by simp_all [made]) (below_drewN ((Below.refl _ _).alloc (Nat.le_refl _) _) _)
set_option maxRecDepth 1000000 in
set_option maxHeartbeats 4000000 in
theorem made_14 (a b c:Int) (w:World) :
 Calls Tryz.prog 103 #[.int .i64 14,.agg #[.int .i64 a,.int .i64 b,.int .i64 c]] w (madePost (made 14 a b c) w):=by
 go_enter Tryz.func103,Tryz.ntmps103
 go_wp2
 go_quiet (fail)
 go_wp2
 all_goals
  go_ret
  exact madePost_mk (by simp_all [made]) (below_drewN ((Below.refl _ _).alloc (Nat.le_refl _) _) _)
set_option maxRecDepth 1000000 in
set_option maxHeartbeats 4000000 in
theorem made_1 (a b c:Int) (w:World) :
 Calls Tryz.prog 103 #[.int .i64 1,.agg #[.int .i64 a,.int .i64 b,.int .i64 c]] w (madePost (made 1 a b c) w):=by
 go_enter Tryz.func103,Tryz.ntmps103
 go_wp2
 go_quiet (fail)
 go_wp2
 all_goals
  go_ret
  exact madePost_mk (by simp_all [made]) (below_drewN ((Below.refl _ _).alloc (Nat.le_refl _) _) _)
set_option maxRecDepth 1000000 in
set_option maxHeartbeats 4000000 in
theorem made_5 (a b c:Int) (w:World) :
 Calls Tryz.prog 103 #[.int .i64 5,.agg #[.int .i64 a,.int .i64 b,.int .i64 c]] w (madePost (made 5 a b c) w):=by
 go_enter Tryz.func103,Tryz.ntmps103
 go_wp2
 go_quiet (fail)
 go_wp2
 all_goals
  go_ret
  exact madePost_mk (by simp_all [made]) (below_drewN ((Below.refl _ _).alloc (Nat.le_refl _) _) _)
set_option maxRecDepth 1000000 in
set_option maxHeartbeats 4000000 in
theorem made_22 (a b c:Int) (w:World) :
 Calls Tryz.prog 103 #[.int .i64 22,.agg #[.int .i64 a,.int .i64 b,.int .i64 c]] w (madePost (made 22 a b c) w):=by
 go_enter Tryz.func103,Tryz.ntmps103
 go_wp2
 go_quiet (fail)
 go_wp2
 all_goals
  go_ret
  exact madePost_mk (by simp_all [made]) (below_drewN ((Below.refl _ _).alloc (Nat.le_refl _) _) _)
set_option maxRecDepth 1000000 in
set_option maxHeartbeats 4000000 in
theorem made_21 (a b c:Int) (w:World) :
 Calls Tryz.prog 103 #[.int .i64 21,.agg #[.int .i64 a,.int .i64 b,.int .i64 c]] w (madePost (made 21 a b c) w):=by
 go_enter Tryz.func103,Tryz.ntmps103
 go_wp2
 go_quiet (fail)
 go_wp2
 all_goals
  go_ret
  exact madePost_mk (by simp_all [made]) (below_drewN ((Below.refl _ _).alloc (Nat.le_refl _) _) _)
set_option maxRecDepth 1000000 in
set_option maxHeartbeats 4000000 in
theorem made_13 (a b c:Int) (w:World) :
 Calls Tryz.prog 103 #[.int .i64 13,.agg #[.int .i64 a,.int .i64 b,.int .i64 c]] w (madePost (made 13 a b c) w):=by
 go_enter Tryz.func103,Tryz.ntmps103
 go_wp2
 go_quiet (fail)
 go_wp2
 all_goals
  go_ret
  exact madePost_mk (by simp_all [made]) (below_drewN ((Below.refl _ _).alloc (Nat.le_refl _) _) _)
set_option maxRecDepth 1000000 in
set_option maxHeartbeats 4000000 in
theorem made_2 (a b c:Int) (w:World) :
 Calls Tryz.prog 103 #[.int .i64 2,.agg #[.int .i64 a,.int .i64 b,.int .i64 c]] w (madePost (made 2 a b c) w):=by
 go_enter Tryz.func103,Tryz.ntmps103
 go_wp2
 go_quiet (fail)
 go_wp2
 all_goals
  go_ret
  exact madePost_mk (by simp_all [made]) (below_drewN ((Below.refl _ _).alloc (Nat.le_refl _) _) _)
set_option maxRecDepth 1000000 in
set_option maxHeartbeats 4000000 in
theorem made_7 (a b c:Int) (w:World) :
 Calls Tryz.prog 103 #[.int .i64 7,.agg #[.int .i64 a,.int .i64 b,.int .i64 c]] w (madePost (made 7 a b c) w):=by
 go_enter Tryz.func103,Tryz.ntmps103
 go_wp2
 go_quiet (fail)
 go_wp2
 all_goals
  go_ret
  exact madePost_mk (by simp_all [made]) (below_drewN ((Below.refl _ _).alloc (Nat.le_refl _) _) _)
set_option maxRecDepth 1000000 in
set_option maxHeartbeats 4000000 in
theorem made_20 (a b c:Int) (w:World) :
 Calls Tryz.prog 103 #[.int .i64 20,.agg #[.int .i64 a,.int .i64 b,.int .i64 c]] w (madePost (made 20 a b c) w):=by
 go_enter Tryz.func103,Tryz.ntmps103
 go_wp2
 go_quiet (fail)
 go_wp2
 all_goals
  go_ret
  exact madePost_mk (by simp_all [made]) (below_drewN ((Below.refl _ _).alloc (Nat.le_refl _) _) _)
set_option maxRecDepth 1000000 in
set_option maxHeartbeats 4000000 in
theorem made_19 (a b c:Int) (w:World) :
 Calls Tryz.prog 103 #[.int .i64 19,.agg #[.int .i64 a,.int .i64 b,.int .i64 c]] w (madePost (made 19 a b c) w):=by
 go_enter Tryz.func103,Tryz.ntmps103
 go_wp2
 go_quiet (fail)
 go_wp2
 all_goals
  go_ret
  exact madePost_mk (by simp_all [made]) (below_drewN ((Below.refl _ _).alloc (Nat.le_refl _) _) _)
set_option maxRecDepth 1000000 in
set_option maxHeartbeats 4000000 in
theorem made_12 (a b c:Int) (w:World) :
 Calls Tryz.prog 103 #[.int .i64 12,.agg #[.int .i64 a,.int .i64 b,.int .i64 c]] w (madePost (made 12 a b c) w):=by
 go_enter Tryz.func103,Tryz.ntmps103
 go_wp2
 go_quiet (fail)
 go_wp2
 all_goals
  go_ret
  exact madePost_mk (by simp_all [made]) (below_drewN ((Below.refl _ _).alloc (Nat.le_refl _) _) _)
set_option maxRecDepth 1000000 in
set_option maxHeartbeats 4000000 in
theorem made_8 (a b c:Int) (w:World) :
 Calls Tryz.prog 103 #[.int .i64 8,.agg #[.int .i64 a,.int .i64 b,.int .i64 c]] w (madePost (made 8 a b c) w):=by
 go_enter Tryz.func103,Tryz.ntmps103
 go_wp2
 go_quiet (fail)
 go_wp2
 all_goals
  go_ret
  exact madePost_mk (by simp_all [made]) (below_drewN ((Below.refl _ _).alloc (Nat.le_refl _) _) _)
set_option maxRecDepth 1000000 in
set_option maxHeartbeats 4000000 in
theorem made_9 (a b c:Int) (w:World) :
 Calls Tryz.prog 103 #[.int .i64 9,.agg #[.int .i64 a,.int .i64 b,.int .i64 c]] w (madePost (made 9 a b c) w):=by
 go_enter Tryz.func103,Tryz.ntmps103
 go_wp2
 go_quiet (fail)
 go_wp2
 all_goals
  go_ret
  exact madePost_mk (by simp_all [made]) (below_drewN ((Below.refl _ _).alloc (Nat.le_refl _) _) _)
set_option maxRecDepth 1000000 in
set_option maxHeartbeats 4000000 in
theorem made_10 (a b c:Int) (w:World) :
 Calls Tryz.prog 103 #[.int .i64 10,.agg #[.int .i64 a,.int .i64 b,.int .i64 c]] w (madePost (made 10 a b c) w):=by
 go_enter Tryz.func103,Tryz.ntmps103
 go_wp2
 go_quiet (fail)
 go_wp2
 all_goals
  go_ret
  exact madePost_mk (by simp_all [made]) (below_drewN ((Below.refl _ _).alloc (Nat.le_refl _) _) _)
set_option maxRecDepth 1000000 in
set_option maxHeartbeats 4000000 in
theorem made_18 (a b c:Int) (w:World) :
 Calls Tryz.prog 103 #[.int .i64 18,.agg #[.int .i64 a,.int .i64 b,.int .i64 c]] w (madePost (made 18 a b c) w):=by
 go_enter Tryz.func103,Tryz.ntmps103
 go_wp2
 go_quiet (fail)
 go_wp2
 all_goals
  go_ret
  exact madePost_mk (by simp_all [made]) (below_drewN ((Below.refl _ _).alloc (Nat.le_refl _) _) _)
set_option maxRecDepth 1000000 in
set_option maxHeartbeats 4000000 in
theorem made_15 (a b c:Int) (w:World) :
 Calls Tryz.prog 103 #[.int .i64 15,.agg #[.int .i64 a,.int .i64 b,.int .i64 c]] w (madePost (made 15 a b c) w):=by
 go_enter Tryz.func103,Tryz.ntmps103
 go_wp2
 go_quiet (fail)
 go_wp2
 all_goals
  go_ret
  exact madePost_mk (by simp_all [made]) (below_drewN ((Below.refl _ _).alloc (Nat.le_refl _) _) _)
set_option maxRecDepth 1000000 in
set_option maxHeartbeats 4000000 in
theorem made_17 (a b c:Int) (w:World) :
 Calls Tryz.prog 103 #[.int .i64 17,.agg #[.int .i64 a,.int .i64 b,.int .i64 c]] w (madePost (made 17 a b c) w):=by
 go_enter Tryz.func103,Tryz.ntmps103
 go_wp2
 go_quiet (fail)
 go_wp2
 all_goals
  go_ret
  exact madePost_mk (by simp_all [made]) (below_drewN ((Below.refl _ _).alloc (Nat.le_refl _) _) _)
set_option maxRecDepth 1000000 in
set_option maxHeartbeats 4000000 in
theorem made_16 (a b c:Int) (w:World) :
 Calls Tryz.prog 103 #[.int .i64 16,.agg #[.int .i64 a,.int .i64 b,.int .i64 c]] w (madePost (made 16 a b c) w):=by
 go_enter Tryz.func103,Tryz.ntmps103
 go_wp2
 go_quiet (fail)
 go_wp2
 all_goals
  go_ret
  exact madePost_mk (by simp_all [made]) (below_drewN ((Below.refl _ _).alloc (Nat.le_refl _) _) _)
set_option maxRecDepth 1000000 in
set_option maxHeartbeats 4000000 in
theorem made_6 (a b c:Int) (w:World) :
 Calls Tryz.prog 103 #[.int .i64 6,.agg #[.int .i64 a,.int .i64 b,.int .i64 c]] w (madePost (made 6 a b c) w):=by
 go_enter Tryz.func103,Tryz.ntmps103
 go_wp2
 go_quiet (fail)
 go_wp2
 all_goals
  go_ret
  exact madePost_mk (by simp_all [made]) (below_drewN ((Below.refl _ _).alloc (Nat.le_refl _) _) _)
set_option maxRecDepth 1000000 in
set_option maxHeartbeats 4000000 in
theorem made_11 (a b c:Int) (w:World) :
 Calls Tryz.prog 103 #[.int .i64 11,.agg #[.int .i64 a,.int .i64 b,.int .i64 c]] w (madePost (made 11 a b c) w):=by
 go_enter Tryz.func103,Tryz.ntmps103
 go_wp2
 go_quiet (fail)
 go_wp2
 all_goals
  go_ret
  exact madePost_mk (by simp_all [made]) (below_drewN ((Below.refl _ _).alloc (Nat.le_refl _) _) _)
theorem made_any (op a b c:Int) (w:World) (h:1≤op∧op≤23∧op≠4) :
 Calls Tryz.prog 103 #[.int .i64 op,.agg #[.int .i64 a,.int .i64 b,.int .i64 c]] w (madePost (made op a b c) w):=by
 rcases (by omega:op=1∨op=2∨op=3∨op=5∨op=6∨op=7∨op=8∨op=9∨op=10∨op=11∨op=12∨op=13∨op=14∨op=15∨op=16∨op=17∨op=18∨op=19∨op=20∨op=21∨op=22∨op=23) with rfl|rfl|rfl|rfl|rfl|rfl|rfl|rfl|rfl|rfl|rfl|rfl|rfl|rfl|rfl|rfl|rfl|rfl|rfl|rfl|rfl|rfl
 · exact made_1 a b c w
 · exact made_2 a b c w
 · exact made_3 a b c w
 · exact made_5 a b c w
 · exact made_6 a b c w
 · exact made_7 a b c w
 · exact made_8 a b c w
 · exact made_9 a b c w
 · exact made_10 a b c w
 · exact made_11 a b c w
 · exact made_12 a b c w
 · exact made_13 a b c w
 · exact made_14 a b c w
 · exact made_15 a b c w
 · exact made_16 a b c w
 · exact made_17 a b c w
 · exact made_18 a b c w
 · exact made_19 a b c w
 · exact made_20 a b c w
 · exact made_21 a b c w
 · exact made_22 a b c w
 · exact made_23 a b c w
end Go.Proofs.YtpfhhikbaeknpaaGreatDoor
