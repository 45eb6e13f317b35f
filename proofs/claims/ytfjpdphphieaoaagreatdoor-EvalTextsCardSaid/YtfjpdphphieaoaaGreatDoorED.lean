/- The walk of eval's text, of two parts. Conditions: its parts come to what the plain law says, and that may be values. The walk of eval's decided. Conditions: its parts come to what the plain law says, and that may be values. The walk of eval's truth. Conditions: its parts come to what the plain law says, and that may be values. -/
import Derived.Test.YtfjpdphphieaoaaGreatDoorEB
import Derived.Deep.RegionHeld3
set_option linter.unusedSectionVars false
set_option linter.unusedSimpArgs false
set_option linter.unusedVariables false
namespace Go.Proofs.YtfjpdphphieaoaaGreatDoor
open Go.RowKit Pal
theorem cat_bs (a b : Bs) : ((⟨a.toArray⟩ : ByteArray) ++ (⟨b.toArray⟩ : ByteArray)) = ⟨(a ++ b).toArray⟩ := by
  apply ByteArray.ext
  simp
/-- Not too long a text is itself. -/
theorem longM_cases (t : Bs) : (cnt t ≤ 100 ∧ longM t = vText t) ∨ (100 < cnt t ∧ longM t = vBad 4) := by
  unfold longM
  by_cases h : 100 < cnt t
  · exact .inr ⟨h,if_pos h⟩
  · exact .inl ⟨by omega,if_neg h⟩
set_option maxRecDepth 1000000 in
set_option maxHeartbeats 8000000 in
theorem text2_any (names : List Bs) (vals : List Val) (op n : Int) (s : Bs) (k k' : Ex) (v : Value) (p : Nat) (w : World) (ho : op = 20 ∨ op = 21)
    (hE : EvP names vals k) (hE' : EvP names vals k') (hok : VOk (ev (look names vals) k)) (hok' : VOk (ev (look names vals) k')) (hW : WithV w p names vals) (hK : KV (gh w) v [k,k']) :
    Calls Tryz.prog 38 #[.pointer (some ⟨p,0,none⟩),exV op n s v] w (boxPost (textM op (ev (look names vals) k) (ev (look names vals) k')) w) := by
  obtain ⟨a,cap,rfl⟩ := hK.form
  have hcap := hK.cap
  obtain ⟨b,off,ua,uc,rfl,c0,c1,c2,c3,hKu⟩ := hK.at0
  obtain ⟨ub,ud,e0,e1,e2,e3,hKv⟩ := hK.at1
  have hnd := need_kid hE hok hW hKu
  have hnd' := need_kid hE' hok' hW hKv
  generalize ev (look names vals) k = x at *
  generalize ev (look names vals) k' = y at *
  have HN1 := Lib.hid hnd'
  have HL := Lib.hid hW.lay
  have hbl := World.block_lt_of_cell? w _ c0
  have hb0 := (((Below.refl w.heap.size w).alloc (Nat.le_refl _) (.cells #[.int .i64 op,.int .i64 n,.string ⟨s.toArray⟩,.slice (some ⟨b,off,none⟩) 2 cap] 28)).alloc (by simp) (.cells #[.int .i64 3] 3))
  have he0 : ((w.alloc (.cells #[.int .i64 op,.int .i64 n,.string ⟨s.toArray⟩,.slice (some ⟨b,off,none⟩) 2 cap] 28)).alloc (.cells #[.int .i64 3] 3)).heap[w.heap.size]? = some (.cells #[.int .i64 op,.int .i64 n,.string ⟨s.toArray⟩,.slice (some ⟨b,off,none⟩) 2 cap] 28 (0,0)) := by
    rw [Lib.alloc_old _ _ _ (by simp)]; exact heap_alloc_new w _
  have hi0 : ((w.alloc (.cells #[.int .i64 op,.int .i64 n,.string ⟨s.toArray⟩,.slice (some ⟨b,off,none⟩) 2 cap] 28)).alloc (.cells #[.int .i64 3] 3)).heap[w.heap.size + 1]? = some (.cells (([3] : List Int).map (Value.int .i64)).toArray 3 (0,0)) := by
    have := heap_alloc_new (w.alloc (.cells #[.int .i64 op,.int .i64 n,.string ⟨s.toArray⟩,.slice (some ⟨b,off,none⟩) 2 cap] 28)) (.cells #[.int .i64 3] 3)
    simpa using this
  have HN3 := Lib.hid (hnd _ hb0 _ _ _ hi0 (by simp))
  have HB0 := Lib.hid hb0
  have HE0 := Lib.hid he0
  have HOK := Lib.hid hok
  have HOK' := Lib.hid hok'
  have HCS := Lib.hid (And.intro e0 (And.intro e1 (And.intro e2 e3)))
  clear hnd hnd' hE hE' hW hK hKu hKv hb0 he0 hi0 hok hok' e0 e1 e2 e3
  simp only [List.length_singleton] at *
  unfold exV strV
  go_enter Tryz.func38,Tryz.ntmps38
  go_wp2_with fail
  refine HN3.out.mono ?_
  rintro e W1 ⟨rfl,hb1⟩
  have hb2 := HB0.out.seq hb1
  have he1 := (hb1.block _ (by simp; omega)).trans HE0.out
  have hL1 := HL.out.below hb2
  have HB2 := Lib.hid hb2
  clear hb1 hb2 HB0 HE0 HN3 c0 c1 c2 c3
  rcases need_ok HOK.out [3] with ⟨u,hu,hvu⟩ | ⟨hu,hk1⟩
  · have HE : Hid (textM op x y = u) := Lib.hid (textM_err hu)
    rw [hu]
    clear hu
    unfold needV needB
    go_wp2
    try rw [Exit.noGoto_ret]
    go_ret
    exact ⟨by rw [HE.out]; rfl,HB2.out⟩
  · obtain ⟨d0,-,-,d3⟩ := (four_all he1).1
    have HM := Lib.hid (textM_ok' (op := op) (b := y) hu)
    obtain ⟨tt,rfl,htt⟩ := HOK.out.k3 (by simpa using hk1)
    rw [hu]
    clear hu hk1
    unfold needV needB
    simp only [boxV_text]
    have htx := text_any tt W1 htt hL1
    obtain ⟨t1,t2,t3⟩ := textOk_iff htt
    have HT3 := Lib.hid t2
    have HTX := Lib.hid htx
    clear htx htt hL1
    unfold strRet strV at HTX
    unfold strV
    go_wp2_with fail
    refine HTX.out.mono ?_
    rintro e W2 ⟨rfl,hb3⟩
    have hb4 := HB2.out.seq hb3
    have hlt : w.heap.size < W1.heap.size := World.block_lt_of_cell? W1 _ d0
    have d1 : W2.cell? ⟨w.heap.size,0,none⟩ = some (.int .i64 op) := (hb3.cell (p := ⟨w.heap.size,0,none⟩) hlt).trans d0
    have d4 : W2.cell? ⟨w.heap.size,3,none⟩ = some (.slice (some ⟨b,off,none⟩) 2 cap) := (hb3.cell (p := ⟨w.heap.size,3,none⟩) hlt).trans d3
    obtain ⟨e0,e1,e2,e3⟩ := HCS.out
    have f0 := (hb4.cell (p := ⟨b,off + 4,none⟩) hbl).trans e0
    have f1 := (hb4.cell (p := ⟨b,off + 4 + 1,none⟩) hbl).trans e1
    have f2 := (hb4.cell (p := ⟨b,off + 4 + 2,none⟩) hbl).trans e2
    have f3 := (hb4.cell (p := ⟨b,off + 4 + 3,none⟩) hbl).trans e3
    have hbI := fun l : List Int => (hb4.alloc hb4.size (.cells (l.map (Value.int .i64)).toArray 3))
    have hn1 := fun l : List Int => HN1.out _ (hbI l) W2.heap.size 3 l (heap_alloc_new W2 _)
    have HNI := Lib.hid hn1
    have HBI := Lib.hid hbI
    have HL2 := Lib.hid (HL.out.below hb4)
    clear d0 d3 hlt hb3 hb4 HB2 HTX he1 HN1 HCS e0 e1 e2 e3 hn1 hbI
    rcases ho with rfl | rfl
    · have hn3 := HNI.out [3] (by simp)
      have hbB := HBI.out [3]
      simp only [List.map_cons,List.map_nil,List.length_singleton] at hn3 hbB
      have HN3 := Lib.hid hn3
      have HBB := Lib.hid hbB
      clear hn3 hbB
      go_wp2_with fail
      refine HN3.out.mono ?_
      generalize World.alloc _ _ = WB at *
      rintro e W3 ⟨rfl,hb5⟩
      have hb6 := HBB.out.seq hb5
      have HB6 := Lib.hid hb6
      have hL6 := HL.out.below hb6
      clear hb5 hb6 HBB HN3 HNI HBI f0 f1 f2 f3 d1 d4
      rcases need_ok HOK'.out [3] with ⟨u,hu,hvu⟩ | ⟨hu,hk1⟩
      · have HE : Hid (textM 20 (vText tt) y = u) := Lib.hid (by rw [HM.out,hu]; rfl)
        rw [hu]
        clear hu
        unfold needV needB
        go_wp2
        try rw [Exit.noGoto_ret]
        go_ret
        exact ⟨by rw [HE.out]; rfl,HB6.out⟩
      · have HM2 : Hid (textM 20 (vText tt) y = longM (tt ++ y.s)) := Lib.hid (by rw [HM.out,hu]; rfl)
        obtain ⟨uu,rfl,huu⟩ := HOK'.out.k3 (by simpa using hk1)
        rw [hu]
        clear hu hk1
        unfold needV needB
        simp only [boxV_text]
        have htx := text_any uu W3 huu hL6
        obtain ⟨u1,u2,u3⟩ := textOk_iff huu
        have HTX := Lib.hid htx
        clear htx huu hL6
        unfold strRet strV at HTX
        unfold strV
        go_wp2_with fail
        refine HTX.out.mono ?_
        rintro e W4 ⟨rfl,hb7⟩
        have hb8 := HB6.out.seq hb7
        clear hb7 HB6 HTX
        go_wp2_with fail
        simp only [cat_bs]
        have HCB := Lib.hid (longM_cases (tt ++ uu))
        have hcc := runesCount_any ⟨(tt ++ uu).toArray⟩ W4 (by rw [mk_size,List.length_append]; omega)
        simp only [mk_list] at hcc
        have HC := Lib.hid hcc
        have HM3 : Hid (textM 20 (vText tt) (vText uu) = longM (tt ++ uu)) := HM2
        clear hcc HM2 HM
        generalize tt ++ uu = ft at *
        refine HC.out.mono ?_
        rintro e W5 ⟨rfl,hb9⟩
        have hb10 := hb8.seq hb9
        clear hb8 hb9 HC
        rcases HCB.out with ⟨h1,h2⟩ | ⟨h1,h2⟩
        · have HG2 : Hid (textM 20 (vText tt) (vText uu) = vText ft) := Lib.hid (by rw [HM3.out,h2])
          have q : decide ((100 : Int) < (cnt ft : Int)) = false := decide_eq_false (by omega)
          clear h2 HM3 h1 HCB
          generalize cnt ft = cf at *
          go_wp2
          try rw [Exit.noGoto_ret]
          go_ret
          exact ⟨by rw [HG2.out]; rfl,hb10⟩
        · have HG2 : Hid (textM 20 (vText tt) (vText uu) = vBad 4) := Lib.hid (by rw [HM3.out,h2])
          have q : decide ((100 : Int) < (cnt ft : Int)) = true := decide_eq_true (by omega)
          clear h2 HM3 h1 HCB
          generalize cnt ft = cf at *
          go_wp2_with fail
          refine (bad_any 4 _).mono ?_
          rintro e W6 ⟨rfl,rfl⟩
          go_wp2
          try rw [Exit.noGoto_ret]
          go_ret
          exact ⟨by rw [HG2.out]; rfl,hb10⟩
    · have hn3 := HNI.out [1] (by simp)
      have hbB := HBI.out [1]
      simp only [List.map_cons,List.map_nil,List.length_singleton] at hn3 hbB
      have HN3 := Lib.hid hn3
      have HBB := Lib.hid hbB
      clear hn3 hbB
      go_wp2_with fail
      refine HN3.out.mono ?_
      generalize World.alloc _ _ = WB at *
      rintro e W3 ⟨rfl,hb5⟩
      have hb6 := HBB.out.seq hb5
      have HB6 := Lib.hid hb6
      clear hb5 hb6 HBB HN3 HNI HBI f0 f1 f2 f3 d1 d4
      rcases need_ok HOK'.out [1] with ⟨u,hu,hvu⟩ | ⟨hu,hk1⟩
      · have HE : Hid (textM 21 (vText tt) y = u) := Lib.hid (by rw [HM.out,hu]; rfl)
        rw [hu]
        clear hu
        unfold needV needB
        go_wp2
        try rw [Exit.noGoto_ret]
        go_ret
        exact ⟨by rw [HE.out]; rfl,HB6.out⟩
      · have HM2 : Hid (textM 21 (vText tt) y = longM (takeP y.n.toNat tt)) := Lib.hid (by rw [HM.out,hu]; rfl)
        obtain ⟨m,rfl,hm⟩ := HOK'.out.k1 (by simpa using hk1)
        rw [hu]
        clear hu hk1
        unfold needV needB
        simp only [boxV_int]
        have HI := Lib.hid (int_any m W3)
        have hct := cut_any ⟨tt.toArray⟩ m W3 hm (by rw [mk_size]; omega)
        rw [mk_list] at hct
        unfold strRet strV at hct
        have htl := takeP_law m.toNat tt HT3.out
        have hln := len_cnt _ (takeP m.toNat tt) (Nat.le_refl _)
        have HM3 : Hid (textM 21 (vText tt) (vInt m) = longM (takeP m.toNat tt)) := HM2
        have HCT := Lib.hid hct
        clear HM2 HM hct
        generalize takeP m.toNat tt = ft at *
        have hcc := fun W => runesCount_any ⟨ft.toArray⟩ W (by rw [mk_size]; omega)
        simp only [mk_list] at hcc
        have HC := Lib.hid hcc
        have hng : ¬ 100 < cnt ft := by omega
        have HG2 : Hid (textM 21 (vText tt) (vInt m) = vText ft) := Lib.hid (by rw [HM3.out]; unfold longM; rw [if_neg hng])
        have q : decide ((100 : Int) < (cnt ft : Int)) = false := decide_eq_false (by omega)
        clear hcc htl hln HM3 hng
        go_wp2_with fail
        refine HI.out.mono ?_
        rintro e W4 ⟨rfl,rfl⟩
        go_wp2_with fail
        refine HCT.out.mono ?_
        rintro e W5 ⟨rfl,hb7⟩
        have hb8 := HB6.out.seq hb7
        clear hb7 HB6 HCT HI
        go_wp2_with fail
        refine (HC.out _).mono ?_
        rintro e W6 ⟨rfl,hb9⟩
        have hb10 := hb8.seq hb9
        clear hb8 hb9 HC
        generalize cnt ft = cf at *
        go_wp2
        try rw [Exit.noGoto_ret]
        go_ret
        exact ⟨by rw [HG2.out]; rfl,hb10⟩
end Go.Proofs.YtfjpdphphieaoaaGreatDoor
namespace Go.Proofs.YtfjpdphphieaoaaGreatDoor
open Go.RowKit Pal
theorem dec_err {op : Int} {a b c u : Val} (ho : op = 6 ∨ op = 16 ∨ op = 17 ∨ op = 18) (h : need a [2] = .error u) : truthM op a b c = u := by unfold truthM; rw [if_pos ho,h]
theorem dec_ok {op : Int} {bb : Bool} {b c : Val} (ho : op = 6 ∨ op = 16 ∨ op = 17 ∨ op = 18) : truthM op (vBool bb) b c =
    if op = 6 then vBool (!bb) else if op = 18 then (if bb = true then b else c) else if bb = decide (op = 17) then vBool bb else needV (need b [2]) := by
  have hn : need (vBool bb) [2] = .ok (vBool bb) := by simp [need,vBool]
  unfold truthM
  rw [if_pos ho,hn]
  simp only
  have e1 : (vBool bb).n = if bb then 1 else 0 := rfl
  rw [e1]
  rcases ho with rfl | rfl | rfl | rfl <;> cases bb <;> simp <;> cases need b [2] <;> rfl
theorem KV.at2 {w : World} {b off : Nat} {n cap : Nat} {k0 k1 k : Ex} {ks : List Ex} (t : KV (gh w) (.slice (some ⟨b,off,none⟩) n cap) (k0 :: k1 :: k :: ks)) :
    ∃ ua uc,w.cell? ⟨b,off + 8,none⟩ = some (.int .i64 k.op) ∧ w.cell? ⟨b,off + 8 + 1,none⟩ = some (.int .i64 k.n) ∧ w.cell? ⟨b,off + 8 + 2,none⟩ = some (.string ⟨k.s.toArray⟩) ∧ w.cell? ⟨b,off + 8 + 3,none⟩ = some (.slice ua k.ks.length uc) ∧ KV (gh w) (.slice ua k.ks.length uc) k.ks := by
  obtain ⟨b',off',u,ha,c0,c1,c2,c3,hk⟩ := t.at (j := 2) (k := k) rfl
  simp only [Option.some.injEq,Addr.mk.injEq,and_true] at ha
  obtain ⟨rfl,rfl⟩ := ha
  obtain ⟨ua,uc,rfl⟩ := hk.form
  exact ⟨ua,uc,c0,c1,c2,c3,hk⟩
/-- Eval of a part that lies in a world ahead. -/
theorem eval_kid {k : Ex} {names : List Bs} {vals : List Val} {p : Nat} {w : World} {ua : Option Addr} {uc : Nat} (hE : EvP names vals k) (hW : WithV w p names vals) (hK : KV (gh w) (.slice ua k.ks.length uc) k.ks) :
    ∀ W,Below w.heap.size w W → Calls Tryz.prog 19 #[.pointer (some ⟨p,0,none⟩),.agg #[.int .i64 k.op,.int .i64 k.n,.string ⟨k.s.toArray⟩,.slice ua k.ks.length uc]] W (boxPost (ev (look names vals) k) W) := by
  intro W hb
  exact hE (.slice ua k.ks.length uc) W p (hW.keep hb) (hK.keep hb)
set_option maxRecDepth 1000000 in
set_option maxHeartbeats 8000000 in
theorem dec_not (names : List Bs) (vals : List Val) (n : Int) (s : Bs) (k : Ex) (v : Value) (p : Nat) (w : World) 
    (hE0 : EvP names vals k) (hok0 : VOk (ev (look names vals) k)) (hW : WithV w p names vals) (hK : KV (gh w) v [k]) :
    Calls Tryz.prog 72 #[.pointer (some ⟨p,0,none⟩),exV 6 n s v] w (boxPost (truthM 6 (ev (look names vals) k) vNil vNil) w) := by
  obtain ⟨a,cap,rfl⟩ := hK.form
  have hcap := hK.cap
  obtain ⟨b,off,ua,uc,rfl,c0,c1,c2,c3,hK0⟩ := hK.at0
  have hnd := need_kid hE0 hok0 hW hK0
  generalize ev (look names vals) k = x at *
  have HL := Lib.hid hW.lay
  have hbl := World.block_lt_of_cell? w _ c0
  have hb0 := (((Below.refl w.heap.size w).alloc (Nat.le_refl _) (.cells #[.int .i64 6,.int .i64 n,.string ⟨s.toArray⟩,.slice (some ⟨b,off,none⟩) 1 cap] 28)).alloc (by simp) (.cells #[.int .i64 2] 3))
  have he0 : ((w.alloc (.cells #[.int .i64 6,.int .i64 n,.string ⟨s.toArray⟩,.slice (some ⟨b,off,none⟩) 1 cap] 28)).alloc (.cells #[.int .i64 2] 3)).heap[w.heap.size]? = some (.cells #[.int .i64 6,.int .i64 n,.string ⟨s.toArray⟩,.slice (some ⟨b,off,none⟩) 1 cap] 28 (0,0)) := by
    rw [Lib.alloc_old _ _ _ (by simp)]; exact heap_alloc_new w _
  have hi0 : ((w.alloc (.cells #[.int .i64 6,.int .i64 n,.string ⟨s.toArray⟩,.slice (some ⟨b,off,none⟩) 1 cap] 28)).alloc (.cells #[.int .i64 2] 3)).heap[w.heap.size + 1]? = some (.cells (([2] : List Int).map (Value.int .i64)).toArray 3 (0,0)) := by
    have := heap_alloc_new (w.alloc (.cells #[.int .i64 6,.int .i64 n,.string ⟨s.toArray⟩,.slice (some ⟨b,off,none⟩) 1 cap] 28)) (.cells #[.int .i64 2] 3)
    simpa using this
  have HN3 := Lib.hid (hnd _ hb0 _ _ _ hi0 (by simp))
  have HB0 := Lib.hid hb0
  have HE0 := Lib.hid he0
  have HOK := Lib.hid hok0
  clear hnd hE0 hW hK hK0 hb0 he0 hi0 hok0 
  simp only [List.length_singleton] at *
  unfold exV strV
  go_enter Tryz.func72,Tryz.ntmps72
  go_wp2_with fail
  refine HN3.out.mono ?_
  rintro e W1 ⟨rfl,hb1⟩
  have hb2 := HB0.out.seq hb1
  have he1 := (hb1.block _ (by simp; omega)).trans HE0.out
  have HB2 := Lib.hid hb2
  clear hb1 hb2 HB0 HE0 HN3 c0 c1 c2 c3
  rcases need_ok HOK.out [2] with ⟨u,hu,hvu⟩ | ⟨hu,hk1⟩
  · have HE : Hid (truthM 6 x vNil vNil = u) := Lib.hid (dec_err (by omega) hu)
    rw [hu]
    clear hu
    unfold needV needB
    go_wp2
    try rw [Exit.noGoto_ret]
    go_ret
    exact ⟨by rw [HE.out]; rfl,HB2.out⟩
  · obtain ⟨d0,-,-,d3⟩ := (four_all he1).1
    obtain ⟨bb,rfl⟩ := HOK.out.k2 (by simpa using hk1)
    rw [hu]
    clear hu hk1 he1
    unfold needV needB
    simp only [boxV_bool]
    have HBL := Lib.hid (bool_any bb W1)
    have HM : Hid (truthM 6 (vBool bb) vNil vNil = vBool (!bb)) := Lib.hid (by rw [dec_ok (.inl rfl),if_pos rfl])
    go_wp2_with fail
    refine HBL.out.mono ?_
    rintro e W2 ⟨rfl,rfl⟩
    go_wp2
    try rw [Exit.noGoto_ret]
    go_ret
    exact ⟨by rw [HM.out,boxV_bool]; rfl,HB2.out⟩
set_option maxRecDepth 1000000 in
set_option maxHeartbeats 8000000 in
theorem dec_if (names : List Bs) (vals : List Val) (n : Int) (s : Bs) (k k' k'' : Ex) (v : Value) (p : Nat) (w : World) 
    (hE0 : EvP names vals k) (hE1 : EvP names vals k') (hE2 : EvP names vals k'') (hok0 : VOk (ev (look names vals) k)) (hok1 : VOk (ev (look names vals) k')) (hok2 : VOk (ev (look names vals) k'')) (hW : WithV w p names vals) (hK : KV (gh w) v [k,k',k'']) :
    Calls Tryz.prog 72 #[.pointer (some ⟨p,0,none⟩),exV 18 n s v] w (boxPost (truthM 18 (ev (look names vals) k) (ev (look names vals) k') (ev (look names vals) k'')) w) := by
  obtain ⟨a,cap,rfl⟩ := hK.form
  have hcap := hK.cap
  obtain ⟨b,off,ua,uc,rfl,c0,c1,c2,c3,hK0⟩ := hK.at0
  obtain ⟨ub,ud,e0,e1,e2,e3,hK1⟩ := hK.at1
  obtain ⟨ue,uf,g0,g1,g2,g3,hK2⟩ := hK.at2
  have hnd := need_kid hE0 hok0 hW hK0
  have HV1 := Lib.hid (eval_kid hE1 hW hK1)
  have HV2 := Lib.hid (eval_kid hE2 hW hK2)
  generalize ev (look names vals) k = x at *
  generalize ev (look names vals) k' = y at *
  generalize ev (look names vals) k'' = z at *
  have HCS := Lib.hid (And.intro e0 (And.intro e1 (And.intro e2 e3)))
  have HCT := Lib.hid (And.intro g0 (And.intro g1 (And.intro g2 g3)))
  have HL := Lib.hid hW.lay
  have hbl := World.block_lt_of_cell? w _ c0
  have hb0 := (((Below.refl w.heap.size w).alloc (Nat.le_refl _) (.cells #[.int .i64 18,.int .i64 n,.string ⟨s.toArray⟩,.slice (some ⟨b,off,none⟩) 3 cap] 28)).alloc (by simp) (.cells #[.int .i64 2] 3))
  have he0 : ((w.alloc (.cells #[.int .i64 18,.int .i64 n,.string ⟨s.toArray⟩,.slice (some ⟨b,off,none⟩) 3 cap] 28)).alloc (.cells #[.int .i64 2] 3)).heap[w.heap.size]? = some (.cells #[.int .i64 18,.int .i64 n,.string ⟨s.toArray⟩,.slice (some ⟨b,off,none⟩) 3 cap] 28 (0,0)) := by
    rw [Lib.alloc_old _ _ _ (by simp)]; exact heap_alloc_new w _
  have hi0 : ((w.alloc (.cells #[.int .i64 18,.int .i64 n,.string ⟨s.toArray⟩,.slice (some ⟨b,off,none⟩) 3 cap] 28)).alloc (.cells #[.int .i64 2] 3)).heap[w.heap.size + 1]? = some (.cells (([2] : List Int).map (Value.int .i64)).toArray 3 (0,0)) := by
    have := heap_alloc_new (w.alloc (.cells #[.int .i64 18,.int .i64 n,.string ⟨s.toArray⟩,.slice (some ⟨b,off,none⟩) 3 cap] 28)) (.cells #[.int .i64 2] 3)
    simpa using this
  have HN3 := Lib.hid (hnd _ hb0 _ _ _ hi0 (by simp))
  have HB0 := Lib.hid hb0
  have HE0 := Lib.hid he0
  have HOK := Lib.hid hok0
  clear hnd hE0 hW hK hK0 hb0 he0 hi0 hok0 hE1 hE2 hK1 hK2 hok1 hok2 e0 e1 e2 e3 g0 g1 g2 g3
  simp only [List.length_singleton] at *
  unfold exV strV
  go_enter Tryz.func72,Tryz.ntmps72
  go_wp2_with fail
  refine HN3.out.mono ?_
  rintro e W1 ⟨rfl,hb1⟩
  have hb2 := HB0.out.seq hb1
  have he1 := (hb1.block _ (by simp; omega)).trans HE0.out
  have HB2 := Lib.hid hb2
  clear hb1 hb2 HB0 HE0 HN3 c0 c1 c2 c3
  rcases need_ok HOK.out [2] with ⟨u,hu,hvu⟩ | ⟨hu,hk1⟩
  · have HE : Hid (truthM 18 x y z = u) := Lib.hid (dec_err (by omega) hu)
    rw [hu]
    clear hu
    unfold needV needB
    go_wp2
    try rw [Exit.noGoto_ret]
    go_ret
    exact ⟨by rw [HE.out]; rfl,HB2.out⟩
  · obtain ⟨d0,-,-,d3⟩ := (four_all he1).1
    obtain ⟨bb,rfl⟩ := HOK.out.k2 (by simpa using hk1)
    rw [hu]
    clear hu hk1 he1
    unfold needV needB
    simp only [boxV_bool]
    have HBL := Lib.hid (bool_any bb W1)
    have HM : Hid (truthM 18 (vBool bb) y z = if bb = true then y else z) := Lib.hid (by rw [dec_ok (by omega),if_neg (by decide),if_pos rfl])
    go_wp2_with fail
    refine HBL.out.mono ?_
    rintro e W2 ⟨rfl,rfl⟩
    cases bb
    · have HM2 : Hid (truthM 18 (vBool false) y z = z) := Lib.hid (by rw [HM.out]; rfl)
      have HV := Lib.hid (HV2.out _ HB2.out)
      obtain ⟨g0,g1,g2,g3⟩ := HCT.out
      have f0 := (HB2.out.cell (p := ⟨b,off + 8,none⟩) hbl).trans g0
      have f1 := (HB2.out.cell (p := ⟨b,off + 8 + 1,none⟩) hbl).trans g1
      have f2 := (HB2.out.cell (p := ⟨b,off + 8 + 2,none⟩) hbl).trans g2
      have f3 := (HB2.out.cell (p := ⟨b,off + 8 + 3,none⟩) hbl).trans g3
      clear g0 g1 g2 g3 HCS HCT HV1 HV2 HM
      go_wp2_with fail
      refine HV.out.mono ?_
      rintro e W3 ⟨rfl,hb5⟩
      have hb6 := HB2.out.seq hb5
      go_wp2
      try rw [Exit.noGoto_ret]
      go_ret
      exact ⟨by rw [HM2.out]; rfl,hb6⟩
    · have HM2 : Hid (truthM 18 (vBool true) y z = y) := Lib.hid (by rw [HM.out]; rfl)
      have HV := Lib.hid (HV1.out _ HB2.out)
      obtain ⟨e0,e1,e2,e3⟩ := HCS.out
      have f0 := (HB2.out.cell (p := ⟨b,off + 4,none⟩) hbl).trans e0
      have f1 := (HB2.out.cell (p := ⟨b,off + 4 + 1,none⟩) hbl).trans e1
      have f2 := (HB2.out.cell (p := ⟨b,off + 4 + 2,none⟩) hbl).trans e2
      have f3 := (HB2.out.cell (p := ⟨b,off + 4 + 3,none⟩) hbl).trans e3
      clear e0 e1 e2 e3 HCS HCT HV1 HV2 HM
      go_wp2_with fail
      refine HV.out.mono ?_
      rintro e W3 ⟨rfl,hb5⟩
      have hb6 := HB2.out.seq hb5
      go_wp2
      try rw [Exit.noGoto_ret]
      go_ret
      exact ⟨by rw [HM2.out]; rfl,hb6⟩
set_option maxRecDepth 1000000 in
set_option maxHeartbeats 8000000 in
theorem dec_two (names : List Bs) (vals : List Val) (op n : Int) (s : Bs) (k k' : Ex) (v : Value) (p : Nat) (w : World) (ho : op = 16 ∨ op = 17)
    (hE0 : EvP names vals k) (hE1 : EvP names vals k') (hok0 : VOk (ev (look names vals) k)) (hok1 : VOk (ev (look names vals) k')) (hW : WithV w p names vals) (hK : KV (gh w) v [k,k']) :
    Calls Tryz.prog 72 #[.pointer (some ⟨p,0,none⟩),exV op n s v] w (boxPost (truthM op (ev (look names vals) k) (ev (look names vals) k') vNil) w) := by
  obtain ⟨a,cap,rfl⟩ := hK.form
  have hcap := hK.cap
  obtain ⟨b,off,ua,uc,rfl,c0,c1,c2,c3,hK0⟩ := hK.at0
  obtain ⟨ub,ud,e0,e1,e2,e3,hK1⟩ := hK.at1
  have hnd := need_kid hE0 hok0 hW hK0
  have HN1 := Lib.hid (need_kid hE1 hok1 hW hK1)
  generalize ev (look names vals) k = x at *
  generalize ev (look names vals) k' = y at *
  have HCS := Lib.hid (And.intro e0 (And.intro e1 (And.intro e2 e3)))
  have HL := Lib.hid hW.lay
  have hbl := World.block_lt_of_cell? w _ c0
  have hb0 := (((Below.refl w.heap.size w).alloc (Nat.le_refl _) (.cells #[.int .i64 op,.int .i64 n,.string ⟨s.toArray⟩,.slice (some ⟨b,off,none⟩) 2 cap] 28)).alloc (by simp) (.cells #[.int .i64 2] 3))
  have he0 : ((w.alloc (.cells #[.int .i64 op,.int .i64 n,.string ⟨s.toArray⟩,.slice (some ⟨b,off,none⟩) 2 cap] 28)).alloc (.cells #[.int .i64 2] 3)).heap[w.heap.size]? = some (.cells #[.int .i64 op,.int .i64 n,.string ⟨s.toArray⟩,.slice (some ⟨b,off,none⟩) 2 cap] 28 (0,0)) := by
    rw [Lib.alloc_old _ _ _ (by simp)]; exact heap_alloc_new w _
  have hi0 : ((w.alloc (.cells #[.int .i64 op,.int .i64 n,.string ⟨s.toArray⟩,.slice (some ⟨b,off,none⟩) 2 cap] 28)).alloc (.cells #[.int .i64 2] 3)).heap[w.heap.size + 1]? = some (.cells (([2] : List Int).map (Value.int .i64)).toArray 3 (0,0)) := by
    have := heap_alloc_new (w.alloc (.cells #[.int .i64 op,.int .i64 n,.string ⟨s.toArray⟩,.slice (some ⟨b,off,none⟩) 2 cap] 28)) (.cells #[.int .i64 2] 3)
    simpa using this
  have HN3 := Lib.hid (hnd _ hb0 _ _ _ hi0 (by simp))
  have HB0 := Lib.hid hb0
  have HE0 := Lib.hid he0
  have HOK := Lib.hid hok0
  clear hnd hE0 hW hK hK0 hb0 he0 hi0 hok0 hE1 hK1 hok1 e0 e1 e2 e3
  simp only [List.length_singleton] at *
  unfold exV strV
  go_enter Tryz.func72,Tryz.ntmps72
  go_wp2_with fail
  refine HN3.out.mono ?_
  rintro e W1 ⟨rfl,hb1⟩
  have hb2 := HB0.out.seq hb1
  have he1 := (hb1.block _ (by simp; omega)).trans HE0.out
  have HB2 := Lib.hid hb2
  clear hb1 hb2 HB0 HE0 HN3 c0 c1 c2 c3
  rcases need_ok HOK.out [2] with ⟨u,hu,hvu⟩ | ⟨hu,hk1⟩
  · have HE : Hid (truthM op x y vNil = u) := Lib.hid (dec_err (by omega) hu)
    rw [hu]
    clear hu
    unfold needV needB
    go_wp2
    try rw [Exit.noGoto_ret]
    go_ret
    exact ⟨by rw [HE.out]; rfl,HB2.out⟩
  · obtain ⟨d0,-,-,d3⟩ := (four_all he1).1
    obtain ⟨bb,rfl⟩ := HOK.out.k2 (by simpa using hk1)
    rw [hu]
    clear hu hk1 he1
    unfold needV needB
    simp only [boxV_bool]
    have HBL := Lib.hid (bool_any bb W1)
    have HM : Hid (truthM op (vBool bb) y vNil = if bb = decide (op = 17) then vBool bb else needV (need y [2])) := Lib.hid (by rw [dec_ok (by omega),if_neg (by omega),if_neg (by omega)])
    go_wp2_with fail
    refine HBL.out.mono ?_
    rintro e W2 ⟨rfl,rfl⟩
    obtain ⟨e0,e1,e2,e3⟩ := HCS.out
    have f0 := (HB2.out.cell (p := ⟨b,off + 4,none⟩) hbl).trans e0
    have f1 := (HB2.out.cell (p := ⟨b,off + 4 + 1,none⟩) hbl).trans e1
    have f2 := (HB2.out.cell (p := ⟨b,off + 4 + 2,none⟩) hbl).trans e2
    have f3 := (HB2.out.cell (p := ⟨b,off + 4 + 3,none⟩) hbl).trans e3
    have hbB := HB2.out.alloc HB2.out.size (.cells (([2] : List Int).map (Value.int .i64)).toArray 3)
    have hn3 := HN1.out _ hbB W2.heap.size 3 [2] (heap_alloc_new W2 _) (by simp)
    simp only [List.map_cons,List.map_nil,List.length_singleton] at hn3 hbB
    have HNN := Lib.hid hn3
    have HBB := Lib.hid hbB
    clear e0 e1 e2 e3 HCS HN1 hn3 hbB
    rcases ho with rfl | rfl <;> cases bb
    all_goals
      first
      | (have HM2 : Hid (_ = vBool _) := Lib.hid (HM.out.trans (if_pos (by decide)))
         clear HM f0 f1 f2 f3
         go_wp2
         try rw [Exit.noGoto_ret]
         go_ret
         exact ⟨by rw [HM2.out]; rfl,HB2.out⟩)
      | (have HM2 : Hid (_ = needV _) := Lib.hid (HM.out.trans (if_neg (by decide)))
         clear HM
         go_wp2_with fail
         refine HNN.out.mono ?_
         rintro e W3 ⟨rfl,hb5⟩
         have hb6 := HBB.out.seq hb5
         go_wp2
         try rw [Exit.noGoto_ret]
         go_ret
         exact ⟨by rw [HM2.out]; rfl,hb6⟩)
end Go.Proofs.YtfjpdphphieaoaaGreatDoor
namespace Go.Proofs.YtfjpdphphieaoaaGreatDoor
open Go.RowKit Pal
def kindsOf (op : Int) : List Int := if op = 14 ∨ op = 15 then [1,3] else [1,3,2]
def cmpM (op : Int) (a b : Val) : Val := if op = 12 then vBool (sameV a b) else if op = 13 then vBool (!sameV a b) else if op = 14 then vBool (lessV a b) else vBool (lessV a b || sameV a b)
theorem tr_err {op : Int} {a b c u : Val} (ho : ¬ (op = 6 ∨ op = 16 ∨ op = 17 ∨ op = 18)) (h : need a (kindsOf op) = .error u) : truthM op a b c = u := by
  unfold truthM; rw [if_neg ho]; unfold kindsOf at h; rw [h]
theorem tr_err2 {op : Int} {a b c u : Val} (ho : ¬ (op = 6 ∨ op = 16 ∨ op = 17 ∨ op = 18)) (h : need a (kindsOf op) = .ok a) (g : need b [a.k] = .error u) : truthM op a b c = u := by
  unfold truthM; rw [if_neg ho]; unfold kindsOf at h; rw [h]; simp only; rw [g]
theorem tr_ok {op : Int} {a b c : Val} (ho : ¬ (op = 6 ∨ op = 16 ∨ op = 17 ∨ op = 18)) (h : need a (kindsOf op) = .ok a) (g : need b [a.k] = .ok b) : truthM op a b c = cmpM op a b := by
  unfold truthM; rw [if_neg ho]; unfold kindsOf at h; rw [h]; simp only; rw [g]; rfl
theorem beq_eq_dec (s t : Bs) : (s == t) = decide (s = t) := by cases h : decide (s = t) <;> simp_all
def cmpB (op : Int) (l e : Bool) : Bool := if op = 12 then e else if op = 13 then !e else if op = 14 then l else (l || e)
theorem cmpM_int (op m m' : Int) : cmpM op (vInt m) (vInt m') = vBool (cmpB op (decide (m < m')) (decide (m = m'))) := by
  have e1 : sameV (vInt m) (vInt m') = decide (m = m') := by simp [sameV,vInt]
  have e2 : lessV (vInt m) (vInt m') = decide (m < m') := by first | rfl | (simp [lessV,vInt]; rfl)
  unfold cmpM cmpB; rw [e1,e2]
  split
  · rfl
  split
  · rfl
  split <;> rfl
theorem cmpM_text (op : Int) (s t : Bs) : cmpM op (vText s) (vText t) = vBool (cmpB op (Op.bytesLess s t) (decide (s = t))) := by
  have e1 : sameV (vText s) (vText t) = decide (s = t) := by simp [sameV,vText]
  have e2 : lessV (vText s) (vText t) = Op.bytesLess s t := by simp [lessV,vText]
  unfold cmpM cmpB; rw [e1,e2]
  split
  · rfl
  split
  · rfl
  split <;> rfl
theorem cmpM_bool (op : Int) (s t : Bool) : cmpM op (vBool s) (vBool t) = vBool (cmpB op false (decide (s = t))) := by
  have e1 : sameV (vBool s) (vBool t) = decide (s = t) := by cases s <;> cases t <;> rfl
  have e2 : lessV (vBool s) (vBool t) = false := by simp [lessV,vBool]
  unfold cmpM cmpB; rw [e1,e2]
  split
  · rfl
  split
  · rfl
  split <;> rfl
/-- The first of the kinds that lie there. -/
theorem intsV_two {W : World} {b : Nat} {T : TypeId} {x y z : Int} (h : W.heap[b]? = some (.cells #[.int .i64 x,.int .i64 y,.int .i64 z] T (0,0))) : IntsV (gh W) (.slice (some ⟨b,0,none⟩) 2 3) [x,y] := by
  refine ⟨some ⟨b,0,none⟩,3,rfl,fun h => (by cases h),by simp,fun j s hj => ⟨b,0,rfl,?_⟩⟩
  rw [gh_cell]
  match j,hj with
  | 0,hj => simp at hj; subst hj; simp [World.cell?,h]
  | 1,hj => simp at hj; subst hj; simp [World.cell?,h]
theorem intsV_three {W : World} {b : Nat} {T : TypeId} {x y z : Int} (h : W.heap[b]? = some (.cells #[.int .i64 x,.int .i64 y,.int .i64 z] T (0,0))) : IntsV (gh W) (.slice (some ⟨b,0,none⟩) 3 3) [x,y,z] := by
  refine ⟨some ⟨b,0,none⟩,3,rfl,fun h => (by cases h),by simp,fun j s hj => ⟨b,0,rfl,?_⟩⟩
  rw [gh_cell]
  match j,hj with
  | 0,hj => simp at hj; subst hj; simp [World.cell?,h]
  | 1,hj => simp at hj; subst hj; simp [World.cell?,h]
  | 2,hj => simp at hj; subst hj; simp [World.cell?,h]
set_option maxRecDepth 1000000 in
set_option maxHeartbeats 8000000 in
theorem truth_any (names : List Bs) (vals : List Val) (op n : Int) (s : Bs) (k k' : Ex) (v : Value) (p : Nat) (w : World) (ho : op = 12 ∨ op = 13 ∨ op = 14 ∨ op = 15)
    (hE0 : EvP names vals k) (hE1 : EvP names vals k') (hok0 : VOk (ev (look names vals) k)) (hok1 : VOk (ev (look names vals) k')) (hW : WithV w p names vals) (hK : KV (gh w) v [k,k']) :
    Calls Tryz.prog 39 #[.pointer (some ⟨p,0,none⟩),exV op n s v] w (boxPost (truthM op (ev (look names vals) k) (ev (look names vals) k') vNil) w) := by
  obtain ⟨a,cap,rfl⟩ := hK.form
  have hcap := hK.cap
  obtain ⟨b,off,ua,uc,rfl,c0,c1,c2,c3,hK0⟩ := hK.at0
  obtain ⟨ub,ud,e0,e1,e2,e3,hK1⟩ := hK.at1
  have HL := Lib.hid hW.lay
  have hbl := World.block_lt_of_cell? w _ c0
  have hb0 := (((Below.refl w.heap.size w).alloc (Nat.le_refl _) (.cells #[.int .i64 op,.int .i64 n,.string ⟨s.toArray⟩,.slice (some ⟨b,off,none⟩) 2 cap] 28)).alloc (by simp) (.cells #[.int .i64 1,.int .i64 3,.int .i64 2] 3))
  have he0 : ((w.alloc (.cells #[.int .i64 op,.int .i64 n,.string ⟨s.toArray⟩,.slice (some ⟨b,off,none⟩) 2 cap] 28)).alloc (.cells #[.int .i64 1,.int .i64 3,.int .i64 2] 3)).heap[w.heap.size]? = some (.cells #[.int .i64 op,.int .i64 n,.string ⟨s.toArray⟩,.slice (some ⟨b,off,none⟩) 2 cap] 28 (0,0)) := by
    rw [Lib.alloc_old _ _ _ (by simp)]; exact heap_alloc_new w _
  have hi0 : ((w.alloc (.cells #[.int .i64 op,.int .i64 n,.string ⟨s.toArray⟩,.slice (some ⟨b,off,none⟩) 2 cap] 28)).alloc (.cells #[.int .i64 1,.int .i64 3,.int .i64 2] 3)).heap[w.heap.size + 1]? = some (.cells #[.int .i64 1,.int .i64 3,.int .i64 2] 3 (0,0)) := by
    have := heap_alloc_new (w.alloc (.cells #[.int .i64 op,.int .i64 n,.string ⟨s.toArray⟩,.slice (some ⟨b,off,none⟩) 2 cap] 28)) (.cells #[.int .i64 1,.int .i64 3,.int .i64 2] 3)
    simpa using this
  have hI2 := intsV_two hi0
  have hI3 := intsV_three hi0
  have hn2 := need_any k names vals [1,3] (.slice ua k.ks.length uc) _ p _ hE0 hok0 (hW.keep hb0) (hK0.keep hb0) hI2
  have hn3 := need_any k names vals [1,3,2] (.slice ua k.ks.length uc) _ p _ hE0 hok0 (hW.keep hb0) (hK0.keep hb0) hI3
  have HN1 := Lib.hid (need_kid hE1 hok1 hW hK1)
  unfold exV strV at hn2 hn3
  generalize ev (look names vals) k = x at *
  generalize ev (look names vals) k' = y at *
  have HB0 := Lib.hid hb0
  have HE0 := Lib.hid he0
  have HOK := Lib.hid hok0
  have HOK1 := Lib.hid hok1
  have HCS := Lib.hid (And.intro e0 (And.intro e1 (And.intro e2 e3)))
  have HN2 := Lib.hid hn2
  have HN3 := Lib.hid hn3
  clear hE0 hE1 hW hK hK0 hK1 hb0 he0 hi0 hok0 hok1 e0 e1 e2 e3 hI2 hI3 hn2 hn3
  unfold exV strV
  rcases ho with rfl | rfl | rfl | rfl
  · go_enter Tryz.func39,Tryz.ntmps39
    go_wp2_with fail
    refine HN3.out.mono ?_
    rintro e W1 ⟨rfl,hb1⟩
    have hb2 := HB0.out.seq hb1
    have he1 := (hb1.block _ (by simp; omega)).trans HE0.out
    have HB2 := Lib.hid hb2
    clear hb1 hb2 HB0 HE0 HN2 HN3 c0 c1 c2 c3
    rcases need_ok HOK.out [1,3,2] with ⟨u,hu,hvu⟩ | ⟨hu,hk1⟩
    · have HE : Hid (truthM 12 x y vNil = u) := Lib.hid (tr_err (by decide) hu)
      rw [hu]
      clear hu
      unfold needV needB
      go_wp2
      try rw [Exit.noGoto_ret]
      go_ret
      exact ⟨by rw [HE.out]; rfl,HB2.out⟩
    · obtain ⟨d0,-,-,d3⟩ := (four_all he1).1
      rw [hu]
      have HU := Lib.hid hu
      have hkd := fun w hL => kind_any HOK.out w hL
      have HKD := Lib.hid hkd
      clear hu he1 hkd
      unfold needV needB
      have hs : w.heap.size < W1.heap.size := World.block_lt_of_cell? W1 _ d0
      have hk3 : ∀ W3,Below W1.drew.heap.size W1.drew W3 → W3.cell? ⟨w.heap.size,0,none⟩ = some (.int .i64 12) ∧ W3.cell? ⟨w.heap.size,3,none⟩ = some (.slice (some ⟨b,off,none⟩) 2 cap) ∧
          W3.cell? ⟨b,off + 4,none⟩ = some (.int .i64 k'.op) ∧ W3.cell? ⟨b,off + 4 + 1,none⟩ = some (.int .i64 k'.n) ∧ W3.cell? ⟨b,off + 4 + 2,none⟩ = some (.string ⟨k'.s.toArray⟩) ∧ W3.cell? ⟨b,off + 4 + 3,none⟩ = some (.slice ub k'.ks.length ud) := fun W3 hb => by
        have hbw := HB2.out.drew.seq hb
        obtain ⟨e0,e1,e2,e3⟩ := HCS.out
        refine ⟨?_,?_,?_,?_,?_,?_⟩
        · exact (hb.cell (p := ⟨w.heap.size,0,none⟩) hs).trans d0
        · exact (hb.cell (p := ⟨w.heap.size,3,none⟩) hs).trans d3
        · exact (hbw.cell (p := ⟨b,off + 4,none⟩) hbl).trans e0
        · exact (hbw.cell (p := ⟨b,off + 4 + 1,none⟩) hbl).trans e1
        · exact (hbw.cell (p := ⟨b,off + 4 + 2,none⟩) hbl).trans e2
        · exact (hbw.cell (p := ⟨b,off + 4 + 3,none⟩) hbl).trans e3
      have HK3 := Lib.hid hk3
      obtain ⟨g0,g1,f0,f1,f2,f3⟩ := hk3 W1.drew (Below.refl _ _)
      clear hk3
      obtain ⟨bx,hbx⟩ : ∃ bx,boxV x = bx := ⟨_,rfl⟩
      have HBX := Lib.hid hbx
      rw [hbx] at HKD ⊢
      obtain ⟨xk,hxk⟩ : ∃ xk,x.k = xk := ⟨_,rfl⟩
      have HXK := Lib.hid hxk
      rw [hxk] at HKD
      clear hbx hxk
      go_upto_region 13 with fail
      go_region_held3 (fun w' => (w'.cell? ⟨w.heap.size,3,none⟩ = some (.slice (some ⟨b,off,none⟩) 2 cap) ∧ w'.cell? ⟨b,off + 4,none⟩ = some (.int .i64 k'.op) ∧ w'.cell? ⟨b,off + 4 + 1,none⟩ = some (.int .i64 k'.n) ∧ w'.cell? ⟨b,off + 4 + 2,none⟩ = some (.string ⟨k'.s.toArray⟩) ∧ w'.cell? ⟨b,off + 4 + 3,none⟩ = some (.slice ub k'.ks.length ud))) (go_keep)
        ((first
          | (go_at_call 73; refine (HKD.out _ (HL.out.below HB2.out.drew)).mono ?_; rintro r W3 ⟨rfl,hb3⟩; have hb4 := HB2.out.drew.seq hb3; have hg := HK3.out W3 hb3; obtain ⟨h0,h1,h2,h3,h4,h5⟩ := hg)
          | (go_at_call 63; refine (HN1.out _ (hb4.alloc hb4.size _) W3.heap.size 3 [xk] (heap_alloc_new W3 _) (by simp)).mono ?_; rintro r W5 ⟨rfl,hb5⟩; have hb6 := (hb3.alloc hb3.size _).seq hb5; have hg5 := HK3.out W5 hb6; obtain ⟨i0,i1,i2,i3,i4,i5⟩ := hg5)))
      clear g0 g1 f0 f1 f2 f3 h0 h1 h2 h3 h4 h5 i1 i2 i3 i4 i5 d0 d3 HK3 HKD HCS HN1 hb6
      have hb7 := (hb4.alloc hb4.size _).seq hb5
      have HB7 := Lib.hid hb7
      have HL5 := Lib.hid (HL.out.below hb7)
      clear hb3 hb4 hb5 hb7
      rcases need_ok HOK1.out [xk] with ⟨u,hu,hvu⟩ | ⟨hu,hk2⟩
      · have HE : Hid (truthM 12 x y vNil = u) := Lib.hid (tr_err2 (by decide) HU.out (by rw [HXK.out]; exact hu))
        rw [hu]
        clear hu
        unfold needV needB
        go_wp2
        try rw [Exit.noGoto_ret]
        go_ret
        exact ⟨by rw [HE.out]; rfl,HB7.out⟩
      · have HM : Hid (truthM 12 x y vNil = cmpM 12 x y) := Lib.hid (tr_ok (by decide) HU.out (by rw [HXK.out]; exact hu))
        rw [hu]
        clear hu HU
        unfold needV needB
        have hyk : y.k = xk := by simpa using hk2
        have hx1 := HXK.out
        have hx2 := HBX.out
        rw [← hx2]
        clear HXK HBX hk2
        rw [← hx1] at hyk
        clear hx1 hx2
        cases HOK.out with
        | nil => simp [vNil] at hk1
        | bad m h => simp [vBad] at hk1
        | int m h =>
          obtain ⟨m',rfl,h'⟩ := HOK1.out.k1 hyk
          rw [boxV_int,boxV_int]
          have x1 := ta_int m
          have hi := fun w => int_any m' w
          have HI := Lib.hid hi
          have hcs : ∃ lb eb,decide (m < m') = lb ∧ (m == m') = eb ∧ cmpM 12 (vInt m) (vInt m') = vBool (cmpB 12 lb eb) := ⟨_,_,rfl,rfl,by rw [cmpM_int]; rfl⟩
          obtain ⟨lb,eb,hl,he,hc⟩ := hcs
          have HC := Lib.hid hc
          clear hk1 hyk hi hc
          go_wp2_with fail
          refine (HI.out _).mono ?_
          rintro e W6 ⟨rfl,rfl⟩
          go_wp2_with fail
          refine (HI.out _).mono ?_
          rintro e W6 ⟨rfl,rfl⟩
          cases lb <;> cases eb
          all_goals
            go_wp2
            try rw [Exit.noGoto_ret]
            go_ret
            exact ⟨by rw [HM.out,HC.out,boxV_bool]; rfl,HB7.out⟩
        | text tt h =>
          obtain ⟨uu,rfl,h'⟩ := HOK1.out.k3 hyk
          rw [boxV_text,boxV_text]
          unfold strV
          have x1 := tn_text_i tt
          have x2 := ta_text tt
          have hi := fun w hL => text_any uu w h' hL
          unfold strRet strV at hi
          have HI := Lib.hid hi
          have hcs : ∃ lb eb,Op.bytesLess tt uu = lb ∧ (tt == uu) = eb ∧ cmpM 12 (vText tt) (vText uu) = vBool (cmpB 12 lb eb) := ⟨_,_,rfl,rfl,by rw [cmpM_text,beq_eq_dec]⟩
          obtain ⟨lb,eb,hl,he,hc⟩ := hcs
          have HC := Lib.hid hc
          clear hk1 hyk hi hc
          go_wp2_with fail
          refine (HI.out _ HL5.out).mono ?_
          rintro e W6 ⟨rfl,hb8⟩
          have hL6 := HL5.out.below hb8
          have hb9 := HB7.out.seq hb8
          have i6 : W6.cell? ⟨w.heap.size,0,none⟩ = some (.int .i64 12) := (hb8.cell (p := ⟨w.heap.size,0,none⟩) (World.block_lt_of_cell? W5 _ i0)).trans i0
          have HL6 := Lib.hid hL6
          clear hb8 hL6 i0
          go_wp2_with fail
          refine (HI.out _ HL6.out).mono ?_
          rintro e W7 ⟨rfl,hb10⟩
          have hb11 := hb9.seq hb10
          have i7 : W7.cell? ⟨w.heap.size,0,none⟩ = some (.int .i64 12) := (hb10.cell (p := ⟨w.heap.size,0,none⟩) (World.block_lt_of_cell? W6 _ i6)).trans i6
          have HB11 := Lib.hid hb11
          clear hb9 hb10 hb11 i6
          cases lb <;> cases eb
          all_goals
            go_wp2
            try rw [Exit.noGoto_ret]
            go_ret
            exact ⟨by rw [HM.out,HC.out,boxV_bool]; rfl,HB11.out⟩
        | bool bb =>
          obtain ⟨cc,rfl⟩ := HOK1.out.k2 hyk
          rw [boxV_bool,boxV_bool]
          have x1 := tn_bool_i bb
          have x2 := tn_bool_s bb
          have x3 := ta_bool bb
          have hi := fun w => bool_any cc w
          have HI := Lib.hid hi
          have HC := Lib.hid (cmpM_bool 12 bb cc)
          clear hk1 hyk hi
          go_wp2_with fail
          refine (HI.out _).mono ?_
          rintro e W6 ⟨rfl,rfl⟩
          cases bb <;> cases cc
          all_goals
            go_wp2
            try rw [Exit.noGoto_ret]
            go_ret
            exact ⟨by rw [HM.out,HC.out,boxV_bool]; rfl,HB7.out⟩
  · go_enter Tryz.func39,Tryz.ntmps39
    go_wp2_with fail
    refine HN3.out.mono ?_
    rintro e W1 ⟨rfl,hb1⟩
    have hb2 := HB0.out.seq hb1
    have he1 := (hb1.block _ (by simp; omega)).trans HE0.out
    have HB2 := Lib.hid hb2
    clear hb1 hb2 HB0 HE0 HN2 HN3 c0 c1 c2 c3
    rcases need_ok HOK.out [1,3,2] with ⟨u,hu,hvu⟩ | ⟨hu,hk1⟩
    · have HE : Hid (truthM 13 x y vNil = u) := Lib.hid (tr_err (by decide) hu)
      rw [hu]
      clear hu
      unfold needV needB
      go_wp2
      try rw [Exit.noGoto_ret]
      go_ret
      exact ⟨by rw [HE.out]; rfl,HB2.out⟩
    · obtain ⟨d0,-,-,d3⟩ := (four_all he1).1
      rw [hu]
      have HU := Lib.hid hu
      have hkd := fun w hL => kind_any HOK.out w hL
      have HKD := Lib.hid hkd
      clear hu he1 hkd
      unfold needV needB
      have hs : w.heap.size < W1.heap.size := World.block_lt_of_cell? W1 _ d0
      have hk3 : ∀ W3,Below W1.drew.heap.size W1.drew W3 → W3.cell? ⟨w.heap.size,0,none⟩ = some (.int .i64 13) ∧ W3.cell? ⟨w.heap.size,3,none⟩ = some (.slice (some ⟨b,off,none⟩) 2 cap) ∧
          W3.cell? ⟨b,off + 4,none⟩ = some (.int .i64 k'.op) ∧ W3.cell? ⟨b,off + 4 + 1,none⟩ = some (.int .i64 k'.n) ∧ W3.cell? ⟨b,off + 4 + 2,none⟩ = some (.string ⟨k'.s.toArray⟩) ∧ W3.cell? ⟨b,off + 4 + 3,none⟩ = some (.slice ub k'.ks.length ud) := fun W3 hb => by
        have hbw := HB2.out.drew.seq hb
        obtain ⟨e0,e1,e2,e3⟩ := HCS.out
        refine ⟨?_,?_,?_,?_,?_,?_⟩
        · exact (hb.cell (p := ⟨w.heap.size,0,none⟩) hs).trans d0
        · exact (hb.cell (p := ⟨w.heap.size,3,none⟩) hs).trans d3
        · exact (hbw.cell (p := ⟨b,off + 4,none⟩) hbl).trans e0
        · exact (hbw.cell (p := ⟨b,off + 4 + 1,none⟩) hbl).trans e1
        · exact (hbw.cell (p := ⟨b,off + 4 + 2,none⟩) hbl).trans e2
        · exact (hbw.cell (p := ⟨b,off + 4 + 3,none⟩) hbl).trans e3
      have HK3 := Lib.hid hk3
      obtain ⟨g0,g1,f0,f1,f2,f3⟩ := hk3 W1.drew (Below.refl _ _)
      clear hk3
      obtain ⟨bx,hbx⟩ : ∃ bx,boxV x = bx := ⟨_,rfl⟩
      have HBX := Lib.hid hbx
      rw [hbx] at HKD ⊢
      obtain ⟨xk,hxk⟩ : ∃ xk,x.k = xk := ⟨_,rfl⟩
      have HXK := Lib.hid hxk
      rw [hxk] at HKD
      clear hbx hxk
      go_upto_region 13 with fail
      go_region_held3 (fun w' => (w'.cell? ⟨w.heap.size,3,none⟩ = some (.slice (some ⟨b,off,none⟩) 2 cap) ∧ w'.cell? ⟨b,off + 4,none⟩ = some (.int .i64 k'.op) ∧ w'.cell? ⟨b,off + 4 + 1,none⟩ = some (.int .i64 k'.n) ∧ w'.cell? ⟨b,off + 4 + 2,none⟩ = some (.string ⟨k'.s.toArray⟩) ∧ w'.cell? ⟨b,off + 4 + 3,none⟩ = some (.slice ub k'.ks.length ud))) (go_keep)
        ((first
          | (go_at_call 73; refine (HKD.out _ (HL.out.below HB2.out.drew)).mono ?_; rintro r W3 ⟨rfl,hb3⟩; have hb4 := HB2.out.drew.seq hb3; have hg := HK3.out W3 hb3; obtain ⟨h0,h1,h2,h3,h4,h5⟩ := hg)
          | (go_at_call 63; refine (HN1.out _ (hb4.alloc hb4.size _) W3.heap.size 3 [xk] (heap_alloc_new W3 _) (by simp)).mono ?_; rintro r W5 ⟨rfl,hb5⟩; have hb6 := (hb3.alloc hb3.size _).seq hb5; have hg5 := HK3.out W5 hb6; obtain ⟨i0,i1,i2,i3,i4,i5⟩ := hg5)))
      clear g0 g1 f0 f1 f2 f3 h0 h1 h2 h3 h4 h5 i1 i2 i3 i4 i5 d0 d3 HK3 HKD HCS HN1 hb6
      have hb7 := (hb4.alloc hb4.size _).seq hb5
      have HB7 := Lib.hid hb7
      have HL5 := Lib.hid (HL.out.below hb7)
      clear hb3 hb4 hb5 hb7
      rcases need_ok HOK1.out [xk] with ⟨u,hu,hvu⟩ | ⟨hu,hk2⟩
      · have HE : Hid (truthM 13 x y vNil = u) := Lib.hid (tr_err2 (by decide) HU.out (by rw [HXK.out]; exact hu))
        rw [hu]
        clear hu
        unfold needV needB
        go_wp2
        try rw [Exit.noGoto_ret]
        go_ret
        exact ⟨by rw [HE.out]; rfl,HB7.out⟩
      · have HM : Hid (truthM 13 x y vNil = cmpM 13 x y) := Lib.hid (tr_ok (by decide) HU.out (by rw [HXK.out]; exact hu))
        rw [hu]
        clear hu HU
        unfold needV needB
        have hyk : y.k = xk := by simpa using hk2
        have hx1 := HXK.out
        have hx2 := HBX.out
        rw [← hx2]
        clear HXK HBX hk2
        rw [← hx1] at hyk
        clear hx1 hx2
        cases HOK.out with
        | nil => simp [vNil] at hk1
        | bad m h => simp [vBad] at hk1
        | int m h =>
          obtain ⟨m',rfl,h'⟩ := HOK1.out.k1 hyk
          rw [boxV_int,boxV_int]
          have x1 := ta_int m
          have hi := fun w => int_any m' w
          have HI := Lib.hid hi
          have hcs : ∃ lb eb,decide (m < m') = lb ∧ (m == m') = eb ∧ cmpM 13 (vInt m) (vInt m') = vBool (cmpB 13 lb eb) := ⟨_,_,rfl,rfl,by rw [cmpM_int]; rfl⟩
          obtain ⟨lb,eb,hl,he,hc⟩ := hcs
          have HC := Lib.hid hc
          clear hk1 hyk hi hc
          go_wp2_with fail
          refine (HI.out _).mono ?_
          rintro e W6 ⟨rfl,rfl⟩
          go_wp2_with fail
          refine (HI.out _).mono ?_
          rintro e W6 ⟨rfl,rfl⟩
          cases lb <;> cases eb
          all_goals
            go_wp2
            try rw [Exit.noGoto_ret]
            go_ret
            exact ⟨by rw [HM.out,HC.out,boxV_bool]; rfl,HB7.out⟩
        | text tt h =>
          obtain ⟨uu,rfl,h'⟩ := HOK1.out.k3 hyk
          rw [boxV_text,boxV_text]
          unfold strV
          have x1 := tn_text_i tt
          have x2 := ta_text tt
          have hi := fun w hL => text_any uu w h' hL
          unfold strRet strV at hi
          have HI := Lib.hid hi
          have hcs : ∃ lb eb,Op.bytesLess tt uu = lb ∧ (tt == uu) = eb ∧ cmpM 13 (vText tt) (vText uu) = vBool (cmpB 13 lb eb) := ⟨_,_,rfl,rfl,by rw [cmpM_text,beq_eq_dec]⟩
          obtain ⟨lb,eb,hl,he,hc⟩ := hcs
          have HC := Lib.hid hc
          clear hk1 hyk hi hc
          go_wp2_with fail
          refine (HI.out _ HL5.out).mono ?_
          rintro e W6 ⟨rfl,hb8⟩
          have hL6 := HL5.out.below hb8
          have hb9 := HB7.out.seq hb8
          have i6 : W6.cell? ⟨w.heap.size,0,none⟩ = some (.int .i64 13) := (hb8.cell (p := ⟨w.heap.size,0,none⟩) (World.block_lt_of_cell? W5 _ i0)).trans i0
          have HL6 := Lib.hid hL6
          clear hb8 hL6 i0
          go_wp2_with fail
          refine (HI.out _ HL6.out).mono ?_
          rintro e W7 ⟨rfl,hb10⟩
          have hb11 := hb9.seq hb10
          have i7 : W7.cell? ⟨w.heap.size,0,none⟩ = some (.int .i64 13) := (hb10.cell (p := ⟨w.heap.size,0,none⟩) (World.block_lt_of_cell? W6 _ i6)).trans i6
          have HB11 := Lib.hid hb11
          clear hb9 hb10 hb11 i6
          cases lb <;> cases eb
          all_goals
            go_wp2
            try rw [Exit.noGoto_ret]
            go_ret
            exact ⟨by rw [HM.out,HC.out,boxV_bool]; rfl,HB11.out⟩
        | bool bb =>
          obtain ⟨cc,rfl⟩ := HOK1.out.k2 hyk
          rw [boxV_bool,boxV_bool]
          have x1 := tn_bool_i bb
          have x2 := tn_bool_s bb
          have x3 := ta_bool bb
          have hi := fun w => bool_any cc w
          have HI := Lib.hid hi
          have HC := Lib.hid (cmpM_bool 13 bb cc)
          clear hk1 hyk hi
          go_wp2_with fail
          refine (HI.out _).mono ?_
          rintro e W6 ⟨rfl,rfl⟩
          cases bb <;> cases cc
          all_goals
            go_wp2
            try rw [Exit.noGoto_ret]
            go_ret
            exact ⟨by rw [HM.out,HC.out,boxV_bool]; rfl,HB7.out⟩
  · go_enter Tryz.func39,Tryz.ntmps39
    go_wp2_with fail
    refine HN2.out.mono ?_
    rintro e W1 ⟨rfl,hb1⟩
    have hb2 := HB0.out.seq hb1
    have he1 := (hb1.block _ (by simp; omega)).trans HE0.out
    have HB2 := Lib.hid hb2
    clear hb1 hb2 HB0 HE0 HN2 HN3 c0 c1 c2 c3
    rcases need_ok HOK.out [1,3] with ⟨u,hu,hvu⟩ | ⟨hu,hk1⟩
    · have HE : Hid (truthM 14 x y vNil = u) := Lib.hid (tr_err (by decide) hu)
      rw [hu]
      clear hu
      unfold needV needB
      go_wp2
      try rw [Exit.noGoto_ret]
      go_ret
      exact ⟨by rw [HE.out]; rfl,HB2.out⟩
    · obtain ⟨d0,-,-,d3⟩ := (four_all he1).1
      rw [hu]
      have HU := Lib.hid hu
      have hkd := fun w hL => kind_any HOK.out w hL
      have HKD := Lib.hid hkd
      clear hu he1 hkd
      unfold needV needB
      have hs : w.heap.size < W1.heap.size := World.block_lt_of_cell? W1 _ d0
      have hk3 : ∀ W3,Below W1.drew.heap.size W1.drew W3 → W3.cell? ⟨w.heap.size,0,none⟩ = some (.int .i64 14) ∧ W3.cell? ⟨w.heap.size,3,none⟩ = some (.slice (some ⟨b,off,none⟩) 2 cap) ∧
          W3.cell? ⟨b,off + 4,none⟩ = some (.int .i64 k'.op) ∧ W3.cell? ⟨b,off + 4 + 1,none⟩ = some (.int .i64 k'.n) ∧ W3.cell? ⟨b,off + 4 + 2,none⟩ = some (.string ⟨k'.s.toArray⟩) ∧ W3.cell? ⟨b,off + 4 + 3,none⟩ = some (.slice ub k'.ks.length ud) := fun W3 hb => by
        have hbw := HB2.out.drew.seq hb
        obtain ⟨e0,e1,e2,e3⟩ := HCS.out
        refine ⟨?_,?_,?_,?_,?_,?_⟩
        · exact (hb.cell (p := ⟨w.heap.size,0,none⟩) hs).trans d0
        · exact (hb.cell (p := ⟨w.heap.size,3,none⟩) hs).trans d3
        · exact (hbw.cell (p := ⟨b,off + 4,none⟩) hbl).trans e0
        · exact (hbw.cell (p := ⟨b,off + 4 + 1,none⟩) hbl).trans e1
        · exact (hbw.cell (p := ⟨b,off + 4 + 2,none⟩) hbl).trans e2
        · exact (hbw.cell (p := ⟨b,off + 4 + 3,none⟩) hbl).trans e3
      have HK3 := Lib.hid hk3
      obtain ⟨g0,g1,f0,f1,f2,f3⟩ := hk3 W1.drew (Below.refl _ _)
      clear hk3
      obtain ⟨bx,hbx⟩ : ∃ bx,boxV x = bx := ⟨_,rfl⟩
      have HBX := Lib.hid hbx
      rw [hbx] at HKD ⊢
      obtain ⟨xk,hxk⟩ : ∃ xk,x.k = xk := ⟨_,rfl⟩
      have HXK := Lib.hid hxk
      rw [hxk] at HKD
      clear hbx hxk
      go_upto_region 13 with fail
      go_region_held3 (fun w' => (w'.cell? ⟨w.heap.size,3,none⟩ = some (.slice (some ⟨b,off,none⟩) 2 cap) ∧ w'.cell? ⟨b,off + 4,none⟩ = some (.int .i64 k'.op) ∧ w'.cell? ⟨b,off + 4 + 1,none⟩ = some (.int .i64 k'.n) ∧ w'.cell? ⟨b,off + 4 + 2,none⟩ = some (.string ⟨k'.s.toArray⟩) ∧ w'.cell? ⟨b,off + 4 + 3,none⟩ = some (.slice ub k'.ks.length ud))) (go_keep)
        ((first
          | (go_at_call 73; refine (HKD.out _ (HL.out.below HB2.out.drew)).mono ?_; rintro r W3 ⟨rfl,hb3⟩; have hb4 := HB2.out.drew.seq hb3; have hg := HK3.out W3 hb3; obtain ⟨h0,h1,h2,h3,h4,h5⟩ := hg)
          | (go_at_call 63; refine (HN1.out _ (hb4.alloc hb4.size _) W3.heap.size 3 [xk] (heap_alloc_new W3 _) (by simp)).mono ?_; rintro r W5 ⟨rfl,hb5⟩; have hb6 := (hb3.alloc hb3.size _).seq hb5; have hg5 := HK3.out W5 hb6; obtain ⟨i0,i1,i2,i3,i4,i5⟩ := hg5)))
      clear g0 g1 f0 f1 f2 f3 h0 h1 h2 h3 h4 h5 i1 i2 i3 i4 i5 d0 d3 HK3 HKD HCS HN1 hb6
      have hb7 := (hb4.alloc hb4.size _).seq hb5
      have HB7 := Lib.hid hb7
      have HL5 := Lib.hid (HL.out.below hb7)
      clear hb3 hb4 hb5 hb7
      rcases need_ok HOK1.out [xk] with ⟨u,hu,hvu⟩ | ⟨hu,hk2⟩
      · have HE : Hid (truthM 14 x y vNil = u) := Lib.hid (tr_err2 (by decide) HU.out (by rw [HXK.out]; exact hu))
        rw [hu]
        clear hu
        unfold needV needB
        go_wp2
        try rw [Exit.noGoto_ret]
        go_ret
        exact ⟨by rw [HE.out]; rfl,HB7.out⟩
      · have HM : Hid (truthM 14 x y vNil = cmpM 14 x y) := Lib.hid (tr_ok (by decide) HU.out (by rw [HXK.out]; exact hu))
        rw [hu]
        clear hu HU
        unfold needV needB
        have hyk : y.k = xk := by simpa using hk2
        have hx1 := HXK.out
        have hx2 := HBX.out
        rw [← hx2]
        clear HXK HBX hk2
        rw [← hx1] at hyk
        clear hx1 hx2
        cases HOK.out with
        | nil => simp [vNil] at hk1
        | bad m h => simp [vBad] at hk1
        | int m h =>
          obtain ⟨m',rfl,h'⟩ := HOK1.out.k1 hyk
          rw [boxV_int,boxV_int]
          have x1 := ta_int m
          have hi := fun w => int_any m' w
          have HI := Lib.hid hi
          have hcs : ∃ lb eb,decide (m < m') = lb ∧ (m == m') = eb ∧ cmpM 14 (vInt m) (vInt m') = vBool (cmpB 14 lb eb) := ⟨_,_,rfl,rfl,by rw [cmpM_int]; rfl⟩
          obtain ⟨lb,eb,hl,he,hc⟩ := hcs
          have HC := Lib.hid hc
          clear hk1 hyk hi hc
          go_wp2_with fail
          refine (HI.out _).mono ?_
          rintro e W6 ⟨rfl,rfl⟩
          go_wp2_with fail
          refine (HI.out _).mono ?_
          rintro e W6 ⟨rfl,rfl⟩
          cases lb <;> cases eb
          all_goals
            go_wp2
            try rw [Exit.noGoto_ret]
            go_ret
            exact ⟨by rw [HM.out,HC.out,boxV_bool]; rfl,HB7.out⟩
        | text tt h =>
          obtain ⟨uu,rfl,h'⟩ := HOK1.out.k3 hyk
          rw [boxV_text,boxV_text]
          unfold strV
          have x1 := tn_text_i tt
          have x2 := ta_text tt
          have hi := fun w hL => text_any uu w h' hL
          unfold strRet strV at hi
          have HI := Lib.hid hi
          have hcs : ∃ lb eb,Op.bytesLess tt uu = lb ∧ (tt == uu) = eb ∧ cmpM 14 (vText tt) (vText uu) = vBool (cmpB 14 lb eb) := ⟨_,_,rfl,rfl,by rw [cmpM_text,beq_eq_dec]⟩
          obtain ⟨lb,eb,hl,he,hc⟩ := hcs
          have HC := Lib.hid hc
          clear hk1 hyk hi hc
          go_wp2_with fail
          refine (HI.out _ HL5.out).mono ?_
          rintro e W6 ⟨rfl,hb8⟩
          have hL6 := HL5.out.below hb8
          have hb9 := HB7.out.seq hb8
          have i6 : W6.cell? ⟨w.heap.size,0,none⟩ = some (.int .i64 14) := (hb8.cell (p := ⟨w.heap.size,0,none⟩) (World.block_lt_of_cell? W5 _ i0)).trans i0
          have HL6 := Lib.hid hL6
          clear hb8 hL6 i0
          go_wp2_with fail
          refine (HI.out _ HL6.out).mono ?_
          rintro e W7 ⟨rfl,hb10⟩
          have hb11 := hb9.seq hb10
          have i7 : W7.cell? ⟨w.heap.size,0,none⟩ = some (.int .i64 14) := (hb10.cell (p := ⟨w.heap.size,0,none⟩) (World.block_lt_of_cell? W6 _ i6)).trans i6
          have HB11 := Lib.hid hb11
          clear hb9 hb10 hb11 i6
          cases lb <;> cases eb
          all_goals
            go_wp2
            try rw [Exit.noGoto_ret]
            go_ret
            exact ⟨by rw [HM.out,HC.out,boxV_bool]; rfl,HB11.out⟩
        | bool bb => simp [vBool] at hk1
  · go_enter Tryz.func39,Tryz.ntmps39
    go_wp2_with fail
    refine HN2.out.mono ?_
    rintro e W1 ⟨rfl,hb1⟩
    have hb2 := HB0.out.seq hb1
    have he1 := (hb1.block _ (by simp; omega)).trans HE0.out
    have HB2 := Lib.hid hb2
    clear hb1 hb2 HB0 HE0 HN2 HN3 c0 c1 c2 c3
    rcases need_ok HOK.out [1,3] with ⟨u,hu,hvu⟩ | ⟨hu,hk1⟩
    · have HE : Hid (truthM 15 x y vNil = u) := Lib.hid (tr_err (by decide) hu)
      rw [hu]
      clear hu
      unfold needV needB
      go_wp2
      try rw [Exit.noGoto_ret]
      go_ret
      exact ⟨by rw [HE.out]; rfl,HB2.out⟩
    · obtain ⟨d0,-,-,d3⟩ := (four_all he1).1
      rw [hu]
      have HU := Lib.hid hu
      have hkd := fun w hL => kind_any HOK.out w hL
      have HKD := Lib.hid hkd
      clear hu he1 hkd
      unfold needV needB
      have hs : w.heap.size < W1.heap.size := World.block_lt_of_cell? W1 _ d0
      have hk3 : ∀ W3,Below W1.drew.heap.size W1.drew W3 → W3.cell? ⟨w.heap.size,0,none⟩ = some (.int .i64 15) ∧ W3.cell? ⟨w.heap.size,3,none⟩ = some (.slice (some ⟨b,off,none⟩) 2 cap) ∧
          W3.cell? ⟨b,off + 4,none⟩ = some (.int .i64 k'.op) ∧ W3.cell? ⟨b,off + 4 + 1,none⟩ = some (.int .i64 k'.n) ∧ W3.cell? ⟨b,off + 4 + 2,none⟩ = some (.string ⟨k'.s.toArray⟩) ∧ W3.cell? ⟨b,off + 4 + 3,none⟩ = some (.slice ub k'.ks.length ud) := fun W3 hb => by
        have hbw := HB2.out.drew.seq hb
        obtain ⟨e0,e1,e2,e3⟩ := HCS.out
        refine ⟨?_,?_,?_,?_,?_,?_⟩
        · exact (hb.cell (p := ⟨w.heap.size,0,none⟩) hs).trans d0
        · exact (hb.cell (p := ⟨w.heap.size,3,none⟩) hs).trans d3
        · exact (hbw.cell (p := ⟨b,off + 4,none⟩) hbl).trans e0
        · exact (hbw.cell (p := ⟨b,off + 4 + 1,none⟩) hbl).trans e1
        · exact (hbw.cell (p := ⟨b,off + 4 + 2,none⟩) hbl).trans e2
        · exact (hbw.cell (p := ⟨b,off + 4 + 3,none⟩) hbl).trans e3
      have HK3 := Lib.hid hk3
      obtain ⟨g0,g1,f0,f1,f2,f3⟩ := hk3 W1.drew (Below.refl _ _)
      clear hk3
      obtain ⟨bx,hbx⟩ : ∃ bx,boxV x = bx := ⟨_,rfl⟩
      have HBX := Lib.hid hbx
      rw [hbx] at HKD ⊢
      obtain ⟨xk,hxk⟩ : ∃ xk,x.k = xk := ⟨_,rfl⟩
      have HXK := Lib.hid hxk
      rw [hxk] at HKD
      clear hbx hxk
      go_upto_region 13 with fail
      go_region_held3 (fun w' => (w'.cell? ⟨w.heap.size,3,none⟩ = some (.slice (some ⟨b,off,none⟩) 2 cap) ∧ w'.cell? ⟨b,off + 4,none⟩ = some (.int .i64 k'.op) ∧ w'.cell? ⟨b,off + 4 + 1,none⟩ = some (.int .i64 k'.n) ∧ w'.cell? ⟨b,off + 4 + 2,none⟩ = some (.string ⟨k'.s.toArray⟩) ∧ w'.cell? ⟨b,off + 4 + 3,none⟩ = some (.slice ub k'.ks.length ud))) (go_keep)
        ((first
          | (go_at_call 73; refine (HKD.out _ (HL.out.below HB2.out.drew)).mono ?_; rintro r W3 ⟨rfl,hb3⟩; have hb4 := HB2.out.drew.seq hb3; have hg := HK3.out W3 hb3; obtain ⟨h0,h1,h2,h3,h4,h5⟩ := hg)
          | (go_at_call 63; refine (HN1.out _ (hb4.alloc hb4.size _) W3.heap.size 3 [xk] (heap_alloc_new W3 _) (by simp)).mono ?_; rintro r W5 ⟨rfl,hb5⟩; have hb6 := (hb3.alloc hb3.size _).seq hb5; have hg5 := HK3.out W5 hb6; obtain ⟨i0,i1,i2,i3,i4,i5⟩ := hg5)))
      clear g0 g1 f0 f1 f2 f3 h0 h1 h2 h3 h4 h5 i1 i2 i3 i4 i5 d0 d3 HK3 HKD HCS HN1 hb6
      have hb7 := (hb4.alloc hb4.size _).seq hb5
      have HB7 := Lib.hid hb7
      have HL5 := Lib.hid (HL.out.below hb7)
      clear hb3 hb4 hb5 hb7
      rcases need_ok HOK1.out [xk] with ⟨u,hu,hvu⟩ | ⟨hu,hk2⟩
      · have HE : Hid (truthM 15 x y vNil = u) := Lib.hid (tr_err2 (by decide) HU.out (by rw [HXK.out]; exact hu))
        rw [hu]
        clear hu
        unfold needV needB
        go_wp2
        try rw [Exit.noGoto_ret]
        go_ret
        exact ⟨by rw [HE.out]; rfl,HB7.out⟩
      · have HM : Hid (truthM 15 x y vNil = cmpM 15 x y) := Lib.hid (tr_ok (by decide) HU.out (by rw [HXK.out]; exact hu))
        rw [hu]
        clear hu HU
        unfold needV needB
        have hyk : y.k = xk := by simpa using hk2
        have hx1 := HXK.out
        have hx2 := HBX.out
        rw [← hx2]
        clear HXK HBX hk2
        rw [← hx1] at hyk
        clear hx1 hx2
        cases HOK.out with
        | nil => simp [vNil] at hk1
        | bad m h => simp [vBad] at hk1
        | int m h =>
          obtain ⟨m',rfl,h'⟩ := HOK1.out.k1 hyk
          rw [boxV_int,boxV_int]
          have x1 := ta_int m
          have hi := fun w => int_any m' w
          have HI := Lib.hid hi
          have hcs : ∃ lb eb,decide (m < m') = lb ∧ (m == m') = eb ∧ cmpM 15 (vInt m) (vInt m') = vBool (cmpB 15 lb eb) := ⟨_,_,rfl,rfl,by rw [cmpM_int]; rfl⟩
          obtain ⟨lb,eb,hl,he,hc⟩ := hcs
          have HC := Lib.hid hc
          clear hk1 hyk hi hc
          go_wp2_with fail
          refine (HI.out _).mono ?_
          rintro e W6 ⟨rfl,rfl⟩
          go_wp2_with fail
          refine (HI.out _).mono ?_
          rintro e W6 ⟨rfl,rfl⟩
          cases lb <;> cases eb
          all_goals
            go_wp2
            try rw [Exit.noGoto_ret]
            go_ret
            exact ⟨by rw [HM.out,HC.out,boxV_bool]; rfl,HB7.out⟩
        | text tt h =>
          obtain ⟨uu,rfl,h'⟩ := HOK1.out.k3 hyk
          rw [boxV_text,boxV_text]
          unfold strV
          have x1 := tn_text_i tt
          have x2 := ta_text tt
          have hi := fun w hL => text_any uu w h' hL
          unfold strRet strV at hi
          have HI := Lib.hid hi
          have hcs : ∃ lb eb,Op.bytesLess tt uu = lb ∧ (tt == uu) = eb ∧ cmpM 15 (vText tt) (vText uu) = vBool (cmpB 15 lb eb) := ⟨_,_,rfl,rfl,by rw [cmpM_text,beq_eq_dec]⟩
          obtain ⟨lb,eb,hl,he,hc⟩ := hcs
          have HC := Lib.hid hc
          clear hk1 hyk hi hc
          go_wp2_with fail
          refine (HI.out _ HL5.out).mono ?_
          rintro e W6 ⟨rfl,hb8⟩
          have hL6 := HL5.out.below hb8
          have hb9 := HB7.out.seq hb8
          have i6 : W6.cell? ⟨w.heap.size,0,none⟩ = some (.int .i64 15) := (hb8.cell (p := ⟨w.heap.size,0,none⟩) (World.block_lt_of_cell? W5 _ i0)).trans i0
          have HL6 := Lib.hid hL6
          clear hb8 hL6 i0
          go_wp2_with fail
          refine (HI.out _ HL6.out).mono ?_
          rintro e W7 ⟨rfl,hb10⟩
          have hb11 := hb9.seq hb10
          have i7 : W7.cell? ⟨w.heap.size,0,none⟩ = some (.int .i64 15) := (hb10.cell (p := ⟨w.heap.size,0,none⟩) (World.block_lt_of_cell? W6 _ i6)).trans i6
          have HB11 := Lib.hid hb11
          clear hb9 hb10 hb11 i6
          cases lb <;> cases eb
          all_goals
            go_wp2
            try rw [Exit.noGoto_ret]
            go_ret
            exact ⟨by rw [HM.out,HC.out,boxV_bool]; rfl,HB11.out⟩
        | bool bb => simp [vBool] at hk1
end Go.Proofs.YtfjpdphphieaoaaGreatDoor
