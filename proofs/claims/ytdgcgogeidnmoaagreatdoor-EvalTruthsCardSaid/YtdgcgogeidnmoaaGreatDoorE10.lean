/- The walk of eval's text, of two parts. Conditions: its parts come to what the plain law says, and that may be values. -/
import Derived.Test.YtdgcgogeidnmoaaGreatDoorE9
set_option linter.unusedSimpArgs false
set_option linter.unusedVariables false
set_option linter.unusedSectionVars false
namespace Go.Proofs.YtdgcgogeidnmoaaGreatDoor
open Go.RowKit Pal
theorem cat_bs (a b : Bs) : ((⟨a.toArray⟩ : ByteArray) ++ (⟨b.toArray⟩ : ByteArray)) = ⟨(a ++ b).toArray⟩ := by
  apply ByteArray.ext
  simp
/-- Not too long a text is itself. -/
theorem longM_cases (t : Bs) : (cnt t ≤ 100 ∧ longM t = vText t) ∨ (100 < cnt t ∧ longM t = vBad 4) := by
  unfold longM
  by_cases h : 100 < cnt t
  · exact .inr ⟨h, if_pos h⟩
  · exact .inl ⟨by omega, if_neg h⟩
set_option maxRecDepth 1000000 in
set_option maxHeartbeats 8000000 in
theorem text2_any (names : List Bs) (vals : List Val) (op n : Int) (s : Bs) (k k' : Ex) (v : Value) (p : Nat) (w : World) (ho : op = 20 ∨ op = 21)
    (hE : EvP names vals k) (hE' : EvP names vals k') (hok : VOk (ev (look names vals) k)) (hok' : VOk (ev (look names vals) k')) (hW : WithV w p names vals) (hK : KV (gh w) v [k, k']) :
    Calls Tryz.prog 101 #[.pointer (some ⟨p, 0, none⟩), exV op n s v] w (boxPost (textM op (ev (look names vals) k) (ev (look names vals) k')) w) := by
  obtain ⟨a, cap, rfl⟩ := hK.form
  have hcap := hK.cap
  obtain ⟨b, off, ua, uc, rfl, c0, c1, c2, c3, hKu⟩ := hK.at0
  obtain ⟨ub, ud, e0, e1, e2, e3, hKv⟩ := hK.at1
  have hnd := need_kid hE hok hW hKu
  have hnd' := need_kid hE' hok' hW hKv
  generalize ev (look names vals) k = x at *
  generalize ev (look names vals) k' = y at *
  have HN1 := Lib.hid hnd'
  have HL := Lib.hid hW.lay
  have hbl := World.block_lt_of_cell? w _ c0
  have hb0 := (((Below.refl w.heap.size w).alloc (Nat.le_refl _) (.cells #[.int .i64 op, .int .i64 n, .string ⟨s.toArray⟩, .slice (some ⟨b, off, none⟩) 2 cap] 24)).alloc (by simp) (.cells #[.int .i64 3] 3))
  have he0 : ((w.alloc (.cells #[.int .i64 op, .int .i64 n, .string ⟨s.toArray⟩, .slice (some ⟨b, off, none⟩) 2 cap] 24)).alloc (.cells #[.int .i64 3] 3)).heap[w.heap.size]? = some (.cells #[.int .i64 op, .int .i64 n, .string ⟨s.toArray⟩, .slice (some ⟨b, off, none⟩) 2 cap] 24 (0, 0)) := by
    rw [Lib.alloc_old _ _ _ (by simp)]; exact heap_alloc_new w _
  have hi0 : ((w.alloc (.cells #[.int .i64 op, .int .i64 n, .string ⟨s.toArray⟩, .slice (some ⟨b, off, none⟩) 2 cap] 24)).alloc (.cells #[.int .i64 3] 3)).heap[w.heap.size + 1]? = some (.cells (([3] : List Int).map (Value.int .i64)).toArray 3 (0, 0)) := by
    have := heap_alloc_new (w.alloc (.cells #[.int .i64 op, .int .i64 n, .string ⟨s.toArray⟩, .slice (some ⟨b, off, none⟩) 2 cap] 24)) (.cells #[.int .i64 3] 3)
    simpa using this
  have HN3 := Lib.hid (hnd _ hb0 _ _ _ hi0 (by simp))
  have HB0 := Lib.hid hb0
  have HE0 := Lib.hid he0
  have HOK := Lib.hid hok
  have HOK' := Lib.hid hok'
  have HCS := Lib.hid (And.intro e0 (And.intro e1 (And.intro e2 e3)))
  clear hnd hnd' hE hE' hW hK hKu hKv hb0 he0 hi0 hok hok' e0 e1 e2 e3
  simp only [List.length_singleton] at *
  unfold exV strV
  go_enter Tryz.func101, Tryz.ntmps101
  go_wp2_with fail
  refine HN3.out.mono ?_
  rintro e W1 ⟨rfl, hb1⟩
  have hb2 := HB0.out.seq hb1
  have he1 := (hb1.block _ (by simp; omega)).trans HE0.out
  have hL1 := HL.out.below hb2
  have HB2 := Lib.hid hb2
  clear hb1 hb2 HB0 HE0 HN3 c0 c1 c2 c3
  rcases need_ok HOK.out [3] with ⟨u, hu, hvu⟩ | ⟨hu, hk1⟩
  · have HE : Hid (textM op x y = u) := Lib.hid (textM_err hu)
    rw [hu]
    clear hu
    unfold needV needB
    go_wp2
    try rw [Exit.noGoto_ret]
    go_ret
    exact ⟨by rw [HE.out]; rfl, HB2.out⟩
  · obtain ⟨d0, -, -, d3⟩ := (four_all he1).1
    have HM := Lib.hid (textM_ok' (op := op) (b := y) hu)
    obtain ⟨tt, rfl, htt⟩ := HOK.out.k3 (by simpa using hk1)
    rw [hu]
    clear hu hk1
    unfold needV needB
    simp only [boxV_text]
    have htx := text_any tt W1 htt hL1
    obtain ⟨t1, t2, t3⟩ := textOk_iff htt
    have HT3 := Lib.hid t2
    have HTX := Lib.hid htx
    clear htx htt hL1
    unfold strRet strV at HTX
    unfold strV
    go_wp2_with fail
    refine HTX.out.mono ?_
    rintro e W2 ⟨rfl, hb3⟩
    have hb4 := HB2.out.seq hb3
    have hlt : w.heap.size < W1.heap.size := World.block_lt_of_cell? W1 _ d0
    have d1 : W2.cell? ⟨w.heap.size, 0, none⟩ = some (.int .i64 op) := (hb3.cell (p := ⟨w.heap.size, 0, none⟩) hlt).trans d0
    have d4 : W2.cell? ⟨w.heap.size, 3, none⟩ = some (.slice (some ⟨b, off, none⟩) 2 cap) := (hb3.cell (p := ⟨w.heap.size, 3, none⟩) hlt).trans d3
    obtain ⟨e0, e1, e2, e3⟩ := HCS.out
    have f0 := (hb4.cell (p := ⟨b, off + 4, none⟩) hbl).trans e0
    have f1 := (hb4.cell (p := ⟨b, off + 4 + 1, none⟩) hbl).trans e1
    have f2 := (hb4.cell (p := ⟨b, off + 4 + 2, none⟩) hbl).trans e2
    have f3 := (hb4.cell (p := ⟨b, off + 4 + 3, none⟩) hbl).trans e3
    have hbI := fun l : List Int => (hb4.alloc hb4.size (.cells (l.map (Value.int .i64)).toArray 3))
    have hn1 := fun l : List Int => HN1.out _ (hbI l) W2.heap.size 3 l (heap_alloc_new W2 _)
    have HNI := Lib.hid hn1
    have HBI := Lib.hid hbI
    have HL2 := Lib.hid (HL.out.below hb4)
    clear d0 d3 hlt hb3 hb4 HB2 HTX he1 HN1 HCS e0 e1 e2 e3 hn1 hbI
    rcases ho with rfl | rfl
    · have hn3 := HNI.out [3] (by simp)
      have hbB := HBI.out [3]
      simp only [List.map_cons, List.map_nil, List.length_singleton] at hn3 hbB
      have HN3 := Lib.hid hn3
      have HBB := Lib.hid hbB
      clear hn3 hbB
      go_wp2_with fail
      refine HN3.out.mono ?_
      generalize World.alloc _ _ = WB at *
      rintro e W3 ⟨rfl, hb5⟩
      have hb6 := HBB.out.seq hb5
      have HB6 := Lib.hid hb6
      have hL6 := HL.out.below hb6
      clear hb5 hb6 HBB HN3 HNI HBI f0 f1 f2 f3 d1 d4
      rcases need_ok HOK'.out [3] with ⟨u, hu, hvu⟩ | ⟨hu, hk1⟩
      · have HE : Hid (textM 20 (vText tt) y = u) := Lib.hid (by rw [HM.out, hu]; rfl)
        rw [hu]
        clear hu
        unfold needV needB
        go_wp2
        try rw [Exit.noGoto_ret]
        go_ret
        exact ⟨by rw [HE.out]; rfl, HB6.out⟩
      · have HM2 : Hid (textM 20 (vText tt) y = longM (tt ++ y.s)) := Lib.hid (by rw [HM.out, hu]; rfl)
        obtain ⟨uu, rfl, huu⟩ := HOK'.out.k3 (by simpa using hk1)
        rw [hu]
        clear hu hk1
        unfold needV needB
        simp only [boxV_text]
        have htx := text_any uu W3 huu hL6
        obtain ⟨u1, u2, u3⟩ := textOk_iff huu
        have HTX := Lib.hid htx
        clear htx huu hL6
        unfold strRet strV at HTX
        unfold strV
        go_wp2_with fail
        refine HTX.out.mono ?_
        rintro e W4 ⟨rfl, hb7⟩
        have hb8 := HB6.out.seq hb7
        clear hb7 HB6 HTX
        go_wp2_with fail
        simp only [cat_bs]
        have HCB := Lib.hid (longM_cases (tt ++ uu))
        have hcc := runesCount_any ⟨(tt ++ uu).toArray⟩ W4 (by rw [mk_size, List.length_append]; omega)
        simp only [mk_list] at hcc
        have HC := Lib.hid hcc
        have HM3 : Hid (textM 20 (vText tt) (vText uu) = longM (tt ++ uu)) := HM2
        clear hcc HM2 HM
        generalize tt ++ uu = ft at *
        refine HC.out.mono ?_
        rintro e W5 ⟨rfl, hb9⟩
        have hb10 := hb8.seq hb9
        clear hb8 hb9 HC
        rcases HCB.out with ⟨h1, h2⟩ | ⟨h1, h2⟩
        · have HG2 : Hid (textM 20 (vText tt) (vText uu) = vText ft) := Lib.hid (by rw [HM3.out, h2])
          have q : decide ((100 : Int) < (cnt ft : Int)) = false := decide_eq_false (by omega)
          clear h2 HM3 h1 HCB
          generalize cnt ft = cf at *
          go_wp2
          try rw [Exit.noGoto_ret]
          go_ret
          exact ⟨by rw [HG2.out]; rfl, hb10⟩
        · have HG2 : Hid (textM 20 (vText tt) (vText uu) = vBad 4) := Lib.hid (by rw [HM3.out, h2])
          have q : decide ((100 : Int) < (cnt ft : Int)) = true := decide_eq_true (by omega)
          clear h2 HM3 h1 HCB
          generalize cnt ft = cf at *
          go_wp2_with fail
          refine (bad_any 4 _).mono ?_
          rintro e W6 ⟨rfl, rfl⟩
          go_wp2
          try rw [Exit.noGoto_ret]
          go_ret
          exact ⟨by rw [HG2.out]; rfl, hb10⟩
    · have hn3 := HNI.out [1] (by simp)
      have hbB := HBI.out [1]
      simp only [List.map_cons, List.map_nil, List.length_singleton] at hn3 hbB
      have HN3 := Lib.hid hn3
      have HBB := Lib.hid hbB
      clear hn3 hbB
      go_wp2_with fail
      refine HN3.out.mono ?_
      generalize World.alloc _ _ = WB at *
      rintro e W3 ⟨rfl, hb5⟩
      have hb6 := HBB.out.seq hb5
      have HB6 := Lib.hid hb6
      clear hb5 hb6 HBB HN3 HNI HBI f0 f1 f2 f3 d1 d4
      rcases need_ok HOK'.out [1] with ⟨u, hu, hvu⟩ | ⟨hu, hk1⟩
      · have HE : Hid (textM 21 (vText tt) y = u) := Lib.hid (by rw [HM.out, hu]; rfl)
        rw [hu]
        clear hu
        unfold needV needB
        go_wp2
        try rw [Exit.noGoto_ret]
        go_ret
        exact ⟨by rw [HE.out]; rfl, HB6.out⟩
      · have HM2 : Hid (textM 21 (vText tt) y = longM (takeP y.n.toNat tt)) := Lib.hid (by rw [HM.out, hu]; rfl)
        obtain ⟨m, rfl, hm⟩ := HOK'.out.k1 (by simpa using hk1)
        rw [hu]
        clear hu hk1
        unfold needV needB
        simp only [boxV_int]
        have HI := Lib.hid (int_any m W3)
        have hct := cut_any ⟨tt.toArray⟩ m W3 hm (by rw [mk_size]; omega)
        rw [mk_list] at hct
        unfold strRet strV at hct
        have htl := takeP_law m.toNat tt HT3.out
        have hln := len_cnt _ (takeP m.toNat tt) (Nat.le_refl _)
        have HM3 : Hid (textM 21 (vText tt) (vInt m) = longM (takeP m.toNat tt)) := HM2
        have HCT := Lib.hid hct
        clear HM2 HM hct
        generalize takeP m.toNat tt = ft at *
        have hcc := fun W => runesCount_any ⟨ft.toArray⟩ W (by rw [mk_size]; omega)
        simp only [mk_list] at hcc
        have HC := Lib.hid hcc
        have hng : ¬ 100 < cnt ft := by omega
        have HG2 : Hid (textM 21 (vText tt) (vInt m) = vText ft) := Lib.hid (by rw [HM3.out]; unfold longM; rw [if_neg hng])
        have q : decide ((100 : Int) < (cnt ft : Int)) = false := decide_eq_false (by omega)
        clear hcc htl hln HM3 hng
        go_wp2_with fail
        refine HI.out.mono ?_
        rintro e W4 ⟨rfl, rfl⟩
        go_wp2_with fail
        refine HCT.out.mono ?_
        rintro e W5 ⟨rfl, hb7⟩
        have hb8 := HB6.out.seq hb7
        clear hb7 HB6 HCT HI
        go_wp2_with fail
        refine (HC.out _).mono ?_
        rintro e W6 ⟨rfl, hb9⟩
        have hb10 := hb8.seq hb9
        clear hb8 hb9 HC
        generalize cnt ft = cf at *
        go_wp2
        try rw [Exit.noGoto_ret]
        go_ret
        exact ⟨by rw [HG2.out]; rfl, hb10⟩
end Go.Proofs.YtdgcgogeidnmoaaGreatDoor
