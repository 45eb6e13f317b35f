/- The walk of eval's decided. Conditions: its parts come to what the plain law says, and that may be values. -/
import Derived.Test.YtdgcgogeidnmoaaGreatDoorE9
set_option linter.unusedSimpArgs false
set_option linter.unusedVariables false
set_option linter.unusedSectionVars false
namespace Go.Proofs.YtdgcgogeidnmoaaGreatDoor
open Go.RowKit Pal
theorem dec_err {op : Int} {a b c u : Val} (ho : op = 6 ∨ op = 16 ∨ op = 17 ∨ op = 18) (h : need a [2] = .error u) : truthM op a b c = u := by unfold truthM; rw [if_pos ho, h]
theorem dec_ok {op : Int} {bb : Bool} {b c : Val} (ho : op = 6 ∨ op = 16 ∨ op = 17 ∨ op = 18) : truthM op (vBool bb) b c =
    if op = 6 then vBool (!bb) else if op = 18 then (if bb = true then b else c) else if bb = decide (op = 17) then vBool bb else needV (need b [2]) := by
  have hn : need (vBool bb) [2] = .ok (vBool bb) := by simp [need, vBool]
  unfold truthM
  rw [if_pos ho, hn]
  simp only
  have e1 : (vBool bb).n = if bb then 1 else 0 := rfl
  rw [e1]
  rcases ho with rfl | rfl | rfl | rfl <;> cases bb <;> simp <;> cases need b [2] <;> rfl
theorem KV.at2 {w : World} {b off : Nat} {n cap : Nat} {k0 k1 k : Ex} {ks : List Ex} (t : KV (gh w) (.slice (some ⟨b, off, none⟩) n cap) (k0 :: k1 :: k :: ks)) :
    ∃ ua uc, w.cell? ⟨b, off + 8, none⟩ = some (.int .i64 k.op) ∧ w.cell? ⟨b, off + 8 + 1, none⟩ = some (.int .i64 k.n) ∧ w.cell? ⟨b, off + 8 + 2, none⟩ = some (.string ⟨k.s.toArray⟩) ∧ w.cell? ⟨b, off + 8 + 3, none⟩ = some (.slice ua k.ks.length uc) ∧ KV (gh w) (.slice ua k.ks.length uc) k.ks := by
  obtain ⟨b', off', u, ha, c0, c1, c2, c3, hk⟩ := t.at (j := 2) (k := k) rfl
  simp only [Option.some.injEq, Addr.mk.injEq, and_true] at ha
  obtain ⟨rfl, rfl⟩ := ha
  obtain ⟨ua, uc, rfl⟩ := hk.form
  exact ⟨ua, uc, c0, c1, c2, c3, hk⟩
/-- Eval of a part that lies in a world ahead. -/
theorem eval_kid {k : Ex} {names : List Bs} {vals : List Val} {p : Nat} {w : World} {ua : Option Addr} {uc : Nat} (hE : EvP names vals k) (hW : WithV w p names vals) (hK : KV (gh w) (.slice ua k.ks.length uc) k.ks) :
    ∀ W, Below w.heap.size w W → Calls Tryz.prog 66 #[.pointer (some ⟨p, 0, none⟩), .agg #[.int .i64 k.op, .int .i64 k.n, .string ⟨k.s.toArray⟩, .slice ua k.ks.length uc]] W (boxPost (ev (look names vals) k) W) := by
  intro W hb
  exact hE (.slice ua k.ks.length uc) W p (hW.keep hb) (hK.keep hb)
set_option maxRecDepth 1000000 in
set_option maxHeartbeats 8000000 in
theorem dec_not (names : List Bs) (vals : List Val) (n : Int) (s : Bs) (k : Ex) (v : Value) (p : Nat) (w : World) 
    (hE0 : EvP names vals k) (hok0 : VOk (ev (look names vals) k)) (hW : WithV w p names vals) (hK : KV (gh w) v [k]) :
    Calls Tryz.prog 151 #[.pointer (some ⟨p, 0, none⟩), exV 6 n s v] w (boxPost (truthM 6 (ev (look names vals) k) vNil vNil) w) := by
  obtain ⟨a, cap, rfl⟩ := hK.form
  have hcap := hK.cap
  obtain ⟨b, off, ua, uc, rfl, c0, c1, c2, c3, hK0⟩ := hK.at0
  have hnd := need_kid hE0 hok0 hW hK0
  generalize ev (look names vals) k = x at *
  have HL := Lib.hid hW.lay
  have hbl := World.block_lt_of_cell? w _ c0
  have hb0 := (((Below.refl w.heap.size w).alloc (Nat.le_refl _) (.cells #[.int .i64 6, .int .i64 n, .string ⟨s.toArray⟩, .slice (some ⟨b, off, none⟩) 1 cap] 24)).alloc (by simp) (.cells #[.int .i64 2] 3))
  have he0 : ((w.alloc (.cells #[.int .i64 6, .int .i64 n, .string ⟨s.toArray⟩, .slice (some ⟨b, off, none⟩) 1 cap] 24)).alloc (.cells #[.int .i64 2] 3)).heap[w.heap.size]? = some (.cells #[.int .i64 6, .int .i64 n, .string ⟨s.toArray⟩, .slice (some ⟨b, off, none⟩) 1 cap] 24 (0, 0)) := by
    rw [Lib.alloc_old _ _ _ (by simp)]; exact heap_alloc_new w _
  have hi0 : ((w.alloc (.cells #[.int .i64 6, .int .i64 n, .string ⟨s.toArray⟩, .slice (some ⟨b, off, none⟩) 1 cap] 24)).alloc (.cells #[.int .i64 2] 3)).heap[w.heap.size + 1]? = some (.cells (([2] : List Int).map (Value.int .i64)).toArray 3 (0, 0)) := by
    have := heap_alloc_new (w.alloc (.cells #[.int .i64 6, .int .i64 n, .string ⟨s.toArray⟩, .slice (some ⟨b, off, none⟩) 1 cap] 24)) (.cells #[.int .i64 2] 3)
    simpa using this
  have HN3 := Lib.hid (hnd _ hb0 _ _ _ hi0 (by simp))
  have HB0 := Lib.hid hb0
  have HE0 := Lib.hid he0
  have HOK := Lib.hid hok0
  clear hnd hE0 hW hK hK0 hb0 he0 hi0 hok0 
  simp only [List.length_singleton] at *
  unfold exV strV
  go_enter Tryz.func151, Tryz.ntmps151
  go_wp2_with fail
  refine HN3.out.mono ?_
  rintro e W1 ⟨rfl, hb1⟩
  have hb2 := HB0.out.seq hb1
  have he1 := (hb1.block _ (by simp; omega)).trans HE0.out
  have HB2 := Lib.hid hb2
  clear hb1 hb2 HB0 HE0 HN3 c0 c1 c2 c3
  rcases need_ok HOK.out [2] with ⟨u, hu, hvu⟩ | ⟨hu, hk1⟩
  · have HE : Hid (truthM 6 x vNil vNil = u) := Lib.hid (dec_err (by omega) hu)
    rw [hu]
    clear hu
    unfold needV needB
    go_wp2
    try rw [Exit.noGoto_ret]
    go_ret
    exact ⟨by rw [HE.out]; rfl, HB2.out⟩
  · obtain ⟨d0, -, -, d3⟩ := (four_all he1).1
    obtain ⟨bb, rfl⟩ := HOK.out.k2 (by simpa using hk1)
    rw [hu]
    clear hu hk1 he1
    unfold needV needB
    simp only [boxV_bool]
    have HBL := Lib.hid (bool_any bb W1)
    have HM : Hid (truthM 6 (vBool bb) vNil vNil = vBool (!bb)) := Lib.hid (by rw [dec_ok (.inl rfl), if_pos rfl])
    go_wp2_with fail
    refine HBL.out.mono ?_
    rintro e W2 ⟨rfl, rfl⟩
    go_wp2
    try rw [Exit.noGoto_ret]
    go_ret
    exact ⟨by rw [HM.out, boxV_bool]; rfl, HB2.out⟩
set_option maxRecDepth 1000000 in
set_option maxHeartbeats 8000000 in
theorem dec_if (names : List Bs) (vals : List Val) (n : Int) (s : Bs) (k k' k'' : Ex) (v : Value) (p : Nat) (w : World) 
    (hE0 : EvP names vals k) (hE1 : EvP names vals k') (hE2 : EvP names vals k'') (hok0 : VOk (ev (look names vals) k)) (hok1 : VOk (ev (look names vals) k')) (hok2 : VOk (ev (look names vals) k'')) (hW : WithV w p names vals) (hK : KV (gh w) v [k, k', k'']) :
    Calls Tryz.prog 151 #[.pointer (some ⟨p, 0, none⟩), exV 18 n s v] w (boxPost (truthM 18 (ev (look names vals) k) (ev (look names vals) k') (ev (look names vals) k'')) w) := by
  obtain ⟨a, cap, rfl⟩ := hK.form
  have hcap := hK.cap
  obtain ⟨b, off, ua, uc, rfl, c0, c1, c2, c3, hK0⟩ := hK.at0
  obtain ⟨ub, ud, e0, e1, e2, e3, hK1⟩ := hK.at1
  obtain ⟨ue, uf, g0, g1, g2, g3, hK2⟩ := hK.at2
  have hnd := need_kid hE0 hok0 hW hK0
  have HV1 := Lib.hid (eval_kid hE1 hW hK1)
  have HV2 := Lib.hid (eval_kid hE2 hW hK2)
  generalize ev (look names vals) k = x at *
  generalize ev (look names vals) k' = y at *
  generalize ev (look names vals) k'' = z at *
  have HCS := Lib.hid (And.intro e0 (And.intro e1 (And.intro e2 e3)))
  have HCT := Lib.hid (And.intro g0 (And.intro g1 (And.intro g2 g3)))
  have HL := Lib.hid hW.lay
  have hbl := World.block_lt_of_cell? w _ c0
  have hb0 := (((Below.refl w.heap.size w).alloc (Nat.le_refl _) (.cells #[.int .i64 18, .int .i64 n, .string ⟨s.toArray⟩, .slice (some ⟨b, off, none⟩) 3 cap] 24)).alloc (by simp) (.cells #[.int .i64 2] 3))
  have he0 : ((w.alloc (.cells #[.int .i64 18, .int .i64 n, .string ⟨s.toArray⟩, .slice (some ⟨b, off, none⟩) 3 cap] 24)).alloc (.cells #[.int .i64 2] 3)).heap[w.heap.size]? = some (.cells #[.int .i64 18, .int .i64 n, .string ⟨s.toArray⟩, .slice (some ⟨b, off, none⟩) 3 cap] 24 (0, 0)) := by
    rw [Lib.alloc_old _ _ _ (by simp)]; exact heap_alloc_new w _
  have hi0 : ((w.alloc (.cells #[.int .i64 18, .int .i64 n, .string ⟨s.toArray⟩, .slice (some ⟨b, off, none⟩) 3 cap] 24)).alloc (.cells #[.int .i64 2] 3)).heap[w.heap.size + 1]? = some (.cells (([2] : List Int).map (Value.int .i64)).toArray 3 (0, 0)) := by
    have := heap_alloc_new (w.alloc (.cells #[.int .i64 18, .int .i64 n, .string ⟨s.toArray⟩, .slice (some ⟨b, off, none⟩) 3 cap] 24)) (.cells #[.int .i64 2] 3)
    simpa using this
  have HN3 := Lib.hid (hnd _ hb0 _ _ _ hi0 (by simp))
  have HB0 := Lib.hid hb0
  have HE0 := Lib.hid he0
  have HOK := Lib.hid hok0
  clear hnd hE0 hW hK hK0 hb0 he0 hi0 hok0 hE1 hE2 hK1 hK2 hok1 hok2 e0 e1 e2 e3 g0 g1 g2 g3
  simp only [List.length_singleton] at *
  unfold exV strV
  go_enter Tryz.func151, Tryz.ntmps151
  go_wp2_with fail
  refine HN3.out.mono ?_
  rintro e W1 ⟨rfl, hb1⟩
  have hb2 := HB0.out.seq hb1
  have he1 := (hb1.block _ (by simp; omega)).trans HE0.out
  have HB2 := Lib.hid hb2
  clear hb1 hb2 HB0 HE0 HN3 c0 c1 c2 c3
  rcases need_ok HOK.out [2] with ⟨u, hu, hvu⟩ | ⟨hu, hk1⟩
  · have HE : Hid (truthM 18 x y z = u) := Lib.hid (dec_err (by omega) hu)
    rw [hu]
    clear hu
    unfold needV needB
    go_wp2
    try rw [Exit.noGoto_ret]
    go_ret
    exact ⟨by rw [HE.out]; rfl, HB2.out⟩
  · obtain ⟨d0, -, -, d3⟩ := (four_all he1).1
    obtain ⟨bb, rfl⟩ := HOK.out.k2 (by simpa using hk1)
    rw [hu]
    clear hu hk1 he1
    unfold needV needB
    simp only [boxV_bool]
    have HBL := Lib.hid (bool_any bb W1)
    have HM : Hid (truthM 18 (vBool bb) y z = if bb = true then y else z) := Lib.hid (by rw [dec_ok (by omega), if_neg (by decide), if_pos rfl])
    go_wp2_with fail
    refine HBL.out.mono ?_
    rintro e W2 ⟨rfl, rfl⟩
    cases bb
    · have HM2 : Hid (truthM 18 (vBool false) y z = z) := Lib.hid (by rw [HM.out]; rfl)
      have HV := Lib.hid (HV2.out _ HB2.out)
      obtain ⟨g0, g1, g2, g3⟩ := HCT.out
      have f0 := (HB2.out.cell (p := ⟨b, off + 8, none⟩) hbl).trans g0
      have f1 := (HB2.out.cell (p := ⟨b, off + 8 + 1, none⟩) hbl).trans g1
      have f2 := (HB2.out.cell (p := ⟨b, off + 8 + 2, none⟩) hbl).trans g2
      have f3 := (HB2.out.cell (p := ⟨b, off + 8 + 3, none⟩) hbl).trans g3
      clear g0 g1 g2 g3 HCS HCT HV1 HV2 HM
      go_wp2_with fail
      refine HV.out.mono ?_
      rintro e W3 ⟨rfl, hb5⟩
      have hb6 := HB2.out.seq hb5
      go_wp2
      try rw [Exit.noGoto_ret]
      go_ret
      exact ⟨by rw [HM2.out]; rfl, hb6⟩
    · have HM2 : Hid (truthM 18 (vBool true) y z = y) := Lib.hid (by rw [HM.out]; rfl)
      have HV := Lib.hid (HV1.out _ HB2.out)
      obtain ⟨e0, e1, e2, e3⟩ := HCS.out
      have f0 := (HB2.out.cell (p := ⟨b, off + 4, none⟩) hbl).trans e0
      have f1 := (HB2.out.cell (p := ⟨b, off + 4 + 1, none⟩) hbl).trans e1
      have f2 := (HB2.out.cell (p := ⟨b, off + 4 + 2, none⟩) hbl).trans e2
      have f3 := (HB2.out.cell (p := ⟨b, off + 4 + 3, none⟩) hbl).trans e3
      clear e0 e1 e2 e3 HCS HCT HV1 HV2 HM
      go_wp2_with fail
      refine HV.out.mono ?_
      rintro e W3 ⟨rfl, hb5⟩
      have hb6 := HB2.out.seq hb5
      go_wp2
      try rw [Exit.noGoto_ret]
      go_ret
      exact ⟨by rw [HM2.out]; rfl, hb6⟩
set_option maxRecDepth 1000000 in
set_option maxHeartbeats 8000000 in
theorem dec_two (names : List Bs) (vals : List Val) (op n : Int) (s : Bs) (k k' : Ex) (v : Value) (p : Nat) (w : World) (ho : op = 16 ∨ op = 17)
    (hE0 : EvP names vals k) (hE1 : EvP names vals k') (hok0 : VOk (ev (look names vals) k)) (hok1 : VOk (ev (look names vals) k')) (hW : WithV w p names vals) (hK : KV (gh w) v [k, k']) :
    Calls Tryz.prog 151 #[.pointer (some ⟨p, 0, none⟩), exV op n s v] w (boxPost (truthM op (ev (look names vals) k) (ev (look names vals) k') vNil) w) := by
  obtain ⟨a, cap, rfl⟩ := hK.form
  have hcap := hK.cap
  obtain ⟨b, off, ua, uc, rfl, c0, c1, c2, c3, hK0⟩ := hK.at0
  obtain ⟨ub, ud, e0, e1, e2, e3, hK1⟩ := hK.at1
  have hnd := need_kid hE0 hok0 hW hK0
  have HN1 := Lib.hid (need_kid hE1 hok1 hW hK1)
  generalize ev (look names vals) k = x at *
  generalize ev (look names vals) k' = y at *
  have HCS := Lib.hid (And.intro e0 (And.intro e1 (And.intro e2 e3)))
  have HL := Lib.hid hW.lay
  have hbl := World.block_lt_of_cell? w _ c0
  have hb0 := (((Below.refl w.heap.size w).alloc (Nat.le_refl _) (.cells #[.int .i64 op, .int .i64 n, .string ⟨s.toArray⟩, .slice (some ⟨b, off, none⟩) 2 cap] 24)).alloc (by simp) (.cells #[.int .i64 2] 3))
  have he0 : ((w.alloc (.cells #[.int .i64 op, .int .i64 n, .string ⟨s.toArray⟩, .slice (some ⟨b, off, none⟩) 2 cap] 24)).alloc (.cells #[.int .i64 2] 3)).heap[w.heap.size]? = some (.cells #[.int .i64 op, .int .i64 n, .string ⟨s.toArray⟩, .slice (some ⟨b, off, none⟩) 2 cap] 24 (0, 0)) := by
    rw [Lib.alloc_old _ _ _ (by simp)]; exact heap_alloc_new w _
  have hi0 : ((w.alloc (.cells #[.int .i64 op, .int .i64 n, .string ⟨s.toArray⟩, .slice (some ⟨b, off, none⟩) 2 cap] 24)).alloc (.cells #[.int .i64 2] 3)).heap[w.heap.size + 1]? = some (.cells (([2] : List Int).map (Value.int .i64)).toArray 3 (0, 0)) := by
    have := heap_alloc_new (w.alloc (.cells #[.int .i64 op, .int .i64 n, .string ⟨s.toArray⟩, .slice (some ⟨b, off, none⟩) 2 cap] 24)) (.cells #[.int .i64 2] 3)
    simpa using this
  have HN3 := Lib.hid (hnd _ hb0 _ _ _ hi0 (by simp))
  have HB0 := Lib.hid hb0
  have HE0 := Lib.hid he0
  have HOK := Lib.hid hok0
  clear hnd hE0 hW hK hK0 hb0 he0 hi0 hok0 hE1 hK1 hok1 e0 e1 e2 e3
  simp only [List.length_singleton] at *
  unfold exV strV
  go_enter Tryz.func151, Tryz.ntmps151
  go_wp2_with fail
  refine HN3.out.mono ?_
  rintro e W1 ⟨rfl, hb1⟩
  have hb2 := HB0.out.seq hb1
  have he1 := (hb1.block _ (by simp; omega)).trans HE0.out
  have HB2 := Lib.hid hb2
  clear hb1 hb2 HB0 HE0 HN3 c0 c1 c2 c3
  rcases need_ok HOK.out [2] with ⟨u, hu, hvu⟩ | ⟨hu, hk1⟩
  · have HE : Hid (truthM op x y vNil = u) := Lib.hid (dec_err (by omega) hu)
    rw [hu]
    clear hu
    unfold needV needB
    go_wp2
    try rw [Exit.noGoto_ret]
    go_ret
    exact ⟨by rw [HE.out]; rfl, HB2.out⟩
  · obtain ⟨d0, -, -, d3⟩ := (four_all he1).1
    obtain ⟨bb, rfl⟩ := HOK.out.k2 (by simpa using hk1)
    rw [hu]
    clear hu hk1 he1
    unfold needV needB
    simp only [boxV_bool]
    have HBL := Lib.hid (bool_any bb W1)
    have HM : Hid (truthM op (vBool bb) y vNil = if bb = decide (op = 17) then vBool bb else needV (need y [2])) := Lib.hid (by rw [dec_ok (by omega), if_neg (by omega), if_neg (by omega)])
    go_wp2_with fail
    refine HBL.out.mono ?_
    rintro e W2 ⟨rfl, rfl⟩
    obtain ⟨e0, e1, e2, e3⟩ := HCS.out
    have f0 := (HB2.out.cell (p := ⟨b, off + 4, none⟩) hbl).trans e0
    have f1 := (HB2.out.cell (p := ⟨b, off + 4 + 1, none⟩) hbl).trans e1
    have f2 := (HB2.out.cell (p := ⟨b, off + 4 + 2, none⟩) hbl).trans e2
    have f3 := (HB2.out.cell (p := ⟨b, off + 4 + 3, none⟩) hbl).trans e3
    have hbB := HB2.out.alloc HB2.out.size (.cells (([2] : List Int).map (Value.int .i64)).toArray 3)
    have hn3 := HN1.out _ hbB W2.heap.size 3 [2] (heap_alloc_new W2 _) (by simp)
    simp only [List.map_cons, List.map_nil, List.length_singleton] at hn3 hbB
    have HNN := Lib.hid hn3
    have HBB := Lib.hid hbB
    clear e0 e1 e2 e3 HCS HN1 hn3 hbB
    rcases ho with rfl | rfl <;> cases bb
    all_goals
      first
      | (have HM2 : Hid (_ = vBool _) := Lib.hid (HM.out.trans (if_pos (by decide)))
         clear HM f0 f1 f2 f3
         go_wp2
         try rw [Exit.noGoto_ret]
         go_ret
         exact ⟨by rw [HM2.out]; rfl, HB2.out⟩)
      | (have HM2 : Hid (_ = needV _) := Lib.hid (HM.out.trans (if_neg (by decide)))
         clear HM
         go_wp2_with fail
         refine HNN.out.mono ?_
         rintro e W3 ⟨rfl, hb5⟩
         have hb6 := HBB.out.seq hb5
         go_wp2
         try rw [Exit.noGoto_ret]
         go_ret
         exact ⟨by rw [HM2.out]; rfl, hb6⟩)
end Go.Proofs.YtdgcgogeidnmoaaGreatDoor
