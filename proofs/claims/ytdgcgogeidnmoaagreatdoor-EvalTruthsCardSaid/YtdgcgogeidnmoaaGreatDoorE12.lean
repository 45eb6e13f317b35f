/- The walk of eval's truth. Conditions: its parts come to what the plain law says, and that may be values. -/
import Derived.Test.YtdgcgogeidnmoaaGreatDoorE11
import Derived.Deep.RegionHeld3
set_option linter.unusedSimpArgs false
set_option linter.unusedVariables false
set_option linter.unusedSectionVars false
namespace Go.Proofs.YtdgcgogeidnmoaaGreatDoor
open Go.RowKit Pal
def kindsOf (op : Int) : List Int := if op = 14 ∨ op = 15 then [1, 3] else [1, 3, 2]
def cmpM (op : Int) (a b : Val) : Val := if op = 12 then vBool (sameV a b) else if op = 13 then vBool (!sameV a b) else if op = 14 then vBool (lessV a b) else vBool (lessV a b || sameV a b)
theorem tr_err {op : Int} {a b c u : Val} (ho : ¬ (op = 6 ∨ op = 16 ∨ op = 17 ∨ op = 18)) (h : need a (kindsOf op) = .error u) : truthM op a b c = u := by
  unfold truthM; rw [if_neg ho]; unfold kindsOf at h; rw [h]
theorem tr_err2 {op : Int} {a b c u : Val} (ho : ¬ (op = 6 ∨ op = 16 ∨ op = 17 ∨ op = 18)) (h : need a (kindsOf op) = .ok a) (g : need b [a.k] = .error u) : truthM op a b c = u := by
  unfold truthM; rw [if_neg ho]; unfold kindsOf at h; rw [h]; simp only; rw [g]
theorem tr_ok {op : Int} {a b c : Val} (ho : ¬ (op = 6 ∨ op = 16 ∨ op = 17 ∨ op = 18)) (h : need a (kindsOf op) = .ok a) (g : need b [a.k] = .ok b) : truthM op a b c = cmpM op a b := by
  unfold truthM; rw [if_neg ho]; unfold kindsOf at h; rw [h]; simp only; rw [g]; rfl
theorem beq_eq_dec (s t : Bs) : (s == t) = decide (s = t) := by cases h : decide (s = t) <;> simp_all
def cmpB (op : Int) (l e : Bool) : Bool := if op = 12 then e else if op = 13 then !e else if op = 14 then l else (l || e)
theorem cmpM_int (op m m' : Int) : cmpM op (vInt m) (vInt m') = vBool (cmpB op (decide (m < m')) (decide (m = m'))) := by
  have e1 : sameV (vInt m) (vInt m') = decide (m = m') := by simp [sameV, vInt]
  have e2 : lessV (vInt m) (vInt m') = decide (m < m') := by first | rfl | (simp [lessV, vInt]; rfl)
  unfold cmpM cmpB; rw [e1, e2]
  split
  · rfl
  split
  · rfl
  split <;> rfl
theorem cmpM_text (op : Int) (s t : Bs) : cmpM op (vText s) (vText t) = vBool (cmpB op (Op.bytesLess s t) (decide (s = t))) := by
  have e1 : sameV (vText s) (vText t) = decide (s = t) := by simp [sameV, vText]
  have e2 : lessV (vText s) (vText t) = Op.bytesLess s t := by simp [lessV, vText]
  unfold cmpM cmpB; rw [e1, e2]
  split
  · rfl
  split
  · rfl
  split <;> rfl
theorem cmpM_bool (op : Int) (s t : Bool) : cmpM op (vBool s) (vBool t) = vBool (cmpB op false (decide (s = t))) := by
  have e1 : sameV (vBool s) (vBool t) = decide (s = t) := by cases s <;> cases t <;> rfl
  have e2 : lessV (vBool s) (vBool t) = false := by simp [lessV, vBool]
  unfold cmpM cmpB; rw [e1, e2]
  split
  · rfl
  split
  · rfl
  split <;> rfl
/-- The first of the kinds that lie there. -/
theorem intsV_two {W : World} {b : Nat} {T : TypeId} {x y z : Int} (h : W.heap[b]? = some (.cells #[.int .i64 x, .int .i64 y, .int .i64 z] T (0, 0))) : IntsV (gh W) (.slice (some ⟨b, 0, none⟩) 2 3) [x, y] := by
  refine ⟨some ⟨b, 0, none⟩, 3, rfl, fun h => (by cases h), by simp, fun j s hj => ⟨b, 0, rfl, ?_⟩⟩
  rw [gh_cell]
  match j, hj with
  | 0, hj => simp at hj; subst hj; simp [World.cell?, h]
  | 1, hj => simp at hj; subst hj; simp [World.cell?, h]
theorem intsV_three {W : World} {b : Nat} {T : TypeId} {x y z : Int} (h : W.heap[b]? = some (.cells #[.int .i64 x, .int .i64 y, .int .i64 z] T (0, 0))) : IntsV (gh W) (.slice (some ⟨b, 0, none⟩) 3 3) [x, y, z] := by
  refine ⟨some ⟨b, 0, none⟩, 3, rfl, fun h => (by cases h), by simp, fun j s hj => ⟨b, 0, rfl, ?_⟩⟩
  rw [gh_cell]
  match j, hj with
  | 0, hj => simp at hj; subst hj; simp [World.cell?, h]
  | 1, hj => simp at hj; subst hj; simp [World.cell?, h]
  | 2, hj => simp at hj; subst hj; simp [World.cell?, h]
set_option maxRecDepth 1000000 in
set_option maxHeartbeats 8000000 in
theorem truth_any (names : List Bs) (vals : List Val) (op n : Int) (s : Bs) (k k' : Ex) (v : Value) (p : Nat) (w : World) (ho : op = 12 ∨ op = 13 ∨ op = 14 ∨ op = 15)
    (hE0 : EvP names vals k) (hE1 : EvP names vals k') (hok0 : VOk (ev (look names vals) k)) (hok1 : VOk (ev (look names vals) k')) (hW : WithV w p names vals) (hK : KV (gh w) v [k, k']) :
    Calls Tryz.prog 102 #[.pointer (some ⟨p, 0, none⟩), exV op n s v] w (boxPost (truthM op (ev (look names vals) k) (ev (look names vals) k') vNil) w) := by
  obtain ⟨a, cap, rfl⟩ := hK.form
  have hcap := hK.cap
  obtain ⟨b, off, ua, uc, rfl, c0, c1, c2, c3, hK0⟩ := hK.at0
  obtain ⟨ub, ud, e0, e1, e2, e3, hK1⟩ := hK.at1
  have HL := Lib.hid hW.lay
  have hbl := World.block_lt_of_cell? w _ c0
  have hb0 := (((Below.refl w.heap.size w).alloc (Nat.le_refl _) (.cells #[.int .i64 op, .int .i64 n, .string ⟨s.toArray⟩, .slice (some ⟨b, off, none⟩) 2 cap] 24)).alloc (by simp) (.cells #[.int .i64 1, .int .i64 3, .int .i64 2] 3))
  have he0 : ((w.alloc (.cells #[.int .i64 op, .int .i64 n, .string ⟨s.toArray⟩, .slice (some ⟨b, off, none⟩) 2 cap] 24)).alloc (.cells #[.int .i64 1, .int .i64 3, .int .i64 2] 3)).heap[w.heap.size]? = some (.cells #[.int .i64 op, .int .i64 n, .string ⟨s.toArray⟩, .slice (some ⟨b, off, none⟩) 2 cap] 24 (0, 0)) := by
    rw [Lib.alloc_old _ _ _ (by simp)]; exact heap_alloc_new w _
  have hi0 : ((w.alloc (.cells #[.int .i64 op, .int .i64 n, .string ⟨s.toArray⟩, .slice (some ⟨b, off, none⟩) 2 cap] 24)).alloc (.cells #[.int .i64 1, .int .i64 3, .int .i64 2] 3)).heap[w.heap.size + 1]? = some (.cells #[.int .i64 1, .int .i64 3, .int .i64 2] 3 (0, 0)) := by
    have := heap_alloc_new (w.alloc (.cells #[.int .i64 op, .int .i64 n, .string ⟨s.toArray⟩, .slice (some ⟨b, off, none⟩) 2 cap] 24)) (.cells #[.int .i64 1, .int .i64 3, .int .i64 2] 3)
    simpa using this
  have hI2 := intsV_two hi0
  have hI3 := intsV_three hi0
  have hn2 := need_any k names vals [1, 3] (.slice ua k.ks.length uc) _ p _ hE0 hok0 (hW.keep hb0) (hK0.keep hb0) hI2
  have hn3 := need_any k names vals [1, 3, 2] (.slice ua k.ks.length uc) _ p _ hE0 hok0 (hW.keep hb0) (hK0.keep hb0) hI3
  have HN1 := Lib.hid (need_kid hE1 hok1 hW hK1)
  unfold exV strV at hn2 hn3
  generalize ev (look names vals) k = x at *
  generalize ev (look names vals) k' = y at *
  have HB0 := Lib.hid hb0
  have HE0 := Lib.hid he0
  have HOK := Lib.hid hok0
  have HOK1 := Lib.hid hok1
  have HCS := Lib.hid (And.intro e0 (And.intro e1 (And.intro e2 e3)))
  have HN2 := Lib.hid hn2
  have HN3 := Lib.hid hn3
  clear hE0 hE1 hW hK hK0 hK1 hb0 he0 hi0 hok0 hok1 e0 e1 e2 e3 hI2 hI3 hn2 hn3
  unfold exV strV
  rcases ho with rfl | rfl | rfl | rfl
  · go_enter Tryz.func102, Tryz.ntmps102
    go_wp2_with fail
    refine HN3.out.mono ?_
    rintro e W1 ⟨rfl, hb1⟩
    have hb2 := HB0.out.seq hb1
    have he1 := (hb1.block _ (by simp; omega)).trans HE0.out
    have HB2 := Lib.hid hb2
    clear hb1 hb2 HB0 HE0 HN2 HN3 c0 c1 c2 c3
    rcases need_ok HOK.out [1, 3, 2] with ⟨u, hu, hvu⟩ | ⟨hu, hk1⟩
    · have HE : Hid (truthM 12 x y vNil = u) := Lib.hid (tr_err (by decide) hu)
      rw [hu]
      clear hu
      unfold needV needB
      go_wp2
      try rw [Exit.noGoto_ret]
      go_ret
      exact ⟨by rw [HE.out]; rfl, HB2.out⟩
    · obtain ⟨d0, -, -, d3⟩ := (four_all he1).1
      rw [hu]
      have HU := Lib.hid hu
      have hkd := fun w hL => kind_any HOK.out w hL
      have HKD := Lib.hid hkd
      clear hu he1 hkd
      unfold needV needB
      have hs : w.heap.size < W1.heap.size := World.block_lt_of_cell? W1 _ d0
      have hk3 : ∀ W3, Below W1.drew.heap.size W1.drew W3 → W3.cell? ⟨w.heap.size, 0, none⟩ = some (.int .i64 12) ∧ W3.cell? ⟨w.heap.size, 3, none⟩ = some (.slice (some ⟨b, off, none⟩) 2 cap) ∧
          W3.cell? ⟨b, off + 4, none⟩ = some (.int .i64 k'.op) ∧ W3.cell? ⟨b, off + 4 + 1, none⟩ = some (.int .i64 k'.n) ∧ W3.cell? ⟨b, off + 4 + 2, none⟩ = some (.string ⟨k'.s.toArray⟩) ∧ W3.cell? ⟨b, off + 4 + 3, none⟩ = some (.slice ub k'.ks.length ud) := fun W3 hb => by
        have hbw := HB2.out.drew.seq hb
        obtain ⟨e0, e1, e2, e3⟩ := HCS.out
        refine ⟨?_, ?_, ?_, ?_, ?_, ?_⟩
        · exact (hb.cell (p := ⟨w.heap.size, 0, none⟩) hs).trans d0
        · exact (hb.cell (p := ⟨w.heap.size, 3, none⟩) hs).trans d3
        · exact (hbw.cell (p := ⟨b, off + 4, none⟩) hbl).trans e0
        · exact (hbw.cell (p := ⟨b, off + 4 + 1, none⟩) hbl).trans e1
        · exact (hbw.cell (p := ⟨b, off + 4 + 2, none⟩) hbl).trans e2
        · exact (hbw.cell (p := ⟨b, off + 4 + 3, none⟩) hbl).trans e3
      have HK3 := Lib.hid hk3
      obtain ⟨g0, g1, f0, f1, f2, f3⟩ := hk3 W1.drew (Below.refl _ _)
      clear hk3
      obtain ⟨bx, hbx⟩ : ∃ bx, boxV x = bx := ⟨_, rfl⟩
      have HBX := Lib.hid hbx
      rw [hbx] at HKD ⊢
      obtain ⟨xk, hxk⟩ : ∃ xk, x.k = xk := ⟨_, rfl⟩
      have HXK := Lib.hid hxk
      rw [hxk] at HKD
      clear hbx hxk
      go_upto_region 13 with fail
      go_region_held3 (fun w' => (w'.cell? ⟨w.heap.size, 3, none⟩ = some (.slice (some ⟨b, off, none⟩) 2 cap) ∧ w'.cell? ⟨b, off + 4, none⟩ = some (.int .i64 k'.op) ∧ w'.cell? ⟨b, off + 4 + 1, none⟩ = some (.int .i64 k'.n) ∧ w'.cell? ⟨b, off + 4 + 2, none⟩ = some (.string ⟨k'.s.toArray⟩) ∧ w'.cell? ⟨b, off + 4 + 3, none⟩ = some (.slice ub k'.ks.length ud))) (go_keep)
        ((first
          | (go_at_call 152; refine (HKD.out _ (HL.out.below HB2.out.drew)).mono ?_; rintro r W3 ⟨rfl, hb3⟩; have hb4 := HB2.out.drew.seq hb3; have hg := HK3.out W3 hb3; obtain ⟨h0, h1, h2, h3, h4, h5⟩ := hg)
          | (go_at_call 142; refine (HN1.out _ (hb4.alloc hb4.size _) W3.heap.size 3 [xk] (heap_alloc_new W3 _) (by simp)).mono ?_; rintro r W5 ⟨rfl, hb5⟩; have hb6 := (hb3.alloc hb3.size _).seq hb5; have hg5 := HK3.out W5 hb6; obtain ⟨i0, i1, i2, i3, i4, i5⟩ := hg5)))
      clear g0 g1 f0 f1 f2 f3 h0 h1 h2 h3 h4 h5 i1 i2 i3 i4 i5 d0 d3 HK3 HKD HCS HN1 hb6
      have hb7 := (hb4.alloc hb4.size _).seq hb5
      have HB7 := Lib.hid hb7
      have HL5 := Lib.hid (HL.out.below hb7)
      clear hb3 hb4 hb5 hb7
      rcases need_ok HOK1.out [xk] with ⟨u, hu, hvu⟩ | ⟨hu, hk2⟩
      · have HE : Hid (truthM 12 x y vNil = u) := Lib.hid (tr_err2 (by decide) HU.out (by rw [HXK.out]; exact hu))
        rw [hu]
        clear hu
        unfold needV needB
        go_wp2
        try rw [Exit.noGoto_ret]
        go_ret
        exact ⟨by rw [HE.out]; rfl, HB7.out⟩
      · have HM : Hid (truthM 12 x y vNil = cmpM 12 x y) := Lib.hid (tr_ok (by decide) HU.out (by rw [HXK.out]; exact hu))
        rw [hu]
        clear hu HU
        unfold needV needB
        have hyk : y.k = xk := by simpa using hk2
        have hx1 := HXK.out
        have hx2 := HBX.out
        rw [← hx2]
        clear HXK HBX hk2
        rw [← hx1] at hyk
        clear hx1 hx2
        cases HOK.out with
        | nil => simp [vNil] at hk1
        | bad m h => simp [vBad] at hk1
        | int m h =>
          obtain ⟨m', rfl, h'⟩ := HOK1.out.k1 hyk
          rw [boxV_int, boxV_int]
          have x1 := ta_int m
          have hi := fun w => int_any m' w
          have HI := Lib.hid hi
          have hcs : ∃ lb eb, decide (m < m') = lb ∧ (m == m') = eb ∧ cmpM 12 (vInt m) (vInt m') = vBool (cmpB 12 lb eb) := ⟨_, _, rfl, rfl, by rw [cmpM_int]; rfl⟩
          obtain ⟨lb, eb, hl, he, hc⟩ := hcs
          have HC := Lib.hid hc
          clear hk1 hyk hi hc
          go_wp2_with fail
          refine (HI.out _).mono ?_
          rintro e W6 ⟨rfl, rfl⟩
          go_wp2_with fail
          refine (HI.out _).mono ?_
          rintro e W6 ⟨rfl, rfl⟩
          cases lb <;> cases eb
          all_goals
            go_wp2
            try rw [Exit.noGoto_ret]
            go_ret
            exact ⟨by rw [HM.out, HC.out, boxV_bool]; rfl, HB7.out⟩
        | text tt h =>
          obtain ⟨uu, rfl, h'⟩ := HOK1.out.k3 hyk
          rw [boxV_text, boxV_text]
          unfold strV
          have x1 := tn_text_i tt
          have x2 := ta_text tt
          have hi := fun w hL => text_any uu w h' hL
          unfold strRet strV at hi
          have HI := Lib.hid hi
          have hcs : ∃ lb eb, Op.bytesLess tt uu = lb ∧ (tt == uu) = eb ∧ cmpM 12 (vText tt) (vText uu) = vBool (cmpB 12 lb eb) := ⟨_, _, rfl, rfl, by rw [cmpM_text, beq_eq_dec]⟩
          obtain ⟨lb, eb, hl, he, hc⟩ := hcs
          have HC := Lib.hid hc
          clear hk1 hyk hi hc
          go_wp2_with fail
          refine (HI.out _ HL5.out).mono ?_
          rintro e W6 ⟨rfl, hb8⟩
          have hL6 := HL5.out.below hb8
          have hb9 := HB7.out.seq hb8
          have i6 : W6.cell? ⟨w.heap.size, 0, none⟩ = some (.int .i64 12) := (hb8.cell (p := ⟨w.heap.size, 0, none⟩) (World.block_lt_of_cell? W5 _ i0)).trans i0
          have HL6 := Lib.hid hL6
          clear hb8 hL6 i0
          go_wp2_with fail
          refine (HI.out _ HL6.out).mono ?_
          rintro e W7 ⟨rfl, hb10⟩
          have hb11 := hb9.seq hb10
          have i7 : W7.cell? ⟨w.heap.size, 0, none⟩ = some (.int .i64 12) := (hb10.cell (p := ⟨w.heap.size, 0, none⟩) (World.block_lt_of_cell? W6 _ i6)).trans i6
          have HB11 := Lib.hid hb11
          clear hb9 hb10 hb11 i6
          cases lb <;> cases eb
          all_goals
            go_wp2
            try rw [Exit.noGoto_ret]
            go_ret
            exact ⟨by rw [HM.out, HC.out, boxV_bool]; rfl, HB11.out⟩
        | bool bb =>
          obtain ⟨cc, rfl⟩ := HOK1.out.k2 hyk
          rw [boxV_bool, boxV_bool]
          have x1 := tn_bool_i bb
          have x2 := tn_bool_s bb
          have x3 := ta_bool bb
          have hi := fun w => bool_any cc w
          have HI := Lib.hid hi
          have HC := Lib.hid (cmpM_bool 12 bb cc)
          clear hk1 hyk hi
          go_wp2_with fail
          refine (HI.out _).mono ?_
          rintro e W6 ⟨rfl, rfl⟩
          cases bb <;> cases cc
          all_goals
            go_wp2
            try rw [Exit.noGoto_ret]
            go_ret
            exact ⟨by rw [HM.out, HC.out, boxV_bool]; rfl, HB7.out⟩
  · go_enter Tryz.func102, Tryz.ntmps102
    go_wp2_with fail
    refine HN3.out.mono ?_
    rintro e W1 ⟨rfl, hb1⟩
    have hb2 := HB0.out.seq hb1
    have he1 := (hb1.block _ (by simp; omega)).trans HE0.out
    have HB2 := Lib.hid hb2
    clear hb1 hb2 HB0 HE0 HN2 HN3 c0 c1 c2 c3
    rcases need_ok HOK.out [1, 3, 2] with ⟨u, hu, hvu⟩ | ⟨hu, hk1⟩
    · have HE : Hid (truthM 13 x y vNil = u) := Lib.hid (tr_err (by decide) hu)
      rw [hu]
      clear hu
      unfold needV needB
      go_wp2
      try rw [Exit.noGoto_ret]
      go_ret
      exact ⟨by rw [HE.out]; rfl, HB2.out⟩
    · obtain ⟨d0, -, -, d3⟩ := (four_all he1).1
      rw [hu]
      have HU := Lib.hid hu
      have hkd := fun w hL => kind_any HOK.out w hL
      have HKD := Lib.hid hkd
      clear hu he1 hkd
      unfold needV needB
      have hs : w.heap.size < W1.heap.size := World.block_lt_of_cell? W1 _ d0
      have hk3 : ∀ W3, Below W1.drew.heap.size W1.drew W3 → W3.cell? ⟨w.heap.size, 0, none⟩ = some (.int .i64 13) ∧ W3.cell? ⟨w.heap.size, 3, none⟩ = some (.slice (some ⟨b, off, none⟩) 2 cap) ∧
          W3.cell? ⟨b, off + 4, none⟩ = some (.int .i64 k'.op) ∧ W3.cell? ⟨b, off + 4 + 1, none⟩ = some (.int .i64 k'.n) ∧ W3.cell? ⟨b, off + 4 + 2, none⟩ = some (.string ⟨k'.s.toArray⟩) ∧ W3.cell? ⟨b, off + 4 + 3, none⟩ = some (.slice ub k'.ks.length ud) := fun W3 hb => by
        have hbw := HB2.out.drew.seq hb
        obtain ⟨e0, e1, e2, e3⟩ := HCS.out
        refine ⟨?_, ?_, ?_, ?_, ?_, ?_⟩
        · exact (hb.cell (p := ⟨w.heap.size, 0, none⟩) hs).trans d0
        · exact (hb.cell (p := ⟨w.heap.size, 3, none⟩) hs).trans d3
        · exact (hbw.cell (p := ⟨b, off + 4, none⟩) hbl).trans e0
        · exact (hbw.cell (p := ⟨b, off + 4 + 1, none⟩) hbl).trans e1
        · exact (hbw.cell (p := ⟨b, off + 4 + 2, none⟩) hbl).trans e2
        · exact (hbw.cell (p := ⟨b, off + 4 + 3, none⟩) hbl).trans e3
      have HK3 := Lib.hid hk3
      obtain ⟨g0, g1, f0, f1, f2, f3⟩ := hk3 W1.drew (Below.refl _ _)
      clear hk3
      obtain ⟨bx, hbx⟩ : ∃ bx, boxV x = bx := ⟨_, rfl⟩
      have HBX := Lib.hid hbx
      rw [hbx] at HKD ⊢
      obtain ⟨xk, hxk⟩ : ∃ xk, x.k = xk := ⟨_, rfl⟩
      have HXK := Lib.hid hxk
      rw [hxk] at HKD
      clear hbx hxk
      go_upto_region 13 with fail
      go_region_held3 (fun w' => (w'.cell? ⟨w.heap.size, 3, none⟩ = some (.slice (some ⟨b, off, none⟩) 2 cap) ∧ w'.cell? ⟨b, off + 4, none⟩ = some (.int .i64 k'.op) ∧ w'.cell? ⟨b, off + 4 + 1, none⟩ = some (.int .i64 k'.n) ∧ w'.cell? ⟨b, off + 4 + 2, none⟩ = some (.string ⟨k'.s.toArray⟩) ∧ w'.cell? ⟨b, off + 4 + 3, none⟩ = some (.slice ub k'.ks.length ud))) (go_keep)
        ((first
          | (go_at_call 152; refine (HKD.out _ (HL.out.below HB2.out.drew)).mono ?_; rintro r W3 ⟨rfl, hb3⟩; have hb4 := HB2.out.drew.seq hb3; have hg := HK3.out W3 hb3; obtain ⟨h0, h1, h2, h3, h4, h5⟩ := hg)
          | (go_at_call 142; refine (HN1.out _ (hb4.alloc hb4.size _) W3.heap.size 3 [xk] (heap_alloc_new W3 _) (by simp)).mono ?_; rintro r W5 ⟨rfl, hb5⟩; have hb6 := (hb3.alloc hb3.size _).seq hb5; have hg5 := HK3.out W5 hb6; obtain ⟨i0, i1, i2, i3, i4, i5⟩ := hg5)))
      clear g0 g1 f0 f1 f2 f3 h0 h1 h2 h3 h4 h5 i1 i2 i3 i4 i5 d0 d3 HK3 HKD HCS HN1 hb6
      have hb7 := (hb4.alloc hb4.size _).seq hb5
      have HB7 := Lib.hid hb7
      have HL5 := Lib.hid (HL.out.below hb7)
      clear hb3 hb4 hb5 hb7
      rcases need_ok HOK1.out [xk] with ⟨u, hu, hvu⟩ | ⟨hu, hk2⟩
      · have HE : Hid (truthM 13 x y vNil = u) := Lib.hid (tr_err2 (by decide) HU.out (by rw [HXK.out]; exact hu))
        rw [hu]
        clear hu
        unfold needV needB
        go_wp2
        try rw [Exit.noGoto_ret]
        go_ret
        exact ⟨by rw [HE.out]; rfl, HB7.out⟩
      · have HM : Hid (truthM 13 x y vNil = cmpM 13 x y) := Lib.hid (tr_ok (by decide) HU.out (by rw [HXK.out]; exact hu))
        rw [hu]
        clear hu HU
        unfold needV needB
        have hyk : y.k = xk := by simpa using hk2
        have hx1 := HXK.out
        have hx2 := HBX.out
        rw [← hx2]
        clear HXK HBX hk2
        rw [← hx1] at hyk
        clear hx1 hx2
        cases HOK.out with
        | nil => simp [vNil] at hk1
        | bad m h => simp [vBad] at hk1
        | int m h =>
          obtain ⟨m', rfl, h'⟩ := HOK1.out.k1 hyk
          rw [boxV_int, boxV_int]
          have x1 := ta_int m
          have hi := fun w => int_any m' w
          have HI := Lib.hid hi
          have hcs : ∃ lb eb, decide (m < m') = lb ∧ (m == m') = eb ∧ cmpM 13 (vInt m) (vInt m') = vBool (cmpB 13 lb eb) := ⟨_, _, rfl, rfl, by rw [cmpM_int]; rfl⟩
          obtain ⟨lb, eb, hl, he, hc⟩ := hcs
          have HC := Lib.hid hc
          clear hk1 hyk hi hc
          go_wp2_with fail
          refine (HI.out _).mono ?_
          rintro e W6 ⟨rfl, rfl⟩
          go_wp2_with fail
          refine (HI.out _).mono ?_
          rintro e W6 ⟨rfl, rfl⟩
          cases lb <;> cases eb
          all_goals
            go_wp2
            try rw [Exit.noGoto_ret]
            go_ret
            exact ⟨by rw [HM.out, HC.out, boxV_bool]; rfl, HB7.out⟩
        | text tt h =>
          obtain ⟨uu, rfl, h'⟩ := HOK1.out.k3 hyk
          rw [boxV_text, boxV_text]
          unfold strV
          have x1 := tn_text_i tt
          have x2 := ta_text tt
          have hi := fun w hL => text_any uu w h' hL
          unfold strRet strV at hi
          have HI := Lib.hid hi
          have hcs : ∃ lb eb, Op.bytesLess tt uu = lb ∧ (tt == uu) = eb ∧ cmpM 13 (vText tt) (vText uu) = vBool (cmpB 13 lb eb) := ⟨_, _, rfl, rfl, by rw [cmpM_text, beq_eq_dec]⟩
          obtain ⟨lb, eb, hl, he, hc⟩ := hcs
          have HC := Lib.hid hc
          clear hk1 hyk hi hc
          go_wp2_with fail
          refine (HI.out _ HL5.out).mono ?_
          rintro e W6 ⟨rfl, hb8⟩
          have hL6 := HL5.out.below hb8
          have hb9 := HB7.out.seq hb8
          have i6 : W6.cell? ⟨w.heap.size, 0, none⟩ = some (.int .i64 13) := (hb8.cell (p := ⟨w.heap.size, 0, none⟩) (World.block_lt_of_cell? W5 _ i0)).trans i0
          have HL6 := Lib.hid hL6
          clear hb8 hL6 i0
          go_wp2_with fail
          refine (HI.out _ HL6.out).mono ?_
          rintro e W7 ⟨rfl, hb10⟩
          have hb11 := hb9.seq hb10
          have i7 : W7.cell? ⟨w.heap.size, 0, none⟩ = some (.int .i64 13) := (hb10.cell (p := ⟨w.heap.size, 0, none⟩) (World.block_lt_of_cell? W6 _ i6)).trans i6
          have HB11 := Lib.hid hb11
          clear hb9 hb10 hb11 i6
          cases lb <;> cases eb
          all_goals
            go_wp2
            try rw [Exit.noGoto_ret]
            go_ret
            exact ⟨by rw [HM.out, HC.out, boxV_bool]; rfl, HB11.out⟩
        | bool bb =>
          obtain ⟨cc, rfl⟩ := HOK1.out.k2 hyk
          rw [boxV_bool, boxV_bool]
          have x1 := tn_bool_i bb
          have x2 := tn_bool_s bb
          have x3 := ta_bool bb
          have hi := fun w => bool_any cc w
          have HI := Lib.hid hi
          have HC := Lib.hid (cmpM_bool 13 bb cc)
          clear hk1 hyk hi
          go_wp2_with fail
          refine (HI.out _).mono ?_
          rintro e W6 ⟨rfl, rfl⟩
          cases bb <;> cases cc
          all_goals
            go_wp2
            try rw [Exit.noGoto_ret]
            go_ret
            exact ⟨by rw [HM.out, HC.out, boxV_bool]; rfl, HB7.out⟩
  · go_enter Tryz.func102, Tryz.ntmps102
    go_wp2_with fail
    refine HN2.out.mono ?_
    rintro e W1 ⟨rfl, hb1⟩
    have hb2 := HB0.out.seq hb1
    have he1 := (hb1.block _ (by simp; omega)).trans HE0.out
    have HB2 := Lib.hid hb2
    clear hb1 hb2 HB0 HE0 HN2 HN3 c0 c1 c2 c3
    rcases need_ok HOK.out [1, 3] with ⟨u, hu, hvu⟩ | ⟨hu, hk1⟩
    · have HE : Hid (truthM 14 x y vNil = u) := Lib.hid (tr_err (by decide) hu)
      rw [hu]
      clear hu
      unfold needV needB
      go_wp2
      try rw [Exit.noGoto_ret]
      go_ret
      exact ⟨by rw [HE.out]; rfl, HB2.out⟩
    · obtain ⟨d0, -, -, d3⟩ := (four_all he1).1
      rw [hu]
      have HU := Lib.hid hu
      have hkd := fun w hL => kind_any HOK.out w hL
      have HKD := Lib.hid hkd
      clear hu he1 hkd
      unfold needV needB
      have hs : w.heap.size < W1.heap.size := World.block_lt_of_cell? W1 _ d0
      have hk3 : ∀ W3, Below W1.drew.heap.size W1.drew W3 → W3.cell? ⟨w.heap.size, 0, none⟩ = some (.int .i64 14) ∧ W3.cell? ⟨w.heap.size, 3, none⟩ = some (.slice (some ⟨b, off, none⟩) 2 cap) ∧
          W3.cell? ⟨b, off + 4, none⟩ = some (.int .i64 k'.op) ∧ W3.cell? ⟨b, off + 4 + 1, none⟩ = some (.int .i64 k'.n) ∧ W3.cell? ⟨b, off + 4 + 2, none⟩ = some (.string ⟨k'.s.toArray⟩) ∧ W3.cell? ⟨b, off + 4 + 3, none⟩ = some (.slice ub k'.ks.length ud) := fun W3 hb => by
        have hbw := HB2.out.drew.seq hb
        obtain ⟨e0, e1, e2, e3⟩ := HCS.out
        refine ⟨?_, ?_, ?_, ?_, ?_, ?_⟩
        · exact (hb.cell (p := ⟨w.heap.size, 0, none⟩) hs).trans d0
        · exact (hb.cell (p := ⟨w.heap.size, 3, none⟩) hs).trans d3
        · exact (hbw.cell (p := ⟨b, off + 4, none⟩) hbl).trans e0
        · exact (hbw.cell (p := ⟨b, off + 4 + 1, none⟩) hbl).trans e1
        · exact (hbw.cell (p := ⟨b, off + 4 + 2, none⟩) hbl).trans e2
        · exact (hbw.cell (p := ⟨b, off + 4 + 3, none⟩) hbl).trans e3
      have HK3 := Lib.hid hk3
      obtain ⟨g0, g1, f0, f1, f2, f3⟩ := hk3 W1.drew (Below.refl _ _)
      clear hk3
      obtain ⟨bx, hbx⟩ : ∃ bx, boxV x = bx := ⟨_, rfl⟩
      have HBX := Lib.hid hbx
      rw [hbx] at HKD ⊢
      obtain ⟨xk, hxk⟩ : ∃ xk, x.k = xk := ⟨_, rfl⟩
      have HXK := Lib.hid hxk
      rw [hxk] at HKD
      clear hbx hxk
      go_upto_region 13 with fail
      go_region_held3 (fun w' => (w'.cell? ⟨w.heap.size, 3, none⟩ = some (.slice (some ⟨b, off, none⟩) 2 cap) ∧ w'.cell? ⟨b, off + 4, none⟩ = some (.int .i64 k'.op) ∧ w'.cell? ⟨b, off + 4 + 1, none⟩ = some (.int .i64 k'.n) ∧ w'.cell? ⟨b, off + 4 + 2, none⟩ = some (.string ⟨k'.s.toArray⟩) ∧ w'.cell? ⟨b, off + 4 + 3, none⟩ = some (.slice ub k'.ks.length ud))) (go_keep)
        ((first
          | (go_at_call 152; refine (HKD.out _ (HL.out.below HB2.out.drew)).mono ?_; rintro r W3 ⟨rfl, hb3⟩; have hb4 := HB2.out.drew.seq hb3; have hg := HK3.out W3 hb3; obtain ⟨h0, h1, h2, h3, h4, h5⟩ := hg)
          | (go_at_call 142; refine (HN1.out _ (hb4.alloc hb4.size _) W3.heap.size 3 [xk] (heap_alloc_new W3 _) (by simp)).mono ?_; rintro r W5 ⟨rfl, hb5⟩; have hb6 := (hb3.alloc hb3.size _).seq hb5; have hg5 := HK3.out W5 hb6; obtain ⟨i0, i1, i2, i3, i4, i5⟩ := hg5)))
      clear g0 g1 f0 f1 f2 f3 h0 h1 h2 h3 h4 h5 i1 i2 i3 i4 i5 d0 d3 HK3 HKD HCS HN1 hb6
      have hb7 := (hb4.alloc hb4.size _).seq hb5
      have HB7 := Lib.hid hb7
      have HL5 := Lib.hid (HL.out.below hb7)
      clear hb3 hb4 hb5 hb7
      rcases need_ok HOK1.out [xk] with ⟨u, hu, hvu⟩ | ⟨hu, hk2⟩
      · have HE : Hid (truthM 14 x y vNil = u) := Lib.hid (tr_err2 (by decide) HU.out (by rw [HXK.out]; exact hu))
        rw [hu]
        clear hu
        unfold needV needB
        go_wp2
        try rw [Exit.noGoto_ret]
        go_ret
        exact ⟨by rw [HE.out]; rfl, HB7.out⟩
      · have HM : Hid (truthM 14 x y vNil = cmpM 14 x y) := Lib.hid (tr_ok (by decide) HU.out (by rw [HXK.out]; exact hu))
        rw [hu]
        clear hu HU
        unfold needV needB
        have hyk : y.k = xk := by simpa using hk2
        have hx1 := HXK.out
        have hx2 := HBX.out
        rw [← hx2]
        clear HXK HBX hk2
        rw [← hx1] at hyk
        clear hx1 hx2
        cases HOK.out with
        | nil => simp [vNil] at hk1
        | bad m h => simp [vBad] at hk1
        | int m h =>
          obtain ⟨m', rfl, h'⟩ := HOK1.out.k1 hyk
          rw [boxV_int, boxV_int]
          have x1 := ta_int m
          have hi := fun w => int_any m' w
          have HI := Lib.hid hi
          have hcs : ∃ lb eb, decide (m < m') = lb ∧ (m == m') = eb ∧ cmpM 14 (vInt m) (vInt m') = vBool (cmpB 14 lb eb) := ⟨_, _, rfl, rfl, by rw [cmpM_int]; rfl⟩
          obtain ⟨lb, eb, hl, he, hc⟩ := hcs
          have HC := Lib.hid hc
          clear hk1 hyk hi hc
          go_wp2_with fail
          refine (HI.out _).mono ?_
          rintro e W6 ⟨rfl, rfl⟩
          go_wp2_with fail
          refine (HI.out _).mono ?_
          rintro e W6 ⟨rfl, rfl⟩
          cases lb <;> cases eb
          all_goals
            go_wp2
            try rw [Exit.noGoto_ret]
            go_ret
            exact ⟨by rw [HM.out, HC.out, boxV_bool]; rfl, HB7.out⟩
        | text tt h =>
          obtain ⟨uu, rfl, h'⟩ := HOK1.out.k3 hyk
          rw [boxV_text, boxV_text]
          unfold strV
          have x1 := tn_text_i tt
          have x2 := ta_text tt
          have hi := fun w hL => text_any uu w h' hL
          unfold strRet strV at hi
          have HI := Lib.hid hi
          have hcs : ∃ lb eb, Op.bytesLess tt uu = lb ∧ (tt == uu) = eb ∧ cmpM 14 (vText tt) (vText uu) = vBool (cmpB 14 lb eb) := ⟨_, _, rfl, rfl, by rw [cmpM_text, beq_eq_dec]⟩
          obtain ⟨lb, eb, hl, he, hc⟩ := hcs
          have HC := Lib.hid hc
          clear hk1 hyk hi hc
          go_wp2_with fail
          refine (HI.out _ HL5.out).mono ?_
          rintro e W6 ⟨rfl, hb8⟩
          have hL6 := HL5.out.below hb8
          have hb9 := HB7.out.seq hb8
          have i6 : W6.cell? ⟨w.heap.size, 0, none⟩ = some (.int .i64 14) := (hb8.cell (p := ⟨w.heap.size, 0, none⟩) (World.block_lt_of_cell? W5 _ i0)).trans i0
          have HL6 := Lib.hid hL6
          clear hb8 hL6 i0
          go_wp2_with fail
          refine (HI.out _ HL6.out).mono ?_
          rintro e W7 ⟨rfl, hb10⟩
          have hb11 := hb9.seq hb10
          have i7 : W7.cell? ⟨w.heap.size, 0, none⟩ = some (.int .i64 14) := (hb10.cell (p := ⟨w.heap.size, 0, none⟩) (World.block_lt_of_cell? W6 _ i6)).trans i6
          have HB11 := Lib.hid hb11
          clear hb9 hb10 hb11 i6
          cases lb <;> cases eb
          all_goals
            go_wp2
            try rw [Exit.noGoto_ret]
            go_ret
            exact ⟨by rw [HM.out, HC.out, boxV_bool]; rfl, HB11.out⟩
        | bool bb => simp [vBool] at hk1
  · go_enter Tryz.func102, Tryz.ntmps102
    go_wp2_with fail
    refine HN2.out.mono ?_
    rintro e W1 ⟨rfl, hb1⟩
    have hb2 := HB0.out.seq hb1
    have he1 := (hb1.block _ (by simp; omega)).trans HE0.out
    have HB2 := Lib.hid hb2
    clear hb1 hb2 HB0 HE0 HN2 HN3 c0 c1 c2 c3
    rcases need_ok HOK.out [1, 3] with ⟨u, hu, hvu⟩ | ⟨hu, hk1⟩
    · have HE : Hid (truthM 15 x y vNil = u) := Lib.hid (tr_err (by decide) hu)
      rw [hu]
      clear hu
      unfold needV needB
      go_wp2
      try rw [Exit.noGoto_ret]
      go_ret
      exact ⟨by rw [HE.out]; rfl, HB2.out⟩
    · obtain ⟨d0, -, -, d3⟩ := (four_all he1).1
      rw [hu]
      have HU := Lib.hid hu
      have hkd := fun w hL => kind_any HOK.out w hL
      have HKD := Lib.hid hkd
      clear hu he1 hkd
      unfold needV needB
      have hs : w.heap.size < W1.heap.size := World.block_lt_of_cell? W1 _ d0
      have hk3 : ∀ W3, Below W1.drew.heap.size W1.drew W3 → W3.cell? ⟨w.heap.size, 0, none⟩ = some (.int .i64 15) ∧ W3.cell? ⟨w.heap.size, 3, none⟩ = some (.slice (some ⟨b, off, none⟩) 2 cap) ∧
          W3.cell? ⟨b, off + 4, none⟩ = some (.int .i64 k'.op) ∧ W3.cell? ⟨b, off + 4 + 1, none⟩ = some (.int .i64 k'.n) ∧ W3.cell? ⟨b, off + 4 + 2, none⟩ = some (.string ⟨k'.s.toArray⟩) ∧ W3.cell? ⟨b, off + 4 + 3, none⟩ = some (.slice ub k'.ks.length ud) := fun W3 hb => by
        have hbw := HB2.out.drew.seq hb
        obtain ⟨e0, e1, e2, e3⟩ := HCS.out
        refine ⟨?_, ?_, ?_, ?_, ?_, ?_⟩
        · exact (hb.cell (p := ⟨w.heap.size, 0, none⟩) hs).trans d0
        · exact (hb.cell (p := ⟨w.heap.size, 3, none⟩) hs).trans d3
        · exact (hbw.cell (p := ⟨b, off + 4, none⟩) hbl).trans e0
        · exact (hbw.cell (p := ⟨b, off + 4 + 1, none⟩) hbl).trans e1
        · exact (hbw.cell (p := ⟨b, off + 4 + 2, none⟩) hbl).trans e2
        · exact (hbw.cell (p := ⟨b, off + 4 + 3, none⟩) hbl).trans e3
      have HK3 := Lib.hid hk3
      obtain ⟨g0, g1, f0, f1, f2, f3⟩ := hk3 W1.drew (Below.refl _ _)
      clear hk3
      obtain ⟨bx, hbx⟩ : ∃ bx, boxV x = bx := ⟨_, rfl⟩
      have HBX := Lib.hid hbx
      rw [hbx] at HKD ⊢
      obtain ⟨xk, hxk⟩ : ∃ xk, x.k = xk := ⟨_, rfl⟩
      have HXK := Lib.hid hxk
      rw [hxk] at HKD
      clear hbx hxk
      go_upto_region 13 with fail
      go_region_held3 (fun w' => (w'.cell? ⟨w.heap.size, 3, none⟩ = some (.slice (some ⟨b, off, none⟩) 2 cap) ∧ w'.cell? ⟨b, off + 4, none⟩ = some (.int .i64 k'.op) ∧ w'.cell? ⟨b, off + 4 + 1, none⟩ = some (.int .i64 k'.n) ∧ w'.cell? ⟨b, off + 4 + 2, none⟩ = some (.string ⟨k'.s.toArray⟩) ∧ w'.cell? ⟨b, off + 4 + 3, none⟩ = some (.slice ub k'.ks.length ud))) (go_keep)
        ((first
          | (go_at_call 152; refine (HKD.out _ (HL.out.below HB2.out.drew)).mono ?_; rintro r W3 ⟨rfl, hb3⟩; have hb4 := HB2.out.drew.seq hb3; have hg := HK3.out W3 hb3; obtain ⟨h0, h1, h2, h3, h4, h5⟩ := hg)
          | (go_at_call 142; refine (HN1.out _ (hb4.alloc hb4.size _) W3.heap.size 3 [xk] (heap_alloc_new W3 _) (by simp)).mono ?_; rintro r W5 ⟨rfl, hb5⟩; have hb6 := (hb3.alloc hb3.size _).seq hb5; have hg5 := HK3.out W5 hb6; obtain ⟨i0, i1, i2, i3, i4, i5⟩ := hg5)))
      clear g0 g1 f0 f1 f2 f3 h0 h1 h2 h3 h4 h5 i1 i2 i3 i4 i5 d0 d3 HK3 HKD HCS HN1 hb6
      have hb7 := (hb4.alloc hb4.size _).seq hb5
      have HB7 := Lib.hid hb7
      have HL5 := Lib.hid (HL.out.below hb7)
      clear hb3 hb4 hb5 hb7
      rcases need_ok HOK1.out [xk] with ⟨u, hu, hvu⟩ | ⟨hu, hk2⟩
      · have HE : Hid (truthM 15 x y vNil = u) := Lib.hid (tr_err2 (by decide) HU.out (by rw [HXK.out]; exact hu))
        rw [hu]
        clear hu
        unfold needV needB
        go_wp2
        try rw [Exit.noGoto_ret]
        go_ret
        exact ⟨by rw [HE.out]; rfl, HB7.out⟩
      · have HM : Hid (truthM 15 x y vNil = cmpM 15 x y) := Lib.hid (tr_ok (by decide) HU.out (by rw [HXK.out]; exact hu))
        rw [hu]
        clear hu HU
        unfold needV needB
        have hyk : y.k = xk := by simpa using hk2
        have hx1 := HXK.out
        have hx2 := HBX.out
        rw [← hx2]
        clear HXK HBX hk2
        rw [← hx1] at hyk
        clear hx1 hx2
        cases HOK.out with
        | nil => simp [vNil] at hk1
        | bad m h => simp [vBad] at hk1
        | int m h =>
          obtain ⟨m', rfl, h'⟩ := HOK1.out.k1 hyk
          rw [boxV_int, boxV_int]
          have x1 := ta_int m
          have hi := fun w => int_any m' w
          have HI := Lib.hid hi
          have hcs : ∃ lb eb, decide (m < m') = lb ∧ (m == m') = eb ∧ cmpM 15 (vInt m) (vInt m') = vBool (cmpB 15 lb eb) := ⟨_, _, rfl, rfl, by rw [cmpM_int]; rfl⟩
          obtain ⟨lb, eb, hl, he, hc⟩ := hcs
          have HC := Lib.hid hc
          clear hk1 hyk hi hc
          go_wp2_with fail
          refine (HI.out _).mono ?_
          rintro e W6 ⟨rfl, rfl⟩
          go_wp2_with fail
          refine (HI.out _).mono ?_
          rintro e W6 ⟨rfl, rfl⟩
          cases lb <;> cases eb
          all_goals
            go_wp2
            try rw [Exit.noGoto_ret]
            go_ret
            exact ⟨by rw [HM.out, HC.out, boxV_bool]; rfl, HB7.out⟩
        | text tt h =>
          obtain ⟨uu, rfl, h'⟩ := HOK1.out.k3 hyk
          rw [boxV_text, boxV_text]
          unfold strV
          have x1 := tn_text_i tt
          have x2 := ta_text tt
          have hi := fun w hL => text_any uu w h' hL
          unfold strRet strV at hi
          have HI := Lib.hid hi
          have hcs : ∃ lb eb, Op.bytesLess tt uu = lb ∧ (tt == uu) = eb ∧ cmpM 15 (vText tt) (vText uu) = vBool (cmpB 15 lb eb) := ⟨_, _, rfl, rfl, by rw [cmpM_text, beq_eq_dec]⟩
          obtain ⟨lb, eb, hl, he, hc⟩ := hcs
          have HC := Lib.hid hc
          clear hk1 hyk hi hc
          go_wp2_with fail
          refine (HI.out _ HL5.out).mono ?_
          rintro e W6 ⟨rfl, hb8⟩
          have hL6 := HL5.out.below hb8
          have hb9 := HB7.out.seq hb8
          have i6 : W6.cell? ⟨w.heap.size, 0, none⟩ = some (.int .i64 15) := (hb8.cell (p := ⟨w.heap.size, 0, none⟩) (World.block_lt_of_cell? W5 _ i0)).trans i0
          have HL6 := Lib.hid hL6
          clear hb8 hL6 i0
          go_wp2_with fail
          refine (HI.out _ HL6.out).mono ?_
          rintro e W7 ⟨rfl, hb10⟩
          have hb11 := hb9.seq hb10
          have i7 : W7.cell? ⟨w.heap.size, 0, none⟩ = some (.int .i64 15) := (hb10.cell (p := ⟨w.heap.size, 0, none⟩) (World.block_lt_of_cell? W6 _ i6)).trans i6
          have HB11 := Lib.hid hb11
          clear hb9 hb10 hb11 i6
          cases lb <;> cases eb
          all_goals
            go_wp2
            try rw [Exit.noGoto_ret]
            go_ret
            exact ⟨by rw [HM.out, HC.out, boxV_bool]; rfl, HB11.out⟩
        | bool bb => simp [vBool] at hk1
end Go.Proofs.YtdgcgogeidnmoaaGreatDoor
