/- The walk of palaverlaw09.EvalNumbers: the sum is none. Conditions: the tables hold what they are laid with; both numbers are an int64's. -/
import Derived.Test.YtdgcgogeidnmoaaGreatDoorE17
set_option linter.unusedSimpArgs false
set_option linter.unusedVariables false
set_option linter.unusedSectionVars false
namespace Go.Proofs.YtdgcgogeidnmoaaGreatDoor
open Go.RowKit Pal
set_option maxRecDepth 1000000 in
set_option maxHeartbeats 8000000 in
theorem num_goit (a b D Q M : Int) (lt le eb ne : Bool) (nn : Int → Int) (bi : Bool → Int) (w : World) (hL : Lay (gh w)) (p1 : decide (a < 0) = true) (p2 : decide (b < 0) = true) (hD : a - b = D) (hDw : wrap64 D = D) (r1 : (a == -9223372036854775808) = false) (h0 : ¬ b = 0) (hq : wrap64 (a.tdiv b) = Q) (hq2 : IntKind.i64.wrap (a.tdiv b) = Q) (hm : a.tmod b = M) (r0 : (b == 0) = false) (hlt : decide (a < b) = lt) (hle : decide (a ≤ b) = le) (heq : (a == b) = eb) (hne : (a != b) = ne) (CC : Hid (∀ op, 12 ≤ op ∧ op ≤ 15 → TwoAt op a b 2 (nn op))) (TT : Hid (∀ bb, TruthAt bb (bi bb))) (e14 : nn 14 = bi lt) (e15 : nn 15 = bi le) (e12 : nn 12 = bi eb) (e13 : nn 13 = bi ne) 
    (C7 : Hid (TwoAt 7 a b 4 (1))) (C8 : Hid (TwoAt 8 a b 1 (D))) (C10 : Hid (TwoAt 10 a b 1 (Q))) (C11 : Hid (TwoAt 11 a b 1 (M))) :
    Calls Tryz.prog 11 #[.int .i64 a, .int .i64 b] w (yesPost w) := by
  have HAW := Lib.hid (fun w hL => awake9 w hL)
  have HL := Lib.hid hL
  clear hL
  unfold TwoAt TruthAt at *
  go_enter Tryz.func11, Tryz.ntmps11
  go_wp2_with fail
  refine (C7.out _ HL.out).mono ?_
  rintro r W1 ⟨rfl, hb1⟩
  have hbA := hb1.alloc hb1.size (.cells #[.int .i64 4, .int .i64 (1), .string ⟨#[]⟩] 47)
  have hzA := heap_alloc_new W1 (.cells #[.int .i64 4, .int .i64 (1), .string ⟨#[]⟩] 47)
  have hsA : W1.heap.size < (W1.alloc (.cells #[.int .i64 4, .int .i64 (1), .string ⟨#[]⟩] 47)).heap.size := by simp
  clear hb1
  go_wp2_with fail
  refine (C8.out _ (HL.out.below hbA)).mono ?_
  generalize W1.alloc (.cells #[.int .i64 4, .int .i64 (1), .string ⟨#[]⟩] 47) = WA at *
  rintro r W2 ⟨rfl, hb2⟩
  have hbB := (hbA.seq hb2).alloc (hbA.seq hb2).size (.cells #[.int .i64 1, .int .i64 (D), .string ⟨#[]⟩] 47)
  have hbn := hb2.alloc hb2.size (.cells #[.int .i64 1, .int .i64 (D), .string ⟨#[]⟩] 47)
  have hzB := heap_alloc_new W2 (.cells #[.int .i64 1, .int .i64 (D), .string ⟨#[]⟩] 47)
  have hsB : W2.heap.size < (W2.alloc (.cells #[.int .i64 1, .int .i64 (D), .string ⟨#[]⟩] 47)).heap.size := by simp
  have hyA := (hbn.block _ hsA).trans hzA
  have hs1 : W1.heap.size < (W2.alloc (.cells #[.int .i64 1, .int .i64 (D), .string ⟨#[]⟩] 47)).heap.size := by have := hb2.size; simp; omega
  clear hb2 hbA hzA hsA
  go_upto_region 3 with fail
  generalize W2.alloc (.cells #[.int .i64 1, .int .i64 (D), .string ⟨#[]⟩] 47) = WB at *
  obtain ⟨⟨x0, x1, x2⟩, -⟩ := three_all hyA
  obtain ⟨⟨y0, y1, y2⟩, -⟩ := three_all hzB
  have HZA := Lib.hid hyA
  have HZB := Lib.hid hzB
  have HS1 := Lib.hid hs1
  have HS2 := Lib.hid hsB
  have HBB := Lib.hid hbB
  clear hyA hzB hs1 hsB hbB hbn
  have HBC := HBB
  -- the quotient and the rest
  go_wp2_with fail
  refine (C10.out _ (HL.out.below HBC.out)).mono ?_
  rintro r W4 ⟨rfl, hb4⟩
  have hbD := (HBC.out.seq hb4).alloc (HBC.out.seq hb4).size (.cells #[.int .i64 1, .int .i64 (Q), .string ⟨#[]⟩] 47)
  have hzD := heap_alloc_new W4 (.cells #[.int .i64 1, .int .i64 (Q), .string ⟨#[]⟩] 47)
  have hsD : W4.heap.size < (W4.alloc (.cells #[.int .i64 1, .int .i64 (Q), .string ⟨#[]⟩] 47)).heap.size := by simp
  clear hb4
  go_wp2_with fail
  refine (C11.out _ (HL.out.below hbD)).mono ?_
  generalize W4.alloc (.cells #[.int .i64 1, .int .i64 (Q), .string ⟨#[]⟩] 47) = WD at *
  rintro r W5 ⟨rfl, hb5⟩
  have hbE := (hbD.seq hb5).alloc (hbD.seq hb5).size (.cells #[.int .i64 1, .int .i64 (M), .string ⟨#[]⟩] 47)
  have hbm := hb5.alloc hb5.size (.cells #[.int .i64 1, .int .i64 (M), .string ⟨#[]⟩] 47)
  have hzE := heap_alloc_new W5 (.cells #[.int .i64 1, .int .i64 (M), .string ⟨#[]⟩] 47)
  have hyD := (hbm.block _ hsD).trans hzD
  have hs4 : W4.heap.size < (W5.alloc (.cells #[.int .i64 1, .int .i64 (M), .string ⟨#[]⟩] 47)).heap.size := by have := hb5.size; simp; omega
  have hs5 : W5.heap.size < (W5.alloc (.cells #[.int .i64 1, .int .i64 (M), .string ⟨#[]⟩] 47)).heap.size := by simp
  clear hb5 hbD hzD hsD hbm
  go_upto_region 12 with fail
  generalize W5.alloc (.cells #[.int .i64 1, .int .i64 (M), .string ⟨#[]⟩] 47) = WE at *
  obtain ⟨⟨u0, u1, u2⟩, -⟩ := three_all hyD
  obtain ⟨⟨v0, v1, v2⟩, -⟩ := three_all hzE
  have HYD := Lib.hid hyD
  have HZE := Lib.hid hzE
  have HS4 := Lib.hid hs4
  have HS5 := Lib.hid hs5
  have HBE := Lib.hid hbE
  clear hyD hzE hs4 hs5 hbE
  have hbe : Below WE.heap.size WE WE.drew := (Below.refl _ _).drew
  have hbx : Below w.heap.size w WE.drew := HBE.out.seq hbe
  have hk : ∀ W, Below WE.heap.size WE W → (W.cell? ⟨W4.heap.size, 0, none⟩ = some (.int .i64 1) ∧ W.cell? ⟨W4.heap.size, 1, none⟩ = some (.int .i64 Q) ∧ W.cell? ⟨W4.heap.size, 2, none⟩ = some (.string ⟨#[]⟩)) ∧ (W.cell? ⟨W5.heap.size, 0, none⟩ = some (.int .i64 1) ∧ W.cell? ⟨W5.heap.size, 1, none⟩ = some (.int .i64 M) ∧ W.cell? ⟨W5.heap.size, 2, none⟩ = some (.string ⟨#[]⟩)) := fun W hb =>
    ⟨(three_all ((hb.block _ HS4.out).trans HYD.out)).1, (three_all ((hb.block _ HS5.out).trans HZE.out)).1⟩
  have HK := Lib.hid hk
  clear hk
  go_upto_region 16 with fail
  go_region_held3 (fun w' => ((w'.cell? ⟨W4.heap.size, 0, none⟩ = some (.int .i64 1) ∧ w'.cell? ⟨W4.heap.size, 1, none⟩ = some (.int .i64 Q) ∧ w'.cell? ⟨W4.heap.size, 2, none⟩ = some (.string ⟨#[]⟩)) ∧ (w'.cell? ⟨W5.heap.size, 0, none⟩ = some (.int .i64 1) ∧ w'.cell? ⟨W5.heap.size, 1, none⟩ = some (.int .i64 M) ∧ w'.cell? ⟨W5.heap.size, 2, none⟩ = some (.string ⟨#[]⟩)))) (go_keep)
    ((first
      | (go_at_call 41; refine (CC.out _ (by decide) _ (HL.out.below hbx)).mono ?_; rintro r W6 ⟨rfl, hb6⟩; have hbx := hbx.seq hb6; have hbe := hbe.seq hb6; have hg := HK.out W6 hbe; obtain ⟨⟨g0, g1, g2⟩, g3, g4, g5⟩ := hg; clear hb6)
      | (go_at_call 42; refine (TT.out _ _).mono ?_; rintro r W6 ⟨rfl, hb6⟩; have hbx := hbx.seq hb6; have hbe := hbe.seq hb6; have hg := HK.out W6 hbe; obtain ⟨⟨g0, g1, g2⟩, g3, g4, g5⟩ := hg; clear hb6)
      | (go_at_call 35; refine (HAW.out _ (HL.out.below hbx)).mono ?_; rintro r W6 ⟨rfl, hb6⟩; have hbx := hbx.seq hb6; have hbe := hbe.seq hb6; have hg := HK.out W6 hbe; obtain ⟨⟨g0, g1, g2⟩, g3, g4, g5⟩ := hg; clear hb6)))
  all_goals
    go_wp2
    go_ret
    exact ⟨rfl, hbx⟩
set_option maxRecDepth 1000000 in
set_option maxHeartbeats 8000000 in
theorem num_goif (a b D Q M : Int) (lt le eb ne : Bool) (nn : Int → Int) (bi : Bool → Int) (w : World) (hL : Lay (gh w)) (p1 : decide (a < 0) = false) (p2 : decide (b < 0) = false) (hD : a - b = D) (hDw : wrap64 D = D) (r1 : (a == -9223372036854775808) = false) (h0 : ¬ b = 0) (hq : wrap64 (a.tdiv b) = Q) (hq2 : IntKind.i64.wrap (a.tdiv b) = Q) (hm : a.tmod b = M) (r0 : (b == 0) = false) (hlt : decide (a < b) = lt) (hle : decide (a ≤ b) = le) (heq : (a == b) = eb) (hne : (a != b) = ne) (CC : Hid (∀ op, 12 ≤ op ∧ op ≤ 15 → TwoAt op a b 2 (nn op))) (TT : Hid (∀ bb, TruthAt bb (bi bb))) (e14 : nn 14 = bi lt) (e15 : nn 15 = bi le) (e12 : nn 12 = bi eb) (e13 : nn 13 = bi ne) 
    (C7 : Hid (TwoAt 7 a b 4 (1))) (C8 : Hid (TwoAt 8 a b 1 (D))) (C10 : Hid (TwoAt 10 a b 1 (Q))) (C11 : Hid (TwoAt 11 a b 1 (M))) :
    Calls Tryz.prog 11 #[.int .i64 a, .int .i64 b] w (yesPost w) := by
  have HAW := Lib.hid (fun w hL => awake9 w hL)
  have HL := Lib.hid hL
  clear hL
  unfold TwoAt TruthAt at *
  go_enter Tryz.func11, Tryz.ntmps11
  go_wp2_with fail
  refine (C7.out _ HL.out).mono ?_
  rintro r W1 ⟨rfl, hb1⟩
  have hbA := hb1.alloc hb1.size (.cells #[.int .i64 4, .int .i64 (1), .string ⟨#[]⟩] 47)
  have hzA := heap_alloc_new W1 (.cells #[.int .i64 4, .int .i64 (1), .string ⟨#[]⟩] 47)
  have hsA : W1.heap.size < (W1.alloc (.cells #[.int .i64 4, .int .i64 (1), .string ⟨#[]⟩] 47)).heap.size := by simp
  clear hb1
  go_wp2_with fail
  refine (C8.out _ (HL.out.below hbA)).mono ?_
  generalize W1.alloc (.cells #[.int .i64 4, .int .i64 (1), .string ⟨#[]⟩] 47) = WA at *
  rintro r W2 ⟨rfl, hb2⟩
  have hbB := (hbA.seq hb2).alloc (hbA.seq hb2).size (.cells #[.int .i64 1, .int .i64 (D), .string ⟨#[]⟩] 47)
  have hbn := hb2.alloc hb2.size (.cells #[.int .i64 1, .int .i64 (D), .string ⟨#[]⟩] 47)
  have hzB := heap_alloc_new W2 (.cells #[.int .i64 1, .int .i64 (D), .string ⟨#[]⟩] 47)
  have hsB : W2.heap.size < (W2.alloc (.cells #[.int .i64 1, .int .i64 (D), .string ⟨#[]⟩] 47)).heap.size := by simp
  have hyA := (hbn.block _ hsA).trans hzA
  have hs1 : W1.heap.size < (W2.alloc (.cells #[.int .i64 1, .int .i64 (D), .string ⟨#[]⟩] 47)).heap.size := by have := hb2.size; simp; omega
  clear hb2 hbA hzA hsA
  go_upto_region 3 with fail
  generalize W2.alloc (.cells #[.int .i64 1, .int .i64 (D), .string ⟨#[]⟩] 47) = WB at *
  obtain ⟨⟨x0, x1, x2⟩, -⟩ := three_all hyA
  obtain ⟨⟨y0, y1, y2⟩, -⟩ := three_all hzB
  have HZA := Lib.hid hyA
  have HZB := Lib.hid hzB
  have HS1 := Lib.hid hs1
  have HS2 := Lib.hid hsB
  have HBB := Lib.hid hbB
  clear hyA hzB hs1 hsB hbB hbn
  have HBC := HBB
  -- the quotient and the rest
  go_wp2_with fail
  refine (C10.out _ (HL.out.below HBC.out)).mono ?_
  rintro r W4 ⟨rfl, hb4⟩
  have hbD := (HBC.out.seq hb4).alloc (HBC.out.seq hb4).size (.cells #[.int .i64 1, .int .i64 (Q), .string ⟨#[]⟩] 47)
  have hzD := heap_alloc_new W4 (.cells #[.int .i64 1, .int .i64 (Q), .string ⟨#[]⟩] 47)
  have hsD : W4.heap.size < (W4.alloc (.cells #[.int .i64 1, .int .i64 (Q), .string ⟨#[]⟩] 47)).heap.size := by simp
  clear hb4
  go_wp2_with fail
  refine (C11.out _ (HL.out.below hbD)).mono ?_
  generalize W4.alloc (.cells #[.int .i64 1, .int .i64 (Q), .string ⟨#[]⟩] 47) = WD at *
  rintro r W5 ⟨rfl, hb5⟩
  have hbE := (hbD.seq hb5).alloc (hbD.seq hb5).size (.cells #[.int .i64 1, .int .i64 (M), .string ⟨#[]⟩] 47)
  have hbm := hb5.alloc hb5.size (.cells #[.int .i64 1, .int .i64 (M), .string ⟨#[]⟩] 47)
  have hzE := heap_alloc_new W5 (.cells #[.int .i64 1, .int .i64 (M), .string ⟨#[]⟩] 47)
  have hyD := (hbm.block _ hsD).trans hzD
  have hs4 : W4.heap.size < (W5.alloc (.cells #[.int .i64 1, .int .i64 (M), .string ⟨#[]⟩] 47)).heap.size := by have := hb5.size; simp; omega
  have hs5 : W5.heap.size < (W5.alloc (.cells #[.int .i64 1, .int .i64 (M), .string ⟨#[]⟩] 47)).heap.size := by simp
  clear hb5 hbD hzD hsD hbm
  go_upto_region 12 with fail
  generalize W5.alloc (.cells #[.int .i64 1, .int .i64 (M), .string ⟨#[]⟩] 47) = WE at *
  obtain ⟨⟨u0, u1, u2⟩, -⟩ := three_all hyD
  obtain ⟨⟨v0, v1, v2⟩, -⟩ := three_all hzE
  have HYD := Lib.hid hyD
  have HZE := Lib.hid hzE
  have HS4 := Lib.hid hs4
  have HS5 := Lib.hid hs5
  have HBE := Lib.hid hbE
  clear hyD hzE hs4 hs5 hbE
  have hbe : Below WE.heap.size WE WE.drew := (Below.refl _ _).drew
  have hbx : Below w.heap.size w WE.drew := HBE.out.seq hbe
  have hk : ∀ W, Below WE.heap.size WE W → (W.cell? ⟨W4.heap.size, 0, none⟩ = some (.int .i64 1) ∧ W.cell? ⟨W4.heap.size, 1, none⟩ = some (.int .i64 Q) ∧ W.cell? ⟨W4.heap.size, 2, none⟩ = some (.string ⟨#[]⟩)) ∧ (W.cell? ⟨W5.heap.size, 0, none⟩ = some (.int .i64 1) ∧ W.cell? ⟨W5.heap.size, 1, none⟩ = some (.int .i64 M) ∧ W.cell? ⟨W5.heap.size, 2, none⟩ = some (.string ⟨#[]⟩)) := fun W hb =>
    ⟨(three_all ((hb.block _ HS4.out).trans HYD.out)).1, (three_all ((hb.block _ HS5.out).trans HZE.out)).1⟩
  have HK := Lib.hid hk
  clear hk
  go_upto_region 16 with fail
  go_region_held3 (fun w' => ((w'.cell? ⟨W4.heap.size, 0, none⟩ = some (.int .i64 1) ∧ w'.cell? ⟨W4.heap.size, 1, none⟩ = some (.int .i64 Q) ∧ w'.cell? ⟨W4.heap.size, 2, none⟩ = some (.string ⟨#[]⟩)) ∧ (w'.cell? ⟨W5.heap.size, 0, none⟩ = some (.int .i64 1) ∧ w'.cell? ⟨W5.heap.size, 1, none⟩ = some (.int .i64 M) ∧ w'.cell? ⟨W5.heap.size, 2, none⟩ = some (.string ⟨#[]⟩)))) (go_keep)
    ((first
      | (go_at_call 41; refine (CC.out _ (by decide) _ (HL.out.below hbx)).mono ?_; rintro r W6 ⟨rfl, hb6⟩; have hbx := hbx.seq hb6; have hbe := hbe.seq hb6; have hg := HK.out W6 hbe; obtain ⟨⟨g0, g1, g2⟩, g3, g4, g5⟩ := hg; clear hb6)
      | (go_at_call 42; refine (TT.out _ _).mono ?_; rintro r W6 ⟨rfl, hb6⟩; have hbx := hbx.seq hb6; have hbe := hbe.seq hb6; have hg := HK.out W6 hbe; obtain ⟨⟨g0, g1, g2⟩, g3, g4, g5⟩ := hg; clear hb6)
      | (go_at_call 35; refine (HAW.out _ (HL.out.below hbx)).mono ?_; rintro r W6 ⟨rfl, hb6⟩; have hbx := hbx.seq hb6; have hbe := hbe.seq hb6; have hg := HK.out W6 hbe; obtain ⟨⟨g0, g1, g2⟩, g3, g4, g5⟩ := hg; clear hb6)))
  all_goals
    go_wp2
    go_ret
    exact ⟨rfl, hbx⟩
end Go.Proofs.YtdgcgogeidnmoaaGreatDoor
