/- The walk of palaverlaw09.EvalNumbers. Conditions: the tables hold what they are laid with; both numbers are an int64's. -/
import Derived.Test.YtdgcgogeidnmoaaGreatDoorE15
import Derived.Test.YtdgcgogeidnmoaaGreatDoorR1
import Derived.Deep.RegionHeld3
set_option linter.unusedSimpArgs false
set_option linter.unusedVariables false
set_option linter.unusedSectionVars false
namespace Go.Proofs.YtdgcgogeidnmoaaGreatDoor
open Go.RowKit Pal
/-- What two comes to, as the law's walk takes it. -/
def TwoAt (op : Int) (a b k n : Int) : Prop := ∀ w, Lay (gh w) → Calls Tryz.prog 41 #[.int .i64 op, .int .i64 a, .int .i64 b] w (fun e w' => e = .returned (.agg #[.int .i64 k, .int .i64 n, .string ⟨#[]⟩]) ∧ Below w.heap.size w w')
def TruthAt (b : Bool) (n : Int) : Prop := ∀ w, Calls Tryz.prog 42 #[.bool b] w (fun e w' => e = .returned (.agg #[.int .i64 2, .int .i64 n, .string ⟨#[]⟩]) ∧ Below w.heap.size w w')
set_option maxRecDepth 1000000 in
set_option maxHeartbeats 8000000 in
theorem num_b0 (a b S D : Int) (w : World) (hL : Lay (gh w)) (hS : a + b = S) (hSw : wrap64 S = S) (C8s : Hid (TwoAt 8 S b 1 a)) (hD : a - b = D) (hDw : wrap64 D = D) (r0 : (b == 0) = true)
    (C7 : Hid (TwoAt 7 a b 1 (S))) (C8 : Hid (TwoAt 8 a b 1 (D))) (C10 : Hid (TwoAt 10 a b 4 (2))) (C11 : Hid (TwoAt 11 a b 4 (2))) :
    Calls Tryz.prog 11 #[.int .i64 a, .int .i64 b] w (yesPost w) := by
  have HAW := Lib.hid (fun w hL => awake9 w hL)
  have HL := Lib.hid hL
  clear hL
  unfold TwoAt at *
  go_enter Tryz.func11, Tryz.ntmps11
  go_wp2_with fail
  refine (C7.out _ HL.out).mono ?_
  rintro r W1 ⟨rfl, hb1⟩
  have hbA := hb1.alloc hb1.size (.cells #[.int .i64 1, .int .i64 (S), .string ⟨#[]⟩] 47)
  have hzA := heap_alloc_new W1 (.cells #[.int .i64 1, .int .i64 (S), .string ⟨#[]⟩] 47)
  have hsA : W1.heap.size < (W1.alloc (.cells #[.int .i64 1, .int .i64 (S), .string ⟨#[]⟩] 47)).heap.size := by simp
  clear hb1
  go_wp2_with fail
  refine (C8.out _ (HL.out.below hbA)).mono ?_
  generalize W1.alloc (.cells #[.int .i64 1, .int .i64 (S), .string ⟨#[]⟩] 47) = WA at *
  rintro r W2 ⟨rfl, hb2⟩
  have hbB := (hbA.seq hb2).alloc (hbA.seq hb2).size (.cells #[.int .i64 1, .int .i64 (D), .string ⟨#[]⟩] 47)
  have hbn := hb2.alloc hb2.size (.cells #[.int .i64 1, .int .i64 (D), .string ⟨#[]⟩] 47)
  have hzB := heap_alloc_new W2 (.cells #[.int .i64 1, .int .i64 (D), .string ⟨#[]⟩] 47)
  have hsB : W2.heap.size < (W2.alloc (.cells #[.int .i64 1, .int .i64 (D), .string ⟨#[]⟩] 47)).heap.size := by simp
  have hyA := (hbn.block _ hsA).trans hzA
  have hs1 : W1.heap.size < (W2.alloc (.cells #[.int .i64 1, .int .i64 (D), .string ⟨#[]⟩] 47)).heap.size := by have := hb2.size; simp; omega
  clear hb2 hbA hzA hsA
  go_upto_region 3 with fail
  generalize W2.alloc (.cells #[.int .i64 1, .int .i64 (D), .string ⟨#[]⟩] 47) = WB at *
  obtain ⟨⟨x0, x1, x2⟩, -⟩ := three_all hyA
  obtain ⟨⟨y0, y1, y2⟩, -⟩ := three_all hzB
  have HZA := Lib.hid hyA
  have HZB := Lib.hid hzB
  have HS1 := Lib.hid hs1
  have HS2 := Lib.hid hsB
  have HBB := Lib.hid hbB
  clear hyA hzB hs1 hsB hbB hbn
  go_wp2_with fail
  refine (C8s.out _ (HL.out.below HBB.out)).mono ?_
  rintro r W3 ⟨rfl, hb3⟩
  have HBC := Lib.hid (HBB.out.seq hb3)
  obtain ⟨⟨y0', y1', y2'⟩, -⟩ := three_all ((hb3.block _ HS2.out).trans HZB.out)
  obtain ⟨⟨x0', x1', x2'⟩, -⟩ := three_all ((hb3.block _ HS1.out).trans HZA.out)
  clear x0 x1 x2 y0 y1 y2 hb3
  -- the quotient and the rest
  go_wp2_with fail
  refine (C10.out _ (HL.out.below HBC.out)).mono ?_
  rintro r W4 ⟨rfl, hb4⟩
  have hbD := (HBC.out.seq hb4).alloc (HBC.out.seq hb4).size (.cells #[.int .i64 4, .int .i64 (2), .string ⟨#[]⟩] 47)
  have hzD := heap_alloc_new W4 (.cells #[.int .i64 4, .int .i64 (2), .string ⟨#[]⟩] 47)
  have hsD : W4.heap.size < (W4.alloc (.cells #[.int .i64 4, .int .i64 (2), .string ⟨#[]⟩] 47)).heap.size := by simp
  clear hb4
  go_wp2_with fail
  refine (C11.out _ (HL.out.below hbD)).mono ?_
  generalize W4.alloc (.cells #[.int .i64 4, .int .i64 (2), .string ⟨#[]⟩] 47) = WD at *
  rintro r W5 ⟨rfl, hb5⟩
  have hbE := (hbD.seq hb5).alloc (hbD.seq hb5).size (.cells #[.int .i64 4, .int .i64 (2), .string ⟨#[]⟩] 47)
  have hbm := hb5.alloc hb5.size (.cells #[.int .i64 4, .int .i64 (2), .string ⟨#[]⟩] 47)
  have hzE := heap_alloc_new W5 (.cells #[.int .i64 4, .int .i64 (2), .string ⟨#[]⟩] 47)
  have hyD := (hbm.block _ hsD).trans hzD
  have hs4 : W4.heap.size < (W5.alloc (.cells #[.int .i64 4, .int .i64 (2), .string ⟨#[]⟩] 47)).heap.size := by have := hb5.size; simp; omega
  have hs5 : W5.heap.size < (W5.alloc (.cells #[.int .i64 4, .int .i64 (2), .string ⟨#[]⟩] 47)).heap.size := by simp
  clear hb5 hbD hzD hsD hbm
  go_upto_region 12 with fail
  generalize W5.alloc (.cells #[.int .i64 4, .int .i64 (2), .string ⟨#[]⟩] 47) = WE at *
  obtain ⟨⟨u0, u1, u2⟩, -⟩ := three_all hyD
  obtain ⟨⟨v0, v1, v2⟩, -⟩ := three_all hzE
  have HYD := Lib.hid hyD
  have HZE := Lib.hid hzE
  have HS4 := Lib.hid hs4
  have HS5 := Lib.hid hs5
  have HBE := Lib.hid hbE
  clear hyD hzE hs4 hs5 hbE
  go_wp2_with fail
  refine (HAW.out _ (HL.out.below HBE.out)).mono ?_
  rintro r W6 ⟨rfl, hb6⟩
  have hb7 := HBE.out.seq hb6
  go_wp2
  go_ret
  exact ⟨rfl, hb7⟩
set_option maxRecDepth 1000000 in
set_option maxHeartbeats 8000000 in
theorem num_min (a b D : Int) (w : World) (hL : Lay (gh w)) (p1 : decide (a < 0) = true) (p2 : decide (b < 0) = true) (hD : a - b = D) (hDw : wrap64 D = D) (r0 : (b == 0) = false) (r1 : (a == -9223372036854775808) = true) (r2 : (b == -1) = true)
    (C7 : Hid (TwoAt 7 a b 4 (1))) (C8 : Hid (TwoAt 8 a b 1 (D))) (C10 : Hid (TwoAt 10 a b 4 (1))) (C11 : Hid (TwoAt 11 a b 1 (0))) :
    Calls Tryz.prog 11 #[.int .i64 a, .int .i64 b] w (yesPost w) := by
  have HAW := Lib.hid (fun w hL => awake9 w hL)
  have HL := Lib.hid hL
  clear hL
  unfold TwoAt at *
  go_enter Tryz.func11, Tryz.ntmps11
  go_wp2_with fail
  refine (C7.out _ HL.out).mono ?_
  rintro r W1 ⟨rfl, hb1⟩
  have hbA := hb1.alloc hb1.size (.cells #[.int .i64 4, .int .i64 (1), .string ⟨#[]⟩] 47)
  have hzA := heap_alloc_new W1 (.cells #[.int .i64 4, .int .i64 (1), .string ⟨#[]⟩] 47)
  have hsA : W1.heap.size < (W1.alloc (.cells #[.int .i64 4, .int .i64 (1), .string ⟨#[]⟩] 47)).heap.size := by simp
  clear hb1
  go_wp2_with fail
  refine (C8.out _ (HL.out.below hbA)).mono ?_
  generalize W1.alloc (.cells #[.int .i64 4, .int .i64 (1), .string ⟨#[]⟩] 47) = WA at *
  rintro r W2 ⟨rfl, hb2⟩
  have hbB := (hbA.seq hb2).alloc (hbA.seq hb2).size (.cells #[.int .i64 1, .int .i64 (D), .string ⟨#[]⟩] 47)
  have hbn := hb2.alloc hb2.size (.cells #[.int .i64 1, .int .i64 (D), .string ⟨#[]⟩] 47)
  have hzB := heap_alloc_new W2 (.cells #[.int .i64 1, .int .i64 (D), .string ⟨#[]⟩] 47)
  have hsB : W2.heap.size < (W2.alloc (.cells #[.int .i64 1, .int .i64 (D), .string ⟨#[]⟩] 47)).heap.size := by simp
  have hyA := (hbn.block _ hsA).trans hzA
  have hs1 : W1.heap.size < (W2.alloc (.cells #[.int .i64 1, .int .i64 (D), .string ⟨#[]⟩] 47)).heap.size := by have := hb2.size; simp; omega
  clear hb2 hbA hzA hsA
  go_upto_region 3 with fail
  generalize W2.alloc (.cells #[.int .i64 1, .int .i64 (D), .string ⟨#[]⟩] 47) = WB at *
  obtain ⟨⟨x0, x1, x2⟩, -⟩ := three_all hyA
  obtain ⟨⟨y0, y1, y2⟩, -⟩ := three_all hzB
  have HZA := Lib.hid hyA
  have HZB := Lib.hid hzB
  have HS1 := Lib.hid hs1
  have HS2 := Lib.hid hsB
  have HBB := Lib.hid hbB
  clear hyA hzB hs1 hsB hbB hbn
  have HBC := HBB
  -- the quotient and the rest
  go_wp2_with fail
  refine (C10.out _ (HL.out.below HBC.out)).mono ?_
  rintro r W4 ⟨rfl, hb4⟩
  have hbD := (HBC.out.seq hb4).alloc (HBC.out.seq hb4).size (.cells #[.int .i64 4, .int .i64 (1), .string ⟨#[]⟩] 47)
  have hzD := heap_alloc_new W4 (.cells #[.int .i64 4, .int .i64 (1), .string ⟨#[]⟩] 47)
  have hsD : W4.heap.size < (W4.alloc (.cells #[.int .i64 4, .int .i64 (1), .string ⟨#[]⟩] 47)).heap.size := by simp
  clear hb4
  go_wp2_with fail
  refine (C11.out _ (HL.out.below hbD)).mono ?_
  generalize W4.alloc (.cells #[.int .i64 4, .int .i64 (1), .string ⟨#[]⟩] 47) = WD at *
  rintro r W5 ⟨rfl, hb5⟩
  have hbE := (hbD.seq hb5).alloc (hbD.seq hb5).size (.cells #[.int .i64 1, .int .i64 (0), .string ⟨#[]⟩] 47)
  have hbm := hb5.alloc hb5.size (.cells #[.int .i64 1, .int .i64 (0), .string ⟨#[]⟩] 47)
  have hzE := heap_alloc_new W5 (.cells #[.int .i64 1, .int .i64 (0), .string ⟨#[]⟩] 47)
  have hyD := (hbm.block _ hsD).trans hzD
  have hs4 : W4.heap.size < (W5.alloc (.cells #[.int .i64 1, .int .i64 (0), .string ⟨#[]⟩] 47)).heap.size := by have := hb5.size; simp; omega
  have hs5 : W5.heap.size < (W5.alloc (.cells #[.int .i64 1, .int .i64 (0), .string ⟨#[]⟩] 47)).heap.size := by simp
  clear hb5 hbD hzD hsD hbm
  go_upto_region 12 with fail
  generalize W5.alloc (.cells #[.int .i64 1, .int .i64 (0), .string ⟨#[]⟩] 47) = WE at *
  obtain ⟨⟨u0, u1, u2⟩, -⟩ := three_all hyD
  obtain ⟨⟨v0, v1, v2⟩, -⟩ := three_all hzE
  have HYD := Lib.hid hyD
  have HZE := Lib.hid hzE
  have HS4 := Lib.hid hs4
  have HS5 := Lib.hid hs5
  have HBE := Lib.hid hbE
  clear hyD hzE hs4 hs5 hbE
  go_wp2_with fail
  refine (HAW.out _ (HL.out.below HBE.out)).mono ?_
  rintro r W6 ⟨rfl, hb6⟩
  have hb7 := HBE.out.seq hb6
  go_wp2
  go_ret
  exact ⟨rfl, hb7⟩
end Go.Proofs.YtdgcgogeidnmoaaGreatDoor
