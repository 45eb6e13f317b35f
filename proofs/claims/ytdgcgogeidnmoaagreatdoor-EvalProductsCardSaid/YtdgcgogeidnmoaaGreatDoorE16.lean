/- The walk of palaverlaw09.EvalProducts. Conditions: the tables hold what they are laid with; both numbers are an int64's. -/
import Derived.Test.YtdgcgogeidnmoaaGreatDoorE15
import Derived.Test.YtdgcgogeidnmoaaGreatDoorR1
import Derived.Deep.RegionHeld3
set_option linter.unusedSimpArgs false
set_option linter.unusedVariables false
set_option linter.unusedSectionVars false
namespace Go.Proofs.YtdgcgogeidnmoaaGreatDoor
open Go.RowKit Pal
set_option maxRecDepth 1000000 in
set_option maxHeartbeats 8000000 in
theorem prod_r1 (a b X : Int) (w : World) (hL : Lay (gh w)) (hX : a * b = X) (hY : wrap64 X = X) (q1 : (a == 0) = true)
    (C1 : Hid (∀ w, Lay (gh w) → Calls Tryz.prog 41 #[.int .i64 9, .int .i64 a, .int .i64 b] w (fun e w' => e = .returned (.agg #[.int .i64 1, .int .i64 (X), .string ⟨#[]⟩]) ∧ Below w.heap.size w w')))
    (C2 : Hid (∀ w, Lay (gh w) → Calls Tryz.prog 41 #[.int .i64 9, .int .i64 b, .int .i64 a] w (fun e w' => e = .returned (.agg #[.int .i64 1, .int .i64 (X), .string ⟨#[]⟩]) ∧ Below w.heap.size w w'))) :
    Calls Tryz.prog 12 #[.int .i64 a, .int .i64 b] w (yesPost w) := by
  have HAW := Lib.hid (fun w hL => awake9 w hL)
  have HL := Lib.hid hL
  clear hL
  go_enter Tryz.func12, Tryz.ntmps12
  go_wp2_with fail
  refine (C1.out _ HL.out).mono ?_
  rintro r W1 ⟨rfl, hb1⟩
  have hbA := hb1.alloc hb1.size (.cells #[.int .i64 1, .int .i64 (X), .string ⟨#[]⟩] 47)
  have hzA := heap_alloc_new W1 (.cells #[.int .i64 1, .int .i64 (X), .string ⟨#[]⟩] 47)
  have hsA : W1.heap.size < (W1.alloc (.cells #[.int .i64 1, .int .i64 (X), .string ⟨#[]⟩] 47)).heap.size := by simp
  clear hb1
  go_upto_region 2 with fail
  generalize W1.alloc (.cells #[.int .i64 1, .int .i64 (X), .string ⟨#[]⟩] 47) = WA at *
  obtain ⟨⟨c0, c1, c2⟩, -⟩ := three_all hzA
  have HBA := Lib.hid hbA
  have hk : ∀ W, Below WA.heap.size WA W → W.cell? ⟨W1.heap.size, 0, none⟩ = some (.int .i64 1) ∧ W.cell? ⟨W1.heap.size, 1, none⟩ = some (.int .i64 (X)) ∧ W.cell? ⟨W1.heap.size, 2, none⟩ = some (.string ⟨#[]⟩) := fun W hb => (three_all ((hb.block _ hsA).trans hzA)).1
  have HK := Lib.hid hk
  clear hbA hzA hsA hk
  go_region_held3 (fun w' => (w'.cell? ⟨W1.heap.size, 0, none⟩ = some (.int .i64 1) ∧ w'.cell? ⟨W1.heap.size, 1, none⟩ = some (.int .i64 (X)) ∧ w'.cell? ⟨W1.heap.size, 2, none⟩ = some (.string ⟨#[]⟩))) (go_keep)
    ((go_at_call 41; refine (C2.out _ (HL.out.below HBA.out.drew)).mono ?_; rintro r W2 ⟨rfl, hb2⟩; have hb3 := (Below.refl WA.heap.size WA).drew.seq hb2; have hg := HK.out W2 hb3; obtain ⟨g0, g1, g2⟩ := hg; clear hb2))
  all_goals
    have hb4 := HBA.out.seq hb3
    clear c0 c1 c2 hb3
    go_wp2_with fail
    refine (HAW.out _ (HL.out.below hb4)).mono ?_
    rintro r W3 ⟨rfl, hb5⟩
    have hb6 := hb4.seq hb5
    go_wp2
    go_ret
    exact ⟨rfl, hb6⟩
set_option maxRecDepth 1000000 in
set_option maxHeartbeats 8000000 in
theorem prod_r2 (a b X : Int) (w : World) (hL : Lay (gh w)) (hX : a * b = X) (hY : wrap64 X = X) (q1 : (a == 0) = false)(q2 : (b == 0) = true)
    (C1 : Hid (∀ w, Lay (gh w) → Calls Tryz.prog 41 #[.int .i64 9, .int .i64 a, .int .i64 b] w (fun e w' => e = .returned (.agg #[.int .i64 1, .int .i64 (X), .string ⟨#[]⟩]) ∧ Below w.heap.size w w')))
    (C2 : Hid (∀ w, Lay (gh w) → Calls Tryz.prog 41 #[.int .i64 9, .int .i64 b, .int .i64 a] w (fun e w' => e = .returned (.agg #[.int .i64 1, .int .i64 (X), .string ⟨#[]⟩]) ∧ Below w.heap.size w w'))) :
    Calls Tryz.prog 12 #[.int .i64 a, .int .i64 b] w (yesPost w) := by
  have HAW := Lib.hid (fun w hL => awake9 w hL)
  have HL := Lib.hid hL
  clear hL
  go_enter Tryz.func12, Tryz.ntmps12
  go_wp2_with fail
  refine (C1.out _ HL.out).mono ?_
  rintro r W1 ⟨rfl, hb1⟩
  have hbA := hb1.alloc hb1.size (.cells #[.int .i64 1, .int .i64 (X), .string ⟨#[]⟩] 47)
  have hzA := heap_alloc_new W1 (.cells #[.int .i64 1, .int .i64 (X), .string ⟨#[]⟩] 47)
  have hsA : W1.heap.size < (W1.alloc (.cells #[.int .i64 1, .int .i64 (X), .string ⟨#[]⟩] 47)).heap.size := by simp
  clear hb1
  go_upto_region 2 with fail
  generalize W1.alloc (.cells #[.int .i64 1, .int .i64 (X), .string ⟨#[]⟩] 47) = WA at *
  obtain ⟨⟨c0, c1, c2⟩, -⟩ := three_all hzA
  have HBA := Lib.hid hbA
  have hk : ∀ W, Below WA.heap.size WA W → W.cell? ⟨W1.heap.size, 0, none⟩ = some (.int .i64 1) ∧ W.cell? ⟨W1.heap.size, 1, none⟩ = some (.int .i64 (X)) ∧ W.cell? ⟨W1.heap.size, 2, none⟩ = some (.string ⟨#[]⟩) := fun W hb => (three_all ((hb.block _ hsA).trans hzA)).1
  have HK := Lib.hid hk
  clear hbA hzA hsA hk
  go_region_held3 (fun w' => (w'.cell? ⟨W1.heap.size, 0, none⟩ = some (.int .i64 1) ∧ w'.cell? ⟨W1.heap.size, 1, none⟩ = some (.int .i64 (X)) ∧ w'.cell? ⟨W1.heap.size, 2, none⟩ = some (.string ⟨#[]⟩))) (go_keep)
    ((go_at_call 41; refine (C2.out _ (HL.out.below HBA.out.drew)).mono ?_; rintro r W2 ⟨rfl, hb2⟩; have hb3 := (Below.refl WA.heap.size WA).drew.seq hb2; have hg := HK.out W2 hb3; obtain ⟨g0, g1, g2⟩ := hg; clear hb2))
  all_goals
    have hb4 := HBA.out.seq hb3
    clear c0 c1 c2 hb3
    go_wp2_with fail
    refine (HAW.out _ (HL.out.below hb4)).mono ?_
    rintro r W3 ⟨rfl, hb5⟩
    have hb6 := hb4.seq hb5
    go_wp2
    go_ret
    exact ⟨rfl, hb6⟩
set_option maxRecDepth 1000000 in
set_option maxHeartbeats 8000000 in
theorem prod_r3 (a b X : Int) (w : World) (hL : Lay (gh w)) (hX : a * b = X) (hY : wrap64 X = X) (h0 : ¬ b = 0) (hZ : (wrap64 (X.tdiv b) == a) = true) (q1 : (a == 0) = false)(q2 : (b == 0) = false)(q3 : (a == -1) = false)(q4 : (b == -1) = false)
    (C1 : Hid (∀ w, Lay (gh w) → Calls Tryz.prog 41 #[.int .i64 9, .int .i64 a, .int .i64 b] w (fun e w' => e = .returned (.agg #[.int .i64 1, .int .i64 (X), .string ⟨#[]⟩]) ∧ Below w.heap.size w w')))
    (C2 : Hid (∀ w, Lay (gh w) → Calls Tryz.prog 41 #[.int .i64 9, .int .i64 b, .int .i64 a] w (fun e w' => e = .returned (.agg #[.int .i64 1, .int .i64 (X), .string ⟨#[]⟩]) ∧ Below w.heap.size w w'))) :
    Calls Tryz.prog 12 #[.int .i64 a, .int .i64 b] w (yesPost w) := by
  have HAW := Lib.hid (fun w hL => awake9 w hL)
  have HL := Lib.hid hL
  clear hL
  go_enter Tryz.func12, Tryz.ntmps12
  go_wp2_with fail
  refine (C1.out _ HL.out).mono ?_
  rintro r W1 ⟨rfl, hb1⟩
  have hbA := hb1.alloc hb1.size (.cells #[.int .i64 1, .int .i64 (X), .string ⟨#[]⟩] 47)
  have hzA := heap_alloc_new W1 (.cells #[.int .i64 1, .int .i64 (X), .string ⟨#[]⟩] 47)
  have hsA : W1.heap.size < (W1.alloc (.cells #[.int .i64 1, .int .i64 (X), .string ⟨#[]⟩] 47)).heap.size := by simp
  clear hb1
  go_upto_region 2 with fail
  generalize W1.alloc (.cells #[.int .i64 1, .int .i64 (X), .string ⟨#[]⟩] 47) = WA at *
  obtain ⟨⟨c0, c1, c2⟩, -⟩ := three_all hzA
  have HBA := Lib.hid hbA
  have hk : ∀ W, Below WA.heap.size WA W → W.cell? ⟨W1.heap.size, 0, none⟩ = some (.int .i64 1) ∧ W.cell? ⟨W1.heap.size, 1, none⟩ = some (.int .i64 (X)) ∧ W.cell? ⟨W1.heap.size, 2, none⟩ = some (.string ⟨#[]⟩) := fun W hb => (three_all ((hb.block _ hsA).trans hzA)).1
  have HK := Lib.hid hk
  clear hbA hzA hsA hk
  go_region_held3 (fun w' => (w'.cell? ⟨W1.heap.size, 0, none⟩ = some (.int .i64 1) ∧ w'.cell? ⟨W1.heap.size, 1, none⟩ = some (.int .i64 (X)) ∧ w'.cell? ⟨W1.heap.size, 2, none⟩ = some (.string ⟨#[]⟩))) (go_keep)
    ((go_at_call 41; refine (C2.out _ (HL.out.below HBA.out.drew)).mono ?_; rintro r W2 ⟨rfl, hb2⟩; have hb3 := (Below.refl WA.heap.size WA).drew.seq hb2; have hg := HK.out W2 hb3; obtain ⟨g0, g1, g2⟩ := hg; clear hb2))
  all_goals
    have hb4 := HBA.out.seq hb3
    clear c0 c1 c2 hb3
    go_wp2_with fail
    refine (HAW.out _ (HL.out.below hb4)).mono ?_
    rintro r W3 ⟨rfl, hb5⟩
    have hb6 := hb4.seq hb5
    go_wp2
    go_ret
    exact ⟨rfl, hb6⟩
set_option maxRecDepth 1000000 in
set_option maxHeartbeats 8000000 in
theorem prod_n3 (a b X : Int) (w : World) (hL : Lay (gh w)) (hX : a * b = X) (Y : Int) (hY : wrap64 X = Y) (h0 : ¬ b = 0) (hZ : (wrap64 (Y.tdiv b) == a) = false) (q1 : (a == 0) = false)(q2 : (b == 0) = false)(q3 : (a == -1) = false)(q4 : (b == -1) = false)
    (C1 : Hid (∀ w, Lay (gh w) → Calls Tryz.prog 41 #[.int .i64 9, .int .i64 a, .int .i64 b] w (fun e w' => e = .returned (.agg #[.int .i64 4, .int .i64 (1), .string ⟨#[]⟩]) ∧ Below w.heap.size w w')))
    (C2 : Hid (∀ w, Lay (gh w) → Calls Tryz.prog 41 #[.int .i64 9, .int .i64 b, .int .i64 a] w (fun e w' => e = .returned (.agg #[.int .i64 4, .int .i64 (1), .string ⟨#[]⟩]) ∧ Below w.heap.size w w'))) :
    Calls Tryz.prog 12 #[.int .i64 a, .int .i64 b] w (yesPost w) := by
  have HAW := Lib.hid (fun w hL => awake9 w hL)
  have HL := Lib.hid hL
  clear hL
  go_enter Tryz.func12, Tryz.ntmps12
  go_wp2_with fail
  refine (C1.out _ HL.out).mono ?_
  rintro r W1 ⟨rfl, hb1⟩
  have hbA := hb1.alloc hb1.size (.cells #[.int .i64 4, .int .i64 (1), .string ⟨#[]⟩] 47)
  have hzA := heap_alloc_new W1 (.cells #[.int .i64 4, .int .i64 (1), .string ⟨#[]⟩] 47)
  have hsA : W1.heap.size < (W1.alloc (.cells #[.int .i64 4, .int .i64 (1), .string ⟨#[]⟩] 47)).heap.size := by simp
  clear hb1
  go_upto_region 2 with fail
  generalize W1.alloc (.cells #[.int .i64 4, .int .i64 (1), .string ⟨#[]⟩] 47) = WA at *
  obtain ⟨⟨c0, c1, c2⟩, -⟩ := three_all hzA
  have HBA := Lib.hid hbA
  have hk : ∀ W, Below WA.heap.size WA W → W.cell? ⟨W1.heap.size, 0, none⟩ = some (.int .i64 4) ∧ W.cell? ⟨W1.heap.size, 1, none⟩ = some (.int .i64 (1)) ∧ W.cell? ⟨W1.heap.size, 2, none⟩ = some (.string ⟨#[]⟩) := fun W hb => (three_all ((hb.block _ hsA).trans hzA)).1
  have HK := Lib.hid hk
  clear hbA hzA hsA hk
  go_region_held3 (fun w' => (w'.cell? ⟨W1.heap.size, 0, none⟩ = some (.int .i64 4) ∧ w'.cell? ⟨W1.heap.size, 1, none⟩ = some (.int .i64 (1)) ∧ w'.cell? ⟨W1.heap.size, 2, none⟩ = some (.string ⟨#[]⟩))) (go_keep)
    ((go_at_call 41; refine (C2.out _ (HL.out.below HBA.out.drew)).mono ?_; rintro r W2 ⟨rfl, hb2⟩; have hb3 := (Below.refl WA.heap.size WA).drew.seq hb2; have hg := HK.out W2 hb3; obtain ⟨g0, g1, g2⟩ := hg; clear hb2))
  all_goals
    have hb4 := HBA.out.seq hb3
    clear c0 c1 c2 hb3
    go_wp2_with fail
    refine (HAW.out _ (HL.out.below hb4)).mono ?_
    rintro r W3 ⟨rfl, hb5⟩
    have hb6 := hb4.seq hb5
    go_wp2
    go_ret
    exact ⟨rfl, hb6⟩
set_option maxRecDepth 1000000 in
set_option maxHeartbeats 8000000 in
theorem prod_r4 (a b X : Int) (w : World) (hL : Lay (gh w)) (hX : a * b = X) (hY : wrap64 X = X) (h0 : ¬ b = 0) (hZ : (wrap64 (X.tdiv b) == a) = true) (q1 : (a == 0) = false)(q2 : (b == 0) = false)(q3 : (a == -1) = true)(q4 : (b == -9223372036854775808) = false)(q5 : (b == -1) = false)
    (C1 : Hid (∀ w, Lay (gh w) → Calls Tryz.prog 41 #[.int .i64 9, .int .i64 a, .int .i64 b] w (fun e w' => e = .returned (.agg #[.int .i64 1, .int .i64 (X), .string ⟨#[]⟩]) ∧ Below w.heap.size w w')))
    (C2 : Hid (∀ w, Lay (gh w) → Calls Tryz.prog 41 #[.int .i64 9, .int .i64 b, .int .i64 a] w (fun e w' => e = .returned (.agg #[.int .i64 1, .int .i64 (X), .string ⟨#[]⟩]) ∧ Below w.heap.size w w'))) :
    Calls Tryz.prog 12 #[.int .i64 a, .int .i64 b] w (yesPost w) := by
  have HAW := Lib.hid (fun w hL => awake9 w hL)
  have HL := Lib.hid hL
  clear hL
  go_enter Tryz.func12, Tryz.ntmps12
  go_wp2_with fail
  refine (C1.out _ HL.out).mono ?_
  rintro r W1 ⟨rfl, hb1⟩
  have hbA := hb1.alloc hb1.size (.cells #[.int .i64 1, .int .i64 (X), .string ⟨#[]⟩] 47)
  have hzA := heap_alloc_new W1 (.cells #[.int .i64 1, .int .i64 (X), .string ⟨#[]⟩] 47)
  have hsA : W1.heap.size < (W1.alloc (.cells #[.int .i64 1, .int .i64 (X), .string ⟨#[]⟩] 47)).heap.size := by simp
  clear hb1
  go_upto_region 2 with fail
  generalize W1.alloc (.cells #[.int .i64 1, .int .i64 (X), .string ⟨#[]⟩] 47) = WA at *
  obtain ⟨⟨c0, c1, c2⟩, -⟩ := three_all hzA
  have HBA := Lib.hid hbA
  have hk : ∀ W, Below WA.heap.size WA W → W.cell? ⟨W1.heap.size, 0, none⟩ = some (.int .i64 1) ∧ W.cell? ⟨W1.heap.size, 1, none⟩ = some (.int .i64 (X)) ∧ W.cell? ⟨W1.heap.size, 2, none⟩ = some (.string ⟨#[]⟩) := fun W hb => (three_all ((hb.block _ hsA).trans hzA)).1
  have HK := Lib.hid hk
  clear hbA hzA hsA hk
  go_region_held3 (fun w' => (w'.cell? ⟨W1.heap.size, 0, none⟩ = some (.int .i64 1) ∧ w'.cell? ⟨W1.heap.size, 1, none⟩ = some (.int .i64 (X)) ∧ w'.cell? ⟨W1.heap.size, 2, none⟩ = some (.string ⟨#[]⟩))) (go_keep)
    ((go_at_call 41; refine (C2.out _ (HL.out.below HBA.out.drew)).mono ?_; rintro r W2 ⟨rfl, hb2⟩; have hb3 := (Below.refl WA.heap.size WA).drew.seq hb2; have hg := HK.out W2 hb3; obtain ⟨g0, g1, g2⟩ := hg; clear hb2))
  all_goals
    have hb4 := HBA.out.seq hb3
    clear c0 c1 c2 hb3
    go_wp2_with fail
    refine (HAW.out _ (HL.out.below hb4)).mono ?_
    rintro r W3 ⟨rfl, hb5⟩
    have hb6 := hb4.seq hb5
    go_wp2
    go_ret
    exact ⟨rfl, hb6⟩
set_option maxRecDepth 1000000 in
set_option maxHeartbeats 8000000 in
theorem prod_r5 (a b X : Int) (w : World) (hL : Lay (gh w)) (hX : a * b = X) (hY : wrap64 X = X) (h0 : ¬ b = 0) (hZ : (wrap64 (X.tdiv b) == a) = true) (q1 : (a == 0) = false)(q2 : (b == 0) = false)(q3 : (a == -1) = true)(q4 : (b == -9223372036854775808) = false)(q5 : (b == -1) = true)(q6 : (a == -9223372036854775808) = false)
    (C1 : Hid (∀ w, Lay (gh w) → Calls Tryz.prog 41 #[.int .i64 9, .int .i64 a, .int .i64 b] w (fun e w' => e = .returned (.agg #[.int .i64 1, .int .i64 (X), .string ⟨#[]⟩]) ∧ Below w.heap.size w w')))
    (C2 : Hid (∀ w, Lay (gh w) → Calls Tryz.prog 41 #[.int .i64 9, .int .i64 b, .int .i64 a] w (fun e w' => e = .returned (.agg #[.int .i64 1, .int .i64 (X), .string ⟨#[]⟩]) ∧ Below w.heap.size w w'))) :
    Calls Tryz.prog 12 #[.int .i64 a, .int .i64 b] w (yesPost w) := by
  have HAW := Lib.hid (fun w hL => awake9 w hL)
  have HL := Lib.hid hL
  clear hL
  go_enter Tryz.func12, Tryz.ntmps12
  go_wp2_with fail
  refine (C1.out _ HL.out).mono ?_
  rintro r W1 ⟨rfl, hb1⟩
  have hbA := hb1.alloc hb1.size (.cells #[.int .i64 1, .int .i64 (X), .string ⟨#[]⟩] 47)
  have hzA := heap_alloc_new W1 (.cells #[.int .i64 1, .int .i64 (X), .string ⟨#[]⟩] 47)
  have hsA : W1.heap.size < (W1.alloc (.cells #[.int .i64 1, .int .i64 (X), .string ⟨#[]⟩] 47)).heap.size := by simp
  clear hb1
  go_upto_region 2 with fail
  generalize W1.alloc (.cells #[.int .i64 1, .int .i64 (X), .string ⟨#[]⟩] 47) = WA at *
  obtain ⟨⟨c0, c1, c2⟩, -⟩ := three_all hzA
  have HBA := Lib.hid hbA
  have hk : ∀ W, Below WA.heap.size WA W → W.cell? ⟨W1.heap.size, 0, none⟩ = some (.int .i64 1) ∧ W.cell? ⟨W1.heap.size, 1, none⟩ = some (.int .i64 (X)) ∧ W.cell? ⟨W1.heap.size, 2, none⟩ = some (.string ⟨#[]⟩) := fun W hb => (three_all ((hb.block _ hsA).trans hzA)).1
  have HK := Lib.hid hk
  clear hbA hzA hsA hk
  go_region_held3 (fun w' => (w'.cell? ⟨W1.heap.size, 0, none⟩ = some (.int .i64 1) ∧ w'.cell? ⟨W1.heap.size, 1, none⟩ = some (.int .i64 (X)) ∧ w'.cell? ⟨W1.heap.size, 2, none⟩ = some (.string ⟨#[]⟩))) (go_keep)
    ((go_at_call 41; refine (C2.out _ (HL.out.below HBA.out.drew)).mono ?_; rintro r W2 ⟨rfl, hb2⟩; have hb3 := (Below.refl WA.heap.size WA).drew.seq hb2; have hg := HK.out W2 hb3; obtain ⟨g0, g1, g2⟩ := hg; clear hb2))
  all_goals
    have hb4 := HBA.out.seq hb3
    clear c0 c1 c2 hb3
    go_wp2_with fail
    refine (HAW.out _ (HL.out.below hb4)).mono ?_
    rintro r W3 ⟨rfl, hb5⟩
    have hb6 := hb4.seq hb5
    go_wp2
    go_ret
    exact ⟨rfl, hb6⟩
set_option maxRecDepth 1000000 in
set_option maxHeartbeats 8000000 in
theorem prod_r6 (a b X : Int) (w : World) (hL : Lay (gh w)) (hX : a * b = X) (hY : wrap64 X = X) (h0 : ¬ b = 0) (hZ : (wrap64 (X.tdiv b) == a) = true) (q1 : (a == 0) = false)(q2 : (b == 0) = false)(q3 : (a == -1) = false)(q4 : (b == -1) = true)(q5 : (a == -9223372036854775808) = false)
    (C1 : Hid (∀ w, Lay (gh w) → Calls Tryz.prog 41 #[.int .i64 9, .int .i64 a, .int .i64 b] w (fun e w' => e = .returned (.agg #[.int .i64 1, .int .i64 (X), .string ⟨#[]⟩]) ∧ Below w.heap.size w w')))
    (C2 : Hid (∀ w, Lay (gh w) → Calls Tryz.prog 41 #[.int .i64 9, .int .i64 b, .int .i64 a] w (fun e w' => e = .returned (.agg #[.int .i64 1, .int .i64 (X), .string ⟨#[]⟩]) ∧ Below w.heap.size w w'))) :
    Calls Tryz.prog 12 #[.int .i64 a, .int .i64 b] w (yesPost w) := by
  have HAW := Lib.hid (fun w hL => awake9 w hL)
  have HL := Lib.hid hL
  clear hL
  go_enter Tryz.func12, Tryz.ntmps12
  go_wp2_with fail
  refine (C1.out _ HL.out).mono ?_
  rintro r W1 ⟨rfl, hb1⟩
  have hbA := hb1.alloc hb1.size (.cells #[.int .i64 1, .int .i64 (X), .string ⟨#[]⟩] 47)
  have hzA := heap_alloc_new W1 (.cells #[.int .i64 1, .int .i64 (X), .string ⟨#[]⟩] 47)
  have hsA : W1.heap.size < (W1.alloc (.cells #[.int .i64 1, .int .i64 (X), .string ⟨#[]⟩] 47)).heap.size := by simp
  clear hb1
  go_upto_region 2 with fail
  generalize W1.alloc (.cells #[.int .i64 1, .int .i64 (X), .string ⟨#[]⟩] 47) = WA at *
  obtain ⟨⟨c0, c1, c2⟩, -⟩ := three_all hzA
  have HBA := Lib.hid hbA
  have hk : ∀ W, Below WA.heap.size WA W → W.cell? ⟨W1.heap.size, 0, none⟩ = some (.int .i64 1) ∧ W.cell? ⟨W1.heap.size, 1, none⟩ = some (.int .i64 (X)) ∧ W.cell? ⟨W1.heap.size, 2, none⟩ = some (.string ⟨#[]⟩) := fun W hb => (three_all ((hb.block _ hsA).trans hzA)).1
  have HK := Lib.hid hk
  clear hbA hzA hsA hk
  go_region_held3 (fun w' => (w'.cell? ⟨W1.heap.size, 0, none⟩ = some (.int .i64 1) ∧ w'.cell? ⟨W1.heap.size, 1, none⟩ = some (.int .i64 (X)) ∧ w'.cell? ⟨W1.heap.size, 2, none⟩ = some (.string ⟨#[]⟩))) (go_keep)
    ((go_at_call 41; refine (C2.out _ (HL.out.below HBA.out.drew)).mono ?_; rintro r W2 ⟨rfl, hb2⟩; have hb3 := (Below.refl WA.heap.size WA).drew.seq hb2; have hg := HK.out W2 hb3; obtain ⟨g0, g1, g2⟩ := hg; clear hb2))
  all_goals
    have hb4 := HBA.out.seq hb3
    clear c0 c1 c2 hb3
    go_wp2_with fail
    refine (HAW.out _ (HL.out.below hb4)).mono ?_
    rintro r W3 ⟨rfl, hb5⟩
    have hb6 := hb4.seq hb5
    go_wp2
    go_ret
    exact ⟨rfl, hb6⟩
set_option maxRecDepth 1000000 in
set_option maxHeartbeats 8000000 in
theorem prod_n1 (a b X : Int) (w : World) (hL : Lay (gh w)) (hX : a * b = X) (Y : Int) (hY : wrap64 X = Y) (h0 : ¬ b = 0) (hZ : (wrap64 (Y.tdiv b) == a) = false) (q1 : (a == 0) = false)(q2 : (b == 0) = false)(q3 : (a == -1) = true)(q4 : (b == -9223372036854775808) = true)
    (C1 : Hid (∀ w, Lay (gh w) → Calls Tryz.prog 41 #[.int .i64 9, .int .i64 a, .int .i64 b] w (fun e w' => e = .returned (.agg #[.int .i64 4, .int .i64 (1), .string ⟨#[]⟩]) ∧ Below w.heap.size w w')))
    (C2 : Hid (∀ w, Lay (gh w) → Calls Tryz.prog 41 #[.int .i64 9, .int .i64 b, .int .i64 a] w (fun e w' => e = .returned (.agg #[.int .i64 4, .int .i64 (1), .string ⟨#[]⟩]) ∧ Below w.heap.size w w'))) :
    Calls Tryz.prog 12 #[.int .i64 a, .int .i64 b] w (yesPost w) := by
  have HAW := Lib.hid (fun w hL => awake9 w hL)
  have HL := Lib.hid hL
  clear hL
  go_enter Tryz.func12, Tryz.ntmps12
  go_wp2_with fail
  refine (C1.out _ HL.out).mono ?_
  rintro r W1 ⟨rfl, hb1⟩
  have hbA := hb1.alloc hb1.size (.cells #[.int .i64 4, .int .i64 (1), .string ⟨#[]⟩] 47)
  have hzA := heap_alloc_new W1 (.cells #[.int .i64 4, .int .i64 (1), .string ⟨#[]⟩] 47)
  have hsA : W1.heap.size < (W1.alloc (.cells #[.int .i64 4, .int .i64 (1), .string ⟨#[]⟩] 47)).heap.size := by simp
  clear hb1
  go_upto_region 2 with fail
  generalize W1.alloc (.cells #[.int .i64 4, .int .i64 (1), .string ⟨#[]⟩] 47) = WA at *
  obtain ⟨⟨c0, c1, c2⟩, -⟩ := three_all hzA
  have HBA := Lib.hid hbA
  have hk : ∀ W, Below WA.heap.size WA W → W.cell? ⟨W1.heap.size, 0, none⟩ = some (.int .i64 4) ∧ W.cell? ⟨W1.heap.size, 1, none⟩ = some (.int .i64 (1)) ∧ W.cell? ⟨W1.heap.size, 2, none⟩ = some (.string ⟨#[]⟩) := fun W hb => (three_all ((hb.block _ hsA).trans hzA)).1
  have HK := Lib.hid hk
  clear hbA hzA hsA hk
  go_region_held3 (fun w' => (w'.cell? ⟨W1.heap.size, 0, none⟩ = some (.int .i64 4) ∧ w'.cell? ⟨W1.heap.size, 1, none⟩ = some (.int .i64 (1)) ∧ w'.cell? ⟨W1.heap.size, 2, none⟩ = some (.string ⟨#[]⟩))) (go_keep)
    ((go_at_call 41; refine (C2.out _ (HL.out.below HBA.out.drew)).mono ?_; rintro r W2 ⟨rfl, hb2⟩; have hb3 := (Below.refl WA.heap.size WA).drew.seq hb2; have hg := HK.out W2 hb3; obtain ⟨g0, g1, g2⟩ := hg; clear hb2))
  all_goals
    have hb4 := HBA.out.seq hb3
    clear c0 c1 c2 hb3
    go_wp2_with fail
    refine (HAW.out _ (HL.out.below hb4)).mono ?_
    rintro r W3 ⟨rfl, hb5⟩
    have hb6 := hb4.seq hb5
    go_wp2
    go_ret
    exact ⟨rfl, hb6⟩
set_option maxRecDepth 1000000 in
set_option maxHeartbeats 8000000 in
theorem prod_n2 (a b X : Int) (w : World) (hL : Lay (gh w)) (hX : a * b = X) (Y : Int) (hY : wrap64 X = Y) (h0 : ¬ b = 0) (q1 : (a == 0) = false)(q2 : (b == 0) = false)(q3 : (a == -1) = false)(q4 : (b == -1) = true)(q5 : (a == -9223372036854775808) = true)
    (C1 : Hid (∀ w, Lay (gh w) → Calls Tryz.prog 41 #[.int .i64 9, .int .i64 a, .int .i64 b] w (fun e w' => e = .returned (.agg #[.int .i64 4, .int .i64 (1), .string ⟨#[]⟩]) ∧ Below w.heap.size w w')))
    (C2 : Hid (∀ w, Lay (gh w) → Calls Tryz.prog 41 #[.int .i64 9, .int .i64 b, .int .i64 a] w (fun e w' => e = .returned (.agg #[.int .i64 4, .int .i64 (1), .string ⟨#[]⟩]) ∧ Below w.heap.size w w'))) :
    Calls Tryz.prog 12 #[.int .i64 a, .int .i64 b] w (yesPost w) := by
  have HAW := Lib.hid (fun w hL => awake9 w hL)
  have HL := Lib.hid hL
  clear hL
  go_enter Tryz.func12, Tryz.ntmps12
  go_wp2_with fail
  refine (C1.out _ HL.out).mono ?_
  rintro r W1 ⟨rfl, hb1⟩
  have hbA := hb1.alloc hb1.size (.cells #[.int .i64 4, .int .i64 (1), .string ⟨#[]⟩] 47)
  have hzA := heap_alloc_new W1 (.cells #[.int .i64 4, .int .i64 (1), .string ⟨#[]⟩] 47)
  have hsA : W1.heap.size < (W1.alloc (.cells #[.int .i64 4, .int .i64 (1), .string ⟨#[]⟩] 47)).heap.size := by simp
  clear hb1
  go_upto_region 2 with fail
  generalize W1.alloc (.cells #[.int .i64 4, .int .i64 (1), .string ⟨#[]⟩] 47) = WA at *
  obtain ⟨⟨c0, c1, c2⟩, -⟩ := three_all hzA
  have HBA := Lib.hid hbA
  have hk : ∀ W, Below WA.heap.size WA W → W.cell? ⟨W1.heap.size, 0, none⟩ = some (.int .i64 4) ∧ W.cell? ⟨W1.heap.size, 1, none⟩ = some (.int .i64 (1)) ∧ W.cell? ⟨W1.heap.size, 2, none⟩ = some (.string ⟨#[]⟩) := fun W hb => (three_all ((hb.block _ hsA).trans hzA)).1
  have HK := Lib.hid hk
  clear hbA hzA hsA hk
  go_region_held3 (fun w' => (w'.cell? ⟨W1.heap.size, 0, none⟩ = some (.int .i64 4) ∧ w'.cell? ⟨W1.heap.size, 1, none⟩ = some (.int .i64 (1)) ∧ w'.cell? ⟨W1.heap.size, 2, none⟩ = some (.string ⟨#[]⟩))) (go_keep)
    ((go_at_call 41; refine (C2.out _ (HL.out.below HBA.out.drew)).mono ?_; rintro r W2 ⟨rfl, hb2⟩; have hb3 := (Below.refl WA.heap.size WA).drew.seq hb2; have hg := HK.out W2 hb3; obtain ⟨g0, g1, g2⟩ := hg; clear hb2))
  all_goals
    have hb4 := HBA.out.seq hb3
    clear c0 c1 c2 hb3
    go_wp2_with fail
    refine (HAW.out _ (HL.out.below hb4)).mono ?_
    rintro r W3 ⟨rfl, hb5⟩
    have hb6 := hb4.seq hb5
    go_wp2
    go_ret
    exact ⟨rfl, hb6⟩
theorem products_walk (a b : Int) (w : World) (hL : Lay2 w) (ha : R64 a) (hb : R64 b) : Calls Tryz.prog 12 #[.int .i64 a, .int .i64 b] w (yesPost w) := by
  have hL := hL.lay
  have c1 := fun w hL => two_any 9 a b w (by omega) ha hb hL
  have c2 := fun w hL => two_any 9 b a w (by omega) hb ha hL
  have e1 : twoV ((9 : Nat) : Int) a b = fitM (a * b) := rfl
  have e2 : twoV ((9 : Nat) : Int) b a = fitM (a * b) := by rw [Int.mul_comm a b]; rfl
  rw [e1] at c1
  rw [e2] at c2
  have n0 : ∀ {x y : Int}, ¬ x = y → (x == y) = false := fun h => beq_eq_false_iff_ne.2 h
  have y0 : ∀ {x y : Int}, x = y → (x == y) = true := fun h => beq_iff_eq.2 h
  by_cases hr : R64 (a * b)
  · rw [fitM_yes hr] at c1 c2
    have hY := wrap64_eq hr
    by_cases h1 : a = 0
    · exact prod_r1 a b (a * b) w hL rfl hY (y0 h1) (Lib.hid c1) (Lib.hid c2)
    by_cases h2 : b = 0
    · exact prod_r2 a b (a * b) w hL rfl hY (n0 h1) (y0 h2) (Lib.hid c1) (Lib.hid c2)
    have hd : (a * b).tdiv b = a := Int.mul_tdiv_cancel _ h2
    have hZ : (wrap64 ((a * b).tdiv b) == a) = true := by rw [hd, wrap64_eq ha]; exact y0 rfl
    by_cases h3 : a = -1
    · have h4 : ¬ b = -9223372036854775808 := by
        rintro rfl
        subst h3
        unfold R64 at hr
        omega
      by_cases h5 : b = -1
      · exact prod_r5 a b (a * b) w hL rfl hY h2 hZ (n0 h1) (n0 h2) (y0 h3) (n0 h4) (y0 h5) (n0 (by omega)) (Lib.hid c1) (Lib.hid c2)
      · exact prod_r4 a b (a * b) w hL rfl hY h2 hZ (n0 h1) (n0 h2) (y0 h3) (n0 h4) (n0 h5) (Lib.hid c1) (Lib.hid c2)
    by_cases h5 : b = -1
    · have h6 : ¬ a = -9223372036854775808 := by
        rintro rfl
        subst h5
        unfold R64 at hr
        omega
      exact prod_r6 a b (a * b) w hL rfl hY h2 hZ (n0 h1) (n0 h2) (n0 h3) (y0 h5) (n0 h6) (Lib.hid c1) (Lib.hid c2)
    exact prod_r3 a b (a * b) w hL rfl hY h2 hZ (n0 h1) (n0 h2) (n0 h3) (n0 h5) (Lib.hid c1) (Lib.hid c2)
  · rw [fitM_no hr] at c1 c2
    have h1 : ¬ a = 0 := by rintro rfl; rw [Int.zero_mul] at hr; exact hr (by unfold R64; omega)
    have h2 : ¬ b = 0 := by rintro rfl; rw [Int.mul_zero] at hr; exact hr (by unfold R64; omega)
    by_cases hs : b = -1 ∧ a = -9223372036854775808
    · refine prod_n2 a b (a * b) w hL rfl (wrap64 (a * b)) rfl h2 (n0 h1) (n0 h2) (n0 (by omega)) (y0 hs.1) (y0 hs.2) (Lib.hid c1) (Lib.hid c2)
    have hZ : (wrap64 ((wrap64 (a * b)).tdiv b) == a) = false := by
      rw [prod_go ha hb h2 hs]
      exact n0 (fun h => hr ((prod_fits ha hb h2).1 h))
    by_cases h3 : a = -1
    · have h4 : b = -9223372036854775808 := by
        subst h3
        unfold R64 at hr hb
        omega
      exact prod_n1 a b (a * b) w hL rfl _ rfl h2 hZ (n0 h1) (n0 h2) (y0 h3) (y0 h4) (Lib.hid c1) (Lib.hid c2)
    have h5 : ¬ b = -1 := by
      rintro rfl
      apply hs
      refine ⟨rfl, ?_⟩
      unfold R64 at hr ha
      omega
    exact prod_n3 a b (a * b) w hL rfl _ rfl h2 hZ (n0 h1) (n0 h2) (n0 h3) (n0 h5) (Lib.hid c1) (Lib.hid c2)
end Go.Proofs.YtdgcgogeidnmoaaGreatDoor
