/- The walks of eval.more, less, size, times. Condition: both numbers are an int64's. -/
import Derived.Test.YtdgcgogeidnmoaaGreatDoorE1
import Derived.Test.YtdgcgogeidnmoaaGreatDoorE8
import Derived.Test.YtdgcgogeidnmoaaGreatDoorShelf
set_option linter.unusedSimpArgs false
set_option linter.unusedVariables false
set_option linter.unusedSectionVars false
namespace Go.Proofs.YtdgcgogeidnmoaaGreatDoor
open Go.RowKit Pal
theorem more_law {a b : Int} (ha : R64 a) (hb : R64 b) : (decide (a < wrap64 (a + b)) == decide (0 < b)) = decide (R64 (a + b)) := by
  rw [Bool.eq_iff_iff, beq_iff_eq, Bool.eq_iff_iff, decide_eq_true_iff, decide_eq_true_iff, decide_eq_true_iff]
  unfold wrap64 R64 at *
  omega
theorem less_law {a b : Int} (ha : R64 a) (hb : R64 b) : (decide (wrap64 (a - b) < a) == decide (0 < b)) = decide (R64 (a - b)) := by
  rw [Bool.eq_iff_iff, beq_iff_eq, Bool.eq_iff_iff, decide_eq_true_iff, decide_eq_true_iff, decide_eq_true_iff]
  unfold wrap64 R64 at *
  omega
def fitPost (x : Int) (w : World) (e : Ending) (w' : World) : Prop := e = .returned (.tuple #[.int .i64 (wrap64 x), .bool (decide (R64 x))]) ∧ Below w.heap.size w w'
set_option maxRecDepth 1000000 in
theorem more_any (a b : Int) (w : World) (ha : R64 a) (hb : R64 b) : Calls Tryz.prog 145 #[.int .i64 a, .int .i64 b] w (fitPost (a + b) w) := by
  have HB : Hid (Below w.heap.size w w) := Lib.hid (Below.refl _ _)
  have HF := Lib.hid (more_law ha hb)
  clear ha hb
  unfold fitPost
  rw [← HF.out]
  go_enter Tryz.func145, Tryz.ntmps145
  go_wp2
  try go_region
  go_ret2
  exact ⟨rfl, HB.out⟩
set_option maxRecDepth 1000000 in
theorem less_any (a b : Int) (w : World) (ha : R64 a) (hb : R64 b) : Calls Tryz.prog 144 #[.int .i64 a, .int .i64 b] w (fitPost (a - b) w) := by
  have HB : Hid (Below w.heap.size w w) := Lib.hid (Below.refl _ _)
  have HF := Lib.hid (less_law ha hb)
  clear ha hb
  unfold fitPost
  rw [← HF.out]
  go_enter Tryz.func144, Tryz.ntmps144
  go_wp2
  try go_region
  go_ret2
  exact ⟨rfl, HB.out⟩
set_option maxRecDepth 1000000 in
theorem size_any (a : Int) (w : World) (ha : R64 a) : Calls Tryz.prog 195 #[.int .i64 a] w fun e w' => e = .returned (.int .u64 (a.natAbs : Int)) ∧ w' = w := by
  by_cases h : a < 0
  · have e : (a.natAbs : Int) = -a := by omega
    rw [e]
    go_enter Tryz.func195, Tryz.ntmps195
    have hw : IntKind.u64.wrap (-IntKind.u64.wrap a) = -a := by rw [IntKind.wrap_u64, IntKind.wrap_u64]; unfold R64 at ha; omega
    have HW := Lib.hid hw
    clear hw
    go_wp2
    rw [HW.out]
    go_ret
    exact ⟨rfl, rfl⟩
  · have e : (a.natAbs : Int) = a := by omega
    rw [e]
    go_enter Tryz.func195, Tryz.ntmps195
    go_wp2
    go_ret
    exact ⟨rfl, rfl⟩
/-- The size of a product tells whether it is a number. -/
theorem times_law {a b : Int} : (decide ((a.natAbs * b.natAbs / 18446744073709551616 : Nat) = 0) && decide ((a.natAbs * b.natAbs % 18446744073709551616 : Nat) ≤ if (decide (a < 0) != decide (b < 0)) = true then 9223372036854775808 else 9223372036854775807)) = decide (R64 (a * b)) := by
  rw [← Int.natAbs_mul]
  rw [Bool.eq_iff_iff, Bool.and_eq_true, decide_eq_true_iff, decide_eq_true_iff, decide_eq_true_iff]
  by_cases ha : a < 0
  · by_cases hb : b < 0
    · have h0 : 0 ≤ a * b := Int.mul_nonneg_of_nonpos_of_nonpos (by omega) (by omega)
      rw [if_neg (by simp [ha, hb])]
      generalize a * b = x at *
      unfold R64
      omega
    · have h0 : a * b ≤ 0 := Int.mul_nonpos_of_nonpos_of_nonneg (by omega) (by omega)
      rw [if_pos (by simp [ha, hb])]
      generalize a * b = x at *
      unfold R64
      omega
  · by_cases hb : b < 0
    · have h0 : a * b ≤ 0 := Int.mul_nonpos_of_nonneg_of_nonpos (by omega) (by omega)
      rw [if_pos (by simp [ha, hb])]
      generalize a * b = x at *
      unfold R64
      omega
    · have h0 : 0 ≤ a * b := Int.mul_nonneg (by omega) (by omega)
      rw [if_neg (by simp [ha, hb])]
      generalize a * b = x at *
      unfold R64
      omega
theorem times_hi {a b : Int} (h : (a.natAbs : Int) * b.natAbs / 18446744073709551616 = 0) : decide ((a.natAbs : Int) * b.natAbs % 18446744073709551616 ≤ if (decide (a < 0) != decide (b < 0)) = true then 9223372036854775808 else 9223372036854775807) = decide (R64 (a * b)) := by
  have e := times_law (a := a) (b := b)
  rw [← Int.natCast_mul] at h ⊢
  generalize a.natAbs * b.natAbs = X at *
  have h1 : X / 18446744073709551616 = 0 := by omega
  rw [decide_eq_true h1, Bool.true_and] at e
  rw [← e]
  by_cases hc : (decide (a < 0) != decide (b < 0)) = true
  · rw [if_pos hc, if_pos hc, Bool.eq_iff_iff, decide_eq_true_iff, decide_eq_true_iff]
    omega
  · rw [if_neg hc, if_neg hc, Bool.eq_iff_iff, decide_eq_true_iff, decide_eq_true_iff]
    omega
theorem times_out {a b : Int} (h : ¬ (a.natAbs : Int) * b.natAbs / 18446744073709551616 = 0) : false = decide (R64 (a * b)) := by
  have e := times_law (a := a) (b := b)
  rw [← Int.natCast_mul] at h
  generalize a.natAbs * b.natAbs = X at *
  have h1 : ¬ X / 18446744073709551616 = 0 := by omega
  rw [decide_eq_false h1, Bool.false_and] at e
  exact e
set_option maxRecDepth 1000000 in
set_option maxHeartbeats 4000000 in
theorem times_any (a b : Int) (w : World) (ha : R64 a) (hb : R64 b) : Calls Tryz.prog 146 #[.int .i64 a, .int .i64 b] w (fitPost (a * b) w) := by
  have HB : Hid (Below w.heap.size w w) := Lib.hid (Below.refl _ _)
  have c1 := size_any a w ha
  have c2 := size_any b w hb
  have c3 := Tryz.bits_Mul64 a.natAbs b.natAbs (by unfold R64 at ha; omega) (by unfold R64 at hb; omega) w
  unfold fitPost
  clear ha hb
  by_cases h : (a.natAbs : Int) * b.natAbs / 18446744073709551616 = 0
  · have ht := times_hi h
    by_cases h1 : a < 0
    · have q1 : decide (a < 0) = true := decide_eq_true h1
      by_cases h2 : b < 0
      · rw [if_neg (by simp [h1, h2])] at ht
        have q2 : decide (b < 0) = true := decide_eq_true h2
        have HF := Lib.hid ht
        clear ht
        go_enter Tryz.func146, Tryz.ntmps146
        go_wp2_with fail
        refine c1.mono ?_
        rintro e W ⟨rfl, rfl⟩
        go_wp2_with fail
        refine c2.mono ?_
        rintro e W ⟨rfl, rfl⟩
        go_wp2_with fail
        refine c3.mono ?_
        rintro e W ⟨rfl, rfl⟩
        go_wp2
        go_ret2
        exact ⟨by rw [HF.out]; rfl, HB.out⟩
      · rw [if_pos (by simp [h1, h2])] at ht
        have q2 : decide (b < 0) = false := decide_eq_false h2
        have HF := Lib.hid ht
        clear ht
        go_enter Tryz.func146, Tryz.ntmps146
        go_wp2_with fail
        refine c1.mono ?_
        rintro e W ⟨rfl, rfl⟩
        go_wp2_with fail
        refine c2.mono ?_
        rintro e W ⟨rfl, rfl⟩
        go_wp2_with fail
        refine c3.mono ?_
        rintro e W ⟨rfl, rfl⟩
        go_wp2
        go_ret2
        exact ⟨by rw [HF.out]; rfl, HB.out⟩
    · have q1 : decide (a < 0) = false := decide_eq_false h1
      by_cases h2 : b < 0
      · rw [if_pos (by simp [h1, h2])] at ht
        have q2 : decide (b < 0) = true := decide_eq_true h2
        have HF := Lib.hid ht
        clear ht
        go_enter Tryz.func146, Tryz.ntmps146
        go_wp2_with fail
        refine c1.mono ?_
        rintro e W ⟨rfl, rfl⟩
        go_wp2_with fail
        refine c2.mono ?_
        rintro e W ⟨rfl, rfl⟩
        go_wp2_with fail
        refine c3.mono ?_
        rintro e W ⟨rfl, rfl⟩
        go_wp2
        go_ret2
        exact ⟨by rw [HF.out]; rfl, HB.out⟩
      · rw [if_neg (by simp [h1, h2])] at ht
        have q2 : decide (b < 0) = false := decide_eq_false h2
        have HF := Lib.hid ht
        clear ht
        go_enter Tryz.func146, Tryz.ntmps146
        go_wp2_with fail
        refine c1.mono ?_
        rintro e W ⟨rfl, rfl⟩
        go_wp2_with fail
        refine c2.mono ?_
        rintro e W ⟨rfl, rfl⟩
        go_wp2_with fail
        refine c3.mono ?_
        rintro e W ⟨rfl, rfl⟩
        go_wp2
        go_ret2
        exact ⟨by rw [HF.out]; rfl, HB.out⟩
  · have HF := Lib.hid (times_out h)
    by_cases h1 : a < 0
    · have q1 : decide (a < 0) = true := decide_eq_true h1
      by_cases h2 : b < 0
      · skip
        have q2 : decide (b < 0) = true := decide_eq_true h2
        go_enter Tryz.func146, Tryz.ntmps146
        go_wp2_with fail
        refine c1.mono ?_
        rintro e W ⟨rfl, rfl⟩
        go_wp2_with fail
        refine c2.mono ?_
        rintro e W ⟨rfl, rfl⟩
        go_wp2_with fail
        refine c3.mono ?_
        rintro e W ⟨rfl, rfl⟩
        go_wp2
        go_ret2
        exact ⟨by rw [HF.out]; rfl, HB.out⟩
      · skip
        have q2 : decide (b < 0) = false := decide_eq_false h2
        go_enter Tryz.func146, Tryz.ntmps146
        go_wp2_with fail
        refine c1.mono ?_
        rintro e W ⟨rfl, rfl⟩
        go_wp2_with fail
        refine c2.mono ?_
        rintro e W ⟨rfl, rfl⟩
        go_wp2_with fail
        refine c3.mono ?_
        rintro e W ⟨rfl, rfl⟩
        go_wp2
        go_ret2
        exact ⟨by rw [HF.out]; rfl, HB.out⟩
    · have q1 : decide (a < 0) = false := decide_eq_false h1
      by_cases h2 : b < 0
      · skip
        have q2 : decide (b < 0) = true := decide_eq_true h2
        go_enter Tryz.func146, Tryz.ntmps146
        go_wp2_with fail
        refine c1.mono ?_
        rintro e W ⟨rfl, rfl⟩
        go_wp2_with fail
        refine c2.mono ?_
        rintro e W ⟨rfl, rfl⟩
        go_wp2_with fail
        refine c3.mono ?_
        rintro e W ⟨rfl, rfl⟩
        go_wp2
        go_ret2
        exact ⟨by rw [HF.out]; rfl, HB.out⟩
      · skip
        have q2 : decide (b < 0) = false := decide_eq_false h2
        go_enter Tryz.func146, Tryz.ntmps146
        go_wp2_with fail
        refine c1.mono ?_
        rintro e W ⟨rfl, rfl⟩
        go_wp2_with fail
        refine c2.mono ?_
        rintro e W ⟨rfl, rfl⟩
        go_wp2_with fail
        refine c3.mono ?_
        rintro e W ⟨rfl, rfl⟩
        go_wp2
        go_ret2
        exact ⟨by rw [HF.out]; rfl, HB.out⟩
end Go.Proofs.YtdgcgogeidnmoaaGreatDoor
