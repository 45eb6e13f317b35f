/- The walk of palaverlaw09.EvalTruths, put together. Conditions: the tables hold what they are laid with. -/
import Derived.Test.YtdgcgogeidnmoaaGreatDoorE20a
import Derived.Test.YtdgcgogeidnmoaaGreatDoorE20b
import Derived.Test.YtdgcgogeidnmoaaGreatDoorE20c
import Derived.Test.YtdgcgogeidnmoaaGreatDoorE20d
import Derived.Test.YtdgcgogeidnmoaaGreatDoorE20e
import Derived.Test.YtdgcgogeidnmoaaGreatDoorE20f
import Derived.Test.YtdgcgogeidnmoaaGreatDoorE20g
import Derived.Test.YtdgcgogeidnmoaaGreatDoorE20h
import Derived.Test.YtdgcgogeidnmoaaGreatDoorE20i
set_option linter.unusedSimpArgs false
set_option linter.unusedVariables false
set_option linter.unusedSectionVars false
namespace Go.Proofs.YtdgcgogeidnmoaaGreatDoor
open Go.RowKit Pal
theorem eval_truths_walk (p q : Int) (w : World) (hL : Lay2 w) (hp : -9223372036854775808 ≤ p ∧ p ≤ 9223372036854775807) (hq : -9223372036854775808 ≤ q ∧ q ≤ 9223372036854775807) :
    Calls Tryz.prog 17 #[.int .i64 p, .int .i64 q] w (yesPost w) := by
  obtain ⟨u, x, p1, p2, p3, p4, hx⟩ := three_place p
  obtain ⟨v, y, q1, q2, q3, q4, hy⟩ := three_place q
  have hl := hL.lay
  rcases (by omega : x = 0 ∨ x = 1 ∨ x = 2) with rfl | rfl | rfl <;> rcases (by omega : y = 0 ∨ y = 1 ∨ y = 2) with rfl | rfl | rfl
  · exact truths_00 p q u v w hl p1 p2 p3 p4 q1 q2 q3 q4
  · exact truths_01 p q u v w hl p1 p2 p3 p4 q1 q2 q3 q4
  · exact truths_02 p q u v w hl p1 p2 p3 p4 q1 q2 q3 q4
  · exact truths_10 p q u v w hl p1 p2 p3 p4 q1 q2 q3 q4
  · exact truths_11 p q u v w hl p1 p2 p3 p4 q1 q2 q3 q4
  · exact truths_12 p q u v w hl p1 p2 p3 p4 q1 q2 q3 q4
  · exact truths_20 p q u v w hl p1 p2 p3 p4 q1 q2 q3 q4
  · exact truths_21 p q u v w hl p1 p2 p3 p4 q1 q2 q3 q4
  · exact truths_22 p q u v w hl p1 p2 p3 p4 q1 q2 q3 q4
end Go.Proofs.YtdgcgogeidnmoaaGreatDoor
