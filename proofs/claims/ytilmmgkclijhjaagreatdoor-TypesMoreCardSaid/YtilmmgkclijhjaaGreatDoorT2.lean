/- The walk of types.made, whole. -/
import Derived.Test.YtilmmgkclijhjaaGreatDoorT2a
import Derived.Test.YtilmmgkclijhjaaGreatDoorT2b
import Derived.Test.YtilmmgkclijhjaaGreatDoorT2c
import Derived.Test.YtilmmgkclijhjaaGreatDoorT2d
set_option linter.unusedSimpArgs false
set_option linter.unusedVariables false
set_option linter.unusedSectionVars false
namespace Go.Proofs.YtilmmgkclijhjaaGreatDoor
open Go.RowKit Pal
theorem made_any (op a b c : Int) (w : World) (h : 1 ≤ op ∧ op ≤ 23 ∧ op ≠ 4) :
    Calls Tryz.prog 24 #[.int .i64 op, .agg #[.int .i64 a, .int .i64 b, .int .i64 c]] w (madePost (made op a b c) w) := by
  rcases (by omega : op = 1 ∨ op = 2 ∨ op = 3 ∨ op = 5 ∨ op = 6 ∨ op = 7 ∨ op = 8 ∨ op = 9 ∨ op = 10 ∨ op = 11 ∨ op = 12 ∨ op = 13 ∨ op = 14 ∨ op = 15 ∨ op = 16 ∨ op = 17 ∨ op = 18 ∨ op = 19 ∨ op = 20 ∨ op = 21 ∨ op = 22 ∨ op = 23) with rfl | rfl | rfl | rfl | rfl | rfl | rfl | rfl | rfl | rfl | rfl | rfl | rfl | rfl | rfl | rfl | rfl | rfl | rfl | rfl | rfl | rfl
  · exact made_1 a b c w
  · exact made_2 a b c w
  · exact made_3 a b c w
  · exact made_5 a b c w
  · exact made_6 a b c w
  · exact made_7 a b c w
  · exact made_8 a b c w
  · exact made_9 a b c w
  · exact made_10 a b c w
  · exact made_11 a b c w
  · exact made_12 a b c w
  · exact made_13 a b c w
  · exact made_14 a b c w
  · exact made_15 a b c w
  · exact made_16 a b c w
  · exact made_17 a b c w
  · exact made_18 a b c w
  · exact made_19 a b c w
  · exact made_20 a b c w
  · exact made_21 a b c w
  · exact made_22 a b c w
  · exact made_23 a b c w
end Go.Proofs.YtilmmgkclijhjaaGreatDoor
