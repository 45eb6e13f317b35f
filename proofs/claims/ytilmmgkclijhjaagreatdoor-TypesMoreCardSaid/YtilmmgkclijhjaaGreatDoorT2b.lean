/- The walk of types.made, b. -/
import Derived.Test.YtilmmgkclijhjaaGreatDoorT1
set_option linter.unusedSimpArgs false
set_option linter.unusedVariables false
set_option linter.unusedSectionVars false
namespace Go.Proofs.YtilmmgkclijhjaaGreatDoor
open Go.RowKit Pal
set_option maxRecDepth 1000000 in
set_option maxHeartbeats 4000000 in
theorem made_22 (a b c : Int) (w : World) :
    Calls Tryz.prog 24 #[.int .i64 22, .agg #[.int .i64 a, .int .i64 b, .int .i64 c]] w (madePost (made 22 a b c) w) := by
  go_enter Tryz.func24, Tryz.ntmps24
  go_wp2
  go_quiet (fail)
  go_wp2
  all_goals
    go_ret
    exact madePost_mk (by simp_all [made]) (below_drewN ((Below.refl _ _).alloc (Nat.le_refl _) _) _)
set_option maxRecDepth 1000000 in
set_option maxHeartbeats 4000000 in
theorem made_21 (a b c : Int) (w : World) :
    Calls Tryz.prog 24 #[.int .i64 21, .agg #[.int .i64 a, .int .i64 b, .int .i64 c]] w (madePost (made 21 a b c) w) := by
  go_enter Tryz.func24, Tryz.ntmps24
  go_wp2
  go_quiet (fail)
  go_wp2
  all_goals
    go_ret
    exact madePost_mk (by simp_all [made]) (below_drewN ((Below.refl _ _).alloc (Nat.le_refl _) _) _)
set_option maxRecDepth 1000000 in
set_option maxHeartbeats 4000000 in
theorem made_13 (a b c : Int) (w : World) :
    Calls Tryz.prog 24 #[.int .i64 13, .agg #[.int .i64 a, .int .i64 b, .int .i64 c]] w (madePost (made 13 a b c) w) := by
  go_enter Tryz.func24, Tryz.ntmps24
  go_wp2
  go_quiet (fail)
  go_wp2
  all_goals
    go_ret
    exact madePost_mk (by simp_all [made]) (below_drewN ((Below.refl _ _).alloc (Nat.le_refl _) _) _)
set_option maxRecDepth 1000000 in
set_option maxHeartbeats 4000000 in
theorem made_2 (a b c : Int) (w : World) :
    Calls Tryz.prog 24 #[.int .i64 2, .agg #[.int .i64 a, .int .i64 b, .int .i64 c]] w (madePost (made 2 a b c) w) := by
  go_enter Tryz.func24, Tryz.ntmps24
  go_wp2
  go_quiet (fail)
  go_wp2
  all_goals
    go_ret
    exact madePost_mk (by simp_all [made]) (below_drewN ((Below.refl _ _).alloc (Nat.le_refl _) _) _)
set_option maxRecDepth 1000000 in
set_option maxHeartbeats 4000000 in
theorem made_7 (a b c : Int) (w : World) :
    Calls Tryz.prog 24 #[.int .i64 7, .agg #[.int .i64 a, .int .i64 b, .int .i64 c]] w (madePost (made 7 a b c) w) := by
  go_enter Tryz.func24, Tryz.ntmps24
  go_wp2
  go_quiet (fail)
  go_wp2
  all_goals
    go_ret
    exact madePost_mk (by simp_all [made]) (below_drewN ((Below.refl _ _).alloc (Nat.le_refl _) _) _)
end Go.Proofs.YtilmmgkclijhjaaGreatDoor
