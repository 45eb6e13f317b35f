/- The walk of types.made, a. -/
import Derived.Test.YtilmmgkclijhjaaGreatDoorT1
set_option linter.unusedSimpArgs false
set_option linter.unusedVariables false
set_option linter.unusedSectionVars false
namespace Go.Proofs.YtilmmgkclijhjaaGreatDoor
open Go.RowKit Pal
set_option maxRecDepth 1000000 in
set_option maxHeartbeats 4000000 in
theorem made_3 (a b c : Int) (w : World) :
    Calls Tryz.prog 24 #[.int .i64 3, .agg #[.int .i64 a, .int .i64 b, .int .i64 c]] w (madePost (made 3 a b c) w) := by
  go_enter Tryz.func24, Tryz.ntmps24
  go_wp2
  go_quiet (fail)
  go_wp2
  all_goals
    go_ret
    exact madePost_mk (by simp_all [made]) (below_drewN ((Below.refl _ _).alloc (Nat.le_refl _) _) _)
set_option maxRecDepth 1000000 in
set_option maxHeartbeats 4000000 in
theorem made_23 (a b c : Int) (w : World) :
    Calls Tryz.prog 24 #[.int .i64 23, .agg #[.int .i64 a, .int .i64 b, .int .i64 c]] w (madePost (made 23 a b c) w) := by
  go_enter Tryz.func24, Tryz.ntmps24
  go_wp2
  go_quiet (fail)
  go_wp2
  all_goals
    go_ret
    exact madePost_mk (by simp_all [made]) (below_drewN ((Below.refl _ _).alloc (Nat.le_refl _) _) _)
set_option maxRecDepth 1000000 in
set_option maxHeartbeats 4000000 in
theorem made_14 (a b c : Int) (w : World) :
    Calls Tryz.prog 24 #[.int .i64 14, .agg #[.int .i64 a, .int .i64 b, .int .i64 c]] w (madePost (made 14 a b c) w) := by
  go_enter Tryz.func24, Tryz.ntmps24
  go_wp2
  go_quiet (fail)
  go_wp2
  all_goals
    go_ret
    exact madePost_mk (by simp_all [made]) (below_drewN ((Below.refl _ _).alloc (Nat.le_refl _) _) _)
set_option maxRecDepth 1000000 in
set_option maxHeartbeats 4000000 in
theorem made_1 (a b c : Int) (w : World) :
    Calls Tryz.prog 24 #[.int .i64 1, .agg #[.int .i64 a, .int .i64 b, .int .i64 c]] w (madePost (made 1 a b c) w) := by
  go_enter Tryz.func24, Tryz.ntmps24
  go_wp2
  go_quiet (fail)
  go_wp2
  all_goals
    go_ret
    exact madePost_mk (by simp_all [made]) (below_drewN ((Below.refl _ _).alloc (Nat.le_refl _) _) _)
set_option maxRecDepth 1000000 in
set_option maxHeartbeats 4000000 in
theorem made_5 (a b c : Int) (w : World) :
    Calls Tryz.prog 24 #[.int .i64 5, .agg #[.int .i64 a, .int .i64 b, .int .i64 c]] w (madePost (made 5 a b c) w) := by
  go_enter Tryz.func24, Tryz.ntmps24
  go_wp2
  go_quiet (fail)
  go_wp2
  all_goals
    go_ret
    exact madePost_mk (by simp_all [made]) (below_drewN ((Below.refl _ _).alloc (Nat.le_refl _) _) _)
end Go.Proofs.YtilmmgkclijhjaaGreatDoor
