/- The walk of types.made, c. -/
import Derived.Test.YtilmmgkclijhjaaGreatDoorT1
set_option linter.unusedSimpArgs false
set_option linter.unusedVariables false
set_option linter.unusedSectionVars false
namespace Go.Proofs.YtilmmgkclijhjaaGreatDoor
open Go.RowKit Pal
set_option maxRecDepth 1000000 in
set_option maxHeartbeats 4000000 in
theorem made_20 (a b c : Int) (w : World) :
    Calls Tryz.prog 24 #[.int .i64 20, .agg #[.int .i64 a, .int .i64 b, .int .i64 c]] w (madePost (made 20 a b c) w) := by
  go_enter Tryz.func24, Tryz.ntmps24
  go_wp2
  go_quiet (fail)
  go_wp2
  all_goals
    go_ret
    exact madePost_mk (by simp_all [made]) (below_drewN ((Below.refl _ _).alloc (Nat.le_refl _) _) _)
set_option maxRecDepth 1000000 in
set_option maxHeartbeats 4000000 in
theorem made_19 (a b c : Int) (w : World) :
    Calls Tryz.prog 24 #[.int .i64 19, .agg #[.int .i64 a, .int .i64 b, .int .i64 c]] w (madePost (made 19 a b c) w) := by
  go_enter Tryz.func24, Tryz.ntmps24
  go_wp2
  go_quiet (fail)
  go_wp2
  all_goals
    go_ret
    exact madePost_mk (by simp_all [made]) (below_drewN ((Below.refl _ _).alloc (Nat.le_refl _) _) _)
set_option maxRecDepth 1000000 in
set_option maxHeartbeats 4000000 in
theorem made_12 (a b c : Int) (w : World) :
    Calls Tryz.prog 24 #[.int .i64 12, .agg #[.int .i64 a, .int .i64 b, .int .i64 c]] w (madePost (made 12 a b c) w) := by
  go_enter Tryz.func24, Tryz.ntmps24
  go_wp2
  go_quiet (fail)
  go_wp2
  all_goals
    go_ret
    exact madePost_mk (by simp_all [made]) (below_drewN ((Below.refl _ _).alloc (Nat.le_refl _) _) _)
set_option maxRecDepth 1000000 in
set_option maxHeartbeats 4000000 in
theorem made_8 (a b c : Int) (w : World) :
    Calls Tryz.prog 24 #[.int .i64 8, .agg #[.int .i64 a, .int .i64 b, .int .i64 c]] w (madePost (made 8 a b c) w) := by
  go_enter Tryz.func24, Tryz.ntmps24
  go_wp2
  go_quiet (fail)
  go_wp2
  all_goals
    go_ret
    exact madePost_mk (by simp_all [made]) (below_drewN ((Below.refl _ _).alloc (Nat.le_refl _) _) _)
set_option maxRecDepth 1000000 in
set_option maxHeartbeats 4000000 in
theorem made_9 (a b c : Int) (w : World) :
    Calls Tryz.prog 24 #[.int .i64 9, .agg #[.int .i64 a, .int .i64 b, .int .i64 c]] w (madePost (made 9 a b c) w) := by
  go_enter Tryz.func24, Tryz.ntmps24
  go_wp2
  go_quiet (fail)
  go_wp2
  all_goals
    go_ret
    exact madePost_mk (by simp_all [made]) (below_drewN ((Below.refl _ _).alloc (Nat.le_refl _) _) _)
set_option maxRecDepth 1000000 in
set_option maxHeartbeats 4000000 in
theorem made_10 (a b c : Int) (w : World) :
    Calls Tryz.prog 24 #[.int .i64 10, .agg #[.int .i64 a, .int .i64 b, .int .i64 c]] w (madePost (made 10 a b c) w) := by
  go_enter Tryz.func24, Tryz.ntmps24
  go_wp2
  go_quiet (fail)
  go_wp2
  all_goals
    go_ret
    exact madePost_mk (by simp_all [made]) (below_drewN ((Below.refl _ _).alloc (Nat.le_refl _) _) _)
end Go.Proofs.YtilmmgkclijhjaaGreatDoor
