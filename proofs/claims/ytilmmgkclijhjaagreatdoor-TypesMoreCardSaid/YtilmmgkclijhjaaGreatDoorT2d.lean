/- The walk of types.made, d. -/
import Derived.Test.YtilmmgkclijhjaaGreatDoorT1
set_option linter.unusedSimpArgs false
set_option linter.unusedVariables false
set_option linter.unusedSectionVars false
namespace Go.Proofs.YtilmmgkclijhjaaGreatDoor
open Go.RowKit Pal
set_option maxRecDepth 1000000 in
set_option maxHeartbeats 4000000 in
theorem made_18 (a b c : Int) (w : World) :
    Calls Tryz.prog 24 #[.int .i64 18, .agg #[.int .i64 a, .int .i64 b, .int .i64 c]] w (madePost (made 18 a b c) w) := by
  go_enter Tryz.func24, Tryz.ntmps24
  go_wp2
  go_quiet (fail)
  go_wp2
  all_goals
    go_ret
    exact madePost_mk (by simp_all [made]) (below_drewN ((Below.refl _ _).alloc (Nat.le_refl _) _) _)
set_option maxRecDepth 1000000 in
set_option maxHeartbeats 4000000 in
theorem made_15 (a b c : Int) (w : World) :
    Calls Tryz.prog 24 #[.int .i64 15, .agg #[.int .i64 a, .int .i64 b, .int .i64 c]] w (madePost (made 15 a b c) w) := by
  go_enter Tryz.func24, Tryz.ntmps24
  go_wp2
  go_quiet (fail)
  go_wp2
  all_goals
    go_ret
    exact madePost_mk (by simp_all [made]) (below_drewN ((Below.refl _ _).alloc (Nat.le_refl _) _) _)
set_option maxRecDepth 1000000 in
set_option maxHeartbeats 4000000 in
theorem made_17 (a b c : Int) (w : World) :
    Calls Tryz.prog 24 #[.int .i64 17, .agg #[.int .i64 a, .int .i64 b, .int .i64 c]] w (madePost (made 17 a b c) w) := by
  go_enter Tryz.func24, Tryz.ntmps24
  go_wp2
  go_quiet (fail)
  go_wp2
  all_goals
    go_ret
    exact madePost_mk (by simp_all [made]) (below_drewN ((Below.refl _ _).alloc (Nat.le_refl _) _) _)
set_option maxRecDepth 1000000 in
set_option maxHeartbeats 4000000 in
theorem made_16 (a b c : Int) (w : World) :
    Calls Tryz.prog 24 #[.int .i64 16, .agg #[.int .i64 a, .int .i64 b, .int .i64 c]] w (madePost (made 16 a b c) w) := by
  go_enter Tryz.func24, Tryz.ntmps24
  go_wp2
  go_quiet (fail)
  go_wp2
  all_goals
    go_ret
    exact madePost_mk (by simp_all [made]) (below_drewN ((Below.refl _ _).alloc (Nat.le_refl _) _) _)
set_option maxRecDepth 1000000 in
set_option maxHeartbeats 4000000 in
theorem made_6 (a b c : Int) (w : World) :
    Calls Tryz.prog 24 #[.int .i64 6, .agg #[.int .i64 a, .int .i64 b, .int .i64 c]] w (madePost (made 6 a b c) w) := by
  go_enter Tryz.func24, Tryz.ntmps24
  go_wp2
  go_quiet (fail)
  go_wp2
  all_goals
    go_ret
    exact madePost_mk (by simp_all [made]) (below_drewN ((Below.refl _ _).alloc (Nat.le_refl _) _) _)
set_option maxRecDepth 1000000 in
set_option maxHeartbeats 4000000 in
theorem made_11 (a b c : Int) (w : World) :
    Calls Tryz.prog 24 #[.int .i64 11, .agg #[.int .i64 a, .int .i64 b, .int .i64 c]] w (madePost (made 11 a b c) w) := by
  go_enter Tryz.func24, Tryz.ntmps24
  go_wp2
  go_quiet (fail)
  go_wp2
  all_goals
    go_ret
    exact madePost_mk (by simp_all [made]) (below_drewN ((Below.refl _ _).alloc (Nat.le_refl _) _) _)
end Go.Proofs.YtilmmgkclijhjaaGreatDoor
