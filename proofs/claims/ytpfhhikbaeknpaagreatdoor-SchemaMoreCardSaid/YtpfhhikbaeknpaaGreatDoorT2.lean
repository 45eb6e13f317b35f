/- The walk of types.made, c. The walk of types.made, d. The walk of types.made, whole. -/
import Derived.Test.YtpfhhikbaeknpaaGreatDoorT1
import Derived.Test.YtpfhhikbaeknpaaGreatDoorT2b
set_option linter.unusedSectionVars false
set_option linter.unusedSimpArgs false
set_option linter.unusedVariables false
namespace Go.Proofs.YtpfhhikbaeknpaaGreatDoor
open Go.RowKit Pal
set_option maxRecDepth 1000000 in
set_option maxHeartbeats 4000000 in
theorem made_20 (a b c : Int) (w : World) :
    Calls Tryz.prog 103 #[.int .i64 20,.agg #[.int .i64 a,.int .i64 b,.int .i64 c]] w (madePost (made 20 a b c) w) := by
  go_enter Tryz.func103,Tryz.ntmps103
  go_wp2
  go_quiet (fail)
  go_wp2
  all_goals
    go_ret
    exact madePost_mk (by simp_all [made]) (below_drewN ((Below.refl _ _).alloc (Nat.le_refl _) _) _)
set_option maxRecDepth 1000000 in
set_option maxHeartbeats 4000000 in
theorem made_19 (a b c : Int) (w : World) :
    Calls Tryz.prog 103 #[.int .i64 19,.agg #[.int .i64 a,.int .i64 b,.int .i64 c]] w (madePost (made 19 a b c) w) := by
  go_enter Tryz.func103,Tryz.ntmps103
  go_wp2
  go_quiet (fail)
  go_wp2
  all_goals
    go_ret
    exact madePost_mk (by simp_all [made]) (below_drewN ((Below.refl _ _).alloc (Nat.le_refl _) _) _)
set_option maxRecDepth 1000000 in
set_option maxHeartbeats 4000000 in
theorem made_12 (a b c : Int) (w : World) :
    Calls Tryz.prog 103 #[.int .i64 12,.agg #[.int .i64 a,.int .i64 b,.int .i64 c]] w (madePost (made 12 a b c) w) := by
  go_enter Tryz.func103,Tryz.ntmps103
  go_wp2
  go_quiet (fail)
  go_wp2
  all_goals
    go_ret
    exact madePost_mk (by simp_all [made]) (below_drewN ((Below.refl _ _).alloc (Nat.le_refl _) _) _)
set_option maxRecDepth 1000000 in
set_option maxHeartbeats 4000000 in
theorem made_8 (a b c : Int) (w : World) :
    Calls Tryz.prog 103 #[.int .i64 8,.agg #[.int .i64 a,.int .i64 b,.int .i64 c]] w (madePost (made 8 a b c) w) := by
  go_enter Tryz.func103,Tryz.ntmps103
  go_wp2
  go_quiet (fail)
  go_wp2
  all_goals
    go_ret
    exact madePost_mk (by simp_all [made]) (below_drewN ((Below.refl _ _).alloc (Nat.le_refl _) _) _)
set_option maxRecDepth 1000000 in
set_option maxHeartbeats 4000000 in
theorem made_9 (a b c : Int) (w : World) :
    Calls Tryz.prog 103 #[.int .i64 9,.agg #[.int .i64 a,.int .i64 b,.int .i64 c]] w (madePost (made 9 a b c) w) := by
  go_enter Tryz.func103,Tryz.ntmps103
  go_wp2
  go_quiet (fail)
  go_wp2
  all_goals
    go_ret
    exact madePost_mk (by simp_all [made]) (below_drewN ((Below.refl _ _).alloc (Nat.le_refl _) _) _)
set_option maxRecDepth 1000000 in
set_option maxHeartbeats 4000000 in
theorem made_10 (a b c : Int) (w : World) :
    Calls Tryz.prog 103 #[.int .i64 10,.agg #[.int .i64 a,.int .i64 b,.int .i64 c]] w (madePost (made 10 a b c) w) := by
  go_enter Tryz.func103,Tryz.ntmps103
  go_wp2
  go_quiet (fail)
  go_wp2
  all_goals
    go_ret
    exact madePost_mk (by simp_all [made]) (below_drewN ((Below.refl _ _).alloc (Nat.le_refl _) _) _)
end Go.Proofs.YtpfhhikbaeknpaaGreatDoor
namespace Go.Proofs.YtpfhhikbaeknpaaGreatDoor
open Go.RowKit Pal
set_option maxRecDepth 1000000 in
set_option maxHeartbeats 4000000 in
theorem made_18 (a b c : Int) (w : World) :
    Calls Tryz.prog 103 #[.int .i64 18,.agg #[.int .i64 a,.int .i64 b,.int .i64 c]] w (madePost (made 18 a b c) w) := by
  go_enter Tryz.func103,Tryz.ntmps103
  go_wp2
  go_quiet (fail)
  go_wp2
  all_goals
    go_ret
    exact madePost_mk (by simp_all [made]) (below_drewN ((Below.refl _ _).alloc (Nat.le_refl _) _) _)
set_option maxRecDepth 1000000 in
set_option maxHeartbeats 4000000 in
theorem made_15 (a b c : Int) (w : World) :
    Calls Tryz.prog 103 #[.int .i64 15,.agg #[.int .i64 a,.int .i64 b,.int .i64 c]] w (madePost (made 15 a b c) w) := by
  go_enter Tryz.func103,Tryz.ntmps103
  go_wp2
  go_quiet (fail)
  go_wp2
  all_goals
    go_ret
    exact madePost_mk (by simp_all [made]) (below_drewN ((Below.refl _ _).alloc (Nat.le_refl _) _) _)
set_option maxRecDepth 1000000 in
set_option maxHeartbeats 4000000 in
theorem made_17 (a b c : Int) (w : World) :
    Calls Tryz.prog 103 #[.int .i64 17,.agg #[.int .i64 a,.int .i64 b,.int .i64 c]] w (madePost (made 17 a b c) w) := by
  go_enter Tryz.func103,Tryz.ntmps103
  go_wp2
  go_quiet (fail)
  go_wp2
  all_goals
    go_ret
    exact madePost_mk (by simp_all [made]) (below_drewN ((Below.refl _ _).alloc (Nat.le_refl _) _) _)
set_option maxRecDepth 1000000 in
set_option maxHeartbeats 4000000 in
theorem made_16 (a b c : Int) (w : World) :
    Calls Tryz.prog 103 #[.int .i64 16,.agg #[.int .i64 a,.int .i64 b,.int .i64 c]] w (madePost (made 16 a b c) w) := by
  go_enter Tryz.func103,Tryz.ntmps103
  go_wp2
  go_quiet (fail)
  go_wp2
  all_goals
    go_ret
    exact madePost_mk (by simp_all [made]) (below_drewN ((Below.refl _ _).alloc (Nat.le_refl _) _) _)
set_option maxRecDepth 1000000 in
set_option maxHeartbeats 4000000 in
theorem made_6 (a b c : Int) (w : World) :
    Calls Tryz.prog 103 #[.int .i64 6,.agg #[.int .i64 a,.int .i64 b,.int .i64 c]] w (madePost (made 6 a b c) w) := by
  go_enter Tryz.func103,Tryz.ntmps103
  go_wp2
  go_quiet (fail)
  go_wp2
  all_goals
    go_ret
    exact madePost_mk (by simp_all [made]) (below_drewN ((Below.refl _ _).alloc (Nat.le_refl _) _) _)
set_option maxRecDepth 1000000 in
set_option maxHeartbeats 4000000 in
theorem made_11 (a b c : Int) (w : World) :
    Calls Tryz.prog 103 #[.int .i64 11,.agg #[.int .i64 a,.int .i64 b,.int .i64 c]] w (madePost (made 11 a b c) w) := by
  go_enter Tryz.func103,Tryz.ntmps103
  go_wp2
  go_quiet (fail)
  go_wp2
  all_goals
    go_ret
    exact madePost_mk (by simp_all [made]) (below_drewN ((Below.refl _ _).alloc (Nat.le_refl _) _) _)
end Go.Proofs.YtpfhhikbaeknpaaGreatDoor
namespace Go.Proofs.YtpfhhikbaeknpaaGreatDoor
open Go.RowKit Pal
theorem made_any (op a b c : Int) (w : World) (h : 1 ≤ op ∧ op ≤ 23 ∧ op ≠ 4) :
    Calls Tryz.prog 103 #[.int .i64 op,.agg #[.int .i64 a,.int .i64 b,.int .i64 c]] w (madePost (made op a b c) w) := by
  rcases (by omega : op = 1 ∨ op = 2 ∨ op = 3 ∨ op = 5 ∨ op = 6 ∨ op = 7 ∨ op = 8 ∨ op = 9 ∨ op = 10 ∨ op = 11 ∨ op = 12 ∨ op = 13 ∨ op = 14 ∨ op = 15 ∨ op = 16 ∨ op = 17 ∨ op = 18 ∨ op = 19 ∨ op = 20 ∨ op = 21 ∨ op = 22 ∨ op = 23) with rfl | rfl | rfl | rfl | rfl | rfl | rfl | rfl | rfl | rfl | rfl | rfl | rfl | rfl | rfl | rfl | rfl | rfl | rfl | rfl | rfl | rfl
  · exact made_1 a b c w
  · exact made_2 a b c w
  · exact made_3 a b c w
  · exact made_5 a b c w
  · exact made_6 a b c w
  · exact made_7 a b c w
  · exact made_8 a b c w
  · exact made_9 a b c w
  · exact made_10 a b c w
  · exact made_11 a b c w
  · exact made_12 a b c w
  · exact made_13 a b c w
  · exact made_14 a b c w
  · exact made_15 a b c w
  · exact made_16 a b c w
  · exact made_17 a b c w
  · exact made_18 a b c w
  · exact made_19 a b c w
  · exact made_20 a b c w
  · exact made_21 a b c w
  · exact made_22 a b c w
  · exact made_23 a b c w
end Go.Proofs.YtpfhhikbaeknpaaGreatDoor
