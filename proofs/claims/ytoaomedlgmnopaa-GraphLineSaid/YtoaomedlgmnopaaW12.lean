/- The walk of gcd. -/
import Derived.Test.YtoaomedlgmnopaaW8
namespace Go.Proofs.Ytoaomedlgmnopaa
open Go.RowKit Pal Pal.Graph

set_option maxHeartbeats 400000 in
theorem gcd_any (a b : Nat) (w : World) (ha : a ≤ 1000) (hb : b ≤ 1000) : Calls Try.prog 20 #[.int .i64 (a : Int), .int .i64 (b : Int)] w fun e w' => e = .returned (.int .i64 (Nat.gcd a b : Int)) ∧ ∃ n, w' = w.drewN n := by
  go_enter Try.func20, Try.ntmps20
  go_wp2
  go_loopg [0, 1] b (fun g u v wr => ∃ x y : Nat, g = y ∧ u = .int .i64 (x : Int) ∧ v = .int .i64 (y : Int) ∧ x ≤ 1000 ∧ y ≤ 1000 ∧ Hid (Nat.gcd x y = Nat.gcd a b) ∧ ∃ n, wr = w.drewN n)
  case atStart => exact ⟨a, b, rfl, rfl, rfl, ha, hb, rfl, 0, rfl⟩
  case round =>
    obtain ⟨x, y, rfl, rfl, rfl, hx, hy, HG, n, rfl⟩ := hrel
    by_cases hy0 : 0 < gk
    · have hne : ((gk : Int) == 0) = false := beq_eq_false_iff_ne.2 (by omega)
      have hmod : (x : Int).tmod (gk : Int) = ((x % gk : Nat) : Int) := by rw [Int.tmod_eq_emod_of_nonneg (by omega)]; exact (Int.natCast_emod _ _).symm
      have HM := Lib.hid hmod; clear hmod
      have hlt := Nat.mod_lt x hy0
      go_wp2
      go_quiet (fail)
      go_wp2
      go_roundg (x % gk)
      case measure => omega
      case rel => exact ⟨gk, x % gk, rfl, rfl, rfl, by omega, by omega, by show _ = _; rw [← HG.out, Nat.gcd_comm gk, ← Nat.gcd_rec, Nat.gcd_comm], by first | exact ⟨_, rfl⟩ | exact Q2 _ _ _⟩
    · have h0 : gk = 0 := by omega
      subst h0
      have hg : Nat.gcd a b = x := by rw [← HG.out]; simp
      have HH := Lib.hid hg; clear hg
      go_wp2
      go_ret
      exact ⟨by rw [HH.out]; rfl, n, rfl⟩
end Go.Proofs.Ytoaomedlgmnopaa
