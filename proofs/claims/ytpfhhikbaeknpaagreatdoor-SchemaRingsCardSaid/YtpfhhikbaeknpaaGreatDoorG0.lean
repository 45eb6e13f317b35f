/- The walk of palaverlaw00.Place. -/
import Derived.Test.YtpfhhikbaeknpaaGreatDoorSb
set_option linter.unusedSimpArgs false
set_option linter.unusedVariables false
set_option linter.unusedSectionVars false
namespace Go.Proofs.YtpfhhikbaeknpaaGreatDoor
open Go.RowKit Pal
theorem tmod_two (v n : Int) (hn : 0 < n) : v.tmod n = v % n ∨ v.tmod n = v % n - n := by
  have e := Int.tmod_eq_emod (a := v) (b := n)
  by_cases hc : 0 ≤ v ∨ n ∣ v
  · rw [if_pos hc] at e; left; omega
  · rw [if_neg hc] at e; right; omega
theorem tmod_lo {v n : Int} (h : v.tmod n < 0) (hn : 0 < n) : v % n = v.tmod n + n := by
  have h1 := Int.emod_nonneg v (show n ≠ 0 by omega)
  rcases tmod_two v n hn with e | e <;> omega
theorem tmod_hi {v n : Int} (h : ¬ v.tmod n < 0) (hn : 0 < n) : v % n = v.tmod n := by
  have h1 : v % n < n := Int.emod_lt_of_pos v hn
  have e := tmod_two v n hn
  generalize v % n = x at *
  generalize v.tmod n = y at *
  omega
theorem tmod_bd (v n : Int) (hn : 0 < n) : -n ≤ v.tmod n ∧ v.tmod n < n := by
  have h1 : v % n < n := Int.emod_lt_of_pos v hn
  have h2 : 0 ≤ v % n := Int.emod_nonneg v (show n ≠ 0 by omega)
  have e := tmod_two v n hn
  generalize v % n = x at *
  generalize v.tmod n = y at *
  omega
set_option maxRecDepth 100000 in
set_option maxHeartbeats 1000000 in
theorem place_any (v n : Int) (w : World) (hv : -9223372036854775808 ≤ v ∧ v ≤ 9223372036854775807) (hn : 0 < n) (hm : n ≤ 1000) :
    Calls Tryz.prog 9 #[.int .i64 v, .int .i64 n] w fun e w' => e = .returned (.int .i64 (v % n)) ∧ w = w' := by
  obtain ⟨hv1, hv2⟩ := hv
  have hb := tmod_bd v n hn
  obtain ⟨hb1, hb2⟩ := hb
  have q0 : n ≠ 0 := by omega
  have q1 : (n == 0) = false := beq_eq_false_iff_ne.2 q0
  have q2 : (n == -1) = false := beq_eq_false_iff_ne.2 (by omega)
  by_cases h : v.tmod n < 0
  · have HE := Lib.hid (tmod_lo h hn)
    go_enter Tryz.func9, Tryz.ntmps9
    go_wp2
    go_ret
    exact ⟨by rw [HE.out]; rfl, rfl⟩
  · have HE := Lib.hid (tmod_hi h hn)
    go_enter Tryz.func9, Tryz.ntmps9
    go_wp2
    go_ret
    exact ⟨by rw [HE.out]; rfl, rfl⟩
end Go.Proofs.YtpfhhikbaeknpaaGreatDoor
