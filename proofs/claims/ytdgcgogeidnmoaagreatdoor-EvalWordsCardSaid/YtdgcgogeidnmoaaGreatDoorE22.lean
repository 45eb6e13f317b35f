/- The walks of palaverlaw09.may, text. Condition: the text is no longer than any may be. -/
import Derived.Test.YtdgcgogeidnmoaaGreatDoorRE
import Derived.Test.YtdgcgogeidnmoaaGreatDoorE15
set_option linter.unusedSimpArgs false
set_option linter.unusedVariables false
set_option linter.unusedSectionVars false
namespace Go.Proofs.YtdgcgogeidnmoaaGreatDoor
open Go.RowKit Pal
set_option maxRecDepth 1000000 in
set_option maxHeartbeats 1000000 in
theorem may_any (s : Bs) (w : World) (hm : s.length ≤ 9223372036854775806) : Calls Tryz.prog 43 #[strV s] w fun e w' => e = .returned (.bool (textOk s)) ∧ Below w.heap.size w w' := by
  have hc := refCheck_any 3 0 s w (by omega)
  have e : okV ⟨3, 0, s⟩ = textOk s := by simp [okV]
  rw [e] at hc
  have HC := Lib.hid hc
  clear hc e
  unfold strV at *
  go_enter Tryz.func43, Tryz.ntmps43
  go_wp2_with fail
  refine HC.out.mono ?_
  rintro e W ⟨rfl, hb⟩
  go_wp2
  go_ret
  exact ⟨rfl, hb⟩
set_option maxRecDepth 1000000 in
set_option maxHeartbeats 1000000 in
theorem text9_any (s : Bs) (w : World) : Calls Tryz.prog 44 #[strV s] w fun e w' => e = .returned (.agg #[.int .i64 2, .int .i64 0, strV s, .slice none 0 0]) ∧ Below w.heap.size w w' := by
  unfold strV
  go_enter Tryz.func44, Tryz.ntmps44
  go_wp2
  have hh := four_all (heap_alloc_new w (.cells #[.int .i64 2, .int .i64 0, .string ⟨s.toArray⟩, .slice none 0 0] 24))
  refine bodyPost_ret (v := .agg #[.int .i64 2, .int .i64 0, .string ⟨s.toArray⟩, .slice none 0 0]) (by simp [results, Tryz.results44, go_sem, hh.1]) rfl ⟨rfl, (Below.refl _ _).alloc (Nat.le_refl _) _⟩
end Go.Proofs.YtdgcgogeidnmoaaGreatDoor
