/- The walk of palaverref05.Check. Condition: the text is no longer than any may be. -/
import Derived.Test.YtilmmgkclijhjaaGreatDoorRD
set_option linter.unusedSimpArgs false
set_option linter.unusedVariables false
set_option linter.unusedSectionVars false
namespace Go.Proofs.YtilmmgkclijhjaaGreatDoor
open Go.RowKit Pal
set_option maxRecDepth 1000000 in
theorem rcheck_other (k n : Int) (s : Bs) (w : World) (h : ¬ (k = 0 ∨ k = 1 ∨ k = 2 ∨ k = 3 ∨ k = 4)) :
    Calls Tryz.prog 25 #[.agg #[.int .i64 k, .int .i64 n, strV s]] w fun e w' => e = .returned (.bool false) ∧ Below w.heap.size w w' := by
  have e0 : (k == 0) = false := beq_eq_false_iff_ne.2 (by omega)
  have e1 : (k == 1) = false := beq_eq_false_iff_ne.2 (by omega)
  have e2 : (k == 2) = false := beq_eq_false_iff_ne.2 (by omega)
  have e3 : (k == 3) = false := beq_eq_false_iff_ne.2 (by omega)
  have e4 : (k == 4) = false := beq_eq_false_iff_ne.2 (by omega)
  clear h
  unfold strV
  go_enter Tryz.func25, Tryz.ntmps25
  go_wp2
  go_ret
  exact ⟨rfl, (Below.refl _ _).alloc (Nat.le_refl _) _⟩
set_option maxRecDepth 1000000 in
set_option maxHeartbeats 1000000 in
theorem rcheck_01 (k n : Int) (s : Bs) (w : World) (h : k = 0 ∨ k = 1) :
    Calls Tryz.prog 25 #[.agg #[.int .i64 k, .int .i64 n, strV s]] w fun e w' => e = .returned (.bool (okV ⟨k, n, s⟩)) ∧ Below w.heap.size w w' := by
  have HB : Hid (Below w.heap.size w w) := Lib.hid (Below.refl _ _)
  by_cases hs : s = []
  · subst hs
    rcases h with rfl | rfl
    · by_cases hn : n = 0
      · have E : Hid (okV ⟨0, n, []⟩ = true) := Lib.hid (by unfold okV; simp [hn])
        have q : (n == 0) = true := by simp [hn]
        clear hn
        unfold strV
        go_enter Tryz.func25, Tryz.ntmps25
        go_wp2
        go_ret
        exact ⟨by rw [E.out]; rfl, HB.out.alloc (Nat.le_refl _) _⟩
      · have E : Hid (okV ⟨0, n, []⟩ = false) := Lib.hid (by unfold okV; simp [hn])
        have q : (n == 0) = false := beq_eq_false_iff_ne.2 hn
        clear hn
        unfold strV
        go_enter Tryz.func25, Tryz.ntmps25
        go_wp2
        go_ret
        exact ⟨by rw [E.out]; rfl, HB.out.alloc (Nat.le_refl _) _⟩
    · have E : Hid (okV ⟨1, n, []⟩ = true) := Lib.hid (by unfold okV; simp)
      unfold strV
      go_enter Tryz.func25, Tryz.ntmps25
      go_wp2
      go_ret
      exact ⟨by rw [E.out]; rfl, HB.out.alloc (Nat.le_refl _) _⟩
  · have E : Hid (okV ⟨k, n, s⟩ = false) := Lib.hid (by unfold okV; rcases h with rfl | rfl <;> simp [hs])
    have q := isEmpty_no hs
    clear hs
    unfold strV
    rcases h with rfl | rfl
    · by_cases hn : n = 0
      · have q2 : (n == 0) = true := by simp [hn]
        clear hn
        go_enter Tryz.func25, Tryz.ntmps25
        go_wp2
        go_ret
        exact ⟨by rw [E.out]; rfl, HB.out.alloc (Nat.le_refl _) _⟩
      · have q2 : (n == 0) = false := beq_eq_false_iff_ne.2 hn
        clear hn
        go_enter Tryz.func25, Tryz.ntmps25
        go_wp2
        go_ret
        exact ⟨by rw [E.out]; rfl, HB.out.alloc (Nat.le_refl _) _⟩
    · go_enter Tryz.func25, Tryz.ntmps25
      go_wp2
      go_ret
      exact ⟨by rw [E.out]; rfl, HB.out.alloc (Nat.le_refl _) _⟩
set_option maxRecDepth 1000000 in
set_option maxHeartbeats 1000000 in
theorem rcheck_2 (n : Int) (s : Bs) (w : World) :
    Calls Tryz.prog 25 #[.agg #[.int .i64 2, .int .i64 n, strV s]] w fun e w' => e = .returned (.bool (okV ⟨2, n, s⟩)) ∧ Below w.heap.size w w' := by
  have HB : Hid (Below w.heap.size w w) := Lib.hid (Below.refl _ _)
  have E : Hid (okV ⟨2, n, s⟩ = (decide (n = 0 ∨ n = 1) && List.isEmpty s)) := Lib.hid (by unfold okV; cases s <;> simp)
  by_cases h0 : n = 0
  · have E2 : Hid (okV ⟨2, n, s⟩ = List.isEmpty s) := Lib.hid (by rw [E.out]; simp [h0])
    have q : (n == 0) = true := by simp [h0]
    clear h0 E
    unfold strV
    go_enter Tryz.func25, Tryz.ntmps25
    go_wp2
    go_ret
    exact ⟨by rw [E2.out]; rfl, HB.out.alloc (Nat.le_refl _) _⟩
  · have q : (n == 0) = false := beq_eq_false_iff_ne.2 h0
    by_cases h1 : n = 1
    · have E2 : Hid (okV ⟨2, n, s⟩ = List.isEmpty s) := Lib.hid (by rw [E.out]; simp [h1])
      have q1 : (n == 1) = true := by simp [h1]
      clear h0 h1 E
      unfold strV
      go_enter Tryz.func25, Tryz.ntmps25
      go_wp2
      go_ret
      exact ⟨by rw [E2.out]; rfl, HB.out.alloc (Nat.le_refl _) _⟩
    · have E2 : Hid (okV ⟨2, n, s⟩ = false) := Lib.hid (by rw [E.out]; simp [h0, h1])
      have q1 : (n == 1) = false := beq_eq_false_iff_ne.2 h1
      clear h0 h1 E
      unfold strV
      go_enter Tryz.func25, Tryz.ntmps25
      go_wp2
      go_ret
      exact ⟨by rw [E2.out]; rfl, HB.out.alloc (Nat.le_refl _) _⟩
set_option maxRecDepth 1000000 in
set_option maxHeartbeats 1000000 in
theorem rcheck_4 (n : Int) (s : Bs) (w : World) :
    Calls Tryz.prog 25 #[.agg #[.int .i64 4, .int .i64 n, strV s]] w fun e w' => e = .returned (.bool (okV ⟨4, n, s⟩)) ∧ Below w.heap.size w w' := by
  have HB : Hid (Below w.heap.size w w) := Lib.hid (Below.refl _ _)
  have E : Hid (okV ⟨4, n, s⟩ = (decide (1 ≤ n ∧ n ≤ 4) && List.isEmpty s)) := Lib.hid (by unfold okV; cases s <;> simp)
  by_cases h0 : 1 ≤ n
  · by_cases h1 : n ≤ 4
    · have E2 : Hid (okV ⟨4, n, s⟩ = List.isEmpty s) := Lib.hid (by rw [E.out, decide_eq_true ⟨h0, h1⟩]; rfl)
      unfold strV
      go_enter Tryz.func25, Tryz.ntmps25
      go_wp2
      go_ret
      exact ⟨by rw [E2.out]; rfl, HB.out.alloc (Nat.le_refl _) _⟩
    · have E2 : Hid (okV ⟨4, n, s⟩ = false) := Lib.hid (by rw [E.out, decide_eq_false (fun h => h1 h.2)]; rfl)
      unfold strV
      go_enter Tryz.func25, Tryz.ntmps25
      go_wp2
      go_ret
      exact ⟨by rw [E2.out]; rfl, HB.out.alloc (Nat.le_refl _) _⟩
  · have E2 : Hid (okV ⟨4, n, s⟩ = false) := Lib.hid (by rw [E.out, decide_eq_false (fun h => h0 h.1)]; rfl)
    unfold strV
    go_enter Tryz.func25, Tryz.ntmps25
    go_wp2
    go_ret
    exact ⟨by rw [E2.out]; rfl, HB.out.alloc (Nat.le_refl _) _⟩
set_option maxRecDepth 1000000 in
set_option maxHeartbeats 2000000 in
theorem rcheck_3 (n : Int) (s : Bs) (w : World) (hm : s.length ≤ 9223372036854775807) :
    Calls Tryz.prog 25 #[.agg #[.int .i64 3, .int .i64 n, strV s]] w fun e w' => e = .returned (.bool (okV ⟨3, n, s⟩)) ∧ Below w.heap.size w w' := by
  have HB : Hid (Below w.heap.size w w) := Lib.hid (Below.refl _ _)
  have E : Hid (okV ⟨3, n, s⟩ = (decide (n = 0) && textOk s)) := Lib.hid (by unfold okV; simp)
  have hz : (⟨s.toArray⟩ : ByteArray).size = s.length := by simp [ByteArray.size]
  have hd : (⟨s.toArray⟩ : ByteArray).data.toList = s := by simp
  by_cases h0 : n = 0
  · have E2 : Hid (okV ⟨3, n, s⟩ = textOk s) := Lib.hid (by rw [E.out]; simp [h0])
    have q : (n == 0) = true := by simp [h0]
    by_cases h4 : s.length ≤ 400
    · have hb0 := HB.out.alloc (Nat.le_refl _) (.cells #[.int .i64 3, .int .i64 n, strV s] 55)
      have hv := refValid_any ⟨s.toArray⟩ (w.alloc (.cells #[.int .i64 3, .int .i64 n, strV s] 55)) (by omega)
      have hc := fun W => refCount_any ⟨s.toArray⟩ W (by omega)
      have hz0 := heap_alloc_new w (.cells #[.int .i64 3, .int .i64 n, strV s] 55)
      rw [hd] at hv
      simp only [hd] at hc
      have HV := Lib.hid hv
      have HC := Lib.hid hc
      have HB0 := Lib.hid hb0
      have HZ := Lib.hid hz0
      have E3 : Hid (textOk s = (val s && decide (cnt s ≤ 100))) := Lib.hid (by unfold textOk; rw [decide_eq_true h4]; rfl)
      clear E hv hc hb0 hz0 hd hz h0
      unfold strV at *
      cases hvs : val s with
      | false =>
        have E4 : Hid (okV ⟨3, n, s⟩ = false) := Lib.hid (by rw [E2.out, E3.out, hvs]; rfl)
        rw [hvs] at HV
        go_enter Tryz.func25, Tryz.ntmps25
        go_wp2_with fail
        refine HV.out.mono ?_
        rintro e W1 ⟨rfl, hb1⟩
        go_wp2
        go_ret
        exact ⟨by rw [E4.out]; rfl, HB0.out.seq hb1⟩
      | true =>
        have E4 : Hid (okV ⟨3, n, s⟩ = decide ((cnt s : Int) ≤ 100)) := Lib.hid (by
          rw [E2.out, E3.out, hvs, Bool.true_and]
          by_cases h : cnt s ≤ 100
          · rw [decide_eq_true h, decide_eq_true (by omega)]
          · rw [decide_eq_false h, decide_eq_false (by omega)])
        rw [hvs] at HV
        go_enter Tryz.func25, Tryz.ntmps25
        go_wp2_with fail
        refine HV.out.mono ?_
        rintro e W1 ⟨rfl, hb1⟩
        have hzW := (hb1.block _ (by simp)).trans HZ.out
        have c2 : W1.cell? ⟨w.heap.size, 2, none⟩ = some (.string ⟨s.toArray⟩) := by simp [World.cell?, hzW]
        have hb2 := HB0.out.seq hb1
        clear hb1 hzW
        go_wp2_with fail
        refine (HC.out _).mono ?_
        rintro e W2 ⟨rfl, hb3⟩
        have hb4 := hb2.seq hb3
        go_wp2
        go_ret
        exact ⟨by rw [E4.out]; rfl, hb4⟩
    · have E4 : Hid (okV ⟨3, n, s⟩ = false) := Lib.hid (by rw [E2.out]; unfold textOk; rw [decide_eq_false h4]; rfl)
      have q4 : decide ((s.length : Int) ≤ 400) = false := decide_eq_false (by omega)
      clear E h0 hd hz
      unfold strV
      go_enter Tryz.func25, Tryz.ntmps25
      go_wp2
      go_ret
      exact ⟨by rw [E4.out]; rfl, HB.out.alloc (Nat.le_refl _) _⟩
  · have q : (n == 0) = false := beq_eq_false_iff_ne.2 h0
    have E2 : Hid (okV ⟨3, n, s⟩ = false) := Lib.hid (by rw [E.out]; simp [h0])
    clear h0 E
    unfold strV
    go_enter Tryz.func25, Tryz.ntmps25
    go_wp2
    go_ret
    exact ⟨by rw [E2.out]; rfl, HB.out.alloc (Nat.le_refl _) _⟩
theorem refCheck_any (k n : Int) (s : Bs) (w : World) (hm : s.length ≤ 9223372036854775807) :
    Calls Tryz.prog 25 #[.agg #[.int .i64 k, .int .i64 n, strV s]] w fun e w' => e = .returned (.bool (okV ⟨k, n, s⟩)) ∧ Below w.heap.size w w' := by
  by_cases h : k = 0 ∨ k = 1 ∨ k = 2 ∨ k = 3 ∨ k = 4
  · rcases h with h | h | h | h | h
    · exact rcheck_01 k n s w (.inl h)
    · exact rcheck_01 k n s w (.inr h)
    · subst h; exact rcheck_2 n s w
    · subst h; exact rcheck_3 n s w hm
    · subst h; exact rcheck_4 n s w
  · have e : okV ⟨k, n, s⟩ = false := by
      unfold okV
      rw [if_neg (fun x => h (by simp_all)), if_neg (fun x => h (by simp_all)), if_neg (fun x => h (by simp_all)), if_neg (fun x => h (by simp_all)), if_neg (fun x => h (by simp_all))]
    rw [e]
    exact rcheck_other k n s w h
end Go.Proofs.YtilmmgkclijhjaaGreatDoor
