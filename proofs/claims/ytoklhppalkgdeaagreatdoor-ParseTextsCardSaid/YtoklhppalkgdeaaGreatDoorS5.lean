/- The walks of parse.Same, palaverlaw07.awake. Conditions: the tables hold what they are laid with; an expression's numbers are an int64's, its texts as long as any may be. -/
import Derived.Test.YtoklhppalkgdeaaGreatDoorS4
import Derived.Test.YtoklhppalkgdeaaGreatDoorG9
set_option linter.unusedSimpArgs false
set_option linter.unusedVariables false
namespace Go.Proofs.YtoklhppalkgdeaaGreatDoor
open Go.RowKit Pal
set_option maxRecDepth 1000000 in
set_option maxHeartbeats 4000000 in
theorem parseSame_any (e e' : Ex) (v v' : Value) (w : World) (hF : Fine e) (hF' : Fine e') (hL : Lay (gh w)) (hK : KV (gh w) v e.ks) (hK' : KV (gh w) v' e'.ks) :
    Calls Tryz.prog 32 #[exV e.op e.n e.s v, exV e'.op e'.n e'.s v'] w (boolPost (check e && (check e' && sameX e e')) w) := by
  obtain ⟨a, cap, rfl⟩ := hK.form
  obtain ⟨a2, cap2, rfl⟩ := hK'.form
  have hb := ((Below.refl w.heap.size w).alloc (Nat.le_refl _) (.cells #[.int .i64 e.op, .int .i64 e.n, .string ⟨e.s.toArray⟩, .slice a e.ks.length cap] 28)).alloc (by simp) (.cells #[.int .i64 e'.op, .int .i64 e'.n, .string ⟨e'.s.toArray⟩, .slice a2 e'.ks.length cap2] 28)
  have hck := fun W hb => parseCheck_any e (exV e.op e.n e.s (.slice a e.ks.length cap)) W hF (hL.below hb) ⟨_, rfl, hK.keep hb⟩
  have hck2 := fun W hb => parseCheck_any e' (exV e'.op e'.n e'.s (.slice a2 e'.ks.length cap2)) W hF' (hL.below hb) ⟨_, rfl, hK'.keep hb⟩
  have hsm := fun W hb => same_any e e' (.slice a e.ks.length cap) (.slice a2 e'.ks.length cap2) W (hK.keep hb) (hK'.keep hb)
  unfold exV strV at hck hck2 hsm
  have HC := Lib.hid hck
  have HC2 := Lib.hid hck2
  have HS := Lib.hid hsm
  have HB := Lib.hid hb
  obtain ⟨X, hX⟩ : ∃ X, (check e && (check e' && sameX e e')) = X := ⟨_, rfl⟩
  rw [hX]
  have HX := Lib.hid hX
  clear hX
  have hz0 : ((w.alloc (.cells #[.int .i64 e.op, .int .i64 e.n, .string ⟨e.s.toArray⟩, .slice a e.ks.length cap] 28)).alloc (.cells #[.int .i64 e'.op, .int .i64 e'.n, .string ⟨e'.s.toArray⟩, .slice a2 e'.ks.length cap2] 28)).heap[w.heap.size]? = some (.cells #[.int .i64 e.op, .int .i64 e.n, .string ⟨e.s.toArray⟩, .slice a e.ks.length cap] 28 (0, 0)) := by
    rw [Lib.alloc_old _ _ _ (by simp)]; exact heap_alloc_new w _
  have hz1 : ((w.alloc (.cells #[.int .i64 e.op, .int .i64 e.n, .string ⟨e.s.toArray⟩, .slice a e.ks.length cap] 28)).alloc (.cells #[.int .i64 e'.op, .int .i64 e'.n, .string ⟨e'.s.toArray⟩, .slice a2 e'.ks.length cap2] 28)).heap[w.heap.size + 1]? = some (.cells #[.int .i64 e'.op, .int .i64 e'.n, .string ⟨e'.s.toArray⟩, .slice a2 e'.ks.length cap2] 28 (0, 0)) := by
    have := heap_alloc_new (w.alloc (.cells #[.int .i64 e.op, .int .i64 e.n, .string ⟨e.s.toArray⟩, .slice a e.ks.length cap] 28)) (.cells #[.int .i64 e'.op, .int .i64 e'.n, .string ⟨e'.s.toArray⟩, .slice a2 e'.ks.length cap2] 28)
    simpa using this
  have HZ0 := Lib.hid hz0
  have HZ1 := Lib.hid hz1
  clear hck hck2 hsm hb hz0 hz1
  unfold exV strV
  go_enter Tryz.func32, Tryz.ntmps32
  go_wp2_with fail
  refine (HC.out _ HB.out).mono ?_
  rintro r W1 ⟨rfl, hb1⟩
  have hb2 := HB.out.seq hb1
  have hy0 := (hb1.block _ (by simp; omega)).trans HZ0.out
  have hy1 := (hb1.block _ (by simp)).trans HZ1.out
  obtain ⟨c0, c1, c2, c3⟩ := four_cells hy0
  obtain ⟨d0, d1, d2, d3⟩ := four_cells hy1
  have hl1 : w.heap.size + 1 < W1.heap.size := (Array.getElem?_eq_some_iff.1 hy1).1
  have HY0 := Lib.hid hy0
  have HY1 := Lib.hid hy1
  clear HC HB HZ0 HZ1 hb1 hy0 hy1
  cases h1 : check e with
  | false =>
    have H1 := Lib.hid h1
    go_wp2
    go_ret
    exact ⟨by rw [← HX.out, H1.out]; rfl, hb2⟩
  | true =>
    have H1 := Lib.hid h1
    go_wp2_with fail
    refine (HC2.out _ hb2).mono ?_
    rintro r W2 ⟨rfl, hb3⟩
    have hb4 := hb2.seq hb3
    have hy0 := (hb3.block _ (by omega)).trans HY0.out
    have hy1 := (hb3.block _ hl1).trans HY1.out
    clear HC2 HY0 HY1 hb3 c0 c1 c2 c3 d0 d1 d2 d3
    obtain ⟨c0, c1, c2, c3⟩ := four_cells hy0
    obtain ⟨d0, d1, d2, d3⟩ := four_cells hy1
    clear hy0 hy1
    cases h2 : check e' with
    | false =>
      have H2 := Lib.hid h2
      go_wp2
      go_ret
      exact ⟨by rw [← HX.out, H1.out, H2.out]; rfl, hb4⟩
    | true =>
      have H2 := Lib.hid h2
      go_wp2_with fail
      refine (HS.out _ hb4).mono ?_
      rintro r W3 ⟨rfl, hb5⟩
      have hb6 := hb4.seq hb5
      clear HS hb5
      go_wp2
      go_ret
      exact ⟨by rw [← HX.out, H1.out, H2.out]; rfl, hb6⟩
theorem parses_a1 : ∃ e, parseM [49, 43, 50, 42, 120, 32, 62, 32, 51] = .ok e ∧ textX e = [40, 51, 32, 60, 32, 40, 49, 32, 43, 32, 40, 50, 32, 42, 32, 120, 41, 41, 41] ∧ check e = true :=
  ⟨.mk 14 0 [] [.mk 1 3 [] [], .mk 7 0 [] [.mk 1 1 [] [], .mk 9 0 [] [.mk 1 2 [] [], .mk 4 0 [120] []]]], by kernel_rfl, by kernel_rfl, by kernel_rfl⟩
theorem parses_a2 : parseM [97, 32, 60, 32, 98, 32, 60, 32, 99] = .error (6, 6) := by kernel_rfl
set_option maxRecDepth 1000000 in
set_option maxHeartbeats 4000000 in
theorem awake7 (w : World) (hL : Lay2 w) : Calls Tryz.prog 19 #[] w (yesPost w) := by
  obtain ⟨e1, hp1, ht1, hc1⟩ := parses_a1
  have hp2 := parses_a2
  have HF1 := Lib.hid (parseM_fine hp1)
  have HP1 := Lib.hid (fun w hL => parse_yes ⟨#[49, 43, 50, 42, 120, 32, 62, 32, 51]⟩ e1 w (by decide) hp1 hL)
  have HP2 := Lib.hid (fun w hL => parse_no ⟨#[97, 32, 60, 32, 98, 32, 60, 32, 99]⟩ 6 6 w (by decide) hp2 hL)
  have HT1 := Lib.hid ht1
  have HC1 := Lib.hid hc1
  clear hp1 hp2 ht1 hc1
  go_enter Tryz.func19, Tryz.ntmps19
  go_wp2_with fail
  refine (HP1.out _ hL.lay).mono ?_
  rintro r W1 ⟨hb1, a1, k1, rfl, hK1⟩
  have hbn := (Below.refl W1.heap.size W1).alloc (Nat.le_refl _) (.cells #[.int .i64 e1.op, .int .i64 e1.n, .string ⟨e1.s.toArray⟩, .slice a1 e1.ks.length k1] 28)
  have hbA := hb1.seq hbn
  have hKA := hK1.keep hbn
  have hcA := heap_alloc_new W1 (.cells #[.int .i64 e1.op, .int .i64 e1.n, .string ⟨e1.s.toArray⟩, .slice a1 e1.ks.length k1] 28)
  have hsA : (W1.alloc (.cells #[.int .i64 e1.op, .int .i64 e1.n, .string ⟨e1.s.toArray⟩, .slice a1 e1.ks.length k1] 28)).heap.size = W1.heap.size + 1 := by simp
  clear hb1 hK1 hbn
  go_wp2_with fail
  refine (HP2.out _ (hL.lay.below hbA)).mono ?_
  generalize W1.alloc (.cells #[.int .i64 e1.op, .int .i64 e1.n, .string ⟨e1.s.toArray⟩, .slice a1 e1.ks.length k1] 28) = WA at *
  rintro r W2 ⟨hb2, rfl⟩
  have hb2n := hb2.alloc hb2.size (.cells #[.int .i64 0, .int .i64 0, .string ⟨#[]⟩, .slice none 0 0] 28)
  have hbB := hbA.seq hb2n
  have hKB := hKA.keep hb2n
  have hcB := (hb2n.block _ (by omega)).trans hcA
  have hsC : W1.heap.size + 1 ≤ W2.heap.size := by have := hb2.size; omega
  clear hb2 hb2n hbA hKA hcA
  obtain ⟨c0, c1, c2, c3⟩ := four_cells hcB
  go_upto_region 3 with fail
  generalize W2.alloc (.cells #[.int .i64 0, .int .i64 0, .string ⟨#[]⟩, .slice none 0 0] 28) = WB at *
  have ht := parseText_any e1 _ WB HF1.out (hL.below hbB) hKB HC1.out
  rw [HT1.out] at ht
  have hck := fun W hb => parseCheck_any e1 (exV e1.op e1.n e1.s (.slice a1 e1.ks.length k1)) W HF1.out ((hL.lay.below hbB).below hb) ⟨_, rfl, hKB.keep hb⟩
  unfold exV strV at ht hck
  have HT := Lib.hid ht
  have HCK := Lib.hid hck
  have HCB := Lib.hid hcB
  have hlB : W1.heap.size < WB.heap.size := (Array.getElem?_eq_some_iff.1 hcB).1
  clear ht hck hKB hcB
  go_wp2_with fail
  refine HT.out.mono ?_
  rintro r W3 ⟨rfl, hb3⟩
  have hbC := hbB.seq hb3
  have HB3 := Lib.hid hb3
  have hcC := (hb3.block _ hlB).trans HCB.out
  clear c0 c1 c2 c3 hb3
  obtain ⟨c0, c1, c2, c3⟩ := four_cells hcC
  clear hcC
  unfold strV
  go_wp2_with fail
  refine (HCK.out _ HB3.out).mono ?_
  rintro r W4 ⟨rfl, hb4⟩
  rw [HC1.out]
  have hbD := hbC.seq hb4
  clear hb4
  go_wp2
  go_ret
  exact ⟨rfl, hbD⟩
end Go.Proofs.YtoklhppalkgdeaaGreatDoor
