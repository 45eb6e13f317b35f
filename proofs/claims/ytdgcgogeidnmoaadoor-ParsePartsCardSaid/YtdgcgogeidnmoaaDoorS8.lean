/- The walk of palaverlaw07.ParseBack. Conditions: the tables hold what they are laid with; the text is no longer than any may be. -/
import Derived.Test.YtdgcgogeidnmoaaDoorS7
set_option linter.unusedSimpArgs false
set_option linter.unusedVariables false
namespace Go.Proofs.YtdgcgogeidnmoaaDoor
open Go.RowKit Pal
set_option maxRecDepth 1000000 in
set_option maxHeartbeats 8000000 in
theorem back_walk (s : ByteArray) (w : World) (hL : Lay2 w) (hs : s.size ≤ 9223372036854775807) :
    Calls Tryd.prog 6 #[.string s] w (yesPost w) := by
  have HL := Lib.hid hL
  have HA := Lib.hid (fun W hb => awake7 W (hL.below hb))
  by_cases h400 : 400 < s.size
  · have q : decide ((400 : Int) < (s.size : Int)) = true := decide_eq_true (by omega)
    clear hL h400 HL
    go_enter Tryd.func6, Tryd.ntmps6
    go_wp2_with fail
    refine (HA.out _ (Below.refl _ _)).mono ?_
    rintro r W ⟨rfl, hb⟩
    go_wp2
    go_ret
    exact ⟨rfl, hb⟩
  · have q : decide ((400 : Int) < (s.size : Int)) = false := decide_eq_false (by omega)
    cases hp : parseM s.data.toList with
    | error pk =>
      obtain ⟨p, k⟩ := pk
      have hk := parseM_err hp
      have HP := Lib.hid (parse_no s p k w (by omega) hp hL.lay)
      have q2 : (k != 0) = true := bne_iff_ne.2 (by omega)
      clear hL h400 HL hp hk
      go_enter Tryd.func6, Tryd.ntmps6
      go_wp2_with fail
      refine HP.out.mono ?_
      rintro r W ⟨hb, rfl⟩
      have hb2 := hb.alloc hb.size (.cells #[.int .i64 0, .int .i64 0, .string ⟨#[]⟩, .slice none 0 0] 24)
      clear hb
      go_wp2_with fail
      refine (HA.out _ hb2).mono ?_
      rintro r W2 ⟨rfl, hb3⟩
      have hb4 := hb2.seq hb3
      go_wp2
      go_ret
      exact ⟨rfl, hb4⟩
    | ok e =>
      have HP := Lib.hid (parse_yes s e w (by omega) hp hL.lay)
      have hF := parseM_fine hp
      have hck := parseM_check hp
      have HF := Lib.hid hF
      have HCK := Lib.hid hck
      have hlm := (check_tz hF hck)
      have hlm2 : (textX e).length ≤ 1000000 := by cases hlm with | mk _ _ _ _ _ _ h _ => exact h
      have HBK := Lib.hid (fun hl => back_law hF hck hl)
      obtain ⟨T, hT⟩ : ∃ T, textX e = T := ⟨_, rfl⟩
      rw [hT] at hlm2 HBK
      have HTX := Lib.hid hT
      clear hL h400 hp hF hck hlm hT hs
      go_enter Tryd.func6, Tryd.ntmps6
      go_wp2_with fail
      refine HP.out.mono ?_
      rintro r W1 ⟨hb1, a1, k1, rfl, hK1⟩
      have hbn := (Below.refl W1.heap.size W1).alloc (Nat.le_refl _) (.cells #[.int .i64 e.op, .int .i64 e.n, .string ⟨e.s.toArray⟩, .slice a1 e.ks.length k1] 24)
      have hbA := hb1.seq hbn
      have hKA := hK1.keep hbn
      have hcA := heap_alloc_new W1 (.cells #[.int .i64 e.op, .int .i64 e.n, .string ⟨e.s.toArray⟩, .slice a1 e.ks.length k1] 24)
      clear hb1 hK1 hbn HP
      go_upto_region 6 with fail
      generalize W1.alloc (.cells #[.int .i64 e.op, .int .i64 e.n, .string ⟨e.s.toArray⟩, .slice a1 e.ks.length k1] 24) = WA at *
      have hsz : W1.heap.size < WA.heap.size := (Array.getElem?_eq_some_iff.1 hcA).1
      obtain ⟨c0, c1, c2, c3⟩ := four_cells hcA
      have ht := parseText_any e _ WA HF.out (HL.out.below hbA) hKA HCK.out
      rw [HTX.out] at ht
      have hcq := fun W hb => parseCheck_any e (exV e.op e.n e.s (.slice a1 e.ks.length k1)) W HF.out ((HL.out.lay.below hbA).below hb) ⟨_, rfl, hKA.keep hb⟩
      unfold exV strV at ht hcq
      have HT := Lib.hid ht
      have HCQ := Lib.hid hcq
      have HBA := Lib.hid hbA
      have HKA := Lib.hid hKA
      have HCA := Lib.hid hcA
      clear ht hcq hbA hKA hcA
      go_wp2_with fail
      refine HT.out.mono ?_
      rintro r W2 ⟨rfl, hb2⟩
      have HB2 := Lib.hid hb2
      have hcB := (hb2.block _ hsz).trans HCA.out
      clear hb2 HT HCA c0 c1 c2 c3
      obtain ⟨c0, c1, c2, c3⟩ := four_cells hcB
      have hsz2 : W1.heap.size < W2.heap.size := (Array.getElem?_eq_some_iff.1 hcB).1
      have HCB := Lib.hid hcB
      unfold strV
      clear hcB
      go_wp2_with fail
      refine (HCQ.out _ HB2.out).mono ?_
      rintro r W3 ⟨rfl, hb3⟩
      rw [HCK.out]
      have HB3 := Lib.hid (HB2.out.seq hb3)
      have hcC := (hb3.block _ hsz2).trans HCB.out
      have hsz3 : W1.heap.size < W3.heap.size := (Array.getElem?_eq_some_iff.1 hcC).1
      clear hb3 HB2 HCB HCQ c0 c1 c2 c3
      by_cases hT4 : 400 < T.length
      · have q4 : decide ((400 : Int) < (T.length : Int)) = true := decide_eq_true (by omega)
        clear hT4 HBK
        go_wp2_with fail
        refine (HA.out _ (HBA.out.seq HB3.out)).mono ?_
        rintro r W4 ⟨rfl, hb4⟩
        have hb5 := (HBA.out.seq HB3.out).seq hb4
        go_wp2
        go_ret
        exact ⟨rfl, hb5⟩
      · have q4 : decide ((400 : Int) < (T.length : Int)) = false := decide_eq_false (by omega)
        have hpb := HBK.out (by omega)
        have HPB := Lib.hid (fun W hL => parse_yes ⟨T.toArray⟩ e W (by rw [size_ofList]; omega) hpb hL)
        have HCC := Lib.hid hcC
        clear hT4 HBK hpb hcC
        go_wp2_with fail
        refine (HPB.out _ (HL.out.lay.below (HBA.out.seq HB3.out))).mono ?_
        rintro r W4 ⟨hb4, a2, k2, rfl, hK2⟩
        have hbn := (Below.refl W4.heap.size W4).alloc (Nat.le_refl _) (.cells #[.int .i64 e.op, .int .i64 e.n, .string ⟨e.s.toArray⟩, .slice a2 e.ks.length k2] 24)
        have hbB := ((HBA.out.seq HB3.out).seq hb4).seq hbn
        have hKB := ((HKA.out.keep HB3.out).keep hb4).keep hbn
        have hKC := hK2.keep hbn
        have hc1 := (hbn.block _ (by have := hb4.size; omega)).trans ((hb4.block _ hsz3).trans HCC.out)
        have hc2 := heap_alloc_new W4 (.cells #[.int .i64 e.op, .int .i64 e.n, .string ⟨e.s.toArray⟩, .slice a2 e.ks.length k2] 24)
        clear hb4 hK2 hbn HBA HKA HCC HPB HB3
        go_upto_region 12 with fail
        generalize W4.alloc (.cells #[.int .i64 e.op, .int .i64 e.n, .string ⟨e.s.toArray⟩, .slice a2 e.ks.length k2] 24) = WB at *
        obtain ⟨c0, c1, c2, c3⟩ := four_cells hc1
        obtain ⟨d0, d1, d2, d3⟩ := four_cells hc2
        have hsB : W4.heap.size < WB.heap.size := (Array.getElem?_eq_some_iff.1 hc2).1
        have hs := parseSame_any e e _ _ WB HF.out HF.out (HL.out.lay.below hbB) hKC hKB
        rw [same_self HCK.out] at hs
        have ht := fun W hb => parseText_any e (.slice a2 e.ks.length k2) W HF.out ((HL.out.below hbB).below hb) (hKC.keep hb) HCK.out
        rw [HTX.out] at ht
        unfold exV strV at hs ht
        have HS := Lib.hid hs
        have HT := Lib.hid ht
        have HBB := Lib.hid hbB
        have HC2 := Lib.hid hc2
        clear hs ht hbB hKC hKB hc1 hc2
        go_wp2_with fail
        refine HS.out.mono ?_
        rintro r W5 ⟨rfl, hb5⟩
        have HB5 := Lib.hid hb5
        have hc3 := (hb5.block _ hsB).trans HC2.out
        clear hb5 HC2 c0 c1 c2 c3 d0 d1 d2 d3
        obtain ⟨d0, d1, d2, d3⟩ := four_cells hc3
        clear hc3
        go_wp2_with fail
        refine (HT.out _ HB5.out).mono ?_
        rintro r W6 ⟨rfl, hb6⟩
        have hbC := (HBB.out.seq HB5.out).seq hb6
        clear hb6 d0 d1 d2 d3
        unfold strV
        go_wp2_with fail
        refine (HA.out _ hbC).mono ?_
        rintro r W7 ⟨rfl, hb7⟩
        have hbD := hbC.seq hb7
        go_wp2
        go_ret
        exact ⟨rfl, hbD⟩
end Go.Proofs.YtdgcgogeidnmoaaDoor
