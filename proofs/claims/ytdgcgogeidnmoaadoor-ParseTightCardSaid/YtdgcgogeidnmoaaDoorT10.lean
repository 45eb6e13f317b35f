/- The walk of palaverlaw07.ParseTight. Condition: the tables hold what they are laid with. -/
import Derived.Test.YtdgcgogeidnmoaaDoorS5
import Derived.Test.YtdgcgogeidnmoaaDoorL1
import Derived.Test.YtdgcgogeidnmoaaDoorG0
import Derived.Deep.RegionHeld3
import Derived.Deep.DrawnRows
set_option linter.unusedSimpArgs false
set_option linter.unusedVariables false
namespace Go.Proofs.YtdgcgogeidnmoaaDoor
open Go.RowKit Pal
theorem tgS_cells {W : World} {B : Nat} {T : TypeId} (h : W.heap[B]? = some (.cells #[.string ⟨#[124]⟩, .string ⟨#[38]⟩, .string ⟨#[61]⟩, .string ⟨#[33, 61]⟩, .string ⟨#[60]⟩, .string ⟨#[60, 61]⟩, .string ⟨#[43]⟩, .string ⟨#[45]⟩, .string ⟨#[42]⟩, .string ⟨#[47]⟩, .string ⟨#[37]⟩] T (0, 0))) (k : Nat) (hk : k < 11) :
    W.cell? ⟨B, k, none⟩ = some (.string ⟨(tgS k).toArray⟩) := by
  rcases (by omega : k = 0 ∨ k = 1 ∨ k = 2 ∨ k = 3 ∨ k = 4 ∨ k = 5 ∨ k = 6 ∨ k = 7 ∨ k = 8 ∨ k = 9 ∨ k = 10) with rfl | rfl | rfl | rfl | rfl | rfl | rfl | rfl | rfl | rfl | rfl <;> simp [World.cell?, h, tgS]
theorem tgL_cells {W : World} {B : Nat} {T : TypeId} (h : W.heap[B]? = some (.cells #[.int .i64 0, .int .i64 1, .int .i64 2, .int .i64 2, .int .i64 2, .int .i64 2, .int .i64 3, .int .i64 3, .int .i64 4, .int .i64 4, .int .i64 4] T (0, 0))) (k : Nat) (hk : k < 11) :
    W.cell? ⟨B, k, none⟩ = some (.int .i64 (tgL k)) := by
  rcases (by omega : k = 0 ∨ k = 1 ∨ k = 2 ∨ k = 3 ∨ k = 4 ∨ k = 5 ∨ k = 6 ∨ k = 7 ∨ k = 8 ∨ k = 9 ∨ k = 10) with rfl | rfl | rfl | rfl | rfl | rfl | rfl | rfl | rfl | rfl | rfl <;> simp [World.cell?, h, tgL]
theorem tgS_len (k : Nat) : (tgS k).length ≤ 2 := by
  by_cases h : k < 11
  · rcases (by omega : k = 0 ∨ k = 1 ∨ k = 2 ∨ k = 3 ∨ k = 4 ∨ k = 5 ∨ k = 6 ∨ k = 7 ∨ k = 8 ∨ k = 9 ∨ k = 10) with rfl | rfl | rfl | rfl | rfl | rfl | rfl | rfl | rfl | rfl | rfl <;> decide
  · unfold tgS; rw [List.getD_eq_getElem?_getD, List.getElem?_eq_none (by simp; omega)]; simp
theorem ba_ext {x y : ByteArray} (h : x.data.toList = y.data.toList) : x = y := by
  have h1 := strV_data x
  have h2 := strV_data y
  rw [h, h2] at h1
  simpa using h1.symm
theorem parse_yes_n (s : ByteArray) (e : Ex) (w : World) (hm : s.size ≤ 9223372036854775807) (hp : parseM s.data.toList = .ok e) (hL : Lay (gh w)) :
    Calls Tryd.prog 13 #[.string s] w fun r w' => Below w.heap.size w w' ∧ ∃ a cap, r = .returned (.tuple #[.agg #[.int .i64 e.op, .int .i64 e.n, .string ⟨e.s.toArray⟩, .slice a e.ks.length cap], .int .i64 0, .int .i64 0]) ∧ KV (gn w.heap.size w') (.slice a e.ks.length cap) e.ks := by
  refine (parse_any s w hm hL).mono ?_
  rintro r w' ⟨hb, h⟩
  rw [hp] at h
  obtain ⟨v, rfl, kv, rfl, hK⟩ := h
  obtain ⟨a, cap, rfl⟩ := hK.form
  exact ⟨hb, a, cap, rfl, hK⟩
set_option maxRecDepth 1000000 in
set_option maxHeartbeats 8000000 in
theorem tight_walk (i k : Int) (w : World) (hL : Lay2 w) (hi : -9223372036854775808 ≤ i ∧ i ≤ 9223372036854775807) (hk : -9223372036854775808 ≤ k ∧ k ≤ 9223372036854775807) :
    Calls Tryd.prog 4 #[.int .i64 i, .int .i64 k] w (yesPost w) := by
  have HL := Lib.hid hL
  have HA := Lib.hid (fun W hb => awake7 W (hL.below hb))
  obtain ⟨a, ha, ha11⟩ : ∃ a : Nat, i % 11 = a ∧ a < 11 := ⟨(i % 11).toNat, by omega, by omega⟩
  obtain ⟨b, hb, hb11⟩ : ∃ b : Nat, k % 11 = b ∧ b < 11 := ⟨(k % 11).toNat, by omega, by omega⟩
  have p1 := fun w => place_any i 11 w hi (by omega) (by omega)
  have p2 := fun w => place_any k 11 w hk (by omega) (by omega)
  rw [ha] at p1
  rw [hb] at p2
  have P1 := Lib.hid p1
  have P2 := Lib.hid p2
  have ia0 : (0 : Int) ≤ (a : Int) := by omega
  have ia1 : (a : Int) < 11 := by omega
  have ib0 : (0 : Int) ≤ (b : Int) := by omega
  have ib1 : (b : Int) < 11 := by omega
  have hla := tgS_len a
  have hlb := tgS_len b
  have HBAD := Lib.hid (fun h => tg_bad ha11 hb11 h)
  have HOK := Lib.hid (fun h => tg_ok ha11 hb11 h)
  have hcat : (((((⟨#[120, 32]⟩ : ByteArray) ++ ⟨(tgS a).toArray⟩) ++ ⟨#[32, 121, 32]⟩) ++ ⟨(tgS b).toArray⟩) ++ ⟨#[32, 122]⟩).data.toList = tgT a b := by
    unfold tgT; simp
  have hsz : (((((⟨#[120, 32]⟩ : ByteArray) ++ ⟨(tgS a).toArray⟩) ++ ⟨#[32, 121, 32]⟩) ++ ⟨(tgS b).toArray⟩) ++ ⟨#[32, 122]⟩).size ≤ 9223372036854775807 := by
    rw [← len_toList, hcat]; unfold tgT; simp only [List.length_append, List.length_cons, List.length_nil]; omega
  have HCAT := Lib.hid hcat
  have HSZ := Lib.hid hsz
  have hb0 : Below w.heap.size w ((w.alloc (.cells #[.string ⟨#[124]⟩, .string ⟨#[38]⟩, .string ⟨#[61]⟩, .string ⟨#[33, 61]⟩, .string ⟨#[60]⟩, .string ⟨#[60, 61]⟩, .string ⟨#[43]⟩, .string ⟨#[45]⟩, .string ⟨#[42]⟩, .string ⟨#[47]⟩, .string ⟨#[37]⟩] 32)).alloc (.cells #[.int .i64 0, .int .i64 1, .int .i64 2, .int .i64 2, .int .i64 2, .int .i64 2, .int .i64 3, .int .i64 3, .int .i64 4, .int .i64 4, .int .i64 4] 33)) := ((Below.refl _ _).alloc (Nat.le_refl _) _).alloc (by simp) _
  have hz0 : ((w.alloc (.cells #[.string ⟨#[124]⟩, .string ⟨#[38]⟩, .string ⟨#[61]⟩, .string ⟨#[33, 61]⟩, .string ⟨#[60]⟩, .string ⟨#[60, 61]⟩, .string ⟨#[43]⟩, .string ⟨#[45]⟩, .string ⟨#[42]⟩, .string ⟨#[47]⟩, .string ⟨#[37]⟩] 32)).alloc (.cells #[.int .i64 0, .int .i64 1, .int .i64 2, .int .i64 2, .int .i64 2, .int .i64 2, .int .i64 3, .int .i64 3, .int .i64 4, .int .i64 4, .int .i64 4] 33)).heap[w.heap.size]? = some (.cells #[.string ⟨#[124]⟩, .string ⟨#[38]⟩, .string ⟨#[61]⟩, .string ⟨#[33, 61]⟩, .string ⟨#[60]⟩, .string ⟨#[60, 61]⟩, .string ⟨#[43]⟩, .string ⟨#[45]⟩, .string ⟨#[42]⟩, .string ⟨#[47]⟩, .string ⟨#[37]⟩] 32 (0, 0)) := by
    rw [Lib.alloc_old _ _ _ (by simp)]; exact heap_alloc_new w _
  have hz1 : ((w.alloc (.cells #[.string ⟨#[124]⟩, .string ⟨#[38]⟩, .string ⟨#[61]⟩, .string ⟨#[33, 61]⟩, .string ⟨#[60]⟩, .string ⟨#[60, 61]⟩, .string ⟨#[43]⟩, .string ⟨#[45]⟩, .string ⟨#[42]⟩, .string ⟨#[47]⟩, .string ⟨#[37]⟩] 32)).alloc (.cells #[.int .i64 0, .int .i64 1, .int .i64 2, .int .i64 2, .int .i64 2, .int .i64 2, .int .i64 3, .int .i64 3, .int .i64 4, .int .i64 4, .int .i64 4] 33)).heap[w.heap.size + 1]? = some (.cells #[.int .i64 0, .int .i64 1, .int .i64 2, .int .i64 2, .int .i64 2, .int .i64 2, .int .i64 3, .int .i64 3, .int .i64 4, .int .i64 4, .int .i64 4] 33 (0, 0)) := by
    have := heap_alloc_new (w.alloc (.cells #[.string ⟨#[124]⟩, .string ⟨#[38]⟩, .string ⟨#[61]⟩, .string ⟨#[33, 61]⟩, .string ⟨#[60]⟩, .string ⟨#[60, 61]⟩, .string ⟨#[43]⟩, .string ⟨#[45]⟩, .string ⟨#[42]⟩, .string ⟨#[47]⟩, .string ⟨#[37]⟩] 32)) (.cells #[.int .i64 0, .int .i64 1, .int .i64 2, .int .i64 2, .int .i64 2, .int .i64 2, .int .i64 3, .int .i64 3, .int .i64 4, .int .i64 4, .int .i64 4] 33)
    simpa using this
  have HB0 := Lib.hid hb0
  have HSA := Lib.hid (tgS_cells hz0 a ha11)
  have HSB := Lib.hid (tgS_cells hz0 b hb11)
  have HLA := Lib.hid (tgL_cells hz1 a ha11)
  have HLB := Lib.hid (tgL_cells hz1 b hb11)
  have hsw : w.heap.size + 1 < ((w.alloc (.cells #[.string ⟨#[124]⟩, .string ⟨#[38]⟩, .string ⟨#[61]⟩, .string ⟨#[33, 61]⟩, .string ⟨#[60]⟩, .string ⟨#[60, 61]⟩, .string ⟨#[43]⟩, .string ⟨#[45]⟩, .string ⟨#[42]⟩, .string ⟨#[47]⟩, .string ⟨#[37]⟩] 32)).alloc (.cells #[.int .i64 0, .int .i64 1, .int .i64 2, .int .i64 2, .int .i64 2, .int .i64 2, .int .i64 3, .int .i64 3, .int .i64 4, .int .i64 4, .int .i64 4] 33)).heap.size := (Array.getElem?_eq_some_iff.1 hz1).1
  have HSW := Lib.hid hsw
  clear hL hi hk ha hb p1 p2 hcat hsz hb0 hz0 hz1 hsw
  go_enter Tryd.func4, Tryd.ntmps4
  go_upto_region 3 with fail
  generalize (w.alloc (.cells #[.string ⟨#[124]⟩, .string ⟨#[38]⟩, .string ⟨#[61]⟩, .string ⟨#[33, 61]⟩, .string ⟨#[60]⟩, .string ⟨#[60, 61]⟩, .string ⟨#[43]⟩, .string ⟨#[45]⟩, .string ⟨#[42]⟩, .string ⟨#[47]⟩, .string ⟨#[37]⟩] 32)).alloc (.cells #[.int .i64 0, .int .i64 1, .int .i64 2, .int .i64 2, .int .i64 2, .int .i64 2, .int .i64 3, .int .i64 3, .int .i64 4, .int .i64 4, .int .i64 4] 33) = W0 at *
  go_wp2_with fail
  refine (P1.out _).mono ?_
  rintro r W ⟨rfl, rfl⟩
  go_wp2_with fail
  refine (P2.out _).mono ?_
  rintro r W ⟨rfl, rfl⟩
  go_upto_region 5 with fail
  have hk3 : ∀ W3, Below W0.heap.size W0 W3 → W3.cell? ⟨w.heap.size, a, none⟩ = some (.string ⟨(tgS a).toArray⟩) ∧ W3.cell? ⟨w.heap.size, b, none⟩ = some (.string ⟨(tgS b).toArray⟩) ∧ W3.cell? ⟨w.heap.size + 1, a, none⟩ = some (.int .i64 (tgL a)) ∧ W3.cell? ⟨w.heap.size + 1, b, none⟩ = some (.int .i64 (tgL b)) := fun W3 hb => by
    have hs := HSW.out
    refine ⟨?_, ?_, ?_, ?_⟩
    · rw [hb.cell (p := ⟨w.heap.size, a, none⟩) (by show w.heap.size < _; omega)]; exact HSA.out
    · rw [hb.cell (p := ⟨w.heap.size, b, none⟩) (by show w.heap.size < _; omega)]; exact HSB.out
    · rw [hb.cell (p := ⟨w.heap.size + 1, a, none⟩) hs]; exact HLA.out
    · rw [hb.cell (p := ⟨w.heap.size + 1, b, none⟩) hs]; exact HLB.out
  have HK3 := Lib.hid hk3
  obtain ⟨c0, c1, c2, c3⟩ := hk3 W0 (Below.refl _ _)
  clear hk3 HSA HSB HLA HLB P1 P2
  have z1 : ¬ 9223372036854775807 < 2 + (tgS a).length := by omega
  have z2 : ¬ 9223372036854775807 < 2 + (tgS a).length + 3 := by omega
  have z3 : ¬ 9223372036854775807 < 2 + (tgS a).length + 3 + (tgS b).length := by omega
  have z4 : ¬ 9223372036854775807 < 2 + (tgS a).length + 3 + (tgS b).length + 2 := by omega
  have hne1 : ¬ (w.heap.size = W0.heap.size) := by have := HSW.out; omega
  have hne2 : ¬ (W0.heap.size = w.heap.size) := by have := HSW.out; omega
  have HLW := Lib.hid (fun W (hb : Below W0.heap.size W0 W) => HL.out.lay.below (HB0.out.seq hb))
  by_cases h2 : tgL a = 2 ∧ tgL b = 2
  · have hp := HBAD.out h2
    have hps := fun W hL => parse_no _ (5 + (tgS a).length) 6 W HSZ.out (by rw [HCAT.out]; exact hp) hL
    have HPS := Lib.hid hps
    have H2 := Lib.hid h2
    clear hp hps h2 HBAD HOK
    go_region_held3 (fun w' => (w'.cell? ⟨w.heap.size, a, none⟩ = some (.string ⟨(tgS a).toArray⟩) ∧ w'.cell? ⟨w.heap.size, b, none⟩ = some (.string ⟨(tgS b).toArray⟩))) (go_keep)
      ((go_at_call 13; first
        | (refine (HPS.out _ (HLW.out _ ((Below.refl W0.heap.size W0).drew))).mono ?_; rintro r W3 ⟨hb3, rfl⟩; have hb4 := Below.seq (Below.drew (Below.refl W0.heap.size W0)) hb3; have hg := HK3.out W3 hb4; obtain ⟨g0, g1, g2, g3⟩ := hg; clear hb3)
        | (refine (HPS.out _ (HLW.out _ (((Below.refl W0.heap.size W0).alloc (Nat.le_refl _) _).drew))).mono ?_; rintro r W3 ⟨hb3, rfl⟩; have hb4 := Below.seq (((Below.refl W0.heap.size W0).alloc (Nat.le_refl _) (.cells #[.int .i64 0, .int .i64 0, .string ⟨#[]⟩, .slice none 0 0] 24)).drew) hb3; have hg := HK3.out W3 hb4; obtain ⟨g0, g1, g2, g3⟩ := hg; have hz3 := (hb3.block W0.heap.size (by simp)).trans (heap_alloc_new W0 (.cells #[.int .i64 0, .int .i64 0, .string ⟨#[]⟩, .slice none 0 0] 24)); have hy3 := four_all hz3; obtain ⟨⟨m0, m1, m2, m3⟩, n0, n1, n2, n3⟩ := hy3; clear hb3)))
    all_goals
      first
        | (generalize hW4 : World.alloc _ _ = W4; have hb5 : Below W0.heap.size W0 W4 := by (rw [← hW4]; exact hb4.alloc hb4.size _))
        | (generalize hW4 : World.setCell (World.setCell (World.setCell (World.setCell _ _ _) _ _) _ _) _ _ = W4; have hb5 : Below W0.heap.size W0 W4 := by (rw [← hW4]; exact below_set4 hb4 (Nat.le_refl _) _ _ _ _))
      obtain ⟨f0, f1, f2, f3⟩ := HK3.out W4 hb5
      have hb6 := HB0.out.seq hb5
      have q1 : ((tgL a : Int) == 2) = true := by rw [H2.out.1]; rfl
      have q2 : ((tgL b : Int) == 2) = true := by rw [H2.out.2]; rfl
      clear hW4 hb4 hb5 c0 c1 c2 c3
      go_wp2_with fail
      refine (HA.out _ hb6).mono ?_
      rintro r W5 ⟨rfl, hb7⟩
      have hb8 := hb6.seq hb7
      go_wp2
      go_ret
      exact ⟨rfl, hb8⟩
  · obtain ⟨e, hp, htx, hck⟩ := HOK.out h2
    have hps := fun W hL => parse_yes_n _ e W HSZ.out (by rw [HCAT.out]; exact hp) hL
    have hFe := parseM_fine hp
    have hlm := check_tz hFe hck
    have hlt : (tgW a b).length ≤ 1000000 := by rw [← htx]; cases hlm with | mk _ _ _ _ _ _ h _ => exact h
    have hlns : ∃ x y z : Bool, ((tgL a : Int) == 2) = x ∧ ((tgL b : Int) == 2) = y ∧ decide (tgL b ≤ tgL a) = z ∧ (x && y) = false ∧ tgW a b = if z = true then [40, 40, 120, 32] ++ tgS a ++ [32, 121, 41, 32] ++ tgS b ++ [32, 122, 41] else [40, 120, 32] ++ tgS a ++ [32, 40, 121, 32] ++ tgS b ++ [32, 122, 41, 41] := by
      refine ⟨_, _, _, rfl, rfl, rfl, ?_, ?_⟩
      · rw [Bool.and_eq_false_iff]
        by_cases hx : tgL a = 2
        · right; exact beq_eq_false_iff_ne.2 (fun h => h2 ⟨hx, by omega⟩)
        · left; exact beq_eq_false_iff_ne.2 (fun h => hx (by omega))
      · unfold tgW
        by_cases hx : tgL b ≤ tgL a
        · rw [if_pos hx, if_pos (decide_eq_true hx)]
        · rw [if_neg hx, if_neg (by rw [decide_eq_true_eq]; exact hx)]
    have HPS := Lib.hid hps
    have HFE := Lib.hid hFe
    have HTX := Lib.hid htx
    have HCK := Lib.hid hck
    have HLN := Lib.hid hlns
    clear hp hps h2 HBAD HOK hFe hlm htx hck hlns hlt
    go_region_held3 (fun w' => (w'.cell? ⟨w.heap.size, a, none⟩ = some (.string ⟨(tgS a).toArray⟩) ∧ w'.cell? ⟨w.heap.size, b, none⟩ = some (.string ⟨(tgS b).toArray⟩))) (go_keep)
      ((go_at_call 13; first
        | (refine (HPS.out _ (HLW.out _ ((Below.refl W0.heap.size W0).drew))).mono ?_; rintro r W3 ⟨hb3, ea, ek, rfl, hKe⟩; have hb4 := Below.seq (Below.drew (Below.refl W0.heap.size W0)) hb3; have hg := HK3.out W3 hb4; obtain ⟨g0, g1, g2, g3⟩ := hg; have hke := Lib.hid hKe; clear hb3 hKe)
        | (refine (HPS.out _ (HLW.out _ (((Below.refl W0.heap.size W0).alloc (Nat.le_refl _) _).drew))).mono ?_; rintro r W3 ⟨hb3, ea, ek, rfl, hKe⟩; have hb4 := Below.seq (((Below.refl W0.heap.size W0).alloc (Nat.le_refl _) (.cells #[.int .i64 0, .int .i64 0, .string ⟨#[]⟩, .slice none 0 0] 24)).drew) hb3; have hg := HK3.out W3 hb4; obtain ⟨g0, g1, g2, g3⟩ := hg; have hz3 := (hb3.block W0.heap.size (by simp)).trans (heap_alloc_new W0 (.cells #[.int .i64 0, .int .i64 0, .string ⟨#[]⟩, .slice none 0 0] 24)); have hy3 := four_all hz3; obtain ⟨⟨m0, m1, m2, m3⟩, n0, n1, n2, n3⟩ := hy3; have hke := Lib.hid hKe; have HZ3 := Lib.hid hz3; have hnn : W0.heap.size < W3.heap.size := (Array.getElem?_eq_some_iff.1 hz3).1; clear hb3 hKe hz3)))
    · generalize hW4 : World.alloc _ _ = W4
      have hb5 : Below W0.heap.size W0 W4 := by rw [← hW4]; exact hb4.alloc hb4.size _
      have hz5 : W4.heap[W3.heap.size]? = some (.cells #[.int .i64 e.op, .int .i64 e.n, .string ⟨e.s.toArray⟩, .slice ea e.ks.length ek] 24 (0, 0)) := by rw [← hW4]; exact heap_alloc_new W3 _
      have hk5 : KV (gh W4) (.slice ea e.ks.length ek) e.ks := by rw [← hW4]; exact (hke.out.mono (gp_gh _ _)).keep ((Below.refl _ _).alloc (Nat.le_refl _) _)
      have ⟨x, y, z, qx, qy, qz, hxy, hw⟩ := HLN.out
      obtain ⟨f0, f1, f2, f3⟩ := HK3.out W4 hb5
      obtain ⟨e0, e1, e2, e3⟩ := four_cells hz5
      have hb6 := HB0.out.seq hb5
      have HZ5 := Lib.hid hz5
      have HK5 := Lib.hid hk5
      have HB6 := Lib.hid hb6
      have HW := Lib.hid hw
      have y1 : ¬ 9223372036854775807 < 3 + (tgS a).length := by omega
      have y2 : ¬ 9223372036854775807 < 3 + (tgS a).length + 4 := by omega
      have y3 : ¬ 9223372036854775807 < 3 + (tgS a).length + 4 + (tgS b).length := by omega
      have y4 : ¬ 9223372036854775807 < 3 + (tgS a).length + 4 + (tgS b).length + 4 := by omega
      have x1 : ¬ 9223372036854775807 < 4 + (tgS a).length := by omega
      have x2 : ¬ 9223372036854775807 < 4 + (tgS a).length + 4 := by omega
      have x3 : ¬ 9223372036854775807 < 4 + (tgS a).length + 4 + (tgS b).length := by omega
      have x4 : ¬ 9223372036854775807 < 4 + (tgS a).length + 4 + (tgS b).length + 3 := by omega
      clear hW4 hb4 hb5 c0 c1 c2 c3 z1 z2 z3 z4 g0 g1 g2 g3 hz5 hk5 hb6 hw hke
      have ht := fun W hb => parseText_any e (.slice ea e.ks.length ek) W HFE.out ((HL.out.below HB6.out).below hb) (HK5.out.keep hb) HCK.out
      rw [HTX.out] at ht
      unfold exV strV at ht
      have HT := Lib.hid ht
      clear ht
      have hq : ∀ n, Below W4.heap.size W4 (W4.drewN n) := fun n => below_drewN (Below.refl _ _) n
      have HQ := Lib.hid hq
      clear hq HK3 HPS
      cases x <;> cases y
      all_goals (try (exact absurd hxy (by decide)))
      all_goals
        cases z
        · go_upto_region 8 with fail
          go_quiet (fail)
          go_wp2
          go_quiet (fail)
          generalize hcc : (_ ++ _ : ByteArray) = xx
          have hx : xx = ⟨(tgW a b).toArray⟩ := by
            rw [← hcc, HW.out]
            exact ba_ext (by simp)
          subst hx
          clear hcc HW f0 f1 f2 f3 y1 y2 y3 y4 x1 x2 x3 x4
          go_wp2_with fail
          refine (HT.out _ (by first | exact HQ.out _ | exact Below.drew (HQ.out _) | exact below_drewN (HQ.out _) _ | exact Below.drew (Below.refl _ _))).mono ?_
          rintro r W5 ⟨rfl, hb7⟩
          have hb8 := (HB6.out.seq (by first | exact HQ.out _ | exact Below.drew (HQ.out _) | exact below_drewN (HQ.out _) _ | exact Below.drew (Below.refl _ _))).seq hb7
          clear hb7 e0 e1 e2 e3
          unfold strV
          go_wp2_with fail
          refine (HA.out _ hb8).mono ?_
          rintro r W6 ⟨rfl, hb9⟩
          have hb10 := hb8.seq hb9
          go_wp2
          go_ret
          exact ⟨rfl, hb10⟩
        · go_upto_region 8 with fail
          go_quiet (fail)
          go_wp2
          go_quiet (fail)
          go_wp2
          go_quiet (fail)
          generalize hcc : (_ ++ _ : ByteArray) = xx
          have hx : xx = ⟨(tgW a b).toArray⟩ := by
            rw [← hcc, HW.out]
            exact ba_ext (by simp)
          subst hx
          clear hcc HW f0 f1 f2 f3 y1 y2 y3 y4 x1 x2 x3 x4
          go_wp2_with fail
          refine (HT.out _ (by first | exact HQ.out _ | exact Below.drew (HQ.out _) | exact below_drewN (HQ.out _) _ | exact Below.drew (Below.refl _ _))).mono ?_
          rintro r W5 ⟨rfl, hb7⟩
          have hb8 := (HB6.out.seq (by first | exact HQ.out _ | exact Below.drew (HQ.out _) | exact below_drewN (HQ.out _) _ | exact Below.drew (Below.refl _ _))).seq hb7
          clear hb7 e0 e1 e2 e3
          unfold strV
          go_wp2_with fail
          refine (HA.out _ hb8).mono ?_
          rintro r W6 ⟨rfl, hb9⟩
          have hb10 := hb8.seq hb9
          go_wp2
          go_ret
          exact ⟨rfl, hb10⟩
    · generalize hW4 : World.setCell (World.setCell (World.setCell (World.setCell _ _ _) _ _) _ _) _ _ = W4
      have hb5 : Below W0.heap.size W0 W4 := by rw [← hW4]; exact below_set4 hb4 (Nat.le_refl _) _ _ _ _
      have hz5 : W4.heap[W0.heap.size]? = some (.cells #[.int .i64 e.op, .int .i64 e.n, .string ⟨e.s.toArray⟩, .slice ea e.ks.length ek] 24 (0, 0)) := by rw [← hW4]; exact set4_heap HZ3.out _ _ _ _
      have hk5 : KV (gh W4) (.slice ea e.ks.length ek) e.ks := (hke.out.mono (gp_le (q := fun b => W0.heap.size < b) (w' := W4) fun x hx hl => ⟨by simp at hx; omega, by rw [← hW4]; exact set4_other (by simp at hx; omega) _ _ _ _⟩)).mono (gp_gh _ _)
      have ⟨x, y, z, qx, qy, qz, hxy, hw⟩ := HLN.out
      obtain ⟨f0, f1, f2, f3⟩ := HK3.out W4 hb5
      obtain ⟨e0, e1, e2, e3⟩ := four_cells hz5
      have hb6 := HB0.out.seq hb5
      have HZ5 := Lib.hid hz5
      have HK5 := Lib.hid hk5
      have HB6 := Lib.hid hb6
      have HW := Lib.hid hw
      have y1 : ¬ 9223372036854775807 < 3 + (tgS a).length := by omega
      have y2 : ¬ 9223372036854775807 < 3 + (tgS a).length + 4 := by omega
      have y3 : ¬ 9223372036854775807 < 3 + (tgS a).length + 4 + (tgS b).length := by omega
      have y4 : ¬ 9223372036854775807 < 3 + (tgS a).length + 4 + (tgS b).length + 4 := by omega
      have x1 : ¬ 9223372036854775807 < 4 + (tgS a).length := by omega
      have x2 : ¬ 9223372036854775807 < 4 + (tgS a).length + 4 := by omega
      have x3 : ¬ 9223372036854775807 < 4 + (tgS a).length + 4 + (tgS b).length := by omega
      have x4 : ¬ 9223372036854775807 < 4 + (tgS a).length + 4 + (tgS b).length + 3 := by omega
      clear hW4 hb4 hb5 c0 c1 c2 c3 z1 z2 z3 z4 g0 g1 g2 g3 hz5 hk5 hb6 hw hke
      have ht := fun W hb => parseText_any e (.slice ea e.ks.length ek) W HFE.out ((HL.out.below HB6.out).below hb) (HK5.out.keep hb) HCK.out
      rw [HTX.out] at ht
      unfold exV strV at ht
      have HT := Lib.hid ht
      clear ht
      have hq : ∀ n, Below W4.heap.size W4 (W4.drewN n) := fun n => below_drewN (Below.refl _ _) n
      have HQ := Lib.hid hq
      clear hq HK3 HPS
      cases x <;> cases y
      all_goals (try (exact absurd hxy (by decide)))
      all_goals
        cases z
        · go_upto_region 8 with fail
          go_quiet (fail)
          go_wp2
          go_quiet (fail)
          generalize hcc : (_ ++ _ : ByteArray) = xx
          have hx : xx = ⟨(tgW a b).toArray⟩ := by
            rw [← hcc, HW.out]
            exact ba_ext (by simp)
          subst hx
          clear hcc HW f0 f1 f2 f3 y1 y2 y3 y4 x1 x2 x3 x4
          go_wp2_with fail
          refine (HT.out _ (by first | exact HQ.out _ | exact Below.drew (HQ.out _) | exact below_drewN (HQ.out _) _ | exact Below.drew (Below.refl _ _))).mono ?_
          rintro r W5 ⟨rfl, hb7⟩
          have hb8 := (HB6.out.seq (by first | exact HQ.out _ | exact Below.drew (HQ.out _) | exact below_drewN (HQ.out _) _ | exact Below.drew (Below.refl _ _))).seq hb7
          clear hb7 e0 e1 e2 e3
          unfold strV
          go_wp2_with fail
          refine (HA.out _ hb8).mono ?_
          rintro r W6 ⟨rfl, hb9⟩
          have hb10 := hb8.seq hb9
          go_wp2
          go_ret
          exact ⟨rfl, hb10⟩
        · go_upto_region 8 with fail
          go_quiet (fail)
          go_wp2
          go_quiet (fail)
          go_wp2
          go_quiet (fail)
          generalize hcc : (_ ++ _ : ByteArray) = xx
          have hx : xx = ⟨(tgW a b).toArray⟩ := by
            rw [← hcc, HW.out]
            exact ba_ext (by simp)
          subst hx
          clear hcc HW f0 f1 f2 f3 y1 y2 y3 y4 x1 x2 x3 x4
          go_wp2_with fail
          refine (HT.out _ (by first | exact HQ.out _ | exact Below.drew (HQ.out _) | exact below_drewN (HQ.out _) _ | exact Below.drew (Below.refl _ _))).mono ?_
          rintro r W5 ⟨rfl, hb7⟩
          have hb8 := (HB6.out.seq (by first | exact HQ.out _ | exact Below.drew (HQ.out _) | exact below_drewN (HQ.out _) _ | exact Below.drew (Below.refl _ _))).seq hb7
          clear hb7 e0 e1 e2 e3
          unfold strV
          go_wp2_with fail
          refine (HA.out _ hb8).mono ?_
          rintro r W6 ⟨rfl, hb9⟩
          have hb10 := hb8.seq hb9
          go_wp2
          go_ret
          exact ⟨rfl, hb10⟩
end Go.Proofs.YtdgcgogeidnmoaaDoor
