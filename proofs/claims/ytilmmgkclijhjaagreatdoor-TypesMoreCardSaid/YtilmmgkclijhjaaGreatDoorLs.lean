/- The walk of chapter 1's one, at a first byte that announces three. The walk of chapter 1's one, at three bytes: the high runes, what is too low, surrogates. -/
import Derived.Test.YtilmmgkclijhjaaGreatDoorLr
set_option linter.unusedSimpArgs false
set_option linter.unusedVariables false
set_option linter.unusedSectionVars false
namespace Go.Proofs.YtilmmgkclijhjaaGreatDoor
open Go.RowKit Pal
/-- What three bytes come to. -/
def r3 (s : ByteArray) (i : Nat) : Int := ((bt s i - 224) * 64 + (bt s (i + 1) - 128)) * 64 + (bt s (i + 2) - 128)
set_option maxRecDepth 1000000 in
set_option maxHeartbeats 2000000 in
theorem one_three_no1 (s : ByteArray) (i : Nat) (hi : i < s.size) (hs : s.size ≤ 4611686018427387904) (h1 : 224 ≤ (s[i]'hi).toNat) (h2 : (s[i]'hi).toNat ≤ 239) (hg : ¬ goesOn s (i + 1)) (w : World) :
    Calls Tryz.prog 69 #[.string s, .int .i64 i] w fun e w' => e = .returned (pieceV i 1 65533 true) ∧ Below w.heap.size w w' := by
  have hgd : decide (goesOn s (i + 1)) = false := decide_eq_false hg
  go_enter Tryz.func69, Tryz.ntmps69
  go_wp2
  refine wp_loop_rounds 4 ?_
  rw [rounds_succ]
  go_wp2_with fail
  refine (refMore_any s (i + 1) _).mono ?_
  rintro e w1 ⟨rfl, rfl⟩
  rw [if_neg hg, hgd]
  go_wp2
  refine bodyPost_ret (v := pieceV i 1 65533 true) ?_ rfl ⟨rfl, (Below.refl _ _).alloc (Nat.le_refl _) _⟩
  simp [results, Tryz.results69, go_sem, pieceV]
set_option maxRecDepth 1000000 in
set_option maxHeartbeats 2000000 in
theorem one_three_no2 (s : ByteArray) (i : Nat) (hi : i < s.size) (hs : s.size ≤ 4611686018427387904) (h1 : 224 ≤ (s[i]'hi).toNat) (h2 : (s[i]'hi).toNat ≤ 239) (hg : goesOn s (i + 1)) (hk : ¬ goesOn s (i + 2)) (w : World) :
    Calls Tryz.prog 69 #[.string s, .int .i64 i] w fun e w' => e = .returned (pieceV i 1 65533 true) ∧ Below w.heap.size w w' := by
  have hgd : decide (goesOn s (i + 1)) = true := decide_eq_true hg
  have hkd : decide (goesOn s (i + 2)) = false := decide_eq_false hk
  have hb := bt_range s (i + 1)
  go_enter Tryz.func69, Tryz.ntmps69
  go_wp2
  refine wp_loop_rounds 4 ?_
  rw [rounds_succ]
  go_wp2_with fail
  refine (refMore_any s (i + 1) _).mono ?_
  rintro e w1 ⟨rfl, rfl⟩
  rw [if_pos hg, hgd]
  go_wp2
  rw [rounds_succ]
  go_wp2_with fail
  refine (refMore_any s (i + 2) _).mono ?_
  rintro e w1 ⟨rfl, rfl⟩
  rw [if_neg hk, hkd]
  go_wp2
  refine bodyPost_ret (v := pieceV i 1 65533 true) ?_ rfl ⟨rfl, (Below.refl _ _).alloc (Nat.le_refl _) _⟩
  simp [results, Tryz.results69, go_sem, pieceV]
set_option maxRecDepth 1000000 in
set_option maxHeartbeats 2000000 in
theorem one_three (s : ByteArray) (i : Nat) (hi : i < s.size) (hs : s.size ≤ 4611686018427387904) (h1 : 224 ≤ (s[i]'hi).toNat) (h2 : (s[i]'hi).toNat ≤ 239) (hg : goesOn s (i + 1)) (hk : goesOn s (i + 2)) (hv1 : 2048 ≤ r3 s i) (hv2 : r3 s i < 55296) (w : World) :
    Calls Tryz.prog 69 #[.string s, .int .i64 i] w fun e w' => e = .returned (pieceV i 3 (r3 s i) false) ∧ Below w.heap.size w w' := by
  have hgd : decide (goesOn s (i + 1)) = true := decide_eq_true hg
  have hkd : decide (goesOn s (i + 2)) = true := decide_eq_true hk
  have hb := bt_range s (i + 1)
  have hc := bt_range s (i + 2)
  unfold r3 at hv1 hv2 ⊢
  rw [bt_at hi] at hv1 hv2 ⊢
  go_enter Tryz.func69, Tryz.ntmps69
  go_wp2
  refine wp_loop_rounds 4 ?_
  rw [rounds_succ]
  go_wp2_with fail
  refine (refMore_any s (i + 1) _).mono ?_
  rintro e w1 ⟨rfl, rfl⟩
  rw [if_pos hg, hgd]
  go_wp2
  rw [rounds_succ]
  go_wp2_with fail
  refine (refMore_any s (i + 2) _).mono ?_
  rintro e w1 ⟨rfl, rfl⟩
  rw [if_pos hk, hkd]
  go_wp2
  rw [rounds_succ]
  go_wp2
  refine bodyPost_ret (v := pieceV i 3 ((((s[i]'hi).toNat - 224) * 64 + (bt s (i + 1) - 128)) * 64 + (bt s (i + 2) - 128)) false) ?_ rfl ⟨rfl, (Below.refl _ _).alloc (Nat.le_refl _) _⟩
  simp [results, Tryz.results69, go_sem, pieceV]
end Go.Proofs.YtilmmgkclijhjaaGreatDoor
namespace Go.Proofs.YtilmmgkclijhjaaGreatDoor
open Go.RowKit Pal
set_option maxRecDepth 1000000 in
set_option maxHeartbeats 2000000 in
theorem one_three_hi (s : ByteArray) (i : Nat) (hi : i < s.size) (hs : s.size ≤ 4611686018427387904) (h1 : 224 ≤ (s[i]'hi).toNat) (h2 : (s[i]'hi).toNat ≤ 239) (hg : goesOn s (i + 1)) (hk : goesOn s (i + 2)) (hv1 : 57343 < r3 s i) (w : World) :
    Calls Tryz.prog 69 #[.string s, .int .i64 i] w fun e w' => e = .returned (pieceV i 3 (r3 s i) false) ∧ Below w.heap.size w w' := by
  have hgd : decide (goesOn s (i + 1)) = true := decide_eq_true hg
  have hkd : decide (goesOn s (i + 2)) = true := decide_eq_true hk
  have hb := bt_range s (i + 1)
  have hc := bt_range s (i + 2)
  unfold r3 at hv1 ⊢
  rw [bt_at hi] at hv1 ⊢
  go_enter Tryz.func69, Tryz.ntmps69
  go_wp2
  refine wp_loop_rounds 4 ?_
  rw [rounds_succ]
  go_wp2_with fail
  refine (refMore_any s (i + 1) _).mono ?_
  rintro e w1 ⟨rfl, rfl⟩
  rw [if_pos hg, hgd]
  go_wp2
  rw [rounds_succ]
  go_wp2_with fail
  refine (refMore_any s (i + 2) _).mono ?_
  rintro e w1 ⟨rfl, rfl⟩
  rw [if_pos hk, hkd]
  go_wp2
  rw [rounds_succ]
  go_wp2
  refine bodyPost_ret (v := pieceV i 3 ((((s[i]'hi).toNat - 224) * 64 + (bt s (i + 1) - 128)) * 64 + (bt s (i + 2) - 128)) false) ?_ rfl ⟨rfl, (Below.refl _ _).alloc (Nat.le_refl _) _⟩
  simp [results, Tryz.results69, go_sem, pieceV]
set_option maxRecDepth 1000000 in
set_option maxHeartbeats 2000000 in
theorem one_three_low (s : ByteArray) (i : Nat) (hi : i < s.size) (hs : s.size ≤ 4611686018427387904) (h1 : 224 ≤ (s[i]'hi).toNat) (h2 : (s[i]'hi).toNat ≤ 239) (hg : goesOn s (i + 1)) (hk : goesOn s (i + 2)) (hv1 : r3 s i < 2048) (w : World) :
    Calls Tryz.prog 69 #[.string s, .int .i64 i] w fun e w' => e = .returned (pieceV i 1 65533 true) ∧ Below w.heap.size w w' := by
  have hgd : decide (goesOn s (i + 1)) = true := decide_eq_true hg
  have hkd : decide (goesOn s (i + 2)) = true := decide_eq_true hk
  have hb := bt_range s (i + 1)
  have hc := bt_range s (i + 2)
  unfold r3 at hv1
  rw [bt_at hi] at hv1
  go_enter Tryz.func69, Tryz.ntmps69
  go_wp2
  refine wp_loop_rounds 4 ?_
  rw [rounds_succ]
  go_wp2_with fail
  refine (refMore_any s (i + 1) _).mono ?_
  rintro e w1 ⟨rfl, rfl⟩
  rw [if_pos hg, hgd]
  go_wp2
  rw [rounds_succ]
  go_wp2_with fail
  refine (refMore_any s (i + 2) _).mono ?_
  rintro e w1 ⟨rfl, rfl⟩
  rw [if_pos hk, hkd]
  go_wp2
  rw [rounds_succ]
  go_wp2
  refine bodyPost_ret (v := pieceV i 1 65533 true) ?_ rfl ⟨rfl, (Below.refl _ _).alloc (Nat.le_refl _) _⟩
  simp [results, Tryz.results69, go_sem, pieceV]
set_option maxRecDepth 1000000 in
set_option maxHeartbeats 2000000 in
theorem one_three_sur (s : ByteArray) (i : Nat) (hi : i < s.size) (hs : s.size ≤ 4611686018427387904) (h1 : 224 ≤ (s[i]'hi).toNat) (h2 : (s[i]'hi).toNat ≤ 239) (hg : goesOn s (i + 1)) (hk : goesOn s (i + 2)) (hv1 : 55296 ≤ r3 s i) (hv2 : r3 s i ≤ 57343) (w : World) :
    Calls Tryz.prog 69 #[.string s, .int .i64 i] w fun e w' => e = .returned (pieceV i 1 65533 true) ∧ Below w.heap.size w w' := by
  have hgd : decide (goesOn s (i + 1)) = true := decide_eq_true hg
  have hkd : decide (goesOn s (i + 2)) = true := decide_eq_true hk
  have hb := bt_range s (i + 1)
  have hc := bt_range s (i + 2)
  unfold r3 at hv1 hv2
  rw [bt_at hi] at hv1 hv2
  go_enter Tryz.func69, Tryz.ntmps69
  go_wp2
  refine wp_loop_rounds 4 ?_
  rw [rounds_succ]
  go_wp2_with fail
  refine (refMore_any s (i + 1) _).mono ?_
  rintro e w1 ⟨rfl, rfl⟩
  rw [if_pos hg, hgd]
  go_wp2
  rw [rounds_succ]
  go_wp2_with fail
  refine (refMore_any s (i + 2) _).mono ?_
  rintro e w1 ⟨rfl, rfl⟩
  rw [if_pos hk, hkd]
  go_wp2
  rw [rounds_succ]
  go_wp2
  refine bodyPost_ret (v := pieceV i 1 65533 true) ?_ rfl ⟨rfl, (Below.refl _ _).alloc (Nat.le_refl _) _⟩
  simp [results, Tryz.results69, go_sem, pieceV]
end Go.Proofs.YtilmmgkclijhjaaGreatDoor
