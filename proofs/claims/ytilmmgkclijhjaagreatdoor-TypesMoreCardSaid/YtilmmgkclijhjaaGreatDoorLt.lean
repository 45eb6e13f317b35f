/- The walk of chapter 1's one, at a first byte that announces four. Decoding, by the bytes: what chapter 1's one gives is what Utf8.decode gives. Chapter 1's one, whole: the piece that decoding gives. -/
import Derived.Test.YtilmmgkclijhjaaGreatDoorLs
import Derived.Test.YtilmmgkclijhjaaGreatDoorLr
import Derived.Lib.DecodeN
set_option linter.unusedSimpArgs false
set_option linter.unusedVariables false
set_option linter.unusedSectionVars false
namespace Go.Proofs.YtilmmgkclijhjaaGreatDoor
open Go.RowKit Pal
/-- What four bytes come to. -/
def r4 (s : ByteArray) (i : Nat) : Int := (((bt s i - 240) * 64 + (bt s (i + 1) - 128)) * 64 + (bt s (i + 2) - 128)) * 64 + (bt s (i + 3) - 128)
set_option maxRecDepth 1000000 in
set_option maxHeartbeats 4000000 in
theorem one_four_no1 (s : ByteArray) (i : Nat) (hi : i < s.size) (hs : s.size ≤ 4611686018427387904) (h1 : 240 ≤ (s[i]'hi).toNat) (h2 : (s[i]'hi).toNat ≤ 244) (g1 : ¬ goesOn s (i + 1))  (w : World) :
    Calls Tryz.prog 69 #[.string s, .int .i64 i] w fun e w' => e = .returned (pieceV i 1 65533 true) ∧ Below w.heap.size w w' := by
  have d1 : decide (goesOn s (i + 1)) = false := decide_eq_false g1
  go_enter Tryz.func69, Tryz.ntmps69
  go_wp2
  refine wp_loop_rounds 5 ?_
  rw [rounds_succ]
  go_wp2_with fail
  refine (refMore_any s (i + 1) _).mono ?_
  rintro e w1 ⟨rfl, rfl⟩
  rw [if_neg g1, d1]
  go_wp2
  refine bodyPost_ret (v := pieceV i 1 65533 true) ?_ rfl ⟨rfl, (Below.refl _ _).alloc (Nat.le_refl _) _⟩
  simp [results, Tryz.results69, go_sem, pieceV]
set_option maxRecDepth 1000000 in
set_option maxHeartbeats 4000000 in
theorem one_four_no2 (s : ByteArray) (i : Nat) (hi : i < s.size) (hs : s.size ≤ 4611686018427387904) (h1 : 240 ≤ (s[i]'hi).toNat) (h2 : (s[i]'hi).toNat ≤ 244) (g1 : goesOn s (i + 1)) (g2 : ¬ goesOn s (i + 2))  (w : World) :
    Calls Tryz.prog 69 #[.string s, .int .i64 i] w fun e w' => e = .returned (pieceV i 1 65533 true) ∧ Below w.heap.size w w' := by
  have d1 : decide (goesOn s (i + 1)) = true := decide_eq_true g1
  have b1 := bt_range s (i + 1)
  have d2 : decide (goesOn s (i + 2)) = false := decide_eq_false g2
  go_enter Tryz.func69, Tryz.ntmps69
  go_wp2
  refine wp_loop_rounds 5 ?_
  rw [rounds_succ]
  go_wp2_with fail
  refine (refMore_any s (i + 1) _).mono ?_
  rintro e w1 ⟨rfl, rfl⟩
  rw [if_pos g1, d1]
  go_wp2
  rw [rounds_succ]
  go_wp2_with fail
  refine (refMore_any s (i + 2) _).mono ?_
  rintro e w1 ⟨rfl, rfl⟩
  rw [if_neg g2, d2]
  go_wp2
  refine bodyPost_ret (v := pieceV i 1 65533 true) ?_ rfl ⟨rfl, (Below.refl _ _).alloc (Nat.le_refl _) _⟩
  simp [results, Tryz.results69, go_sem, pieceV]
set_option maxRecDepth 1000000 in
set_option maxHeartbeats 4000000 in
theorem one_four_no3 (s : ByteArray) (i : Nat) (hi : i < s.size) (hs : s.size ≤ 4611686018427387904) (h1 : 240 ≤ (s[i]'hi).toNat) (h2 : (s[i]'hi).toNat ≤ 244) (g1 : goesOn s (i + 1)) (g2 : goesOn s (i + 2)) (g3 : ¬ goesOn s (i + 3))  (w : World) :
    Calls Tryz.prog 69 #[.string s, .int .i64 i] w fun e w' => e = .returned (pieceV i 1 65533 true) ∧ Below w.heap.size w w' := by
  have d1 : decide (goesOn s (i + 1)) = true := decide_eq_true g1
  have b1 := bt_range s (i + 1)
  have d2 : decide (goesOn s (i + 2)) = true := decide_eq_true g2
  have b2 := bt_range s (i + 2)
  have d3 : decide (goesOn s (i + 3)) = false := decide_eq_false g3
  go_enter Tryz.func69, Tryz.ntmps69
  go_wp2
  refine wp_loop_rounds 5 ?_
  rw [rounds_succ]
  go_wp2_with fail
  refine (refMore_any s (i + 1) _).mono ?_
  rintro e w1 ⟨rfl, rfl⟩
  rw [if_pos g1, d1]
  go_wp2
  rw [rounds_succ]
  go_wp2_with fail
  refine (refMore_any s (i + 2) _).mono ?_
  rintro e w1 ⟨rfl, rfl⟩
  rw [if_pos g2, d2]
  go_wp2
  rw [rounds_succ]
  go_wp2_with fail
  refine (refMore_any s (i + 3) _).mono ?_
  rintro e w1 ⟨rfl, rfl⟩
  rw [if_neg g3, d3]
  go_wp2
  refine bodyPost_ret (v := pieceV i 1 65533 true) ?_ rfl ⟨rfl, (Below.refl _ _).alloc (Nat.le_refl _) _⟩
  simp [results, Tryz.results69, go_sem, pieceV]
set_option maxRecDepth 1000000 in
set_option maxHeartbeats 4000000 in
theorem one_four (s : ByteArray) (i : Nat) (hi : i < s.size) (hs : s.size ≤ 4611686018427387904) (h1 : 240 ≤ (s[i]'hi).toNat) (h2 : (s[i]'hi).toNat ≤ 244) (g1 : goesOn s (i + 1)) (g2 : goesOn s (i + 2)) (g3 : goesOn s (i + 3)) (hv1 : 65536 ≤ r4 s i) (hv2 : r4 s i ≤ 1114111) (w : World) :
    Calls Tryz.prog 69 #[.string s, .int .i64 i] w fun e w' => e = .returned (pieceV i 4 (r4 s i) false) ∧ Below w.heap.size w w' := by
  have d1 : decide (goesOn s (i + 1)) = true := decide_eq_true g1
  have b1 := bt_range s (i + 1)
  have d2 : decide (goesOn s (i + 2)) = true := decide_eq_true g2
  have b2 := bt_range s (i + 2)
  have d3 : decide (goesOn s (i + 3)) = true := decide_eq_true g3
  have b3 := bt_range s (i + 3)
  unfold r4 at hv1 hv2 ⊢
  rw [bt_at hi] at hv1 hv2 ⊢
  go_enter Tryz.func69, Tryz.ntmps69
  go_wp2
  refine wp_loop_rounds 5 ?_
  rw [rounds_succ]
  go_wp2_with fail
  refine (refMore_any s (i + 1) _).mono ?_
  rintro e w1 ⟨rfl, rfl⟩
  rw [if_pos g1, d1]
  go_wp2
  rw [rounds_succ]
  go_wp2_with fail
  refine (refMore_any s (i + 2) _).mono ?_
  rintro e w1 ⟨rfl, rfl⟩
  rw [if_pos g2, d2]
  go_wp2
  rw [rounds_succ]
  go_wp2_with fail
  refine (refMore_any s (i + 3) _).mono ?_
  rintro e w1 ⟨rfl, rfl⟩
  rw [if_pos g3, d3]
  go_wp2
  rw [rounds_succ]
  go_wp2
  refine bodyPost_ret (v := pieceV i 4 ((((((s[i]'hi).toNat - 240) * 64 + (bt s (i + 1) - 128)) * 64 + (bt s (i + 2) - 128)) * 64 + (bt s (i + 3) - 128))) false) ?_ rfl ⟨rfl, (Below.refl _ _).alloc (Nat.le_refl _) _⟩
  simp [results, Tryz.results69, go_sem, pieceV]
set_option maxRecDepth 1000000 in
set_option maxHeartbeats 4000000 in
theorem one_four_low (s : ByteArray) (i : Nat) (hi : i < s.size) (hs : s.size ≤ 4611686018427387904) (h1 : 240 ≤ (s[i]'hi).toNat) (h2 : (s[i]'hi).toNat ≤ 244) (g1 : goesOn s (i + 1)) (g2 : goesOn s (i + 2)) (g3 : goesOn s (i + 3)) (hv1 : r4 s i < 65536) (w : World) :
    Calls Tryz.prog 69 #[.string s, .int .i64 i] w fun e w' => e = .returned (pieceV i 1 65533 true) ∧ Below w.heap.size w w' := by
  have d1 : decide (goesOn s (i + 1)) = true := decide_eq_true g1
  have b1 := bt_range s (i + 1)
  have d2 : decide (goesOn s (i + 2)) = true := decide_eq_true g2
  have b2 := bt_range s (i + 2)
  have d3 : decide (goesOn s (i + 3)) = true := decide_eq_true g3
  have b3 := bt_range s (i + 3)
  unfold r4 at hv1
  rw [bt_at hi] at hv1
  go_enter Tryz.func69, Tryz.ntmps69
  go_wp2
  refine wp_loop_rounds 5 ?_
  rw [rounds_succ]
  go_wp2_with fail
  refine (refMore_any s (i + 1) _).mono ?_
  rintro e w1 ⟨rfl, rfl⟩
  rw [if_pos g1, d1]
  go_wp2
  rw [rounds_succ]
  go_wp2_with fail
  refine (refMore_any s (i + 2) _).mono ?_
  rintro e w1 ⟨rfl, rfl⟩
  rw [if_pos g2, d2]
  go_wp2
  rw [rounds_succ]
  go_wp2_with fail
  refine (refMore_any s (i + 3) _).mono ?_
  rintro e w1 ⟨rfl, rfl⟩
  rw [if_pos g3, d3]
  go_wp2
  rw [rounds_succ]
  go_wp2
  refine bodyPost_ret (v := pieceV i 1 65533 true) ?_ rfl ⟨rfl, (Below.refl _ _).alloc (Nat.le_refl _) _⟩
  simp [results, Tryz.results69, go_sem, pieceV]
set_option maxRecDepth 1000000 in
set_option maxHeartbeats 4000000 in
theorem one_four_high (s : ByteArray) (i : Nat) (hi : i < s.size) (hs : s.size ≤ 4611686018427387904) (h1 : 240 ≤ (s[i]'hi).toNat) (h2 : (s[i]'hi).toNat ≤ 244) (g1 : goesOn s (i + 1)) (g2 : goesOn s (i + 2)) (g3 : goesOn s (i + 3)) (hv1 : 1114111 < r4 s i) (w : World) :
    Calls Tryz.prog 69 #[.string s, .int .i64 i] w fun e w' => e = .returned (pieceV i 1 65533 true) ∧ Below w.heap.size w w' := by
  have d1 : decide (goesOn s (i + 1)) = true := decide_eq_true g1
  have b1 := bt_range s (i + 1)
  have d2 : decide (goesOn s (i + 2)) = true := decide_eq_true g2
  have b2 := bt_range s (i + 2)
  have d3 : decide (goesOn s (i + 3)) = true := decide_eq_true g3
  have b3 := bt_range s (i + 3)
  unfold r4 at hv1
  rw [bt_at hi] at hv1
  go_enter Tryz.func69, Tryz.ntmps69
  go_wp2
  refine wp_loop_rounds 5 ?_
  rw [rounds_succ]
  go_wp2_with fail
  refine (refMore_any s (i + 1) _).mono ?_
  rintro e w1 ⟨rfl, rfl⟩
  rw [if_pos g1, d1]
  go_wp2
  rw [rounds_succ]
  go_wp2_with fail
  refine (refMore_any s (i + 2) _).mono ?_
  rintro e w1 ⟨rfl, rfl⟩
  rw [if_pos g2, d2]
  go_wp2
  rw [rounds_succ]
  go_wp2_with fail
  refine (refMore_any s (i + 3) _).mono ?_
  rintro e w1 ⟨rfl, rfl⟩
  rw [if_pos g3, d3]
  go_wp2
  rw [rounds_succ]
  go_wp2
  refine bodyPost_ret (v := pieceV i 1 65533 true) ?_ rfl ⟨rfl, (Below.refl _ _).alloc (Nat.le_refl _) _⟩
  simp [results, Tryz.results69, go_sem, pieceV]
end Go.Proofs.YtilmmgkclijhjaaGreatDoor
namespace Go.Proofs.YtilmmgkclijhjaaGreatDoor
set_option linter.unusedSectionVars false
open Go.RowKit Pal
theorem bt_get (s : ByteArray) (j : Nat) : bt s j = ((s.get! j).toNat : Int) := by
  by_cases h : j < s.size
  · rw [bt_at h]
    have := get_at s j h
    rw [Nat.add_zero] at this
    rw [this]
  · have h1 : bt s j = 0 := by simp [bt, h]
    have h2 : s.get! j = 0 := by
      have h' : ¬ j < s.data.size := h
      show s.data[j]! = 0
      rw [getElem!_neg s.data j h']; rfl
    rw [h1, h2]; rfl
/-- A piece that is no rune. -/
def badP (s : ByteArray) (i : Nat) : Bool := decide (dRune s i = 65533 ∧ dLen s i = 1)
theorem goesOn_lt {s : ByteArray} {j : Nat} (h : goesOn s j) : j < s.size := by
  by_cases hh : j < s.size
  · exact hh
  · unfold goesOn bt at h; simp [hh] at h
theorem goesOn_iff (s : ByteArray) (j : Nat) : goesOn s j ↔ (s.get! j).toNat / 64 = 2 := by
  unfold goesOn
  rw [bt_get]
  have := (s.get! j).toNat_lt
  omega
/-- Decoding at a place, over numbers. -/
theorem dec_eq (s : ByteArray) (i : Nat) : Utf8.decode s i = Lib.decodeN (s.size - i) (s.get! i).toNat (s.get! (i + 1)).toNat (s.get! (i + 2)).toNat (s.get! (i + 3)).toNat := Lib.decode_at s i
theorem dN_bad {s : ByteArray} {i : Nat} (h : Utf8.decode s i = (65533, 1)) : dRune s i = 65533 ∧ dLen s i = 1 ∧ badP s i = true := by
  have h1 : dRune s i = 65533 := by unfold dRune; rw [h]; rfl
  have h2 : dLen s i = 1 := by unfold dLen; rw [h]
  exact ⟨h1, h2, decide_eq_true ⟨h1, h2⟩⟩
theorem dN_ok {s : ByteArray} {i : Nat} {r n : Nat} (h : Utf8.decode s i = (r, n)) (hn : n ≠ 1 ∨ r < 128) : dRune s i = r ∧ dLen s i = n ∧ badP s i = false := by
  have h1 : dRune s i = r := by unfold dRune; rw [h]
  have h2 : dLen s i = n := by unfold dLen; rw [h]
  exact ⟨h1, h2, decide_eq_false (fun hh => by omega)⟩
section
variable (n b0 b1 b2 b3 : Nat) (h0 : b0 < 256) (h1 : b1 < 256) (h2 : b2 < 256) (h3 : b3 < 256)
include h0 h1 h2 h3
theorem dN_none1 (h : 128 ≤ b0) (h' : b0 < 194) : Lib.decodeN n b0 b1 b2 b3 = (65533, 1) := by
  unfold Lib.decodeN
  rw [if_neg (by omega)]
  split
  · rw [if_neg (by omega)]
  · rw [if_neg (by omega), if_neg (by omega)]
theorem dN_none2 (h : 244 < b0) : Lib.decodeN n b0 b1 b2 b3 = (65533, 1) := by
  unfold Lib.decodeN
  rw [if_neg (by omega), if_neg (by omega), if_neg (by omega)]
  split
  · rw [if_neg (by omega)]
  · rfl
theorem dN_two (h : 194 ≤ b0) (h' : b0 ≤ 223) : Lib.decodeN n b0 b1 b2 b3 = if 1 < n ∧ b1 / 64 = 2 then ((b0 - 192) * 64 + (b1 - 128), 2) else (65533, 1) := by
  unfold Lib.decodeN
  rw [if_neg (by omega)]
  by_cases hc : 1 < n ∧ b1 / 64 = 2
  · rw [if_pos ⟨by omega, hc⟩, if_pos (by omega), if_pos hc]
    have : b0 % 32 * 64 + b1 % 64 = (b0 - 192) * 64 + (b1 - 128) := by omega
    rw [this]
  · rw [if_neg (fun hh => hc hh.2), if_neg (by omega), if_neg (by omega), if_neg hc]
theorem dN_three (h : 224 ≤ b0) (h' : b0 ≤ 239) : Lib.decodeN n b0 b1 b2 b3 =
    if (1 < n ∧ b1 / 64 = 2) ∧ (2 < n ∧ b2 / 64 = 2) ∧ 2048 ≤ ((b0 - 224) * 64 + (b1 - 128)) * 64 + (b2 - 128) ∧ (((b0 - 224) * 64 + (b1 - 128)) * 64 + (b2 - 128) < 55296 ∨ 57343 < ((b0 - 224) * 64 + (b1 - 128)) * 64 + (b2 - 128)) then (((b0 - 224) * 64 + (b1 - 128)) * 64 + (b2 - 128), 3) else (65533, 1) := by
  unfold Lib.decodeN
  rw [if_neg (by omega), if_neg (by omega)]
  by_cases hc : (1 < n ∧ b1 / 64 = 2) ∧ (2 < n ∧ b2 / 64 = 2)
  · rw [if_pos ⟨by omega, hc⟩]
    have : b0 % 16 * 4096 + b1 % 64 * 64 + b2 % 64 = ((b0 - 224) * 64 + (b1 - 128)) * 64 + (b2 - 128) := by omega
    rw [this]
    generalize ((b0 - 224) * 64 + (b1 - 128)) * 64 + (b2 - 128) = v at *
    by_cases hv : 2048 ≤ v ∧ (v < 55296 ∨ 57343 < v)
    · rw [if_pos (by omega), if_pos ⟨hc.1, hc.2, hv⟩]
    · rw [if_neg (by omega), if_neg (fun hh => hv hh.2.2)]
  · rw [if_neg (fun hh => hc hh.2), if_neg (by omega), if_neg (fun hh => hc ⟨hh.1, hh.2.1⟩)]
theorem dN_four (h : 240 ≤ b0) (h' : b0 ≤ 244) : Lib.decodeN n b0 b1 b2 b3 =
    if (1 < n ∧ b1 / 64 = 2) ∧ (2 < n ∧ b2 / 64 = 2) ∧ (3 < n ∧ b3 / 64 = 2) ∧ 65536 ≤ (((b0 - 240) * 64 + (b1 - 128)) * 64 + (b2 - 128)) * 64 + (b3 - 128) ∧ (((b0 - 240) * 64 + (b1 - 128)) * 64 + (b2 - 128)) * 64 + (b3 - 128) ≤ 1114111 then ((((b0 - 240) * 64 + (b1 - 128)) * 64 + (b2 - 128)) * 64 + (b3 - 128), 4) else (65533, 1) := by
  unfold Lib.decodeN
  rw [if_neg (by omega), if_neg (by omega), if_neg (by omega)]
  by_cases hc : (1 < n ∧ b1 / 64 = 2) ∧ (2 < n ∧ b2 / 64 = 2) ∧ (3 < n ∧ b3 / 64 = 2)
  · rw [if_pos ⟨by omega, hc⟩]
    have : b0 % 8 * 262144 + b1 % 64 * 4096 + b2 % 64 * 64 + b3 % 64 = (((b0 - 240) * 64 + (b1 - 128)) * 64 + (b2 - 128)) * 64 + (b3 - 128) := by omega
    rw [this]
    generalize (((b0 - 240) * 64 + (b1 - 128)) * 64 + (b2 - 128)) * 64 + (b3 - 128) = v at *
    by_cases hv : 65536 ≤ v ∧ v ≤ 1114111
    · rw [if_pos (by omega), if_pos ⟨hc.1, hc.2.1, hc.2.2, hv⟩]
    · rw [if_neg (by omega), if_neg (fun hh => hv hh.2.2.2)]
  · rw [if_neg (fun hh => hc hh.2), if_neg (fun hh => hc ⟨hh.1, hh.2.1, hh.2.2.1⟩)]
end
end Go.Proofs.YtilmmgkclijhjaaGreatDoor
namespace Go.Proofs.YtilmmgkclijhjaaGreatDoor
open Go.RowKit Pal
theorem u8b (s : ByteArray) (j : Nat) : (s.get! j).toNat < 256 := (s.get! j).toNat_lt
theorem cont_iff {s : ByteArray} {i k : Nat} : goesOn s (i + k) ↔ (k < s.size - i ∧ (s.get! (i + k)).toNat / 64 = 2) := by
  rw [← goesOn_iff]
  exact ⟨fun h => ⟨by have := goesOn_lt h; omega, h⟩, fun h => h.2⟩
def onePost (s : ByteArray) (i : Nat) (w : World) (e : Ending) (w' : World) : Prop := e = .returned (pieceV i (dLen s i) (dRune s i) (badP s i)) ∧ Below w.heap.size w w'
theorem onePost_bad {s : ByteArray} {i : Nat} {w : World} (h : Utf8.decode s i = (65533, 1)) {e : Ending} {w' : World} (hp : e = .returned (pieceV i 1 65533 true) ∧ Below w.heap.size w w') : onePost s i w e w' := by
  obtain ⟨a, b, c⟩ := dN_bad h
  refine ⟨?_, hp.2⟩
  rw [a, b, c]; exact hp.1
theorem onePost_ok {s : ByteArray} {i r n : Nat} {w : World} (h : Utf8.decode s i = (r, n)) (hn : n ≠ 1 ∨ r < 128) {x : Int} (hx : x = r) {e : Ending} {w' : World} (hp : e = .returned (pieceV i n x false) ∧ Below w.heap.size w w') : onePost s i w e w' := by
  obtain ⟨a, b, c⟩ := dN_ok h hn
  refine ⟨?_, hp.2⟩
  rw [a, b, c, ← hx]; exact hp.1
theorem one_any (s : ByteArray) (i : Nat) (hi : i < s.size) (hs : s.size ≤ 4611686018427387904) (w : World) :
    Calls Tryz.prog 69 #[.string s, .int .i64 i] w (onePost s i w) := by
  have g0 : (s.get! i).toNat = (s[i]'hi).toNat := by have := bt_get s i; rw [bt_at hi] at this; omega
  have d := dec_eq s i
  have c1 := @cont_iff s i 1
  have c2 := @cont_iff s i 2
  have c3 := @cont_iff s i 3
  have e0 := bt_get s i
  have e1 := bt_get s (i + 1)
  have e2 := bt_get s (i + 2)
  have e3 := bt_get s (i + 3)
  have l0 := u8b s i
  have l1 := u8b s (i + 1)
  have l2 := u8b s (i + 2)
  have l3 := u8b s (i + 3)
  by_cases a1 : (s[i]'hi).toNat < 128
  · refine (one_ascii s i hi a1 w).mono fun e w' hp => onePost_ok (r := (s[i]'hi).toNat) (n := 1) (decode_ascii s i hi a1) (.inr a1) (bt_at hi) hp
  rw [← g0] at a1
  by_cases a2 : (s.get! i).toNat < 194
  · rw [dN_none1 _ _ _ _ _ l0 l1 l2 l3 (by omega) a2] at d
    exact (one_none1 s i hi (by omega) (by omega) w).mono fun e w' hp => onePost_bad d hp
  by_cases a3 : (s.get! i).toNat ≤ 223
  · rw [dN_two _ _ _ _ _ l0 l1 l2 l3 (by omega) a3] at d
    refine (one_two s i hi hs (by omega) (by omega) w).mono fun e w' hp => ?_
    by_cases g : goesOn s (i + 1)
    · rw [if_pos g] at hp
      rw [if_pos (c1.1 g)] at d
      have := g; unfold goesOn at this
      exact onePost_ok d (.inl (by omega)) (by rw [← g0, e1]; omega) hp
    · rw [if_neg g] at hp
      rw [if_neg (fun h => g (c1.2 h))] at d
      exact onePost_bad d hp
  by_cases a4 : (s.get! i).toNat ≤ 239
  · rw [dN_three _ _ _ _ _ l0 l1 l2 l3 (by omega) a4] at d
    by_cases g1 : goesOn s (i + 1)
    · by_cases g2 : goesOn s (i + 2)
      · have t1 := g1; have t2 := g2
        unfold goesOn at t1 t2
        have er : r3 s i = (((((s.get! i).toNat - 224) * 64 + ((s.get! (i + 1)).toNat - 128)) * 64 + ((s.get! (i + 2)).toNat - 128) : Nat) : Int) := by unfold r3; omega
        by_cases v1 : r3 s i < 2048
        · rw [if_neg (fun h => by have := h.2.2.1; omega)] at d
          exact (one_three_low s i hi hs (by omega) (by omega) g1 g2 v1 w).mono fun e w' hp => onePost_bad d hp
        by_cases v2 : r3 s i < 55296
        · rw [if_pos ⟨c1.1 g1, c2.1 g2, by omega, by omega⟩] at d
          exact (one_three s i hi hs (by omega) (by omega) g1 g2 (by omega) v2 w).mono fun e w' hp => onePost_ok d (.inl (by omega)) er hp
        by_cases v3 : r3 s i ≤ 57343
        · rw [if_neg (fun h => by have := h.2.2.2; omega)] at d
          exact (one_three_sur s i hi hs (by omega) (by omega) g1 g2 (by omega) v3 w).mono fun e w' hp => onePost_bad d hp
        · rw [if_pos ⟨c1.1 g1, c2.1 g2, by omega, by omega⟩] at d
          exact (one_three_hi s i hi hs (by omega) (by omega) g1 g2 (by omega) w).mono fun e w' hp => onePost_ok d (.inl (by omega)) er hp
      · rw [if_neg (fun h => g2 (c2.2 h.2.1))] at d
        exact (one_three_no2 s i hi hs (by omega) (by omega) g1 g2 w).mono fun e w' hp => onePost_bad d hp
    · rw [if_neg (fun h => g1 (c1.2 h.1))] at d
      exact (one_three_no1 s i hi hs (by omega) (by omega) g1 w).mono fun e w' hp => onePost_bad d hp
  by_cases a5 : (s.get! i).toNat ≤ 244
  · rw [dN_four _ _ _ _ _ l0 l1 l2 l3 (by omega) a5] at d
    by_cases g1 : goesOn s (i + 1)
    · by_cases g2 : goesOn s (i + 2)
      · by_cases g3 : goesOn s (i + 3)
        · have t1 := g1; have t2 := g2; have t3 := g3
          unfold goesOn at t1 t2 t3
          have er : r4 s i = ((((((s.get! i).toNat - 240) * 64 + ((s.get! (i + 1)).toNat - 128)) * 64 + ((s.get! (i + 2)).toNat - 128)) * 64 + ((s.get! (i + 3)).toNat - 128) : Nat) : Int) := by unfold r4; omega
          by_cases v1 : r4 s i < 65536
          · rw [if_neg (fun h => by have := h.2.2.2.1; omega)] at d
            exact (one_four_low s i hi hs (by omega) (by omega) g1 g2 g3 v1 w).mono fun e w' hp => onePost_bad d hp
          by_cases v2 : r4 s i ≤ 1114111
          · rw [if_pos ⟨c1.1 g1, c2.1 g2, c3.1 g3, by omega, by omega⟩] at d
            exact (one_four s i hi hs (by omega) (by omega) g1 g2 g3 (by omega) v2 w).mono fun e w' hp => onePost_ok d (.inl (by omega)) er hp
          · rw [if_neg (fun h => by have := h.2.2.2.2; omega)] at d
            exact (one_four_high s i hi hs (by omega) (by omega) g1 g2 g3 (by omega) w).mono fun e w' hp => onePost_bad d hp
        · rw [if_neg (fun h => g3 (c3.2 h.2.2.1))] at d
          exact (one_four_no3 s i hi hs (by omega) (by omega) g1 g2 g3 w).mono fun e w' hp => onePost_bad d hp
      · rw [if_neg (fun h => g2 (c2.2 h.2.1))] at d
        exact (one_four_no2 s i hi hs (by omega) (by omega) g1 g2 w).mono fun e w' hp => onePost_bad d hp
    · rw [if_neg (fun h => g1 (c1.2 h.1))] at d
      exact (one_four_no1 s i hi hs (by omega) (by omega) g1 w).mono fun e w' hp => onePost_bad d hp
  · rw [dN_none2 _ _ _ _ _ l0 l1 l2 l3 (by omega)] at d
    exact (one_none2 s i hi (by omega) w).mono fun e w' hp => onePost_bad d hp
end Go.Proofs.YtilmmgkclijhjaaGreatDoor
