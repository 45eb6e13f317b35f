/- The walk of palaverref01.Bytes. Condition: the rune is one. -/
import Derived.Test.YtilmmgkclijhjaaGreatDoorPl
import Derived.Laws.BytesArg
set_option linter.unusedSimpArgs false
set_option linter.unusedVariables false
set_option linter.unusedSectionVars false
namespace Go.Proofs.YtilmmgkclijhjaaGreatDoor
open Go.RowKit Pal
theorem conv_row (xs : List Int) (w : World) (n : Nat) (hn : xs.length = n) (C : Array Value) (hC : C = (xs.map (Value.int .u8)).toArray) :
    (convert 97 9 (.slice (some ⟨w.heap.size, 0, none⟩) n n)).run Tryz.prog (w.alloc (.cells C 5)) = .ok (.string ⟨(xs.map fun x => x.toNat.toUInt8).toArray⟩) (w.alloc (.cells C 5)) := by
  subst hC
  refine (run_convert_bytes_arg (P := Tryz.prog) (w.alloc (.cells (xs.map (Value.int .u8)).toArray 5)) 97 5 Tryz.underlying97 Tryz.underlying5 w.heap.size 0 n n xs hn (fun i hi => ?_) 9 Tryz.underlying9).trans rfl
  have hb := heap_alloc_new w (.cells (xs.map (Value.int .u8)).toArray 5)
  simp only [World.cell?, hb, Nat.zero_add, List.getElem?_toArray, List.getElem?_map]
  rw [List.getElem?_eq_getElem (by omega)]
  simp [List.getD, List.getElem?_eq_getElem (show i < xs.length by omega)]
set_option maxRecDepth 1000000 in
set_option maxHeartbeats 1000000 in
theorem rbytes_1 (r : Int) (w : World) (h0 : 0 ≤ r) (h1 : r < 128) :
    Calls Tryz.prog 73 #[.int .i32 r] w fun e w' => e = .returned (.string ⟨(Lib.encodeRune r).toArray⟩) ∧ Below w.heap.size w w' := by
  have HE : Hid (Lib.encodeRuneZ r = [r]) := Lib.hid (Lib.encodeRuneZ_one h0 (by omega))
  have hlo : 0 ≤ r := by omega
  have hhi : r ≤ 1114111 := by omega
  have kc := conv_row [r] w 1 rfl #[.int .u8 (r)] rfl
  go_enter Tryz.func73, Tryz.ntmps73
  go_wp2
  go_ret
  exact ⟨by unfold Lib.encodeRune; rw [HE.out]; rfl, (Below.refl _ _).alloc (Nat.le_refl _) _⟩
set_option maxRecDepth 1000000 in
set_option maxHeartbeats 1000000 in
theorem rbytes_2 (r : Int) (w : World) (h0 : ¬ r < 128) (h1 : r < 2048) :
    Calls Tryz.prog 73 #[.int .i32 r] w fun e w' => e = .returned (.string ⟨(Lib.encodeRune r).toArray⟩) ∧ Below w.heap.size w w' := by
  have HE : Hid (Lib.encodeRuneZ r = [192 + r / 64, 128 + r % 64]) := Lib.hid (Lib.encodeRuneZ_two (by omega) (by omega))
  have hlo : 0 ≤ r := by omega
  have hhi : r ≤ 1114111 := by omega
  have kc := conv_row [192 + r / 64, 128 + r % 64] w 2 rfl #[.int .u8 (192 + r / 64), .int .u8 (128 + r % 64)] rfl
  go_enter Tryz.func73, Tryz.ntmps73
  go_wp2
  go_ret
  exact ⟨by unfold Lib.encodeRune; rw [HE.out]; rfl, (Below.refl _ _).alloc (Nat.le_refl _) _⟩
set_option maxRecDepth 1000000 in
set_option maxHeartbeats 1000000 in
theorem rbytes_3 (r : Int) (w : World) (h0 : ¬ r < 128) (h1 : ¬ r < 2048) (h2 : r < 65536) (h3 : ¬ (55296 ≤ r ∧ r ≤ 57343)) :
    Calls Tryz.prog 73 #[.int .i32 r] w fun e w' => e = .returned (.string ⟨(Lib.encodeRune r).toArray⟩) ∧ Below w.heap.size w w' := by
  have HE : Hid (Lib.encodeRuneZ r = [224 + r / 4096, 128 + r / 64 % 64, 128 + r % 64]) := Lib.hid (Lib.encodeRuneZ_three (by omega))
  have hlo : 0 ≤ r := by omega
  have hhi : r ≤ 1114111 := by omega
  have kc := conv_row [224 + r / 4096, 128 + r / 64 % 64, 128 + r % 64] w 3 rfl #[.int .u8 (224 + r / 4096), .int .u8 (128 + r / 64 % 64), .int .u8 (128 + r % 64)] rfl
  go_enter Tryz.func73, Tryz.ntmps73
  go_wp2
  go_ret
  exact ⟨by unfold Lib.encodeRune; rw [HE.out]; rfl, (Below.refl _ _).alloc (Nat.le_refl _) _⟩
set_option maxRecDepth 1000000 in
set_option maxHeartbeats 1000000 in
theorem rbytes_4 (r : Int) (w : World) (h0 : ¬ r < 128) (h1 : ¬ r < 2048) (h2 : ¬ r < 65536) (h3 : r ≤ 1114111) :
    Calls Tryz.prog 73 #[.int .i32 r] w fun e w' => e = .returned (.string ⟨(Lib.encodeRune r).toArray⟩) ∧ Below w.heap.size w w' := by
  have HE : Hid (Lib.encodeRuneZ r = [240 + r / 262144, 128 + r / 4096 % 64, 128 + r / 64 % 64, 128 + r % 64]) := Lib.hid (Lib.encodeRuneZ_four (by omega) (by omega))
  have hlo : 0 ≤ r := by omega
  have hhi : r ≤ 1114111 := by omega
  have kc := conv_row [240 + r / 262144, 128 + r / 4096 % 64, 128 + r / 64 % 64, 128 + r % 64] w 4 rfl #[.int .u8 (240 + r / 262144), .int .u8 (128 + r / 4096 % 64), .int .u8 (128 + r / 64 % 64), .int .u8 (128 + r % 64)] rfl
  go_enter Tryz.func73, Tryz.ntmps73
  go_wp2
  go_ret
  exact ⟨by unfold Lib.encodeRune; rw [HE.out]; rfl, (Below.refl _ _).alloc (Nat.le_refl _) _⟩
theorem rbytes_any (r : Int) (w : World) (h : scalar r) :
    Calls Tryz.prog 73 #[.int .i32 r] w fun e w' => e = .returned (.string ⟨(Lib.encodeRune r).toArray⟩) ∧ Below w.heap.size w w' := by
  obtain ⟨h0, h1, h2⟩ := h
  by_cases c1 : r < 128
  · exact rbytes_1 r w h0 c1
  by_cases c2 : r < 2048
  · exact rbytes_2 r w c1 c2
  by_cases c3 : r < 65536
  · exact rbytes_3 r w c1 c2 c3 h2
  · exact rbytes_4 r w c1 c2 c3 h1
end Go.Proofs.YtilmmgkclijhjaaGreatDoor
