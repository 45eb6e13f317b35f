/- The walk of palaverlaw09.EvalWords. Conditions: the tables hold what they are laid with; the number is an int64's. -/
import Derived.Test.YtdgcgogeidnmoaaGreatDoorE24
import Derived.Test.YtdgcgogeidnmoaaGreatDoorR1
import Derived.Deep.RegionHeld3
set_option linter.unusedSimpArgs false
set_option linter.unusedVariables false
set_option linter.unusedSectionVars false
namespace Go.Proofs.YtdgcgogeidnmoaaGreatDoor
open Go.RowKit Pal
set_option maxRecDepth 1000000 in
set_option maxHeartbeats 8000000 in
theorem words_s400 (s t : Bs) (n : Int) (w : World) (hL : Lay (gh w)) (q1 : decide ((400:Int) < s.length) = true) :
    Calls Tryz.prog 15 #[strV s, strV t, .int .i64 n] w (yesPost w) := by
  have HAW := Lib.hid (fun w hL => awake9 w hL)
  have HL := Lib.hid hL
  clear hL
  unfold strV
  go_enter Tryz.func15, Tryz.ntmps15
  go_wp2_with fail
  refine (HAW.out _ HL.out).mono ?_
  rintro r W3 ⟨rfl, hb5⟩
  go_wp2
  go_ret
  exact ⟨rfl, hb5⟩
def vPost (k n : Int) (x : ByteArray) (B : Nat) (w : World) (e : Ending) (w' : World) : Prop := e = .returned (.agg #[.int .i64 k, .int .i64 n, .string x]) ∧ Below B w w'
def MayAt (x : ByteArray) (b : Bool) : Prop := ∀ w, Calls Tryz.prog 43 #[.string x] w fun e w' => e = .returned (.bool b) ∧ Below w.heap.size w w'
def TextAt (x : ByteArray) : Prop := ∀ w, Calls Tryz.prog 44 #[.string x] w fun e w' => e = .returned (.agg #[.int .i64 2, .int .i64 0, .string x, .slice none 0 0]) ∧ Below w.heap.size w w'
def LenAt (x : ByteArray) (ls : Int) : Prop := ∀ W, Lay (gh W) → Calls Tryz.prog 36 #[.agg #[.int .i64 19, .int .i64 0, .string ⟨#[]⟩, .slice (some ⟨W.heap.size, 0, none⟩) 1 1], .slice none 0 0, .slice none 0 0] (W.alloc (.cells #[.int .i64 2, .int .i64 0, .string x, .slice none 0 0] 24)) (vPost 1 ls ⟨#[]⟩ W.heap.size W)
def CatAt (x y : ByteArray) (k n : Int) (z : ByteArray) : Prop := ∀ W, Lay (gh W) → Calls Tryz.prog 36 #[.agg #[.int .i64 20, .int .i64 0, .string ⟨#[]⟩, .slice (some ⟨W.heap.size, 0, none⟩) 2 2], .slice none 0 0, .slice none 0 0] (W.alloc (.cells #[.int .i64 2, .int .i64 0, .string x, .slice none 0 0, .int .i64 2, .int .i64 0, .string y, .slice none 0 0] 24)) (vPost k n z W.heap.size W)
def CutAt (x : ByteArray) (m : Int) (z : ByteArray) : Prop := ∀ W kb nb vb, Lay (gh W) → W.heap[kb]? = some (.cells #[.int .i64 2, .int .i64 0, .string x, .slice none 0 0, .int .i64 4, .int .i64 0, .string ⟨#[110]⟩, .slice none 0 0] 24 (0, 0)) →
    W.heap[nb]? = some (.cells #[.string ⟨#[110]⟩] 9 (0, 0)) → W.heap[vb]? = some (.cells #[.int .i64 1, .int .i64 m, .string ⟨#[]⟩] 47 (0, 0)) →
    Calls Tryz.prog 36 #[.agg #[.int .i64 21, .int .i64 0, .string ⟨#[]⟩, .slice (some ⟨kb, 0, none⟩) 2 2], .slice (some ⟨nb, 0, none⟩) 1 1, .slice (some ⟨vb, 0, none⟩) 1 1] W (vPost 3 0 z W.heap.size W)
set_option maxRecDepth 1000000 in
set_option maxHeartbeats 8000000 in
theorem words_long (s t : ByteArray) (n ls lt : Int) (w : World) (hL : Lay (gh w)) (q1 : decide ((400:Int) < s.size) = false) (q2 : decide ((400:Int) < t.size) = false) (qs : decide ((100:Int) < wrap64 (ls + lt)) = true)
    (M1 : Hid (MayAt s true)) (M2 : Hid (MayAt t true)) (T1 : Hid (TextAt s)) (T2 : Hid (TextAt t)) (A1 : Hid (LenAt s ls)) (A2 : Hid (LenAt t lt)) (A3 : Hid (CatAt s t 4 4 ⟨#[]⟩)) :
    Calls Tryz.prog 15 #[.string s, .string t, .int .i64 n] w (yesPost w) := by
  have HAW := Lib.hid (fun w hL => awake9 w hL)
  have HL := Lib.hid hL
  clear hL
  go_enter Tryz.func15, Tryz.ntmps15
  go_wp2_with fail
  refine (M1.out _).mono ?_
  rintro r W1 ⟨rfl, hb1⟩
  go_wp2_with fail
  refine (M2.out _).mono ?_
  rintro r W2 ⟨rfl, hb2⟩
  have hb2 := hb1.seq hb2
  clear hb1
  go_wp2_with fail
  refine (T1.out _).mono ?_
  rintro r W3 ⟨rfl, hb3⟩
  have hb3 := hb2.seq hb3
  clear hb2
  go_wp2_with fail
  refine (A1.out W3 (HL.out.below hb3)).mono ?_
  rintro r W4 ⟨rfl, hb4⟩
  have hb4 := hb3.seq hb4
  clear hb3
  have hbA := hb4.alloc hb4.size (.cells #[.int .i64 1, .int .i64 ls, .string ⟨#[]⟩] 47)
  have hzA := heap_alloc_new W4 (.cells #[.int .i64 1, .int .i64 ls, .string ⟨#[]⟩] 47)
  have hsA : W4.heap.size < (W4.alloc (.cells #[.int .i64 1, .int .i64 ls, .string ⟨#[]⟩] 47)).heap.size := by simp
  clear hb4
  go_wp2_with fail
  generalize W4.alloc (.cells #[.int .i64 1, .int .i64 ls, .string ⟨#[]⟩] 47) = WA at *
  refine (T2.out _).mono ?_
  rintro r W5 ⟨rfl, hb5⟩
  have hz5 := (hb5.block _ hsA).trans hzA
  have hs5 : W4.heap.size < W5.heap.size := Nat.lt_of_lt_of_le hsA hb5.size
  have hb5 := hbA.seq hb5
  clear hbA hzA hsA
  go_wp2_with fail
  refine (A2.out W5 (HL.out.below hb5)).mono ?_
  rintro r W6 ⟨rfl, hb6⟩
  have hz6 := (hb6.block _ hs5).trans hz5
  have hs6 : W4.heap.size < W6.heap.size := Nat.lt_of_lt_of_le hs5 hb6.size
  have hb6 := hb5.seq hb6
  clear hb5 hz5 hs5
  have hbB := hb6.alloc hb6.size (.cells #[.int .i64 1, .int .i64 lt, .string ⟨#[]⟩] 47)
  have hzB := heap_alloc_new W6 (.cells #[.int .i64 1, .int .i64 lt, .string ⟨#[]⟩] 47)
  have hsB : W6.heap.size < (W6.alloc (.cells #[.int .i64 1, .int .i64 lt, .string ⟨#[]⟩] 47)).heap.size := by simp
  have hzAB := ((Below.refl W6.heap.size W6).alloc (Nat.le_refl _) (.cells #[.int .i64 1, .int .i64 lt, .string ⟨#[]⟩] 47)).block _ hs6 |>.trans hz6
  clear hb6 hz6
  go_wp2_with fail
  generalize W6.alloc (.cells #[.int .i64 1, .int .i64 lt, .string ⟨#[]⟩] 47) = WB at *
  refine (T1.out _).mono ?_
  rintro r W7 ⟨rfl, hb7⟩
  have hz7 := (hb7.block _ hsB).trans hzB
  have hzA7 := (hb7.block _ (Nat.lt_trans hs6 hsB)).trans hzAB
  have hs7 : W6.heap.size < W7.heap.size := Nat.lt_of_lt_of_le hsB hb7.size
  have hb7 := hbB.seq hb7
  clear hbB hzB hsB hzAB
  go_wp2_with fail
  refine (T2.out _).mono ?_
  rintro r W8 ⟨rfl, hb8⟩
  have hz8 := (hb8.block _ hs7).trans hz7
  have hzA8 := (hb8.block _ (Nat.lt_trans hs6 hs7)).trans hzA7
  have hs8 : W6.heap.size < W8.heap.size := Nat.lt_of_lt_of_le hs7 hb8.size
  have hb8 := hb7.seq hb8
  clear hb7 hz7 hs7 hzA7
  go_wp2_with fail
  refine (A3.out W8 (HL.out.below hb8)).mono ?_
  rintro r W9 ⟨rfl, hb9⟩
  have hz9 := (hb9.block _ hs8).trans hz8
  have hzA9 := (hb9.block _ (Nat.lt_trans hs6 hs8)).trans hzA8
  have hs9 : W6.heap.size < W9.heap.size := Nat.lt_of_lt_of_le hs8 hb9.size
  have hb9 := hb8.seq hb9
  clear hb8 hz8 hs8 hzA8
  have hbC := hb9.alloc hb9.size (.cells #[.int .i64 4, .int .i64 4, .string ⟨#[]⟩] 47)
  have hzC := heap_alloc_new W9 (.cells #[.int .i64 4, .int .i64 4, .string ⟨#[]⟩] 47)
  have hbC1 := (Below.refl W9.heap.size W9).alloc (Nat.le_refl _) (.cells #[.int .i64 4, .int .i64 4, .string ⟨#[]⟩] 47)
  have hzBC := (hbC1.block _ hs9).trans hz9
  have hzAC := (hbC1.block _ (Nat.lt_trans hs6 hs9)).trans hzA9
  clear hb9 hz9 hzA9 hbC1
  obtain ⟨⟨c0, c1, c2⟩, -⟩ := three_all hzC
  obtain ⟨⟨b0, b1, b2⟩, -⟩ := three_all hzBC
  obtain ⟨⟨a0, a1, a2⟩, -⟩ := three_all hzAC
  go_wp2_with fail
  refine (HAW.out _ (HL.out.below hbC)).mono ?_
  rintro r WX ⟨rfl, hbX⟩
  have hbX := hbC.seq hbX
  go_wp2
  go_ret
  exact ⟨rfl, hbX⟩
end Go.Proofs.YtdgcgogeidnmoaaGreatDoor
