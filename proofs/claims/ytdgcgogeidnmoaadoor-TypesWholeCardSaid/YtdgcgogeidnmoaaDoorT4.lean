/- The walk of palaverlaw08.TypesWhole. -/
import Derived.Test.YtdgcgogeidnmoaaDoorG9
import Derived.Test.YtdgcgogeidnmoaaDoorG0
import Derived.Deep.RegionHeld3
import Derived.Deep.DrawnRows
set_option linter.unusedSimpArgs false
set_option linter.unusedVariables false
set_option linter.unusedSectionVars false
namespace Go.Proofs.YtdgcgogeidnmoaaDoor
open Go.RowKit Pal
attribute [local go_sem ↓] Go.wp_at_zero Go.wp_at_succ
def kx (x : Nat) : Ex := if x = 0 then .mk 1 1 [] [] else if x = 1 then .mk 3 0 [] [] else .mk 2 0 [97] []
def wantT (j x y : Nat) : Int := if j ≤ 4 ∧ x = 0 ∧ y = 0 then 1 else if ((j = 5 ∨ j = 6) ∧ x = y) ∨ ((j = 7 ∨ j = 8) ∧ x = y ∧ x ≠ 1) ∨ (9 ≤ j ∧ x = 1 ∧ y = 1) then 2 else 0
theorem types_plain (j x y : Nat) (hj : j < 10) (hx : x < 3) (hy : y < 3) : typeOf (.mk (7 + j) 0 [] [kx x, kx y]) [] [] = (wantT j x y, if wantT j x y = 0 then 8 else 0) := by
  rcases (by omega : j = 0 ∨ j = 1 ∨ j = 2 ∨ j = 3 ∨ j = 4 ∨ j = 5 ∨ j = 6 ∨ j = 7 ∨ j = 8 ∨ j = 9) with rfl | rfl | rfl | rfl | rfl | rfl | rfl | rfl | rfl | rfl <;>
    rcases (by omega : x = 0 ∨ x = 1 ∨ x = 2) with rfl | rfl | rfl <;> rcases (by omega : y = 0 ∨ y = 1 ∨ y = 2) with rfl | rfl | rfl <;> kernel_rfl
theorem kx_fine (x : Nat) : Fine (kx x) := by
  unfold kx
  split
  · exact .mk _ _ _ _ (by decide) (by decide) (by decide) (fun k hk => by cases hk)
  · split
    · exact .mk _ _ _ _ (by decide) (by decide) (by decide) (fun k hk => by cases hk)
    · exact .mk _ _ _ _ (by decide) (by decide) (by decide) (fun k hk => by cases hk)
theorem kx_ks (x : Nat) : (kx x).ks = [] := by
  unfold kx
  split
  · rfl
  · split <;> rfl
/-- The three kinds, as they lie. -/
theorem kx_cells {W : World} {B : Nat} {T : TypeId} (h : W.heap[B]? = some (.cells #[.int .i64 1, .int .i64 1, .string ⟨#[]⟩, .slice none 0 0, .int .i64 3, .int .i64 0, .string ⟨#[]⟩, .slice none 0 0, .int .i64 2, .int .i64 0, .string ⟨#[97]⟩, .slice none 0 0] T (0, 0))) (x : Nat) (hx : x < 3) :
    W.cell? ⟨B, x * 4, none⟩ = some (.int .i64 (kx x).op) ∧ W.cell? ⟨B, x * 4 + 1, none⟩ = some (.int .i64 (kx x).n) ∧ W.cell? ⟨B, x * 4 + 2, none⟩ = some (.string ⟨(kx x).s.toArray⟩) ∧ W.cell? ⟨B, x * 4 + 3, none⟩ = some (.slice none 0 0) := by
  rcases (by omega : x = 0 ∨ x = 1 ∨ x = 2) with rfl | rfl | rfl <;> simp [World.cell?, h, kx, Ex.op, Ex.n, Ex.s]
theorem eight_keep {n : Nat} {a b : World} (hb : Below n a b) {B : Nat} (hB : B < n) {i0 i1 i2 i3 i4 i5 i6 i7 : Nat} {v0 v1 v2 v3 v4 v5 v6 v7 : Value}
    (h : a.cell? ⟨B, i0, none⟩ = some v0 ∧ a.cell? ⟨B, i1, none⟩ = some v1 ∧ a.cell? ⟨B, i2, none⟩ = some v2 ∧ a.cell? ⟨B, i3, none⟩ = some v3 ∧ a.cell? ⟨B, i4, none⟩ = some v4 ∧ a.cell? ⟨B, i5, none⟩ = some v5 ∧ a.cell? ⟨B, i6, none⟩ = some v6 ∧ a.cell? ⟨B, i7, none⟩ = some v7) :
    b.cell? ⟨B, i0, none⟩ = some v0 ∧ b.cell? ⟨B, i1, none⟩ = some v1 ∧ b.cell? ⟨B, i2, none⟩ = some v2 ∧ b.cell? ⟨B, i3, none⟩ = some v3 ∧ b.cell? ⟨B, i4, none⟩ = some v4 ∧ b.cell? ⟨B, i5, none⟩ = some v5 ∧ b.cell? ⟨B, i6, none⟩ = some v6 ∧ b.cell? ⟨B, i7, none⟩ = some v7 := by
  have k : ∀ i, b.cell? ⟨B, i, none⟩ = a.cell? ⟨B, i, none⟩ := fun i => hb.cell (p := ⟨B, i, none⟩) hB
  simpa only [k] using h
set_option maxRecDepth 1000000 in
set_option maxHeartbeats 8000000 in
theorem whole_walk (op a b : Int) (w : World) (hL : Lay (gh w)) (ho : -9223372036854775808 ≤ op ∧ op ≤ 9223372036854775807) (ha : -9223372036854775808 ≤ a ∧ a ≤ 9223372036854775807) (hb : -9223372036854775808 ≤ b ∧ b ≤ 9223372036854775807) :
    Calls Tryd.prog 3 #[.int .i64 op, .int .i64 a, .int .i64 b] w (yesPost w) := by
  obtain ⟨j, hj, hj10⟩ : ∃ j : Nat, op % 10 = j ∧ j < 10 := ⟨(op % 10).toNat, by omega, by omega⟩
  obtain ⟨x, hx, hx3⟩ : ∃ x : Nat, a % 3 = x ∧ x < 3 := ⟨(a % 3).toNat, by omega, by omega⟩
  obtain ⟨y, hy, hy3⟩ : ∃ y : Nat, b % 3 = y ∧ y < 3 := ⟨(b % 3).toNat, by omega, by omega⟩
  have p1 := fun w => place_any a 3 w ha (by omega) (by omega)
  have p2 := fun w => place_any b 3 w hb (by omega) (by omega)
  have p3 := fun w => place_any op 10 w ho (by omega) (by omega)
  rw [hx] at p1
  rw [hy] at p2
  rw [hj] at p3
  have P1 := Lib.hid p1
  have P2 := Lib.hid p2
  have P3 := Lib.hid p3
  have HP := Lib.hid (types_plain j x y hj10 hx3 hy3)
  clear hx hy hj p1 p2 p3 ho ha hb
  go_enter Tryd.func3, Tryd.ntmps3
  go_wp2_with fail
  refine (P1.out _).mono ?_
  rintro e W ⟨rfl, rfl⟩
  go_wp2_with fail
  refine (P2.out _).mono ?_
  rintro e W ⟨rfl, rfl⟩
  go_wp2_with fail
  refine (P3.out _).mono ?_
  rintro e W ⟨rfl, rfl⟩
  go_upto_region 5 with fail
  have hb0 : ∀ o, Below w.heap.size w (w.alloc o) := fun o => (Below.refl _ _).alloc (Nat.le_refl _) o
  have hz0 := fun o => heap_alloc_new w o
  have hs0 : ∀ o : Obj, (w.alloc o).heap.size = w.heap.size + 1 := fun o => by simp
  generalize hW : w.alloc _ = W0
  have hbw := hb0 (.cells #[.int .i64 1, .int .i64 1, .string ⟨#[]⟩, .slice none 0 0, .int .i64 3, .int .i64 0, .string ⟨#[]⟩, .slice none 0 0, .int .i64 2, .int .i64 0, .string ⟨#[97]⟩, .slice none 0 0] 25)
  rw [hW] at hbw
  have hzw := hz0 (.cells #[.int .i64 1, .int .i64 1, .string ⟨#[]⟩, .slice none 0 0, .int .i64 3, .int .i64 0, .string ⟨#[]⟩, .slice none 0 0, .int .i64 2, .int .i64 0, .string ⟨#[97]⟩, .slice none 0 0] 25)
  rw [hW] at hzw
  have hsw := hs0 (.cells #[.int .i64 1, .int .i64 1, .string ⟨#[]⟩, .slice none 0 0, .int .i64 3, .int .i64 0, .string ⟨#[]⟩, .slice none 0 0, .int .i64 2, .int .i64 0, .string ⟨#[97]⟩, .slice none 0 0] 25)
  rw [hW] at hsw
  clear hW hb0 hz0 hs0
  obtain ⟨x0, x1, x2, x3⟩ := kx_cells hzw x hx3
  obtain ⟨y0, y1, y2, y3⟩ := kx_cells hzw y hy3
  have ix1 : (x : Int) < 3 := by omega
  have iy1 : (y : Int) < 3 := by omega
  have ix0 : (0 : Int) ≤ (x : Int) := by omega
  have iy0 : (0 : Int) ≤ (y : Int) := by omega
  have hbn : Below W0.heap.size W0 (W0.alloc (.cells #[.int .i64 (kx x).op, .int .i64 (kx x).n, .string ⟨(kx x).s.toArray⟩, .slice none 0 0, .int .i64 (kx y).op, .int .i64 (kx y).n, .string ⟨(kx y).s.toArray⟩, .slice none 0 0] 24)).drew := ((Below.refl _ _).alloc (Nat.le_refl _) _).drew
  have hnew : (W0.alloc (.cells #[.int .i64 (kx x).op, .int .i64 (kx x).n, .string ⟨(kx x).s.toArray⟩, .slice none 0 0, .int .i64 (kx y).op, .int .i64 (kx y).n, .string ⟨(kx y).s.toArray⟩, .slice none 0 0] 24)).drew.heap[w.heap.size + 1]? = some (.cells #[.int .i64 (kx x).op, .int .i64 (kx x).n, .string ⟨(kx x).s.toArray⟩, .slice none 0 0, .int .i64 (kx y).op, .int .i64 (kx y).n, .string ⟨(kx y).s.toArray⟩, .slice none 0 0] 24 (0, 0)) := by
    rw [← hsw]; exact heap_alloc_new W0 _
  have hkv : KV (gh (W0.alloc (.cells #[.int .i64 (kx x).op, .int .i64 (kx x).n, .string ⟨(kx x).s.toArray⟩, .slice none 0 0, .int .i64 (kx y).op, .int .i64 (kx y).n, .string ⟨(kx y).s.toArray⟩, .slice none 0 0] 24)).drew) (.slice (some ⟨w.heap.size + 1, 0, none⟩) 2 2) [kx x, kx y] :=
    KV.two hnew (by rw [kx_ks]; exact KV.nil _) (by rw [kx_ks]; exact KV.nil _)
  have hcall := typesOf_any (.mk (7 + (j : Int)) 0 [] [kx x, kx y]) _ (.slice none 0 0) (.slice none 0 0) [] [] _ (.mk _ _ _ _ (by omega) (by decide) (by decide) (fun k hk => by
    rcases List.mem_cons.1 hk with rfl | hk
    · exact kx_fine x
    · obtain rfl := List.mem_singleton.1 hk; exact kx_fine y)) (hL.below (hbw.seq hbn)) ⟨_, rfl, hkv⟩ (StrsV_nil _) (IntsV_nil _)
  obtain ⟨t, f, htf⟩ : ∃ t f, typeOf (.mk (7 + (j : Int)) 0 [] [kx x, kx y]) [] [] = (t, f) := ⟨_, _, rfl⟩
  rw [htf] at hcall
  unfold exV strV typePost at hcall
  have HC := Lib.hid hcall
  have HTF : Hid (t = wantT j x y ∧ f = if wantT j x y = 0 then 8 else 0) := Lib.hid (by have := HP.out; rw [htf] at this; simpa using this)
  have hbB : Below w.heap.size w (W0.alloc (.cells #[.int .i64 (kx x).op, .int .i64 (kx x).n, .string ⟨(kx x).s.toArray⟩, .slice none 0 0, .int .i64 (kx y).op, .int .i64 (kx y).n, .string ⟨(kx y).s.toArray⟩, .slice none 0 0] 24)).drew := hbw.seq hbn
  have HBB := Lib.hid hbB
  have HBN := Lib.hid hbn
  have hwz : w.heap.size < W0.heap.size := by omega
  have HX := Lib.hid (And.intro x0 (And.intro x1 (And.intro x2 (And.intro x3 (And.intro y0 (And.intro y1 (And.intro y2 y3)))))))
  clear hcall htf hkv hnew hbB hbn hbw hzw
  go_region_held3 (fun w' => (w'.cell? ⟨w.heap.size, x * 4, none⟩ = some (.int .i64 (kx x).op) ∧ w'.cell? ⟨w.heap.size, x * 4 + 1, none⟩ = some (.int .i64 (kx x).n) ∧ w'.cell? ⟨w.heap.size, x * 4 + 2, none⟩ = some (.string ⟨(kx x).s.toArray⟩) ∧ w'.cell? ⟨w.heap.size, x * 4 + 3, none⟩ = some (.slice none 0 0)) ∧
     (w'.cell? ⟨w.heap.size, y * 4, none⟩ = some (.int .i64 (kx y).op) ∧ w'.cell? ⟨w.heap.size, y * 4 + 1, none⟩ = some (.int .i64 (kx y).n) ∧ w'.cell? ⟨w.heap.size, y * 4 + 2, none⟩ = some (.string ⟨(kx y).s.toArray⟩) ∧ w'.cell? ⟨w.heap.size, y * 4 + 3, none⟩ = some (.slice none 0 0))) (go_keep)
    ((go_at_call 11; refine HC.out.mono ?_; rintro r W3 ⟨rfl, hb3⟩; have hb4 := HBB.out.seq hb3; have hb5 := HBN.out.seq hb3; obtain ⟨z0, z1, z2, z3, z4, z5, z6, z7⟩ := eight_keep hb5 hwz HX.out; clear hb3 hb5))
  clear x0 x1 x2 x3 y0 y1 y2 y3
  have HA := Lib.hid (fun w' hL => awake8 w' hL)
  have HL := Lib.hid hL
  clear hsw hwz HP HC HBB HBN HX ix0 ix1 iy0 iy1 hL
  rcases (by omega : x = 0 ∨ x = 1 ∨ x = 2) with rfl | rfl | rfl <;> rcases (by omega : y = 0 ∨ y = 1 ∨ y = 2) with rfl | rfl | rfl
  all_goals
    clear hx3 hy3
    rcases (by omega : j ≤ 4 ∨ j = 5 ∨ j = 6 ∨ j = 7 ∨ j = 8 ∨ j = 9) with h4 | rfl | rfl | rfl | rfl | rfl
  all_goals
    clear hj10
    obtain ⟨ht, hf⟩ := HTF.out
    simp [wantT, *] at ht hf
    subst ht
    subst hf
    clear HTF
    go_wp2_with fail
    refine (HA.out _ (HL.out.below hb4)).mono ?_
    rintro r W4 ⟨rfl, hb5⟩
    have hb6 := hb4.seq hb5
    clear hb4 hb5
    go_wp2
    go_ret
    exact ⟨rfl, hb6⟩
end Go.Proofs.YtdgcgogeidnmoaaDoor
