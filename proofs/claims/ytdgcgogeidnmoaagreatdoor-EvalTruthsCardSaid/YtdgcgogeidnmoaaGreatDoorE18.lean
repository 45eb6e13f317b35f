/- The walk of palaverlaw09.EvalTruths: what its closure comes to. Conditions: the tables hold what they are laid with. -/
import Derived.Test.YtdgcgogeidnmoaaGreatDoorE15
import Derived.Test.YtdgcgogeidnmoaaGreatDoorR1
import Derived.Deep.RegionHeld3
set_option linter.unusedSimpArgs false
set_option linter.unusedVariables false
set_option linter.unusedSectionVars false
namespace Go.Proofs.YtdgcgogeidnmoaaGreatDoor
open Go.RowKit Pal
theorem three_new {W : World} {B : Nat} {x0 x1 x2 : Value} {T : TypeId} (h : W.heap[B]? = some (.cells #[x0, x1, x2] T (0, 0))) :
    (∀ o : Obj, (W.alloc o).cell? ⟨B, 0, none⟩ = some x0) ∧ (∀ o : Obj, (W.alloc o).cell? ⟨B, 1, none⟩ = some x1) ∧ (∀ o : Obj, (W.alloc o).cell? ⟨B, 2, none⟩ = some x2) := by
  have hlt : B < W.heap.size := (Array.getElem?_eq_some_iff.1 h).1
  have A := fun o : Obj => three_all (W := W.alloc o) (B := B) (x0 := x0) (x1 := x1) (x2 := x2) (T := T) (by rw [Lib.alloc_old W o _ hlt]; exact h)
  exact ⟨fun o => (A o).1.1, fun o => (A o).1.2.1, fun o => (A o).1.2.2⟩
/-- What EvalTruths' closure looks at. -/
structure TrIn (W : World) (B8 B6 B7 bn : Nat) (va vb : Val) : Prop where
  lay : Lay (gh W)
  fine : VFine [va, vb]
  c8 : W.cell? ⟨B8, 0, none⟩ = some (.slice (some ⟨bn, 0, none⟩) 2 2)
  cn : W.heap[bn]? = some (.cells #[.string ⟨#[112]⟩, .string ⟨#[113]⟩] 9 (0, 0))
  c6 : W.cell? ⟨B6, 0, none⟩ = some (.int .i64 va.k) ∧ W.cell? ⟨B6, 1, none⟩ = some (.int .i64 va.n) ∧ W.cell? ⟨B6, 2, none⟩ = some (.string ⟨va.s.toArray⟩)
  c7 : W.cell? ⟨B7, 0, none⟩ = some (.int .i64 vb.k) ∧ W.cell? ⟨B7, 1, none⟩ = some (.int .i64 vb.n) ∧ W.cell? ⟨B7, 2, none⟩ = some (.string ⟨vb.s.toArray⟩)
set_option maxRecDepth 1000000 in
set_option maxHeartbeats 8000000 in
theorem truths_clo (op : Nat) (va vb : Val) (B8 B6 B7 bn : Nat) (w : World) (ho : op = 16 ∨ op = 17) (h : TrIn w B8 B6 B7 bn va vb) :
    Calls Tryz.prog 46 #[.int .i64 op, .pointer (some ⟨B8, 0, none⟩), .pointer (some ⟨B6, 0, none⟩), .pointer (some ⟨B7, 0, none⟩)] w (valPost (evalM (twoX op [112] [113]) [[112], [113]] [va, vb]) w) := by
  obtain ⟨hL, hF, c8, cn, ⟨a0, a1, a2⟩, b0, b1, b2⟩ := h
  have l8 := World.block_lt_of_cell? w _ c8
  have l6 := World.block_lt_of_cell? w _ a0
  have l7 := World.block_lt_of_cell? w _ b0
  have ln : bn < w.heap.size := (Array.getElem?_eq_some_iff.1 cn).1
  have e1 := heap_alloc_new w (.cells #[.int .i64 0, .int .i64 0, .string ⟨#[]⟩] 47)
  have e2 := heap_alloc_new (w.alloc (.cells #[.int .i64 0, .int .i64 0, .string ⟨#[]⟩] 47)) (.cells #[.int .i64 4, .int .i64 0, .string ⟨#[112]⟩, .slice none 0 0, .int .i64 4, .int .i64 0, .string ⟨#[113]⟩, .slice none 0 0] 24)
  have e4 := heap_alloc_new ((w.alloc (.cells #[.int .i64 0, .int .i64 0, .string ⟨#[]⟩] 47)).alloc (.cells #[.int .i64 4, .int .i64 0, .string ⟨#[112]⟩, .slice none 0 0, .int .i64 4, .int .i64 0, .string ⟨#[113]⟩, .slice none 0 0] 24)) (.cells #[.int .i64 va.k, .int .i64 va.n, .string ⟨va.s.toArray⟩, .int .i64 vb.k, .int .i64 vb.n, .string ⟨vb.s.toArray⟩] 47)
  have e1' : (((w.alloc (.cells #[.int .i64 0, .int .i64 0, .string ⟨#[]⟩] 47)).alloc (.cells #[.int .i64 4, .int .i64 0, .string ⟨#[112]⟩, .slice none 0 0, .int .i64 4, .int .i64 0, .string ⟨#[113]⟩, .slice none 0 0] 24)).alloc (.cells #[.int .i64 va.k, .int .i64 va.n, .string ⟨va.s.toArray⟩, .int .i64 vb.k, .int .i64 vb.n, .string ⟨vb.s.toArray⟩] 47)).heap[w.heap.size]? = _ := (Lib.alloc_old _ _ _ (by simp <;> omega)).trans ((Lib.alloc_old _ _ _ (by simp)).trans e1)
  have e2' := (Lib.alloc_old ((w.alloc (.cells #[.int .i64 0, .int .i64 0, .string ⟨#[]⟩] 47)).alloc (.cells #[.int .i64 4, .int .i64 0, .string ⟨#[112]⟩, .slice none 0 0, .int .i64 4, .int .i64 0, .string ⟨#[113]⟩, .slice none 0 0] 24)) (.cells #[.int .i64 va.k, .int .i64 va.n, .string ⟨va.s.toArray⟩, .int .i64 vb.k, .int .i64 vb.n, .string ⟨vb.s.toArray⟩] 47) _ (by simp)).trans e2
  have hb0 := (((Below.refl w.heap.size w).alloc (Nat.le_refl _) (.cells #[.int .i64 0, .int .i64 0, .string ⟨#[]⟩] 47)).alloc (by simp) (.cells #[.int .i64 4, .int .i64 0, .string ⟨#[112]⟩, .slice none 0 0, .int .i64 4, .int .i64 0, .string ⟨#[113]⟩, .slice none 0 0] 24)).alloc (by simp <;> omega) (.cells #[.int .i64 va.k, .int .i64 va.n, .string ⟨va.s.toArray⟩, .int .i64 vb.k, .int .i64 vb.n, .string ⟨vb.s.toArray⟩] 47)
  have hkv := KV.two (h := gh (((w.alloc (.cells #[.int .i64 0, .int .i64 0, .string ⟨#[]⟩] 47)).alloc (.cells #[.int .i64 4, .int .i64 0, .string ⟨#[112]⟩, .slice none 0 0, .int .i64 4, .int .i64 0, .string ⟨#[113]⟩, .slice none 0 0] 24)).alloc (.cells #[.int .i64 va.k, .int .i64 va.n, .string ⟨va.s.toArray⟩, .int .i64 vb.k, .int .i64 vb.n, .string ⟨vb.s.toArray⟩] 47))) (a := .mk 4 0 [112] []) (c := .mk 4 0 [113] []) e2' (KV.nil _) (KV.nil _)
  have hnv := StrsV.lay (w := ((w.alloc (.cells #[.int .i64 0, .int .i64 0, .string ⟨#[]⟩] 47)).alloc (.cells #[.int .i64 4, .int .i64 0, .string ⟨#[112]⟩, .slice none 0 0, .int .i64 4, .int .i64 0, .string ⟨#[113]⟩, .slice none 0 0] 24)).alloc (.cells #[.int .i64 va.k, .int .i64 va.n, .string ⟨va.s.toArray⟩, .int .i64 vb.k, .int .i64 vb.n, .string ⟨vb.s.toArray⟩] 47)) [[112], [113]] 9 ((hb0.block _ ln).trans cn) (by simp [maxLen])
  have hvv := ValsV.two (x := va) (y := vb) e4
  have hev := Eval_any (twoX op [112] [113]) [[112], [113]] [va, vb] _ _ _ _ (twoX_fine op _ _ (by omega) (by simp) (by simp)) hF (hL.below hb0) ⟨_, rfl, hkv⟩ hnv hvv
  have s1 : (w.alloc (.cells #[.int .i64 0, .int .i64 0, .string ⟨#[]⟩] 47)).heap.size = w.heap.size + 1 := by simp
  have s2 : ((w.alloc (.cells #[.int .i64 0, .int .i64 0, .string ⟨#[]⟩] 47)).alloc (.cells #[.int .i64 4, .int .i64 0, .string ⟨#[112]⟩, .slice none 0 0, .int .i64 4, .int .i64 0, .string ⟨#[113]⟩, .slice none 0 0] 24)).heap.size = w.heap.size + 2 := by simp
  rw [s1, s2] at hev
  have HE := Lib.hid hev
  have HB := Lib.hid hb0
  have HZ := Lib.hid e1'
  clear hev hb0 e1' e1 e2 e4 e2' hkv hnv hvv s1 s2 hL hF cn ln
  unfold exV strV at HE
  generalize evalM (twoX op [112] [113]) [[112], [113]] [va, vb] = x at *
  go_enter Tryz.func46, Tryz.ntmps46
  go_wp2_with fail
  refine HE.out.mono ?_
  rintro r W ⟨rfl, hb⟩
  have hzW := (hb.block _ (by simp <;> omega)).trans HZ.out
  obtain ⟨⟨c0, c1, c2⟩, f0, f1, f2⟩ := three_all hzW
  have HZW := Lib.hid hzW
  have HBW := Lib.hid (HB.out.seq hb)
  clear hb hzW HE HB HZ
  unfold valV strV
  go_wp2
  have hh := three_all (set3_heap HZW.out (.int .i64 x.k) (.int .i64 x.n) (.string ⟨x.s.toArray⟩))
  refine bodyPost_ret (v := valV x) (by simp [results, Tryz.results46, go_sem, valV, strV, hh.1]) rfl ⟨rfl, below_set3 HBW.out (by omega) _ _ _⟩
theorem TrIn.keep {W W' : World} {B8 B6 B7 bn : Nat} {va vb : Val} (h : TrIn W B8 B6 B7 bn va vb) (hb : Below W.heap.size W W') : TrIn W' B8 B6 B7 bn va vb := by
  obtain ⟨hL, hF, c8, cn, ⟨a0, a1, a2⟩, b0, b1, b2⟩ := h
  have l8 := World.block_lt_of_cell? W _ c8
  have l6 := World.block_lt_of_cell? W _ a0
  have l7 := World.block_lt_of_cell? W _ b0
  have ln : bn < W.heap.size := (Array.getElem?_eq_some_iff.1 cn).1
  exact ⟨hL.below hb, hF, (hb.cell (p := ⟨B8, 0, none⟩) l8).trans c8, (hb.block _ ln).trans cn, ⟨(hb.cell (p := ⟨B6, 0, none⟩) l6).trans a0, (hb.cell (p := ⟨B6, 1, none⟩) l6).trans a1, (hb.cell (p := ⟨B6, 2, none⟩) l6).trans a2⟩,
    (hb.cell (p := ⟨B7, 0, none⟩) l7).trans b0, (hb.cell (p := ⟨B7, 1, none⟩) l7).trans b1, (hb.cell (p := ⟨B7, 2, none⟩) l7).trans b2⟩
def notX : Ex := .mk 6 0 [] [.mk 4 0 [112] []]
theorem truths_not (va vb : Val) (B8 B6 B7 bn : Nat) (w : World) (h : TrIn w B8 B6 B7 bn va vb) :
    Calls Tryz.prog 36 #[.agg #[.int .i64 6, .int .i64 0, .string ⟨#[]⟩, .slice (some ⟨w.heap.size, 0, none⟩) 1 1], .slice (some ⟨bn, 0, none⟩) 2 2, .slice (some ⟨w.heap.size + 1, 0, none⟩) 2 2] ((w.alloc (.cells #[.int .i64 4, .int .i64 0, .string ⟨#[112]⟩, .slice none 0 0] 24)).alloc (.cells #[.int .i64 va.k, .int .i64 va.n, .string ⟨va.s.toArray⟩, .int .i64 vb.k, .int .i64 vb.n, .string ⟨vb.s.toArray⟩] 47)) (valPost (evalM notX [[112], [113]] [va, vb]) ((w.alloc (.cells #[.int .i64 4, .int .i64 0, .string ⟨#[112]⟩, .slice none 0 0] 24)).alloc (.cells #[.int .i64 va.k, .int .i64 va.n, .string ⟨va.s.toArray⟩, .int .i64 vb.k, .int .i64 vb.n, .string ⟨vb.s.toArray⟩] 47))) := by
  obtain ⟨hL, hF, c8, cn, ⟨a0, a1, a2⟩, b0, b1, b2⟩ := h
  have ln : bn < w.heap.size := (Array.getElem?_eq_some_iff.1 cn).1
  have e2 := heap_alloc_new w (.cells #[.int .i64 4, .int .i64 0, .string ⟨#[112]⟩, .slice none 0 0] 24)
  have e4 := heap_alloc_new (w.alloc (.cells #[.int .i64 4, .int .i64 0, .string ⟨#[112]⟩, .slice none 0 0] 24)) (.cells #[.int .i64 va.k, .int .i64 va.n, .string ⟨va.s.toArray⟩, .int .i64 vb.k, .int .i64 vb.n, .string ⟨vb.s.toArray⟩] 47)
  have e2' := (Lib.alloc_old (w.alloc (.cells #[.int .i64 4, .int .i64 0, .string ⟨#[112]⟩, .slice none 0 0] 24)) (.cells #[.int .i64 va.k, .int .i64 va.n, .string ⟨va.s.toArray⟩, .int .i64 vb.k, .int .i64 vb.n, .string ⟨vb.s.toArray⟩] 47) _ (by simp)).trans e2
  have hb0 := ((Below.refl w.heap.size w).alloc (Nat.le_refl _) (.cells #[.int .i64 4, .int .i64 0, .string ⟨#[112]⟩, .slice none 0 0] 24)).alloc (by simp) (.cells #[.int .i64 va.k, .int .i64 va.n, .string ⟨va.s.toArray⟩, .int .i64 vb.k, .int .i64 vb.n, .string ⟨vb.s.toArray⟩] 47)
  have hkv := KV.one (h := gh ((w.alloc (.cells #[.int .i64 4, .int .i64 0, .string ⟨#[112]⟩, .slice none 0 0] 24)).alloc (.cells #[.int .i64 va.k, .int .i64 va.n, .string ⟨va.s.toArray⟩, .int .i64 vb.k, .int .i64 vb.n, .string ⟨vb.s.toArray⟩] 47))) (a := .mk 4 0 [112] []) e2' (KV.nil _)
  have hnv := StrsV.lay (w := (w.alloc (.cells #[.int .i64 4, .int .i64 0, .string ⟨#[112]⟩, .slice none 0 0] 24)).alloc (.cells #[.int .i64 va.k, .int .i64 va.n, .string ⟨va.s.toArray⟩, .int .i64 vb.k, .int .i64 vb.n, .string ⟨vb.s.toArray⟩] 47)) [[112], [113]] 9 ((hb0.block _ ln).trans cn) (by simp [maxLen])
  have hvv := ValsV.two (x := va) (y := vb) e4
  have hfx : Fine notX := .mk _ _ _ _ (by decide) (by decide) (by decide) (fun k hk => by obtain rfl := List.mem_singleton.1 hk; exact .mk _ _ _ _ (by decide) (by decide) (by decide) (fun k hk => by cases hk))
  have hev := Eval_any notX [[112], [113]] [va, vb] _ _ _ _ hfx hF (hL.below hb0) ⟨_, rfl, hkv⟩ hnv hvv
  have s1 : (w.alloc (.cells #[.int .i64 4, .int .i64 0, .string ⟨#[112]⟩, .slice none 0 0] 24)).heap.size = w.heap.size + 1 := by simp
  rw [s1] at hev
  exact hev
/-- The three wants of EvalTruths, behind all that was there. -/
structure TS (WA W : World) (k0 n0 k1 n1 k2 n2 : Int) : Prop where
  below : Below WA.heap.size WA W
  h0 : W.heap[WA.heap.size]? = some (.cells #[.int .i64 k0, .int .i64 n0, .string ⟨#[]⟩] 47 (0, 0))
  h1 : W.heap[WA.heap.size + 1]? = some (.cells #[.int .i64 k1, .int .i64 n1, .string ⟨#[]⟩] 47 (0, 0))
  h2 : W.heap[WA.heap.size + 1 + 1]? = some (.cells #[.int .i64 k2, .int .i64 n2, .string ⟨#[]⟩] 47 (0, 0))
theorem TS.call {WA W W' : World} {k0 n0 k1 n1 k2 n2 : Int} (h : TS WA W k0 n0 k1 n1 k2 n2) (hb : Below W.heap.size W W') : TS WA W' k0 n0 k1 n1 k2 n2 := by
  have l2 : WA.heap.size + 1 + 1 < W.heap.size := (Array.getElem?_eq_some_iff.1 h.h2).1
  exact ⟨h.below.seq hb, (hb.block _ (by omega)).trans h.h0, (hb.block _ (by omega)).trans h.h1, (hb.block _ l2).trans h.h2⟩
theorem TS.set0 {WA W : World} {k0 n0 k1 n1 k2 n2 : Int} (h : TS WA W k0 n0 k1 n1 k2 n2) (k n : Int) : TS WA (((W.setCell ⟨WA.heap.size, 0, none⟩ (.int .i64 k)).setCell ⟨WA.heap.size, 1, none⟩ (.int .i64 n)).setCell ⟨WA.heap.size, 2, none⟩ (.string ⟨#[]⟩)) k n k1 n1 k2 n2 :=
  ⟨below_set3 h.below (by omega) _ _ _, set3_heap h.h0 _ _ _, (set3_other (by omega) _ _ _).trans h.h1, (set3_other (by omega) _ _ _).trans h.h2⟩
theorem TS.set1 {WA W : World} {k0 n0 k1 n1 k2 n2 : Int} (h : TS WA W k0 n0 k1 n1 k2 n2) (k n : Int) : TS WA (((W.setCell ⟨WA.heap.size + 1, 0, none⟩ (.int .i64 k)).setCell ⟨WA.heap.size + 1, 1, none⟩ (.int .i64 n)).setCell ⟨WA.heap.size + 1, 2, none⟩ (.string ⟨#[]⟩)) k0 n0 k n k2 n2 :=
  ⟨below_set3 h.below (by omega) _ _ _, (set3_other (by omega) _ _ _).trans h.h0, set3_heap h.h1 _ _ _, (set3_other (by omega) _ _ _).trans h.h2⟩
theorem TS.set2 {WA W : World} {k0 n0 k1 n1 k2 n2 : Int} (h : TS WA W k0 n0 k1 n1 k2 n2) (k n : Int) : TS WA (((W.setCell ⟨WA.heap.size + 1 + 1, 0, none⟩ (.int .i64 k)).setCell ⟨WA.heap.size + 1 + 1, 1, none⟩ (.int .i64 n)).setCell ⟨WA.heap.size + 1 + 1, 2, none⟩ (.string ⟨#[]⟩)) k0 n0 k1 n1 k n :=
  ⟨below_set3 h.below (by omega) _ _ _, (set3_other (by omega) _ _ _).trans h.h0, (set3_other (by omega) _ _ _).trans h.h1, set3_heap h.h2 _ _ _⟩
def vOf (x : Nat) : Val := if x = 0 then vBool false else if x = 1 then vBool true else vNil
def andW (x y : Nat) : Val := if x = 2 then vBad 3 else if x = 0 then vBool false else if y = 2 then vBad 3 else vOf y
def orW (x y : Nat) : Val := if x = 2 then vBad 3 else if x = 1 then vBool true else if y = 2 then vBad 3 else vOf y
def notW (x : Nat) : Val := if x = 2 then vBad 3 else vBool (decide (x = 0))
theorem truths_plain (x y : Nat) (hx : x < 3) (hy : y < 3) : evalM (twoX 16 [112] [113]) [[112], [113]] [vOf x, vOf y] = andW x y ∧ evalM (twoX 17 [112] [113]) [[112], [113]] [vOf x, vOf y] = orW x y ∧ evalM notX [[112], [113]] [vOf x, vOf y] = notW x := by
  rcases (by omega : x = 0 ∨ x = 1 ∨ x = 2) with rfl | rfl | rfl <;> rcases (by omega : y = 0 ∨ y = 1 ∨ y = 2) with rfl | rfl | rfl <;> exact ⟨by kernel_rfl, by kernel_rfl, by kernel_rfl⟩
theorem vOf_fine (x y : Nat) : VFine [vOf x, vOf y] := by
  have h : ∀ z, (-9223372036854775808 ≤ (vOf z).n ∧ (vOf z).n ≤ 9223372036854775807) ∧ (vOf z).s.length ≤ 9223372036854775806 := by
    intro z
    unfold vOf
    split
    · exact ⟨by decide, by decide⟩
    · split
      · exact ⟨by decide, by decide⟩
      · exact ⟨by decide, by decide⟩
  intro v hv
  rcases List.mem_cons.1 hv with rfl | hv
  · exact h _
  · obtain rfl := List.mem_singleton.1 hv
    exact h _
/-- How a place of three is reckoned. -/
theorem three_place (p : Int) : ∃ (u : Int) (x : Nat), p.tmod 3 = u ∧ -3 < u ∧ u < 3 ∧ (u + 3).tmod 3 = x ∧ x < 3 := by
  have h1 : (p.tmod 3).natAbs < 3 := by rw [Int.natAbs_tmod]; exact Nat.mod_lt _ (by decide)
  obtain ⟨u, hu⟩ : ∃ u, p.tmod 3 = u := ⟨_, rfl⟩
  rw [hu] at h1
  refine ⟨u, ((u + 3).tmod 3).toNat, hu, by omega, by omega, ?_, ?_⟩
  · rcases (by omega : u = -2 ∨ u = -1 ∨ u = 0 ∨ u = 1 ∨ u = 2) with rfl | rfl | rfl | rfl | rfl <;> decide
  · rcases (by omega : u = -2 ∨ u = -1 ∨ u = 0 ∨ u = 1 ∨ u = 2) with rfl | rfl | rfl | rfl | rfl <;> decide
end Go.Proofs.YtdgcgogeidnmoaaGreatDoor
