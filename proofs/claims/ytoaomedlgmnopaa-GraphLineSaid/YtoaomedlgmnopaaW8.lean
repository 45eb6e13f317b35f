/- The walks of awake and of the law GraphOrders. -/
import Derived.Test.YtoaomedlgmnopaaW7
namespace Go.Proofs.Ytoaomedlgmnopaa
open Go.RowKit Pal Pal.Graph

theorem IntsV.ofBlock {w : World} {b cap : Nat} {xs : List Int} {e : TypeId} {fr : Nat × Nat} (h : w.heap[b]? = some (.cells (xs.map (Value.int .i64)).toArray e fr)) (hl : xs.length ≤ 17592186044416) (n : Nat) (hn : n = xs.length) : IntsV (gh w) (.slice (some ⟨b, 0, none⟩) n cap) xs := by
  subst hn
  refine ⟨_, _, rfl, fun h => (by cases h), hl, fun j x hx => ⟨b, 0, rfl, ?_⟩⟩
  simp [GH.cell, gh, h, hx]
theorem RowsV.ofBlock {w : World} {b cap : Nat} {us : List Value} {xss : List (List Int)} {e : TypeId} {fr : Nat × Nat} (h : w.heap[b]? = some (.cells us.toArray e fr)) (hl : xss.length ≤ 5864062014805) (n : Nat) (hn : n = xss.length) (hu : us.length = xss.length)
    (hi : ∀ (j : Nat) (u : Value) (xs : List Int), us[j]? = some u → xss[j]? = some xs → IntsV (gh w) u xs) : RowsV (gh w) (.slice (some ⟨b, 0, none⟩) n cap) xss := by
  subst hn
  refine ⟨_, _, rfl, fun h => (by cases h), hl, fun j x hx => ?_⟩
  obtain ⟨u, huj⟩ : ∃ u, us[j]? = some u := ⟨_, List.getElem?_eq_getElem (by have := (List.getElem?_eq_some_iff.1 hx).1; omega)⟩
  exact ⟨b, 0, u, rfl, by simp [GH.cell, gh, h, huj], hi j u x huj hx⟩

theorem o3 : orderS 3 [[2], [], [1]] = ([1, 2, 0], true) := by decide
theorem o2 : orderS 2 [[1], [0]] = ([], false) := by decide
theorem s2 : stuckS 2 [[1], [0]] = [0, 1] := by decide
theorem few3 : ∀ (i : Nat) (xs : List Int), [[2], [], [(1 : Int)]][i]? = some xs → xs.length ≤ 80 := by
  intro i xs h
  match i, h with
  | 0, h => cases h; decide
  | 1, h => cases h; decide
  | 2, h => cases h; decide
theorem few2 : ∀ (i : Nat) (xs : List Int), [[1], [(0 : Int)]][i]? = some xs → xs.length ≤ 80 := by
  intro i xs h
  match i, h with
  | 0, h => cases h; decide
  | 1, h => cases h; decide

def TrueBelow (w : World) (e : Ending) (w' : World) : Prop := e = .returned (.bool true) ∧ Below w.heap.size w w'

theorem heap_at (w : World) (o : Obj) (k : Nat) : (w.alloc o).heap[k]? = if k = w.heap.size then some o else w.heap[k]? := by
  show (w.heap.push o)[k]? = _
  rw [Array.getElem?_push]
theorem heap_new {w : World} {o : Obj} {k : Nat} (h : k = w.heap.size) : (w.alloc o).heap[k]? = some o := by rw [heap_at, if_pos h]
theorem heap_old {w : World} {o : Obj} {k : Nat} (h : k < w.heap.size) : (w.alloc o).heap[k]? = w.heap[k]? := by rw [heap_at, if_neg (by omega)]
theorem lit3 (w : World) : RowsV (gh ((((w.alloc (Obj.cells #[Value.int IntKind.i64 2] 3)).alloc (Obj.cells #[] 3)).alloc (Obj.cells #[Value.int IntKind.i64 1] 3)).alloc
    (Obj.cells #[Value.slice (some { block := w.heap.size, off := 0 }) 1 1, Value.slice (some { block := w.heap.size + 1, off := 0 }) 0 0, Value.slice (some { block := w.heap.size + 1 + 1, off := 0 }) 1 1] 26)))
    (Value.slice (some { block := w.heap.size + 1 + 1 + 1, off := 0 }) 3 3) [[2], [], [1]] := by
  refine RowsV.ofBlock (us := [Value.slice (some { block := w.heap.size, off := 0 }) 1 1, Value.slice (some { block := w.heap.size + 1, off := 0 }) 0 0, Value.slice (some { block := w.heap.size + 1 + 1, off := 0 }) 1 1]) (e := 26) (fr := (0, 0)) ?_ (by simp) _ rfl rfl ?_
  · repeat (first | exact heap_new (by simp) | rw [heap_old (by simp <;> omega)])
  · intro j u xs h1 h2
    match j, h1, h2 with
    | 0, h1, h2 => cases h1; cases h2; exact IntsV.ofBlock (e := 3) (fr := (0, 0)) (by repeat (first | exact heap_new (by simp) | rw [heap_old (by simp <;> omega)])) (by simp) _ rfl
    | 1, h1, h2 => cases h1; cases h2; exact IntsV.ofBlock (e := 3) (fr := (0, 0)) (by repeat (first | exact heap_new (by simp) | rw [heap_old (by simp <;> omega)])) (by simp) _ rfl
    | 2, h1, h2 => cases h1; cases h2; exact IntsV.ofBlock (e := 3) (fr := (0, 0)) (by repeat (first | exact heap_new (by simp) | rw [heap_old (by simp <;> omega)])) (by simp) _ rfl
theorem lit2 (w : World) : RowsV (gh (((w.alloc (Obj.cells #[Value.int IntKind.i64 1] 3)).alloc (Obj.cells #[Value.int IntKind.i64 0] 3)).alloc
    (Obj.cells #[Value.slice (some { block := w.heap.size, off := 0 }) 1 1, Value.slice (some { block := w.heap.size + 1, off := 0 }) 1 1] 26)))
    (Value.slice (some { block := w.heap.size + 1 + 1, off := 0 }) 2 2) [[1], [0]] := by
  refine RowsV.ofBlock (us := [Value.slice (some { block := w.heap.size, off := 0 }) 1 1, Value.slice (some { block := w.heap.size + 1, off := 0 }) 1 1]) (e := 26) (fr := (0, 0)) ?_ (by simp) _ rfl rfl ?_
  · repeat (first | exact heap_new (by simp) | rw [heap_old (by simp <;> omega)])
  · intro j u xs h1 h2
    match j, h1, h2 with
    | 0, h1, h2 => cases h1; cases h2; exact IntsV.ofBlock (e := 3) (fr := (0, 0)) (by repeat (first | exact heap_new (by simp) | rw [heap_old (by simp <;> omega)])) (by simp) _ rfl
    | 1, h1, h2 => cases h1; cases h2; exact IntsV.ofBlock (e := 3) (fr := (0, 0)) (by repeat (first | exact heap_new (by simp) | rw [heap_old (by simp <;> omega)])) (by simp) _ rfl
theorem below_alloc (w : World) (o : Obj) : Below w.heap.size w (w.alloc o) := (Below.refl _ _).alloc (Nat.le_refl _) _

set_option maxHeartbeats 1000000 in
theorem awake_any (w : World) : Calls Try.prog 9 #[] w (TrueBelow w) := by
  go_enter Try.func9, Try.ntmps9
  go_wp2_with fail
  refine (porder_any _ 3 _ _ _ (GH.le.refl _) (lit3 w) (fun _ _ => ⟨by omega, few3⟩)).mono ?_
  rintro e w1 ⟨v1, rfl, hv1, hb1⟩
  rw [o3] at hv1 ⊢
  have hb1 := (((((below_alloc w _).seq (below_alloc _ _)).seq (below_alloc _ _)).seq (below_alloc _ _))).seq hb1
  go_wp2_with fail
  refine (porder_any _ 2 _ _ _ (GH.le.refl _) (lit2 w1) (fun _ _ => ⟨by omega, few2⟩)).mono ?_
  rintro e w2 ⟨v2, rfl, hv2, hb2⟩
  rw [o2] at hv2 ⊢
  have hb2 := (((below_alloc w1 _).seq (below_alloc _ _)).seq (below_alloc _ _)).seq hb2
  have hv1 := hv1.mono (below_gh hb2)
  have hb2 := hb1.seq hb2
  clear hb1 hv2
  go_wp2_with fail
  have hv1 := hv1.mono (below_gh (below_alloc w2 (Obj.cells #[Value.int IntKind.i64 1, Value.int IntKind.i64 2, Value.int IntKind.i64 0] 3)))
  refine (same_ints _ _ _ [1, 2, 0] [1, 2, 0] _ (GH.le.refl _) hv1 (IntsV.ofBlock (e := 3) (fr := (0, 0)) (by repeat (first | exact heap_new (by simp) | rw [heap_old (by simp <;> omega)])) (by simp) _ rfl)).mono ?_
  rintro e w3 ⟨rfl, m, rfl⟩
  rw [decide_eq_true rfl]
  have hb3 := below_drewN (hb2.seq (below_alloc w2 (Obj.cells #[Value.int IntKind.i64 1, Value.int IntKind.i64 2, Value.int IntKind.i64 0] 3))) m
  clear hb2 hv1
  generalize (w2.alloc (Obj.cells #[Value.int IntKind.i64 1, Value.int IntKind.i64 2, Value.int IntKind.i64 0] 3)).drewN m = w4 at *
  go_wp2_with fail
  refine (pstuck_any _ 2 _ _ _ (GH.le.refl _) (lit2 w4) (fun _ _ => ⟨by omega, few2⟩)).mono ?_
  rintro e w5 ⟨v5, rfl, hv5, hb5⟩
  rw [s2] at hv5
  have hb5 := hb3.seq ((((below_alloc w4 _).seq (below_alloc _ _)).seq (below_alloc _ _)).seq hb5)
  clear hb3
  go_wp2_with fail
  have hv5 := hv5.mono (below_gh (below_alloc w5 (Obj.cells #[Value.int IntKind.i64 0, Value.int IntKind.i64 1] 3)))
  refine (same_ints _ _ _ [0, 1] [0, 1] _ (GH.le.refl _) hv5 (IntsV.ofBlock (e := 3) (fr := (0, 0)) (by repeat (first | exact heap_new (by simp) | rw [heap_old (by simp <;> omega)])) (by simp) _ rfl)).mono ?_
  rintro e w6 ⟨rfl, m6, rfl⟩
  rw [decide_eq_true rfl]
  go_wp2
  go_ret
  exact ⟨rfl, below_drewN (hb5.seq (below_alloc w5 _)) _⟩
end Go.Proofs.Ytoaomedlgmnopaa
