/- The copy of palaverlaw00.Values as a row of its own, whose members may be stored anew. Conditions: at most fifty values. -/
import Derived.Test.YtoklhppalkgdeaaGreatDoorTY
set_option linter.unusedSimpArgs false
set_option linter.unusedVariables false
set_option linter.unusedSectionVars false
namespace Go.Proofs.YtoklhppalkgdeaaGreatDoor
open Go.RowKit Pal
/-- v is a row of the values l, made since block n0. -/
def OwnV (n0 : Nat) (W : World) (v : Value) (l : List Val) : Prop := W.ownsRow n0 45 3 v l.length (l.flatMap valCells)
def ownVPost (l : List Val) (w : World) (r : Ending) (w' : World) : Prop := Below w.heap.size w w' ∧ ∃ v, r = .returned v ∧ OwnV w.heap.size w' v l
section
variable {n0 : Nat} {W W' : World} {v : Value} {l : List Val}
theorem row_zero {xs : List Value} {e : TypeId} {c n : Nat} (h : W.ownsRow n0 e c v n xs) : W.ownsRow 0 e c v n xs := by
  obtain ⟨hl, h⟩ := h
  refine ⟨hl, ?_⟩
  rcases h with h | ⟨g, cap, cur, hv, -, hr⟩
  · exact .inl h
  · exact .inr ⟨g, cap, cur, hv, Nat.zero_le _, hr⟩
theorem OwnV.toV (h : OwnV n0 W v l) : ValsV (gh W) v l := by
  have hr : Row (fun _ => 1) 1 W 45 3 v l.length (l.flatMap valCells) := ⟨row_zero h, fun _ _ => rfl⟩
  exact valsV_ofSl (SlV.ofRow valCells l vNil (by decide) valCells_len hr)
theorem OwnV.keep (h : OwnV n0 W v l) (hb : Below W.heap.size W W') : OwnV n0 W' v l := by
  obtain ⟨hl, h⟩ := h
  refine ⟨hl, ?_⟩
  rcases h with h | ⟨g, cap, cur, hv, hge, hg, hr⟩
  · exact .inl h
  · exact .inr ⟨g, cap, cur, hv, hge, (hb.block g (Array.getElem?_eq_some_iff.1 hg).1).trans hg, hr⟩
theorem ownV_ofRw {tau : Tag} (h : RwIn n0 tau W 45 3 v l.length (l.flatMap valCells)) : OwnV n0 W v l := by
  obtain ⟨hl, hh⟩ := h.row.own
  refine ⟨hl, ?_⟩
  rcases hh with hh | ⟨g, cap, cur, hv, hge, hr⟩
  · exact .inl hh
  · exact .inr ⟨g, cap, cur, hv, (h.ge g (h.row.tag g (by rw [hv]; rfl))).1, hr⟩
/-- The row's block, and the cells of its i-th member. -/
theorem OwnV.spot (h : OwnV n0 W v l) {i : Nat} (hi : i < l.length) : ∃ g cap, v = .slice (some ⟨g, 0, none⟩) l.length cap ∧ n0 ≤ g ∧ l.length ≤ cap ∧ cap ≤ maxLen ∧
    (∃ x0, W.cell? ⟨g, i * 3, none⟩ = some x0) ∧ (∃ x1, W.cell? ⟨g, i * 3 + 1, none⟩ = some x1) ∧ (∃ x2, W.cell? ⟨g, i * 3 + 2, none⟩ = some x2) ∧
    W.frozen? ⟨g, i * 3, none⟩ = false ∧ W.frozen? ⟨g, i * 3 + 1, none⟩ = false ∧ W.frozen? ⟨g, i * 3 + 2, none⟩ = false := by
  obtain ⟨hl, hh⟩ := h
  rcases hh with ⟨-, h0⟩ | ⟨g, cap, cur, hv, hge, hg, h1, h2, h3, h4⟩
  · omega
  · have a0 : i * 3 < cur.size := by omega
    have a1 : i * 3 + 1 < cur.size := by omega
    have a2 : i * 3 + 2 < cur.size := by omega
    refine ⟨g, cap, hv, hge, h1, h2, ⟨cur[i * 3], ?_⟩, ⟨cur[i * 3 + 1], ?_⟩, ⟨cur[i * 3 + 2], ?_⟩, ?_, ?_, ?_⟩ <;> simp [World.cell?, World.frozen?, hg, a0, a1, a2]
end
theorem flat_set3 (y : Val) : ∀ (l : List Val) (i : Nat), i < l.length → (l.set i y).flatMap valCells = (((l.flatMap valCells).set (i * 3) (.int .i64 y.k)).set (i * 3 + 1) (.int .i64 y.n)).set (i * 3 + 2) (strV y.s)
  | [], i, h => by simp at h
  | x :: l, 0, _ => by simp [valCells]
  | x :: l, i + 1, h => by
    have ih := flat_set3 y l i (by simpa using h)
    rw [List.set_cons_succ, List.flatMap_cons, List.flatMap_cons, ih, show (i + 1) * 3 = i * 3 + 1 + 1 + 1 by omega]
    simp [valCells, List.set_cons_succ]
theorem OwnV.put {n0 : Nat} {W : World} {l : List Val} {g n cap : Nat} (h : OwnV n0 W (.slice (some ⟨g, 0, none⟩) n cap) l) {i : Nat} (hi : i < l.length) (y : Val) :
    OwnV n0 (((W.setCell ⟨g, i * 3, none⟩ (.int .i64 y.k)).setCell ⟨g, i * 3 + 1, none⟩ (.int .i64 y.n)).setCell ⟨g, i * 3 + 2, none⟩ (strV y.s)) (.slice (some ⟨g, 0, none⟩) n cap) (l.set i y) := by
  obtain ⟨hl, hh⟩ := h
  refine ⟨by rw [flat_set3 y l i hi]; simpa using hl, ?_⟩
  rcases hh with ⟨h0, -⟩ | ⟨g', cap', cur, hv, hge, hg, h1, h2, h3, h4⟩
  · cases h0
  · simp only [Value.slice.injEq, Option.some.injEq, Addr.mk.injEq, and_true, true_and] at hv
    obtain ⟨rfl, hn, rfl⟩ := hv
    refine .inr ⟨g, cap, ((cur.setIfInBounds (i * 3) (.int .i64 y.k)).setIfInBounds (i * 3 + 1) (.int .i64 y.n)).setIfInBounds (i * 3 + 2) (strV y.s), by simp [hn], hge, ?_, by simpa using h1, h2, by simpa using h3, ?_⟩
    · simp [World.setCell, Array.getElem?_modify, hg]
    · rw [flat_set3 y l i hi, ← h4]
      simp [List.take_set]
/-- What the document's names keep: a name that does not occur gets the other value. -/
def mixV (used names : List Bs) (vals other : List Val) : Nat → List Val
  | 0 => vals
  | i + 1 => if names.getD i [] ∈ used then mixV used names vals other i else (mixV used names vals other i).set i (other.getD i vNil)
section
variable {used names : List Bs} {vals other : List Val}
theorem mixV_len : ∀ i, (mixV used names vals other i).length = vals.length
  | 0 => rfl
  | i + 1 => by
    unfold mixV
    split
    · exact mixV_len i
    · rw [List.length_set]; exact mixV_len i
theorem mixV_keep {j : Nat} {s : Bs} (hj : names[j]? = some s) (hs : s ∈ used) : ∀ i, (mixV used names vals other i)[j]? = vals[j]?
  | 0 => rfl
  | i + 1 => by
    unfold mixV
    split
    · exact mixV_keep hj hs i
    · rename_i hn
      by_cases hij : i = j
      · subst hij
        rw [List.getD_eq_getElem?_getD, hj] at hn
        exact absurd hs hn
      · rw [List.getElem?_set_ne hij]; exact mixV_keep hj hs i
theorem mixV_fine (hv : VFine vals) (ho : VFine other) (hl : names.length ≤ other.length) : ∀ i, i ≤ names.length → VFine (mixV used names vals other i)
  | 0, _ => hv
  | i + 1, h => by
    unfold mixV
    split
    · exact mixV_fine hv ho hl i (by omega)
    · intro x hx
      rcases List.mem_or_eq_of_mem_set hx with hx | rfl
      · exact mixV_fine hv ho hl i (by omega) x hx
      · have hi : i < other.length := by omega
        rw [List.getD_eq_getElem?_getD, List.getElem?_eq_getElem hi]
        exact ho _ (List.getElem_mem hi)
end
set_option maxRecDepth 1000000 in
set_option maxHeartbeats 8000000 in
theorem Values_own (l : List Val) (v : Value) (w : World) (hT : ValsV (gh w) v l) (hnil : NilV v) (hl : l.length ≤ 50) : Calls Tryz.prog 25 #[v] w (ownVPost l w) := by
  obtain ⟨i0, hi, hz0, hz1, hz2⟩ := info_parts infoVl
  obtain ⟨a, cap, hv, hn, hl1, hl2, hc⟩ := hT
  subst hv
  have hn2 : a = none → l.length = 0 ∧ cap = 0 := fun h => by subst h; exact hnil _ _ rfl
  have hnews : ∀ j u, (l.flatMap valCells)[j]? = some u → ∃ A, a = some A ∧ w.cell? (A.add j) = some u := by
    intro j u hj
    obtain ⟨i, c, x, hx, hcx, rfl⟩ := flat_at valCells 3 (by decide) valCells_len l j u hj
    obtain ⟨b, off, ha, h0, h1, h2⟩ := hc i x hx
    rw [gh_cell] at h0 h1 h2
    refine ⟨_, ha, ?_⟩
    rw [Go.WideShapes.add_plain]
    match c, hcx with
    | 0, hcx => simp [valCells] at hcx; subst hcx; rw [show off + (i * 3 + 0) = off + i * 3 by omega]; exact h0
    | 1, hcx => simp [valCells] at hcx; subst hcx; rw [show off + (i * 3 + 1) = off + i * 3 + 1 by omega]; exact h1
    | 2, hcx => simp [valCells] at hcx; subst hcx; rw [show off + (i * 3 + 2) = off + i * 3 + 2 by omega]; exact h2
  have HN := Lib.hid hn2
  have HW := Lib.hid hnews
  obtain ⟨len, hlen⟩ : ∃ n, l.length = n := ⟨_, rfl⟩
  have HLEN := Lib.hid hlen
  rw [hlen] at HN hl ⊢
  clear hn hn2 hnews hc hl1 hl2 hlen hnil
  go_enter Tryz.func25, Tryz.ntmps25
  go_wp2_with (at_builtin; refine wpList_append_src rfl _ _ 42 rfl 45 i0 _ 3 32 Tryz.underlying42 hi hz0 hz1 hz2 rfl (by decide) rfl (Row.nil T0 1 w 45 3) a len cap (l.flatMap valCells) rfl HN.out ?cl HW.out ?c1 ?c2 ?c3 ?_)
  case cl => rw [flat_len valCells 3 valCells_len, HLEN.out]
  case c1 => intro u hu; obtain ⟨x, _, hx⟩ := List.mem_flatMap.1 hu; simp [valCells] at hx; rcases hx with rfl | rfl | rfl <;> rfl
  case c2 => unfold maxLen; omega
  case c3 => omega
  intro v' t' w' hr he
  have hb := he.toBelow (by decide)
  rw [← HLEN.out] at hr
  obtain ⟨⟨t2, hw⟩, -⟩ := (RwIn.start w.heap.size w 45 3).app (Nat.le_refl _) hr he
  have HP : Hid (ownVPost l w (.returned v') w') := Lib.hid ⟨hb, v', rfl, ownV_ofRw hw⟩
  clear hr he hb hw
  go_wp2
  go_ret
  exact HP.out
end Go.Proofs.YtoklhppalkgdeaaGreatDoor
