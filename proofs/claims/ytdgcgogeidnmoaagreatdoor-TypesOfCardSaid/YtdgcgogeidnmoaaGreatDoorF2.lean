/- The walks of palaverlaw00.Ints, Texts, Values: copies in new memory. Condition: not too many. -/
import Derived.Test.YtdgcgogeidnmoaaGreatDoorF6
import Derived.Test.YtdgcgogeidnmoaaGreatDoorR4
set_option linter.unusedSimpArgs false
set_option linter.unusedVariables false
set_option linter.unusedSectionVars false
namespace Go.Proofs.YtdgcgogeidnmoaaGreatDoor
open Go.RowKit Pal
def copyIPost (l : List Int) (w : World) (r : Ending) (w' : World) : Prop := Below w.heap.size w w' ∧ ∃ v, r = .returned v ∧ IntsV (gh w') v l
def copySPost (l : List Bs) (w : World) (r : Ending) (w' : World) : Prop := Below w.heap.size w w' ∧ ∃ v, r = .returned v ∧ StrsV (gh w') v l
def copyVPost (l : List Val) (w : World) (r : Ending) (w' : World) : Prop := Below w.heap.size w w' ∧ ∃ v, r = .returned v ∧ ValsV (gh w') v l
theorem strsV_ofSl {h : GH} {v : Value} {l : List Bs} (s : SlV h v l.length 1 (fun j => [strV (l.getD j [])])) : StrsV h v l := by
  obtain ⟨a, cap, hv, h1, h2, h3, h4⟩ := s
  refine ⟨a, cap, hv, fun h => List.eq_nil_of_length_eq_zero (h1 h).1, h2, h3, fun j x hj => ?_⟩
  have hl := (List.getElem?_eq_some_iff.1 hj).1
  obtain ⟨b, off, ha, hc⟩ := h4 j 0 (strV x) hl (by show [strV (l.getD j [])][0]? = _; rw [List.getD_eq_getElem?_getD, hj]; rfl)
  exact ⟨b, off, ha, by rw [show off + j = off + (1 * j + 0) by omega]; exact hc⟩
def valCells (x : Val) : List Value := [.int .i64 x.k, .int .i64 x.n, strV x.s]
theorem valCells_len (x : Val) : (valCells x).length = 3 := rfl
theorem valsV_ofSl {h : GH} {v : Value} {l : List Val} (s : SlV h v l.length 3 (fun j => valCells (l.getD j vNil))) : ValsV h v l := by
  obtain ⟨a, cap, hv, h1, h2, h3, h4⟩ := s
  refine ⟨a, cap, hv, fun h => List.eq_nil_of_length_eq_zero (h1 h).1, h2, h3, fun j x hj => ?_⟩
  have hl := (List.getElem?_eq_some_iff.1 hj).1
  have hg : l.getD j vNil = x := by rw [List.getD_eq_getElem?_getD, hj]; rfl
  obtain ⟨b, off, ha, c0⟩ := h4 j 0 (.int .i64 x.k) hl (by show (valCells (l.getD j vNil))[0]? = _; rw [hg]; rfl)
  obtain ⟨b1, off1, ha1, c1⟩ := h4 j 1 (.int .i64 x.n) hl (by show (valCells (l.getD j vNil))[1]? = _; rw [hg]; rfl)
  obtain ⟨b2, off2, ha2, c2⟩ := h4 j 2 (strV x.s) hl (by show (valCells (l.getD j vNil))[2]? = _; rw [hg]; rfl)
  rw [ha] at ha1 ha2
  simp only [Option.some.injEq, Addr.mk.injEq, and_true] at ha1 ha2
  obtain ⟨rfl, rfl⟩ := ha1
  obtain ⟨rfl, rfl⟩ := ha2
  refine ⟨b, off, ha, ?_, ?_, ?_⟩
  · rw [show off + (3 * j + 0) = off + j * 3 by omega] at c0; exact c0
  · rw [show off + (3 * j + 1) = off + j * 3 + 1 by omega] at c1; exact c1
  · rw [show off + (3 * j + 2) = off + j * 3 + 2 by omega] at c2; exact c2
/-- Where a cell of a row stands. -/
theorem flat_at {α : Type} (g : α → List Value) (sz : Nat) (hs : 0 < sz) (hg : ∀ a, (g a).length = sz) : ∀ (l : List α) (j : Nat) (u : Value), (l.flatMap g)[j]? = some u → ∃ i c x, l[i]? = some x ∧ (g x)[c]? = some u ∧ j = i * sz + c := by
  intro l
  induction l with
  | nil => intro j u h; simp at h
  | cons x xs ih =>
    intro j u h
    rw [List.flatMap_cons] at h
    by_cases hj : j < sz
    · rw [List.getElem?_append_left (by rw [hg]; exact hj)] at h
      exact ⟨0, j, x, rfl, h, by omega⟩
    · rw [List.getElem?_append_right (by rw [hg]; omega), hg] at h
      obtain ⟨i, c, y, h1, h2, h3⟩ := ih _ u h
      exact ⟨i + 1, c, y, by simpa using h1, h2, by rw [Nat.succ_mul]; omega⟩
set_option maxRecDepth 1000000 in
set_option maxHeartbeats 4000000 in
theorem Ints_any (l : List Int) (v : Value) (w : World) (hT : IntsV (gh w) v l) (hl : l.length ≤ 50) : Calls Tryz.prog 25 #[v] w (copyIPost l w) := by
  obtain ⟨i0, hi, hz0, hz1, hz2⟩ := info_parts infoI
  obtain ⟨a, cap, hv, hn, hl2, hc⟩ := hT
  subst hv
  have hn2 : a = none → l.length = 0 ∧ cap = 0 := fun h => by rw [(hn h).1]; exact ⟨rfl, (hn h).2⟩
  have hnews : ∀ j u, (l.map (Value.int .i64))[j]? = some u → ∃ A, a = some A ∧ w.cell? (A.add j) = some u := by
    intro j u hj
    rw [List.getElem?_map] at hj
    obtain ⟨x, hx, rfl⟩ := Option.map_eq_some_iff.1 hj
    obtain ⟨b, off, ha, hcc⟩ := hc j x hx
    rw [gh_cell] at hcc
    exact ⟨_, ha, by rw [Go.WideShapes.add_plain]; exact hcc⟩
  have HN := Lib.hid hn2
  have HW := Lib.hid hnews
  obtain ⟨len, hlen⟩ : ∃ n, l.length = n := ⟨_, rfl⟩
  have HLEN := Lib.hid hlen
  rw [hlen] at HN hl ⊢
  clear hn hn2 hnews hc hl2 hlen
  go_enter Tryz.func25, Tryz.ntmps25
  go_wp2_with (at_builtin; refine wpList_append_src rfl _ _ 26 rfl 3 i0 _ 1 8 Tryz.underlying26 hi hz0 hz1 hz2 rfl (by decide) rfl (Row.nil T0 1 w 3 1) a len cap (l.map (Value.int .i64)) rfl HN.out ?cl HW.out ?c1 ?c2 ?c3 ?_)
  case cl => rw [List.length_map, HLEN.out, Nat.mul_one]
  case c1 => intro u hu; obtain ⟨x, _, rfl⟩ := List.mem_map.1 hu; rfl
  case c2 => unfold maxLen; omega
  case c3 => omega
  intro v' t' w' hr he
  have hb := he.toBelow (by decide)
  have ho := hr.own
  rw [← HLEN.out] at ho
  have HP : Hid (copyIPost l w (.returned v') w') := Lib.hid ⟨hb, v', rfl, IntsV.ofOwn ho (by have := HLEN.out; omega)⟩
  clear hr he hb ho
  go_wp2
  go_ret
  exact HP.out
set_option maxRecDepth 1000000 in
set_option maxHeartbeats 4000000 in
theorem Texts_any (l : List Bs) (v : Value) (w : World) (hT : StrsV (gh w) v l) (hnil : NilV v) (hl : l.length ≤ 50) : Calls Tryz.prog 24 #[v] w (copySPost l w) := by
  obtain ⟨i0, hi, hz0, hz1, hz2⟩ := info_parts infoS
  obtain ⟨a, cap, hv, hn, hl1, hl2, hc⟩ := hT
  subst hv
  have hn2 : a = none → l.length = 0 ∧ cap = 0 := fun h => by subst h; exact hnil _ _ rfl
  have hnews : ∀ j u, (l.flatMap fun s => [strV s])[j]? = some u → ∃ A, a = some A ∧ w.cell? (A.add j) = some u := by
    intro j u hj
    rw [← List.map_eq_flatMap, List.getElem?_map] at hj
    obtain ⟨x, hx, rfl⟩ := Option.map_eq_some_iff.1 hj
    obtain ⟨b, off, ha, hcc⟩ := hc j x hx
    rw [gh_cell] at hcc
    exact ⟨_, ha, by rw [Go.WideShapes.add_plain]; exact hcc⟩
  have HN := Lib.hid hn2
  have HW := Lib.hid hnews
  obtain ⟨len, hlen⟩ : ∃ n, l.length = n := ⟨_, rfl⟩
  have HLEN := Lib.hid hlen
  rw [hlen] at HN hl ⊢
  clear hn hn2 hnews hc hl1 hl2 hlen hnil
  go_enter Tryz.func24, Tryz.ntmps24
  go_wp2_with (at_builtin; refine wpList_append_src rfl _ _ 25 rfl 9 i0 _ 1 16 Tryz.underlying25 hi hz0 hz1 hz2 rfl (by decide) rfl (Row.nil T0 1 w 9 1) a len cap (l.flatMap fun s => [strV s]) rfl HN.out ?cl HW.out ?c1 ?c2 ?c3 ?_)
  case cl => rw [← List.map_eq_flatMap, List.length_map, HLEN.out, Nat.mul_one]
  case c1 => intro u hu; rw [← List.map_eq_flatMap] at hu; obtain ⟨x, _, rfl⟩ := List.mem_map.1 hu; rfl
  case c2 => unfold maxLen; omega
  case c3 => omega
  intro v' t' w' hr he
  have hb := he.toBelow (by decide)
  rw [← HLEN.out] at hr
  have hs := SlV.ofRow (fun s => [strV s]) l ([] : Bs) (by decide) (fun _ => rfl) hr
  have HP : Hid (copySPost l w (.returned v') w') := Lib.hid ⟨hb, v', rfl, strsV_ofSl hs⟩
  clear hr he hb hs
  go_wp2
  go_ret
  exact HP.out
set_option maxRecDepth 1000000 in
set_option maxHeartbeats 4000000 in
theorem Values_any (l : List Val) (v : Value) (w : World) (hT : ValsV (gh w) v l) (hnil : NilV v) (hl : l.length ≤ 50) : Calls Tryz.prog 37 #[v] w (copyVPost l w) := by
  obtain ⟨i0, hi, hz0, hz1, hz2⟩ := info_parts infoVl
  obtain ⟨a, cap, hv, hn, hl1, hl2, hc⟩ := hT
  subst hv
  have hn2 : a = none → l.length = 0 ∧ cap = 0 := fun h => by subst h; exact hnil _ _ rfl
  have hnews : ∀ j u, (l.flatMap valCells)[j]? = some u → ∃ A, a = some A ∧ w.cell? (A.add j) = some u := by
    intro j u hj
    obtain ⟨i, c, x, hx, hcx, rfl⟩ := flat_at valCells 3 (by decide) valCells_len l j u hj
    obtain ⟨b, off, ha, h0, h1, h2⟩ := hc i x hx
    rw [gh_cell] at h0 h1 h2
    refine ⟨_, ha, ?_⟩
    rw [Go.WideShapes.add_plain]
    match c, hcx with
    | 0, hcx => simp [valCells] at hcx; subst hcx; rw [show off + (i * 3 + 0) = off + i * 3 by omega]; exact h0
    | 1, hcx => simp [valCells] at hcx; subst hcx; rw [show off + (i * 3 + 1) = off + i * 3 + 1 by omega]; exact h1
    | 2, hcx => simp [valCells] at hcx; subst hcx; rw [show off + (i * 3 + 2) = off + i * 3 + 2 by omega]; exact h2
  have HN := Lib.hid hn2
  have HW := Lib.hid hnews
  obtain ⟨len, hlen⟩ : ∃ n, l.length = n := ⟨_, rfl⟩
  have HLEN := Lib.hid hlen
  rw [hlen] at HN hl ⊢
  clear hn hn2 hnews hc hl1 hl2 hlen hnil
  go_enter Tryz.func37, Tryz.ntmps37
  go_wp2_with (at_builtin; refine wpList_append_src rfl _ _ 44 rfl 47 i0 _ 3 32 Tryz.underlying44 hi hz0 hz1 hz2 rfl (by decide) rfl (Row.nil T0 1 w 47 3) a len cap (l.flatMap valCells) rfl HN.out ?cl HW.out ?c1 ?c2 ?c3 ?_)
  case cl => rw [flat_len valCells 3 valCells_len, HLEN.out]
  case c1 => intro u hu; obtain ⟨x, _, hx⟩ := List.mem_flatMap.1 hu; simp [valCells] at hx; rcases hx with rfl | rfl | rfl <;> rfl
  case c2 => unfold maxLen; omega
  case c3 => omega
  intro v' t' w' hr he
  have hb := he.toBelow (by decide)
  rw [← HLEN.out] at hr
  have hs := SlV.ofRow valCells l vNil (by decide) valCells_len hr
  have HP : Hid (copyVPost l w (.returned v') w') := Lib.hid ⟨hb, v', rfl, valsV_ofSl hs⟩
  clear hr he hb hs
  go_wp2
  go_ret
  exact HP.out
end Go.Proofs.YtdgcgogeidnmoaaGreatDoor
