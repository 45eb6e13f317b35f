/- In an order everybody stands behind all whom they need; the places in it. No condition. -/
import Derived.Test.YtpfhhikbaeknpaaGreatDoorGA
set_option linter.unusedSimpArgs false
set_option linter.unusedVariables false
set_option linter.unusedSectionVars false
namespace Pal.Graph
open Go Go.RowKit Pal
structure Ord (N : Nat) (xss : List (List Int)) (s : List Int × List Bool) : Prop where
  nodup : s.1.Nodup
  mem : ∀ x ∈ s.1, 0 ≤ x ∧ x < (N : Int) ∧ isDone s.2 x = true
  all : ∀ i, i < N → s.2.getD i false = true → (i : Int) ∈ s.1
  before : ∀ p i, s.1[p]? = some i → ∀ x ∈ lst N xss i.toNat, x ∈ s.1.take p
theorem ord_st (N : Nat) (xss : List (List Int)) (j : Nat) : Ord N xss (st N xss j) := by
  induction j with
  | zero =>
    refine ⟨List.nodup_nil, fun x hx => (by cases hx), fun i hi h => ?_, fun p i h => (by simp [st] at h)⟩
    simp [st, hi] at h
  | succ j ih =>
    show Ord N xss (step N xss (st N xss j))
    cases h : pick N xss (st N xss j).2 with
    | none => rw [step_none h]; exact ih
    | some k =>
      rw [step_some h]
      obtain ⟨h1, h2, _⟩ := pick_some h
      have hlen := st_len (n := (N : Int)) (xss := xss) j
      generalize st N xss j = s at ih h2 hlen
      simp only [may, Bool.and_eq_true, Bool.not_eq_true'] at h2
      obtain ⟨hk0, hfree⟩ := h2
      have hkN : k < N := by simpa using h1
      have hkl : k < s.2.length := by rw [hlen]; exact h1
      have hkn : (k : Int) ∉ s.1 := fun hm => by
        have := (ih.mem _ hm).2.2
        simp [isDone] at this
        simp [this] at hk0
      have hall : ∀ x ∈ lst N xss k, x ∈ s.1 := by
        intro x hx
        have hx0 := lst_mem hx
        simp only [freeB, List.all_eq_true] at hfree
        have hd := hfree x hx
        have := ih.all x.toNat (by omega) hd
        have e : ((x.toNat : Nat) : Int) = x := by omega
        rwa [e] at this
      refine ⟨?_, fun x hx => ?_, fun i hi hd => ?_, fun p i hp x hx => ?_⟩
      · rw [List.nodup_append]
        exact ⟨ih.nodup, by simp, fun a ha b hb => by simp at hb; subst hb; intro e; subst e; exact hkn ha⟩
      · rcases List.mem_append.1 hx with hx | hx
        · obtain ⟨a, b, c⟩ := ih.mem x hx
          exact ⟨a, b, by rw [isDone_set hkl a, c]; simp⟩
        · simp at hx; subst hx
          exact ⟨by omega, by omega, by rw [isDone_set hkl (by omega)]; simp⟩
      · by_cases e : i = k
        · subst e; simp
        · have e2 : k ≠ i := fun h => e h.symm
          simp only [List.getD_eq_getElem?_getD, List.getElem?_set_ne e2] at hd
          exact List.mem_append.2 (.inl (ih.all i hi (by simpa using hd)))
      · by_cases hpl : p < s.1.length
        · rw [List.getElem?_append_left hpl] at hp
          have := ih.before p i hp x hx
          rw [List.take_append_of_le_length (by omega)]; exact this
        · have hpe := (List.getElem?_eq_some_iff.1 hp).1
          simp at hpe
          have : p = s.1.length := by omega
          subst this
          simp at hp
          subst hp
          rw [List.take_left]
          exact hall x (by simpa using hx)
theorem st_none (N : Nat) (xss : List (List Int)) : pick N xss (st N xss N).2 = none := by
  have key : ∀ j, (st N xss j).1.length = j ∨ pick N xss (st N xss j).2 = none := by
    intro j
    induction j with
    | zero => exact .inl rfl
    | succ j ih =>
      cases h : pick N xss (st N xss j).2 with
      | none =>
        right
        have : st N xss (j + 1) = st N xss j := step_none h
        rw [this]; exact h
      | some i =>
        rcases ih with ih | ih
        · left; rw [st_length_succ h, ih]
        · rw [ih] at h; cases h
  rcases key N with h | h
  · exact st_fix h (by simp)
  · exact h
theorem st_full {N : Nat} {xss : List (List Int)} (h : ¬ (st N xss N).1.length < N) : ∀ i, i < N → (st N xss N).2.getD i false = true := by
  have hl := st_len (n := (N : Int)) (xss := xss) N
  have hc := st_count (n := (N : Int)) (xss := xss) N
  simp only [Int.toNat_natCast] at hl
  have hall : (st N xss N).2.count true = (st N xss N).2.length := by
    have := List.count_le_length (a := true) (l := (st N xss N).2)
    omega
  intro i hi
  have := List.count_eq_length.1 hall (st N xss N).2[i] (List.getElem_mem (by omega))
  simp [List.getElem?_eq_getElem (show i < (st N xss N).2.length by omega), ← this]
theorem left_nil_iff {N : Nat} {xss : List (List Int)} : left (st N xss N).2 N = [] ↔ ¬ (st N xss N).1.length < N := by
  constructor
  · intro h hlt
    have hl := st_len (n := (N : Int)) (xss := xss) N
    have hc := st_count (n := (N : Int)) (xss := xss) N
    simp only [Int.toNat_natCast] at hl
    have hall : ∀ b ∈ (st N xss N).2, true = b := by
      intro b hb
      obtain ⟨i, hi, rfl⟩ := List.mem_iff_getElem.1 hb
      simp only [left, List.map_eq_nil_iff, List.filter_eq_nil_iff, List.mem_range] at h
      have := h i (by omega)
      simp [hi] at this
      exact this.symm
    have := List.count_eq_length.2 hall
    omega
  · intro h
    have hf := st_full h
    simp only [left, List.map_eq_nil_iff, List.filter_eq_nil_iff, List.mem_range]
    intro i hi
    simp [show (st N xss N).2[i]?.getD false = true by simpa using hf i hi]
/-- Who is left needs somebody who is; who was told needs nobody who is. -/
theorem left_held (N : Nat) (xss : List (List Int)) {i : Nat} (hi : i < N) : (lst N xss i).any (fun x => !isDone (st N xss N).2 x) = !((st N xss N).2.getD i false) := by
  have hn := (pick_none_iff.1 (st_none N xss)) i (by simpa using hi)
  cases hd : (st N xss N).2.getD i false with
  | false =>
    simp only [may, hd, Bool.not_false, Bool.true_and] at hn
    simp only [freeB, List.all_eq_false] at hn
    obtain ⟨x, hx, hxd⟩ := hn
    rw [Bool.not_false, List.any_eq_true]
    exact ⟨x, hx, by simpa using hxd⟩
  | true =>
    rw [Bool.not_true, List.any_eq_false]
    intro x hx
    have O := ord_st N xss N
    obtain ⟨p, hp⟩ := List.getElem?_of_mem (O.all i hi hd)
    have := O.before p _ hp x (by simpa using hx)
    have := (O.mem x (List.mem_of_mem_take this)).2.2
    simp [this]

theorem idx_mem {l1 l2 : List Int} {a : Int} (h : a ∈ l1) : (l1 ++ l2).idxOf a = l1.idxOf a := by rw [List.idxOf_append, if_pos h]
theorem idx_not {l1 l2 : List Int} {a : Int} (h : a ∉ l1) : (l1 ++ l2).idxOf a = l2.idxOf a + l1.length := by rw [List.idxOf_append, if_neg h]
/-- Where somebody stands among the first k, from 1 on. -/
def posf (L : List Int) (k : Nat) (i : Nat) : Int := if (i : Int) ∈ L.take k then ((L.take k).idxOf (i : Int) : Int) + 1 else 0
theorem posf_zero (L : List Int) (i : Nat) : posf L 0 i = 0 := by simp [posf]
theorem posf_succ {L : List Int} (hn : L.Nodup) {k : Nat} {x : Int} (hx : L[k]? = some x) (h0 : 0 ≤ x) (i : Nat) : posf L (k + 1) i = if i = x.toNat then (k : Int) + 1 else posf L k i := by
  have hkl : k < L.length := (List.getElem?_eq_some_iff.1 hx).1
  have htk : L.take (k + 1) = L.take k ++ [x] := by rw [List.take_add_one, hx]; rfl
  have hnx : x ∉ L.take k := by
    have h1 : (L.take (k + 1)).Nodup := hn.sublist (List.take_sublist _ _)
    rw [htk, List.nodup_append] at h1
    intro hm
    exact h1.2.2 x hm x (by simp) rfl
  unfold posf
  rw [htk]
  by_cases e : i = x.toNat
  · have ex : (i : Int) = x := by omega
    rw [if_pos e, ex, if_pos (by simp), idx_not hnx]
    simp; omega
  · have ex : ¬ (i : Int) = x := by omega
    rw [if_neg e]
    by_cases hm : (i : Int) ∈ L.take k
    · rw [if_pos (by simp [hm]), if_pos hm, idx_mem hm]
    · rw [if_neg (by simp [hm, ex]), if_neg hm]
theorem posf_new {L : List Int} (hn : L.Nodup) {k : Nat} {x : Int} (hx : L[k]? = some x) (h0 : 0 ≤ x) : posf L k x.toNat = 0 := by
  have htk : L.take (k + 1) = L.take k ++ [x] := by rw [List.take_add_one, hx]; rfl
  have hnx : x ∉ L.take k := by
    have h1 : (L.take (k + 1)).Nodup := hn.sublist (List.take_sublist _ _)
    rw [htk, List.nodup_append] at h1
    intro hm
    exact h1.2.2 x hm x (by simp) rfl
  unfold posf
  have : ((x.toNat : Nat) : Int) = x := by omega
  rw [this, if_neg hnx]
theorem posf_bound (L : List Int) (k i : Nat) : 0 ≤ posf L k i ∧ posf L k i ≤ L.length + 1 := by
  unfold posf
  split
  · rename_i h
    have := List.idxOf_lt_length_of_mem h
    have := List.length_take_le k L
    have := List.length_take_le' k L
    omega
  · omega
theorem posf_before {N : Nat} {xss : List (List Int)} {L : List Int} {d : List Bool} (h : Ord N xss (L, d)) {i : Nat} (hi : (i : Int) ∈ L) {x : Int} (hx : x ∈ lst N xss i) : posf L L.length x.toNat < posf L L.length i := by
  have hp : L[L.idxOf (i : Int)]? = some (i : Int) := by
    have := List.idxOf_lt_length_of_mem hi
    rw [List.getElem?_eq_getElem this]; simp
  have hb : x ∈ L.take (L.idxOf (i : Int)) := h.before _ _ hp x (by simpa using hx)
  have hx0 := lst_mem hx
  have hxL : x ∈ L := List.mem_of_mem_take hb
  have e : ((x.toNat : Nat) : Int) = x := by omega
  unfold posf
  rw [List.take_length, e, if_pos hxL, if_pos hi]
  have : L.idxOf x < L.idxOf (i : Int) := by
    have h1 := idx_mem (l2 := L.drop (L.idxOf (i : Int))) hb
    rw [List.take_append_drop] at h1
    have h2 := List.idxOf_lt_length_of_mem hb
    have h3 := List.length_take_le (L.idxOf (i : Int)) L
    omega
  omega
end Pal.Graph
