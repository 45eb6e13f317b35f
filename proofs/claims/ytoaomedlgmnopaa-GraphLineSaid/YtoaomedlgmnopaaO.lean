/- How arguments that were read as data come to the walks: slices of ints, slices of slices of ints. -/
import Derived.Test.YtoaomedlgmnopaaBase
import Derived.ProofKit
import Derived.OpenShut
import Derived.ShutString
import Derived.ChangeOld
import Derived.SizedLaws
import Derived.Deep.Matrix
namespace Pal
open Go Go.RowKit Go.ChangeShapes Go.WideShapes Go.ChangeAt Go.Deep

theorem wf_i64 {x : Int} (h : (Lit.int .i64 x).wf = true) : -9223372036854775808 ≤ x ∧ x ≤ 9223372036854775807 := by
  simpa [Lit.wf, IntKind.min, IntKind.max, IntKind.signed, IntKind.bits] using h
theorem spot_add {w : World} {a : Addr} {j : Nat} {v : Value} (h : w.cell? (a.add j) = some v) (h0 : j ≠ 0 ∨ a.spot = none) : w.cell? ⟨a.block, a.off + j, none⟩ = some v := by
  unfold Addr.add at h
  split at h
  · rename_i hj
    subst hj
    obtain ⟨b, o, s⟩ := a
    rcases h0 with h0 | h0
    · exact absurd rfl h0
    · simp at h0; subst h0; exact h
  · exact h
theorem spot_none {w : World} {a : Addr} {v : Value} (h : w.cell? (a.add 0) = some v) : a.spot = none := by
  have := World.cell?_spot h
  simpa [Addr.add] using this
theorem cells_addr {w : World} {a : Addr} {n : Nat} {f : Nat → Value} (h : ∀ i, i < n → w.cell? (a.add i) = some (f i)) : ∀ i, i < n → a = ⟨a.block, a.off, none⟩ ∧ w.cell? ⟨a.block, a.off + i, none⟩ = some (f i) := by
  intro i hi
  have hs : a.spot = none := spot_none (h 0 (by omega))
  refine ⟨by obtain ⟨b, o, s⟩ := a; simp at hs; subst hs; rfl, spot_add (h i hi) (.inr hs)⟩

section
variable {H : Type} {enc : TypeId × Value → H} {P : Program} {W : World}

theorem weights_slice {P : Program} {t e : TypeId} {elems spare : List (DataW H)} (hu : P.underlying t = some (.slice e)) (hr : ∀ n ∈ (DataW.slice elems spare).weights P t, n ≤ reachBytes) :
    (elems.length + spare.length) * P.bytesOf e ≤ reachBytes ∧ (∀ d ∈ elems ++ spare, ∀ n ∈ d.weights P e, n ≤ reachBytes) := by
  simp only [DataW.weights, hu, List.mem_cons, List.mem_append] at hr
  refine ⟨hr _ (.inl rfl), fun d hd n hn => hr n (.inr ?_)⟩
  have key : ∀ l : List (DataW H), d ∈ l → n ∈ DataW.weightsAll P e l := by
    intro l
    induction l with
    | nil => intro h; cases h
    | cons a l ih =>
      intro h
      simp only [DataW.weightsAll, List.mem_append]
      rcases List.mem_cons.1 h with rfl | h
      · exact .inl hn
      · exact .inr (ih h)
  rcases List.mem_append.1 hd with h | h
  · exact .inl (key _ h)
  · exact .inr (key _ h)

theorem intsV_open {t e : TypeId} {fuel : Nat} {a : Option Addr} {len cap : Nat} {d : DataW H} {ps : List MemPlace} (ht : P.underlying t = some (.slice e)) (he : P.underlying e = some (.int .i64)) (ce : P.cellsOf e = 1) (hb : P.bytesOf e = 8)
    (h : DataW.trod enc P W 0 (fun _ => true) true fuel t [.slice a len cap] = some (d, ps)) (hr : ∀ n ∈ d.weights P t, n ≤ reachBytes) :
    ∃ xs : List Int, IntsV (gh W) (.slice a len cap) xs ∧ (∀ x ∈ xs, (Lit.int .i64 x).wf = true) := by
  rcases open_ints ht he ce h with ⟨hcs, _⟩ | ⟨a', len', cap', zs, hcs, _, hl, hm, hz, hx, hcell, hwz⟩
  · simp only [List.cons.injEq, Value.slice.injEq, and_true] at hcs
    obtain ⟨rfl, rfl, rfl⟩ := hcs
    exact ⟨[], ⟨none, 0, rfl, fun _ => ⟨rfl, rfl⟩, by simp, fun j x hj => by simp at hj⟩, by simp⟩
  · simp only [List.cons.injEq, Value.slice.injEq, and_true] at hcs
    obtain ⟨rfl, rfl, rfl⟩ := hcs
    simp only [if_true] at hz
    simp only [Prod.mk.injEq] at hx
    obtain ⟨rfl, _⟩ := hx
    have hlen : (zs.take len).length = len := by rw [List.length_take]; omega
    have hw := (weights_slice ht hr).1
    rw [hb] at hw
    simp only [reachBytes] at hw
    refine ⟨zs.take len, ⟨some a', cap, by rw [hlen], fun h => (by cases h), ?_, fun j x hj => ?_⟩, fun x hx => hwz x (List.mem_of_mem_take hx)⟩
    · rw [hlen]
      have : (lits (H := H) IntKind.i64 (zs.take len)).length = len := by simp [lits]; omega
      omega
    · have hjl := (List.getElem?_eq_some_iff.1 hj).1
      rw [hlen] at hjl
      obtain ⟨ha, hc⟩ := cells_addr (f := fun i => .int .i64 (zs.getD i 0)) hcell j (by omega)
      refine ⟨a'.block, a'.off, by rw [← ha], ?_⟩
      rw [gh_cell, hc]
      rw [List.getElem?_take, if_pos hjl] at hj
      simp [hj]

theorem rowsV_open {t e q : TypeId} {fuel : Nat} {a : Option Addr} {len cap : Nat} {d : DataW H} {ps : List MemPlace} (ht : P.underlying t = some (.slice e)) (he : P.underlying e = some (.slice q)) (hq : P.underlying q = some (.int .i64))
    (ce : P.cellsOf e = 1) (cq : P.cellsOf q = 1) (hb : P.bytesOf e = 24) (hbq : P.bytesOf q = 8)
    (h : DataW.trod enc P W 0 (fun _ => true) true fuel t [.slice a len cap] = some (d, ps)) (hr : ∀ n ∈ d.weights P t, n ≤ reachBytes) :
    ∃ xss : List (List Int), RowsV (gh W) (.slice a len cap) xss := by
  rcases open_int_rows ht he hq ce cq h with ⟨hcs, _⟩ | ⟨a', len', cap', A, L, C, Z, hcs, _, hl, hm, hx, hrows⟩
  · simp only [List.cons.injEq, Value.slice.injEq, and_true] at hcs
    obtain ⟨rfl, rfl, rfl⟩ := hcs
    exact ⟨[], none, 0, rfl, fun _ => ⟨rfl, rfl⟩, by simp, fun j x hj => by simp at hj⟩
  · simp only [List.cons.injEq, Value.slice.injEq, and_true] at hcs
    obtain ⟨rfl, rfl, rfl⟩ := hcs
    simp only [Prod.mk.injEq] at hx
    obtain ⟨rfl, _⟩ := hx
    obtain ⟨hw1, hw2⟩ := weights_slice ht hr
    rw [hb] at hw1
    simp only [reachBytes, List.length_map, List.length_range] at hw1
    refine ⟨(List.range len).map fun r => (Z r).take (L r), some a', cap, by simp, fun h => (by cases h), by simp; omega, fun j x hj => ?_⟩
    simp only [List.getElem?_map, Option.map_eq_some_iff] at hj
    obtain ⟨r, hr2, rfl⟩ := hj
    have hjl : j < len := by have := (List.getElem?_eq_some_iff.1 hr2).1; simpa using this
    rw [List.getElem?_range hjl] at hr2
    cases hr2
    obtain ⟨hc, r1, r2, r3, r4, r5, r6⟩ := hrows j (by omega)
    have hcells : ∀ i, i < len → W.cell? (a'.add i) = some (.slice (A i) (L i) (C i)) := fun i hi => (hrows i (by omega)).1
    obtain ⟨ha, hcj⟩ := cells_addr (f := fun i => .slice (A i) (L i) (C i)) hcells j hjl
    have hlen : ((Z j).take (L j)).length = L j := by rw [List.length_take]; omega
    refine ⟨a'.block, a'.off, _, by rw [← ha], by rw [gh_cell]; exact hcj, A j, C j, by rw [hlen], fun hn => ?_, ?_, fun i x hi => ?_⟩
    · have := r5 hn
      exact ⟨List.eq_nil_of_length_eq_zero (by rw [hlen]; omega), this⟩
    · rw [hlen]
      cases hA : A j with
      | none => have := r5 hA; omega
      | some b =>
        have hmem : intRow (H := H) .i64 (A j) (L j) (Z j) ∈ ((List.range len).map fun r => intRow (H := H) .i64 (A r) (L r) (Z r)) ++ ((List.range (cap - len)).map fun j => intRow (H := H) .i64 (A (len + j)) (L (len + j)) (Z (len + j))) :=
          List.mem_append.2 (.inl (List.mem_map.2 ⟨j, List.mem_range.2 hjl, rfl⟩))
        have h3 := hw2 _ hmem
        rw [hA] at h3
        have h4 := (weights_slice (elems := lits (H := H) .i64 ((Z j).take (L j))) (spare := lits (H := H) .i64 ((Z j).drop (L j))) he h3).1
        rw [hbq] at h4
        simp only [lits, List.length_map, reachBytes] at h4
        rw [hlen] at h4
        omega
    · have hil := (List.getElem?_eq_some_iff.1 hi).1
      rw [hlen] at hil
      cases hA : A j with
      | none => have := r5 hA; omega
      | some b =>
        obtain ⟨_, hcc⟩ := r6 b hA
        obtain ⟨hb1, hb2⟩ := cells_addr (f := fun i => .int .i64 ((Z j).getD i 0)) hcc i (by omega)
        refine ⟨b.block, b.off, by rw [← hb1], ?_⟩
        rw [gh_cell, hb2]
        rw [List.getElem?_take, if_pos hil] at hi
        simp [hi]
end
end Pal
