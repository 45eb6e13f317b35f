/- In an order everybody stands behind all whom they need; the places in it. No condition. A form's order: each formula stands behind all that it needs; a field more at its end turns nothing of those ahead. No condition. -/
import Derived.Test.YtpfhhikbaeknpaaGreatDoorGA
import Derived.Test.YtpfhhikbaeknpaaGreatDoorSA
import Derived.Test.YtpfhhikbaeknpaaGreatDoorNP
set_option linter.unusedSectionVars false
set_option linter.unusedSimpArgs false
set_option linter.unusedVariables false
namespace Pal.Graph
open Go Go.RowKit Pal
structure Ord (N : Nat) (xss : List (List Int)) (s : List Int × List Bool) : Prop where
  nodup : s.1.Nodup
  mem : ∀ x ∈ s.1,0 ≤ x ∧ x < (N : Int) ∧ isDone s.2 x = true
  all : ∀ i,i < N → s.2.getD i false = true → (i : Int) ∈ s.1
  before : ∀ p i,s.1[p]? = some i → ∀ x ∈ lst N xss i.toNat,x ∈ s.1.take p
theorem ord_st (N : Nat) (xss : List (List Int)) (j : Nat) : Ord N xss (st N xss j) := by
  induction j with
  | zero =>
    refine ⟨List.nodup_nil,fun x hx => (by cases hx),fun i hi h => ?_,fun p i h => (by simp [st] at h)⟩
    simp [st,hi] at h
  | succ j ih =>
    show Ord N xss (step N xss (st N xss j))
    cases h : pick N xss (st N xss j).2 with
    | none => rw [step_none h]; exact ih
    | some k =>
      rw [step_some h]
      obtain ⟨h1,h2,_⟩ := pick_some h
      have hlen := st_len (n := (N : Int)) (xss := xss) j
      generalize st N xss j = s at ih h2 hlen
      simp only [may,Bool.and_eq_true,Bool.not_eq_true'] at h2
      obtain ⟨hk0,hfree⟩ := h2
      have hkN : k < N := by simpa using h1
      have hkl : k < s.2.length := by rw [hlen]; exact h1
      have hkn : (k : Int) ∉ s.1 := fun hm => by
        have := (ih.mem _ hm).2.2
        simp [isDone] at this
        simp [this] at hk0
      have hall : ∀ x ∈ lst N xss k,x ∈ s.1 := by
        intro x hx
        have hx0 := lst_mem hx
        simp only [freeB,List.all_eq_true] at hfree
        have hd := hfree x hx
        have := ih.all x.toNat (by omega) hd
        have e : ((x.toNat : Nat) : Int) = x := by omega
        rwa [e] at this
      refine ⟨?_,fun x hx => ?_,fun i hi hd => ?_,fun p i hp x hx => ?_⟩
      · rw [List.nodup_append]
        exact ⟨ih.nodup,by simp,fun a ha b hb => by simp at hb; subst hb; intro e; subst e; exact hkn ha⟩
      · rcases List.mem_append.1 hx with hx | hx
        · obtain ⟨a,b,c⟩ := ih.mem x hx
          exact ⟨a,b,by rw [isDone_set hkl a,c]; simp⟩
        · simp at hx; subst hx
          exact ⟨by omega,by omega,by rw [isDone_set hkl (by omega)]; simp⟩
      · by_cases e : i = k
        · subst e; simp
        · have e2 : k ≠ i := fun h => e h.symm
          simp only [List.getD_eq_getElem?_getD,List.getElem?_set_ne e2] at hd
          exact List.mem_append.2 (.inl (ih.all i hi (by simpa using hd)))
      · by_cases hpl : p < s.1.length
        · rw [List.getElem?_append_left hpl] at hp
          have := ih.before p i hp x hx
          rw [List.take_append_of_le_length (by omega)]; exact this
        · have hpe := (List.getElem?_eq_some_iff.1 hp).1
          simp at hpe
          have : p = s.1.length := by omega
          subst this
          simp at hp
          subst hp
          rw [List.take_left]
          exact hall x (by simpa using hx)
theorem st_none (N : Nat) (xss : List (List Int)) : pick N xss (st N xss N).2 = none := by
  have key : ∀ j,(st N xss j).1.length = j ∨ pick N xss (st N xss j).2 = none := by
    intro j
    induction j with
    | zero => exact .inl rfl
    | succ j ih =>
      cases h : pick N xss (st N xss j).2 with
      | none =>
        right
        have : st N xss (j + 1) = st N xss j := step_none h
        rw [this]; exact h
      | some i =>
        rcases ih with ih | ih
        · left; rw [st_length_succ h,ih]
        · rw [ih] at h; cases h
  rcases key N with h | h
  · exact st_fix h (by simp)
  · exact h
theorem st_full {N : Nat} {xss : List (List Int)} (h : ¬ (st N xss N).1.length < N) : ∀ i,i < N → (st N xss N).2.getD i false = true := by
  have hl := st_len (n := (N : Int)) (xss := xss) N
  have hc := st_count (n := (N : Int)) (xss := xss) N
  simp only [Int.toNat_natCast] at hl
  have hall : (st N xss N).2.count true = (st N xss N).2.length := by
    have := List.count_le_length (a := true) (l := (st N xss N).2)
    omega
  intro i hi
  have := List.count_eq_length.1 hall (st N xss N).2[i] (List.getElem_mem (by omega))
  simp [List.getElem?_eq_getElem (show i < (st N xss N).2.length by omega),← this]
theorem idx_mem {l1 l2 : List Int} {a : Int} (h : a ∈ l1) : (l1 ++ l2).idxOf a = l1.idxOf a := by rw [List.idxOf_append,if_pos h]
theorem idx_not {l1 l2 : List Int} {a : Int} (h : a ∉ l1) : (l1 ++ l2).idxOf a = l2.idxOf a + l1.length := by rw [List.idxOf_append,if_neg h]
/-- Where somebody stands among the first k, from 1 on. -/
def posf (L : List Int) (k : Nat) (i : Nat) : Int := if (i : Int) ∈ L.take k then ((L.take k).idxOf (i : Int) : Int) + 1 else 0
end Pal.Graph
namespace Go.Proofs.YtpfhhikbaeknpaaGreatDoor
open Go.RowKit Pal

theorem newM_ok {l : List Fd} {F : Form} (h : newM l = .ok F) : ¬ (l.length < 1 ∨ 24 < l.length) ∧ namesOk [] 0 l = none ∧ readAll (Fd.names l) (Fd.types l) 0 l = .ok F.es ∧ F.l = l ∧ F.needs = F.es.map (needM (Fd.names l)) ∧ (Graph.orderS l.length F.needs).2 = true ∧ F.order = (Graph.orderS l.length F.needs).1.filter (hasF F.es) := by
  unfold newM at h
  by_cases h0 : l.length < 1 ∨ 24 < l.length
  · rw [if_pos h0] at h; cases h
  · rw [if_neg h0] at h
    cases h1 : namesOk [] 0 l with
    | some x => rw [h1] at h; cases h
    | none =>
      rw [h1] at h
      cases h2 : readAll (Fd.names l) (Fd.types l) 0 l with
      | error x => rw [h2] at h; cases h
      | ok es =>
        rw [h2] at h
        simp only at h
        by_cases h3 : (Graph.orderS l.length (es.map (needM (Fd.names l)))).2 = true
        · rw [if_pos h3] at h
          cases h
          exact ⟨h0,rfl,rfl,rfl,rfl,h3,rfl⟩
        · rw [if_neg h3] at h; cases h
theorem newM_len {l : List Fd} {F : Form} (h : newM l = .ok F) : F.es.length = l.length ∧ F.needs.length = l.length := by
  obtain ⟨_,_,h2,_,h4,_,_⟩ := newM_ok h
  have := readAll_len l 0 F.es h2
  exact ⟨this,by rw [h4,List.length_map,this]⟩

theorem orderS_ok {n : Nat} {xss : List (List Int)} (hn : n ≤ 4096) (h : (Graph.orderS n xss).2 = true) : (Graph.orderS n xss).1 = (Graph.st n xss n).1 ∧ ¬ (Graph.st n xss n).1.length < n := by
  have hc : (0 : Int) ≤ n ∧ (n : Int) ≤ 4096 := by omega
  unfold Graph.orderS at h ⊢
  rw [if_pos hc] at h ⊢
  have e : (n : Int).toNat = n := by simp
  rw [e] at h ⊢
  by_cases hl : (Graph.st n xss n).1.length < n
  · rw [if_pos hl] at h; cases h
  · rw [if_neg hl]; exact ⟨rfl,hl⟩

theorem idx_filter {L : List Int} (hn : L.Nodup) (p : Int → Bool) {q : Nat} {i x : Int} (hi : L[q]? = some i) (hpi : p i = true) (hx : x ∈ L.take q) (hpx : p x = true) : (L.filter p).idxOf x < (L.filter p).idxOf i := by
  have hq : q < L.length := (List.getElem?_eq_some_iff.1 hi).1
  have e : L = L.take q ++ (i :: L.drop (q + 1)) := by
    have h1 := List.take_append_drop q L
    rw [List.drop_eq_getElem_cons hq,(List.getElem?_eq_some_iff.1 hi).2] at h1
    exact h1.symm
  have hi' : i ∉ L.take q := by
    intro hm
    rw [e] at hn
    rw [List.nodup_append] at hn
    exact hn.2.2 i hm i List.mem_cons_self rfl
  have e2 : L.filter p = (L.take q).filter p ++ (i :: (L.drop (q + 1)).filter p) := by
    conv => lhs; rw [e]
    rw [List.filter_append,List.filter_cons,if_pos hpi]
  rw [e2,Graph.idx_mem (List.mem_filter.2 ⟨hx,hpx⟩),Graph.idx_not (fun hm => hi' (List.mem_filter.1 hm).1)]
  have := List.idxOf_lt_length_of_mem (List.mem_filter.2 ⟨hx,hpx⟩ : x ∈ (L.take q).filter p)
  omega

theorem needM_none {ns : List Bs} {x : X3} (h : x.1 = none) : needM ns x = [] := by unfold needM; rw [h]
theorem mem_needM {ns : List Bs} {x : X3} {d : Int} (h : d ∈ needM ns x) : 0 ≤ d ∧ d < ns.length := by
  unfold needM at h
  cases hx : x.1 with
  | none => rw [hx] at h; cases h
  | some e =>
    rw [hx] at h
    obtain ⟨j,rfl,hj,_⟩ := mem_posM.1 h
    omega

/-- What the order of a form says. -/
structure Ahead (N : Nat) (es : List X3) (needs : List (List Int)) (o : List Int) : Prop where
  nodup : o.Nodup
  mem : ∀ x ∈ o,0 ≤ x ∧ x < (N : Int) ∧ hasF es x = true
  all : ∀ i : Nat,i < N → hasF es i = true → (i : Int) ∈ o
  needs : ∀ (i : Nat) (d : Int),i < N → d ∈ (needs[i]?).getD [] → 0 ≤ d ∧ d < (N : Int) ∧ Graph.posf o o.length d.toNat < Graph.posf o o.length i

theorem posf_all (o : List Int) (i : Nat) : Graph.posf o o.length i = if (i : Int) ∈ o then (o.idxOf (i : Int) : Int) + 1 else 0 := by
  unfold Graph.posf; rw [List.take_length]

theorem newM_ahead {l : List Fd} {F : Form} (h : newM l = .ok F) : Ahead l.length F.es F.needs F.order := by
  obtain ⟨h0,h1,h2,h3,h4,h5,h6⟩ := newM_ok h
  obtain ⟨hl1,hl2⟩ := newM_len h
  obtain ⟨g1,g2⟩ := orderS_ok (by omega) h5
  have O := Graph.ord_st l.length F.needs l.length
  have full := Graph.st_full g2
  rw [g1] at h6
  have hmem : ∀ x ∈ F.order,0 ≤ x ∧ x < (l.length : Int) ∧ hasF F.es x = true := by
    intro x hx
    rw [h6] at hx
    obtain ⟨a,b⟩ := List.mem_filter.1 hx
    exact ⟨(O.mem x a).1,(O.mem x a).2.1,b⟩
  have hall : ∀ i : Nat,i < l.length → hasF F.es i = true → (i : Int) ∈ F.order := by
    intro i hi hf
    rw [h6]
    exact List.mem_filter.2 ⟨O.all i hi (full i hi),hf⟩
  refine ⟨by rw [h6]; exact O.nodup.filter _,hmem,hall,?_⟩
  intro i d hi hd
  have hei : i < F.es.length := by omega
  have hgi : F.needs[i]? = some (needM (Fd.names l) F.es[i]) := by rw [h4,List.getElem?_map,List.getElem?_eq_getElem hei]; rfl
  rw [hgi] at hd
  simp only [Option.getD_some] at hd
  have hb := mem_needM hd
  have hbl : d < (l.length : Int) := by have := hb.2; simpa [Fd.names] using this
  refine ⟨hb.1,hbl,?_⟩
  have hfi : hasF F.es i = true := by
    unfold hasF
    rw [Int.toNat_natCast,getD_in hei]
    cases hx : (F.es[i]).1 with
    | none => rw [needM_none hx] at hd; cases hd
    | some e => rfl
  have hio := hall i hi hfi
  rw [posf_all,posf_all,if_pos hio]
  have hdt : ((d.toNat : Nat) : Int) = d := by omega
  rw [hdt]
  by_cases hdo : d ∈ F.order
  · rw [if_pos hdo]
    obtain ⟨q,hq⟩ := List.mem_iff_getElem?.1 (O.all i hi (full i hi))
    have hlst : d ∈ Graph.lst l.length F.needs (i : Int).toNat := by
      unfold Graph.lst
      rw [Int.toNat_natCast,hgi]
      exact List.mem_filter.2 ⟨hd,by simp; omega⟩
    have hbf := O.before q i hq d hlst
    have := idx_filter O.nodup (hasF F.es) hq hfi hbf (hmem d hdo).2.2
    rw [← h6] at this
    omega
  · rw [if_neg hdo]; omega
end Go.Proofs.YtpfhhikbaeknpaaGreatDoor
