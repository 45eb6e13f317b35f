/- The plain law of reaching from two lists, and from what was reached. No program. -/
import Derived.Test.YtoaomedlgmnopaaM3
namespace Pal.Graph

theorem rch_append {n : Int} {xss : List (List Int)} {a b : List Int} (i : Nat) : Rch n xss (a ++ b) i ↔ Rch n xss a i ∨ Rch n xss b i := by
  constructor
  · intro h
    refine h (fun i => Rch n xss a i ∨ Rch n xss b i) ⟨fun x hx h0 h1 => ?_, fun i hi x hx hr => ?_⟩
    · rcases List.mem_append.1 hx with hx | hx
      · exact .inl ((rch_closed n xss a).1 x hx h0 h1)
      · exact .inr ((rch_closed n xss b).1 x hx h0 h1)
    · rcases hr with hr | hr
      · exact .inl ((rch_closed n xss a).2 i hi x hx hr)
      · exact .inr ((rch_closed n xss b).2 i hi x hx hr)
  · rintro (h | h) S hS
    · exact h S ⟨fun x hx => hS.1 x (List.mem_append.2 (.inl hx)), hS.2⟩
    · exact h S ⟨fun x hx => hS.1 x (List.mem_append.2 (.inr hx)), hS.2⟩
theorem mem_picked {ins : List Bool} {N : Nat} {x : Int} : x ∈ picked ins N ↔ 0 ≤ x ∧ x < N ∧ got ins x.toNat = true := by
  simp only [picked, List.mem_map, List.mem_filter, List.mem_range]
  constructor
  · rintro ⟨i, ⟨h1, h2⟩, rfl⟩
    exact ⟨by simp, by simpa using h1, by simpa using h2⟩
  · rintro ⟨h0, h1, h2⟩
    exact ⟨x.toNat, ⟨by omega, h2⟩, Int.toNat_of_nonneg h0⟩
theorem insOk_self {N : Nat} {xss : List (List Int)} {fr : List Int} {a b : List Bool} (ha : InsOk N xss fr a) (hb : InsOk N xss (picked a N) b) : b = a := by
  refine insOk_unique hb ⟨ha.len, fun i hi => ⟨fun h => ?_, fun h => ?_⟩⟩
  · have : ((i : Nat) : Int) ∈ picked a N := mem_picked.2 ⟨by omega, by simpa using hi, by simpa using h⟩
    have := (rch_closed (N : Int) xss (picked a N)).1 i this (by omega) (by simpa using hi)
    simpa using this
  · refine h (fun i => got a i = true) ⟨fun x hx _ _ => (mem_picked.1 hx).2.2, fun i hi x hx hg => ?_⟩
    have hx0 := lst_mem hx
    exact (ha.iff i hi).2 ((rch_closed (N : Int) xss fr).2 i hi x hx ((ha.iff x.toNat (by omega)).1 hg))
theorem insOk_both {N : Nat} {xss : List (List Int)} {fa fb : List Int} {a b c d : List Bool} (ha : InsOk N xss fa a) (hb : InsOk N xss fb b) (hc : InsOk N xss (fa ++ fb) c) (hd : d.length = N) (h : ∀ i, i < N → (got d i = true ↔ (i : Int) ∈ picked a N ∨ (i : Int) ∈ picked b N)) : d = c := by
  refine insOk_unique ⟨by simpa using hd, fun i hi => ?_⟩ hc
  have hiN : i < N := by simpa using hi
  rw [rch_append, h i hiN, mem_picked, mem_picked, ← ha.iff i hi, ← hb.iff i hi]
  have h0 : (0 : Int) ≤ (i : Int) := by omega
  have h1 : (i : Int) < (N : Int) := by omega
  simp only [Int.toNat_natCast, h0, h1, true_and]
end Pal.Graph
