/- The plain law of the document's reaching: sweeps till nothing turns. No program. -/
import Derived.Test.YtoaomedlgmnopaaM3
namespace Pal.Graph

/-- i is settled: whoever needs one that is in is in. -/
def Settled (n : Int) (xss : List (List Int)) (ins : List Bool) (i : Nat) : Prop := ∀ x ∈ lst n xss i, got ins x.toNat = true → got ins i = true
/-- Of the first k that i needs, as they are written, none is in. -/
def NoneIn (n : Int) (xs : List Int) (ins : List Bool) (k : Nat) : Prop := ∀ x ∈ xs.take k, 0 ≤ x → x < n → got ins x.toNat = false
structure Sound (N : Nat) (xss : List (List Int)) (fr : List Int) (ins : List Bool) : Prop where
  len : ins.length = N
  sound : ∀ i, got ins i = true → Rch N xss fr i
theorem sound_start (N : Nat) (xss : List (List Int)) (fr : List Int) : Sound N xss fr (List.replicate N false) :=
  ⟨by simp, fun i hi => by
    have : got (List.replicate N false) i = false := by unfold got; by_cases h : i < N <;> simp [h]
    rw [this] at hi; cases hi⟩
theorem sound_base {N : Nat} {xss : List (List Int)} {fr : List Int} {ins : List Bool} (h : Sound N xss fr ins) {x : Int} (hx : x ∈ fr) (h0 : 0 ≤ x) (hN : x < N) : Sound N xss fr (ins.set x.toNat true) := by
  refine ⟨by simpa using h.len, fun i hi => ?_⟩
  rw [got_set (by rw [h.len]; omega)] at hi
  simp only [Bool.or_eq_true, decide_eq_true_eq] at hi
  rcases hi with rfl | hi
  · exact (rch_closed N xss fr).1 x hx h0 hN
  · exact h.sound i hi
theorem sound_step {N : Nat} {xss : List (List Int)} {fr : List Int} {ins : List Bool} (h : Sound N xss fr ins) {i : Nat} (hi : i < N) {x : Int} (hx : x ∈ lst N xss i) (hg : got ins x.toNat = true) : Sound N xss fr (ins.set i true) := by
  refine ⟨by simpa using h.len, fun j hj => ?_⟩
  rw [got_set (by rw [h.len]; omega)] at hj
  simp only [Bool.or_eq_true, decide_eq_true_eq] at hj
  rcases hj with rfl | hj
  · exact (rch_closed N xss fr).2 j (by simpa using hi) x hx (h.sound _ hg)
  · exact h.sound j hj
theorem sound_end {N : Nat} {xss : List (List Int)} {fr : List Int} {ins : List Bool} (h : Sound N xss fr ins) (hb : ∀ x ∈ fr, 0 ≤ x → x < (N : Int) → got ins x.toNat = true) (hs : ∀ i, i < N → Settled N xss ins i) : InsOk N xss fr ins :=
  insOk_of (by simpa using h.len) h.sound ⟨hb, fun i hi x hx hg => hs i (by simpa using hi) x hx hg⟩
theorem mem_lst {n : Int} {xss : List (List Int)} {i : Nat} {x : Int} : x ∈ lst n xss i ↔ x ∈ (xss[i]?).getD [] ∧ 0 ≤ x ∧ x < n := by
  simp [lst, List.mem_filter]
theorem noneIn_settled {n : Int} {xss : List (List Int)} {ins : List Bool} {i : Nat} (h : NoneIn n ((xss[i]?).getD []) ins ((xss[i]?).getD []).length) : Settled n xss ins i := by
  intro x hx hg
  rw [mem_lst] at hx
  have := h x (by rw [List.take_length]; exact hx.1) hx.2.1 hx.2.2
  rw [hg] at this; cases this
theorem noneIn_succ {n : Int} {xs : List Int} {ins : List Bool} {k : Nat} {x : Int} (h : NoneIn n xs ins k) (hx : xs[k]? = some x) (h1 : 0 ≤ x → x < n → got ins x.toNat = false) : NoneIn n xs ins (k + 1) := by
  intro y hy h0 hN
  rw [List.take_add_one, hx] at hy
  rcases List.mem_append.1 hy with hy | hy
  · exact h y hy h0 hN
  · simp at hy; subst hy; exact h1 h0 hN
end Pal.Graph
