/- The plain law of orders: what is told round by round. No program. -/
namespace Pal.Graph

def lst (n : Int) (xss : List (List Int)) (i : Nat) : List Int := ((xss[i]?).getD []).filter fun k => decide (0 ≤ k) && decide (k < n)
def isDone (done : List Bool) (k : Int) : Bool := done.getD k.toNat false
def freeB (n : Int) (xss : List (List Int)) (done : List Bool) (i : Nat) : Bool := (lst n xss i).all (isDone done)
/-- May i be told now? -/
def may (n : Int) (xss : List (List Int)) (done : List Bool) (i : Nat) : Bool := !(done.getD i false) && freeB n xss done i
def pick (n : Int) (xss : List (List Int)) (done : List Bool) : Option Nat := (List.range n.toNat).find? (may n xss done)
def step (n : Int) (xss : List (List Int)) (s : List Int × List Bool) : List Int × List Bool :=
  match pick n xss s.2 with
  | none => s
  | some i => (s.1 ++ [(i : Int)], s.2.set i true)
def st (n : Int) (xss : List (List Int)) : Nat → List Int × List Bool
  | 0 => ([], List.replicate n.toNat false)
  | j + 1 => step n xss (st n xss j)

theorem step_none {n : Int} {xss : List (List Int)} {s : List Int × List Bool} (h : pick n xss s.2 = none) : step n xss s = s := by simp [step, h]
theorem step_some {n : Int} {xss : List (List Int)} {s : List Int × List Bool} {i : Nat} (h : pick n xss s.2 = some i) : step n xss s = (s.1 ++ [(i : Int)], s.2.set i true) := by simp [step, h]

theorem pick_none_iff {n : Int} {xss : List (List Int)} {done : List Bool} : pick n xss done = none ↔ ∀ i, i < n.toNat → may n xss done i = false := by
  simp only [pick, List.find?_eq_none, List.mem_range]
  exact ⟨fun h i hi => by simpa using h i hi, fun h i hi => by simp [h i hi]⟩
theorem pick_some_of {n : Int} {xss : List (List Int)} {done : List Bool} {i : Nat} (hi : i < n.toNat) (hm : may n xss done i = true) (hb : ∀ j, j < i → may n xss done j = false) : pick n xss done = some i := by
  unfold pick
  rw [List.find?_range_eq_some]
  exact ⟨hm, List.mem_range.2 hi, fun j hj => by simp [hb j hj]⟩
theorem pick_some {n : Int} {xss : List (List Int)} {done : List Bool} {i : Nat} (h : pick n xss done = some i) : i < n.toNat ∧ may n xss done i = true ∧ ∀ j, j < i → may n xss done j = false := by
  unfold pick at h
  rw [List.find?_range_eq_some] at h
  exact ⟨List.mem_range.1 h.2.1, h.1, fun j hj => by simpa using h.2.2 j hj⟩

theorem st_stuck {n : Int} {xss : List (List Int)} {j : Nat} (h : pick n xss (st n xss j).2 = none) : ∀ k, j ≤ k → st n xss k = st n xss j := by
  intro k hk
  induction k with
  | zero => have : j = 0 := by omega
            rw [this]
  | succ k ih =>
    by_cases e : j = k + 1
    · rw [e]
    · have := ih (by omega)
      show step n xss (st n xss k) = _
      rw [this]; exact step_none h
theorem st_len {n : Int} {xss : List (List Int)} (j : Nat) : (st n xss j).2.length = n.toNat := by
  induction j with
  | zero => simp [st]
  | succ j ih =>
    show (step n xss _).2.length = _
    cases h : pick n xss (st n xss j).2 with
    | none => rw [step_none h]; exact ih
    | some i => rw [step_some h]; simpa using ih

theorem count_set {l : List Bool} {i : Nat} (hi : i < l.length) (h : l.getD i false = false) : (l.set i true).count true = l.count true + 1 := by
  induction l generalizing i with
  | nil => simp at hi
  | cons a l ih =>
    cases i with
    | zero => simp at h; subst h; simp
    | succ i =>
      simp only [List.set_cons_succ, List.count_cons]
      rw [ih (by simpa using hi) (by simpa using h)]
      omega
theorem st_count {n : Int} {xss : List (List Int)} (j : Nat) : (st n xss j).2.count true = (st n xss j).1.length := by
  induction j with
  | zero => simp [st, List.count_replicate]
  | succ j ih =>
    show (step n xss _).2.count true = (step n xss _).1.length
    cases h : pick n xss (st n xss j).2 with
    | none => rw [step_none h]; exact ih
    | some i =>
      rw [step_some h]
      obtain ⟨h1, h2, _⟩ := pick_some h
      simp only [may, Bool.and_eq_true, Bool.not_eq_true'] at h2
      simp only [List.length_append, List.length_cons, List.length_nil]
      rw [count_set (by rw [st_len]; exact h1) h2.1, ih]
/-- The j-th round told somebody as long as nobody was stuck before. -/
theorem st_length_succ {n : Int} {xss : List (List Int)} {j i : Nat} (h : pick n xss (st n xss j).2 = some i) : (st n xss (j + 1)).1.length = (st n xss j).1.length + 1 := by
  show (step n xss _).1.length = _
  rw [step_some h]; simp
theorem st_length_lt {n : Int} {xss : List (List Int)} {j i : Nat} (h : pick n xss (st n xss j).2 = some i) : (st n xss j).1.length < n.toNat := by
  obtain ⟨h1, h2, _⟩ := pick_some h
  simp only [may, Bool.and_eq_true, Bool.not_eq_true'] at h2
  have h3 := count_set (l := (st n xss j).2) (by rw [st_len]; exact h1) h2.1
  have h4 := List.count_le_length (a := true) (l := (st n xss j).2.set i true)
  rw [List.length_set, st_len] at h4
  rw [← st_count]; omega
/-- Behind n rounds nobody more is told. -/
theorem st_fix {n : Int} {xss : List (List Int)} {j : Nat} (hl : (st n xss j).1.length = j) (hj : n.toNat ≤ j) : pick n xss (st n xss j).2 = none := by
  cases h : pick n xss (st n xss j).2 with
  | none => rfl
  | some i => have := st_length_lt h; omega
theorem st_final {n : Int} {xss : List (List Int)} {j : Nat} (hl : (st n xss j).1.length = j) (h : pick n xss (st n xss j).2 = none) : st n xss n.toNat = st n xss j := by
  refine st_stuck h _ ?_
  have h4 := List.count_le_length (a := true) (l := (st n xss j).2)
  rw [st_count, st_len, hl] at h4
  exact h4
/-- Who is left. -/
def left (done : List Bool) (k : Nat) : List Int := ((List.range k).filter fun i => !(done.getD i false)).map Int.ofNat
theorem left_succ (done : List Bool) (k : Nat) : left done (k + 1) = left done k ++ (if done.getD k false then [] else [(k : Int)]) := by
  simp only [left, List.range_succ, List.filter_append, List.map_append]
  congr 1
  by_cases h : done.getD k false = true
  · rw [if_pos h]; simp only [List.filter_cons, h]; rfl
  · rw [if_neg h]; simp only [Bool.not_eq_true] at h; simp only [List.filter_cons, h]; rfl
theorem left_le (done : List Bool) (k : Nat) : (left done k).length ≤ k := by
  simp only [left, List.length_map]
  exact Nat.le_trans (List.length_filter_le _ _) (by simp)

def orderS (n : Int) (xss : List (List Int)) : List Int × Bool :=
  if 0 ≤ n ∧ n ≤ 4096 then (if (st n xss n.toNat).1.length < n.toNat then ([], false) else ((st n xss n.toNat).1, true)) else ([], false)
def stuckS (n : Int) (xss : List (List Int)) : List Int := if 0 ≤ n ∧ n ≤ 4096 then left (st n xss n.toNat).2 n.toNat else []
end Pal.Graph
