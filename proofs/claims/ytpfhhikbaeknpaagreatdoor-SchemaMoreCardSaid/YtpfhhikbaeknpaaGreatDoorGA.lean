/- The order of numbers that need each other, as plain law. No condition. -/
import Derived.Test.YtpfhhikbaeknpaaGreatDoorLx
set_option linter.unusedSectionVars false
set_option linter.unusedSimpArgs false
set_option linter.unusedVariables false
namespace Pal.Graph

def lst (n : Int) (xss : List (List Int)) (i : Nat) : List Int := ((xss[i]?).getD []).filter fun k => decide (0 ≤ k) && decide (k < n)
def isDone (done : List Bool) (k : Int) : Bool := done.getD k.toNat false
def freeB (n : Int) (xss : List (List Int)) (done : List Bool) (i : Nat) : Bool := (lst n xss i).all (isDone done)
def may (n : Int) (xss : List (List Int)) (done : List Bool) (i : Nat) : Bool := !(done.getD i false) && freeB n xss done i
def pick (n : Int) (xss : List (List Int)) (done : List Bool) : Option Nat := (List.range n.toNat).find? (may n xss done)
def step (n : Int) (xss : List (List Int)) (s : List Int × List Bool) : List Int × List Bool :=
  match pick n xss s.2 with
  | none => s
  | some i => (s.1 ++ [(i : Int)],s.2.set i true)
def st (n : Int) (xss : List (List Int)) : Nat → List Int × List Bool
  | 0 => ([],List.replicate n.toNat false)
  | j + 1 => step n xss (st n xss j)

theorem step_none {n : Int} {xss : List (List Int)} {s : List Int × List Bool} (h : pick n xss s.2 = none) : step n xss s = s := by simp [step,h]
theorem step_some {n : Int} {xss : List (List Int)} {s : List Int × List Bool} {i : Nat} (h : pick n xss s.2 = some i) : step n xss s = (s.1 ++ [(i : Int)],s.2.set i true) := by simp [step,h]

theorem pick_none_iff {n : Int} {xss : List (List Int)} {done : List Bool} : pick n xss done = none ↔ ∀ i,i < n.toNat → may n xss done i = false := by
  simp only [pick,List.find?_eq_none,List.mem_range]
  exact ⟨fun h i hi => by simpa using h i hi,fun h i hi => by simp [h i hi]⟩
theorem pick_some_of {n : Int} {xss : List (List Int)} {done : List Bool} {i : Nat} (hi : i < n.toNat) (hm : may n xss done i = true) (hb : ∀ j,j < i → may n xss done j = false) : pick n xss done = some i := by
  unfold pick
  rw [List.find?_range_eq_some]
  exact ⟨hm,List.mem_range.2 hi,fun j hj => by simp [hb j hj]⟩
theorem pick_some {n : Int} {xss : List (List Int)} {done : List Bool} {i : Nat} (h : pick n xss done = some i) : i < n.toNat ∧ may n xss done i = true ∧ ∀ j,j < i → may n xss done j = false := by
  unfold pick at h
  rw [List.find?_range_eq_some] at h
  exact ⟨List.mem_range.1 h.2.1,h.1,fun j hj => by simpa using h.2.2 j hj⟩

theorem st_stuck {n : Int} {xss : List (List Int)} {j : Nat} (h : pick n xss (st n xss j).2 = none) : ∀ k, j ≤ k → st n xss k = st n xss j := by
  intro k hk
  induction k with
  | zero => have : j = 0 := by omega
            rw [this]
  | succ k ih =>
    by_cases e : j = k + 1
    · rw [e]
    · have := ih (by omega)
      show step n xss (st n xss k) = _
      rw [this]; exact step_none h
theorem st_len {n : Int} {xss : List (List Int)} (j : Nat) : (st n xss j).2.length = n.toNat := by
  induction j with
  | zero => simp [st]
  | succ j ih =>
    show (step n xss _).2.length = _
    cases h : pick n xss (st n xss j).2 with
    | none => rw [step_none h]; exact ih
    | some i => rw [step_some h]; simpa using ih

theorem count_set {l : List Bool} {i : Nat} (hi : i < l.length) (h : l.getD i false = false) : (l.set i true).count true = l.count true + 1 := by
  induction l generalizing i with
  | nil => simp at hi
  | cons a l ih =>
    cases i with
    | zero => simp at h; subst h; simp
    | succ i =>
      simp only [List.set_cons_succ,List.count_cons]
      rw [ih (by simpa using hi) (by simpa using h)]
      omega
theorem st_count {n : Int} {xss : List (List Int)} (j : Nat) : (st n xss j).2.count true = (st n xss j).1.length := by
  induction j with
  | zero => simp [st,List.count_replicate]
  | succ j ih =>
    show (step n xss _).2.count true = (step n xss _).1.length
    cases h : pick n xss (st n xss j).2 with
    | none => rw [step_none h]; exact ih
    | some i =>
      rw [step_some h]
      obtain ⟨h1,h2,_⟩ := pick_some h
      simp only [may,Bool.and_eq_true,Bool.not_eq_true'] at h2
      simp only [List.length_append,List.length_cons,List.length_nil]
      rw [count_set (by rw [st_len]; exact h1) h2.1,ih]
theorem st_length_succ {n : Int} {xss : List (List Int)} {j i : Nat} (h : pick n xss (st n xss j).2 = some i) : (st n xss (j + 1)).1.length = (st n xss j).1.length + 1 := by
  show (step n xss _).1.length = _
  rw [step_some h]; simp
theorem st_length_lt {n : Int} {xss : List (List Int)} {j i : Nat} (h : pick n xss (st n xss j).2 = some i) : (st n xss j).1.length < n.toNat := by
  obtain ⟨h1,h2,_⟩ := pick_some h
  simp only [may,Bool.and_eq_true,Bool.not_eq_true'] at h2
  have h3 := count_set (l := (st n xss j).2) (by rw [st_len]; exact h1) h2.1
  have h4 := List.count_le_length (a := true) (l := (st n xss j).2.set i true)
  rw [List.length_set,st_len] at h4
  rw [← st_count]; omega
theorem st_fix {n : Int} {xss : List (List Int)} {j : Nat} (hl : (st n xss j).1.length = j) (hj : n.toNat ≤ j) : pick n xss (st n xss j).2 = none := by
  cases h : pick n xss (st n xss j).2 with
  | none => rfl
  | some i => have := st_length_lt h; omega
theorem st_final {n : Int} {xss : List (List Int)} {j : Nat} (hl : (st n xss j).1.length = j) (h : pick n xss (st n xss j).2 = none) : st n xss n.toNat = st n xss j := by
  refine st_stuck h _ ?_
  have h4 := List.count_le_length (a := true) (l := (st n xss j).2)
  rw [st_count,st_len,hl] at h4
  exact h4
def left (done : List Bool) (k : Nat) : List Int := ((List.range k).filter fun i => !(done.getD i false)).map Int.ofNat
theorem left_succ (done : List Bool) (k : Nat) : left done (k + 1) = left done k ++ (if done.getD k false then [] else [(k : Int)]) := by
  simp only [left,List.range_succ,List.filter_append,List.map_append]
  congr 1
  by_cases h : done.getD k false = true
  · rw [if_pos h]; simp only [List.filter_cons,h]; rfl
  · rw [if_neg h]; simp only [Bool.not_eq_true] at h; simp only [List.filter_cons,h]; rfl
theorem left_le (done : List Bool) (k : Nat) : (left done k).length ≤ k := by
  simp only [left,List.length_map]
  exact Nat.le_trans (List.length_filter_le _ _) (by simp)

def orderS (n : Int) (xss : List (List Int)) : List Int × Bool :=
  if 0 ≤ n ∧ n ≤ 4096 then (if (st n xss n.toNat).1.length < n.toNat then ([],false) else ((st n xss n.toNat).1,true)) else ([],false)
def stuckS (n : Int) (xss : List (List Int)) : List Int := if 0 ≤ n ∧ n ≤ 4096 then left (st n xss n.toNat).2 n.toNat else []
end Pal.Graph

namespace Pal.Graph

def cntW (n : Int) (xss : List (List Int)) (I j : Nat) (i : Nat) : Int := if i < I then (lst n xss i).length else if i = I then j else 0
def cntB (n : Int) (xss : List (List Int)) (I j : Nat) (k i : Nat) : Nat := if i < I then (lst n xss i).count (k : Int) else if i = I then ((lst n xss I).take j).count (k : Int) else 0
structure BackOk (N : Nat) (xss : List (List Int)) (B : List (List Int)) (I j : Nat) : Prop where
  len : B.length = N
  count : ∀ (k : Nat) (l : List Int),B[k]? = some l → ∀ i : Nat,l.count (i : Int) = cntB N xss I j k i
  range : ∀ (k : Nat) (l : List Int),B[k]? = some l → ∀ x ∈ l,0 ≤ x ∧ x < (N : Int)
  short : ∀ (k : Nat) (l : List Int),B[k]? = some l → l.length ≤ I * 80 + j
theorem lst_mem {n : Int} {xss : List (List Int)} {i : Nat} {x : Int} (h : x ∈ lst n xss i) : 0 ≤ x ∧ x < n := by
  simp only [lst,List.mem_filter,Bool.and_eq_true,decide_eq_true_eq] at h; exact h.2
theorem lst_short {n : Int} {xss : List (List Int)} (h : ∀ (i : Nat) (xs : List Int),xss[i]? = some xs → xs.length ≤ 80) (i : Nat) : (lst n xss i).length ≤ 80 := by
  refine Nat.le_trans (List.length_filter_le _ _) ?_
  cases e : xss[i]? with
  | none => simp
  | some xs => simpa using h i xs e
theorem backOk_start (N : Nat) (xss : List (List Int)) : BackOk N xss (List.replicate N []) 0 0 := by
  refine ⟨by simp,fun k l h i => ?_,fun k l h x hx => ?_,fun k l h => ?_⟩
  all_goals
    rw [List.getElem?_replicate] at h
    split at h
    · cases h; first | (simp [cntB]) | (cases hx)
    · cases h
theorem cntB_next (n : Int) (xss : List (List Int)) (I : Nat) (k i : Nat) : cntB n xss I (lst n xss I).length k i = cntB n xss (I + 1) 0 k i := by
  unfold cntB
  rw [List.take_length]
  by_cases h1 : i < I
  · rw [if_pos h1,if_pos (by omega)]
  · rw [if_neg h1]
    by_cases h2 : i = I
    · rw [if_pos h2,if_pos (by omega),h2]
    · rw [if_neg h2,if_neg (by omega)]
      split <;> simp
theorem backOk_next {N : Nat} {xss : List (List Int)} {B : List (List Int)} {I : Nat} (h : BackOk N xss B I (lst N xss I).length) (hs : (lst N xss I).length ≤ 80) : BackOk N xss B (I + 1) 0 :=
  ⟨h.len,fun k l hl i => by rw [← cntB_next]; exact h.count k l hl i,h.range,fun k l hl => by have := h.short k l hl; omega⟩
theorem cntW_next (n : Int) (xss : List (List Int)) (I : Nat) (i : Nat) : cntW n xss I (lst n xss I).length i = cntW n xss (I + 1) 0 i := by
  unfold cntW
  by_cases h1 : i < I
  · rw [if_pos h1,if_pos (by omega)]
  · rw [if_neg h1]
    by_cases h2 : i = I
    · rw [if_pos h2,if_pos (by omega),h2]
    · rw [if_neg h2,if_neg (by omega)]
      split <;> simp
theorem cntW_succ (n : Int) (xss : List (List Int)) (I j : Nat) (i : Nat) : (if i = I then cntW n xss I j I + 1 else cntW n xss I j i) = cntW n xss I (j + 1) i := by
  unfold cntW
  by_cases h2 : i = I
  · subst h2; simp
  · simp [h2]
theorem backOk_push {N : Nat} {xss : List (List Int)} {B : List (List Int)} {I j : Nat} {x : Int} {l : List Int} (h : BackOk N xss B I j) (hI : I < N) (hx : (lst N xss I)[j]? = some x) (hl : B[x.toNat]? = some l) :
    BackOk N xss (B.set x.toNat (l ++ [(I : Int)])) I (j + 1) := by
  have hx0 := lst_mem (List.mem_of_getElem? hx)
  have hxl : x.toNat < B.length := (List.getElem?_eq_some_iff.1 hl).1
  have hcase : ∀ k l',(B.set x.toNat (l ++ [(I : Int)]))[k]? = some l' → (k = x.toNat ∧ l' = l ++ [(I : Int)]) ∨ (k ≠ x.toNat ∧ B[k]? = some l') := by
    intro k l' h'
    by_cases e : k = x.toNat
    · subst e; rw [List.getElem?_set_self hxl] at h'; cases h'; exact .inl ⟨rfl,rfl⟩
    · rw [List.getElem?_set_ne (by omega)] at h'; exact .inr ⟨e,h'⟩
  have htake : (lst N xss I).take (j + 1) = (lst N xss I).take j ++ [x] := by rw [List.take_add_one,hx]; rfl
  refine ⟨by simpa using h.len,fun k l' h' i => ?_,fun k l' h' y hy => ?_,fun k l' h' => ?_⟩
  · rcases hcase k l' h' with ⟨rfl,rfl⟩ | ⟨hne,h1⟩
    · have hc := h.count _ l hl i
      rw [List.count_append,hc]
      unfold cntB
      rw [htake,List.count_append]
      by_cases h1 : i < I
      · rw [if_pos h1,if_pos h1]
        have : (I : Int) ≠ (i : Int) := by omega
        simp [List.count_cons]; omega
      · rw [if_neg h1,if_neg h1]
        by_cases h2 : i = I
        · rw [if_pos h2,if_pos h2,h2]
          have : x = ((x.toNat : Nat) : Int) := by omega
          rw [← this]; simp
        · rw [if_neg h2,if_neg h2]
          simp [List.count_cons]; omega
    · have hc := h.count _ l' h1 i
      rw [hc]
      unfold cntB
      rw [htake,List.count_append]
      have : ¬ x = (k : Int) := by omega
      by_cases h1 : i < I
      · rw [if_pos h1,if_pos h1]
      · rw [if_neg h1,if_neg h1]
        by_cases h2 : i = I
        · rw [if_pos h2,if_pos h2]; simp [this]
        · rw [if_neg h2,if_neg h2]
  · rcases hcase k l' h' with ⟨rfl,rfl⟩ | ⟨hne,h1⟩
    · rcases List.mem_append.1 hy with hy | hy
      · exact h.range _ l hl y hy
      · simp at hy; subst hy; omega
    · exact h.range _ l' h1 y hy
  · rcases hcase k l' h' with ⟨rfl,rfl⟩ | ⟨hne,h1⟩
    · have := h.short _ l hl; simp; omega
    · have := h.short _ l' h1; omega

def g_need (n : Int) (xss : List (List Int)) (done : List Bool) (i : Nat) : Int := ((lst n xss i).filter fun k => !isDone done k).length
theorem need_start (n : Int) (xss : List (List Int)) (N : Nat) (i : Nat) : g_need n xss (List.replicate N false) i = (lst n xss i).length := by
  unfold g_need
  have h : (fun k => !isDone (List.replicate N false) k) = fun _ => true := by
    funext k; by_cases hk : k.toNat < N <;> simp [isDone,hk]
  rw [h]
  exact congrArg (fun l : List Int => (l.length : Int)) (List.filter_eq_self.2 (fun _ _ => rfl))
theorem need_zero {n : Int} {xss : List (List Int)} {done : List Bool} {i : Nat} : g_need n xss done i ≤ 0 ↔ freeB n xss done i = true := by
  unfold g_need freeB
  constructor
  · intro h
    have h0 : ((lst n xss i).filter fun k => !isDone done k) = [] := List.eq_nil_of_length_eq_zero (by omega)
    rw [List.filter_eq_nil_iff] at h0
    rw [List.all_eq_true]
    intro x hx; simpa using h0 x hx
  · intro h
    rw [List.all_eq_true] at h
    have h0 : ((lst n xss i).filter fun k => !isDone done k) = [] := by
      rw [List.filter_eq_nil_iff]; intro x hx; simp [h x hx]
    rw [h0]; simp
theorem need_bounds {n : Int} {xss : List (List Int)} {done : List Bool} {i : Nat} (hs : (lst n xss i).length ≤ 80) : 0 ≤ g_need n xss done i ∧ g_need n xss done i ≤ 80 := by
  unfold g_need
  have := List.length_filter_le (fun k => !isDone done k) (lst n xss i)
  omega
theorem isDone_set {done : List Bool} {i0 : Nat} (hi : i0 < done.length) {x : Int} (hx : 0 ≤ x) : isDone (done.set i0 true) x = (decide (x = i0) || isDone done x) := by
  unfold isDone
  by_cases h : x = i0
  · subst h; simp [hi]
  · have : i0 ≠ x.toNat := by omega
    simp [List.getElem?_set_ne this,h]
theorem need_step {n : Int} {xss : List (List Int)} {done : List Bool} {i0 : Nat} (hi : i0 < done.length) (h0 : done.getD i0 false = false) (i : Nat) :
    g_need n xss done i - (lst n xss i).count (i0 : Int) = g_need n xss (done.set i0 true) i := by
  unfold g_need
  have hm : ∀ x ∈ lst n xss i,0 ≤ x := fun x hx => (lst_mem hx).1
  generalize lst n xss i = l at hm
  induction l with
  | nil => simp
  | cons a l ih =>
    have ih := ih (fun x hx => hm x (by simp [hx]))
    have ha := hm a (by simp)
    have hd := isDone_set hi ha
    by_cases e : a = i0
    · subst e
      have hf : isDone done (i0 : Int) = false := by simpa [isDone] using h0
      simp only [List.filter_cons,hf,hd,decide_true,Bool.true_or,Bool.not_true,Bool.not_false,if_true,List.count_cons_self,List.length_cons]
      simp only [Bool.false_eq_true,if_false]
      omega
    · simp only [List.filter_cons,hd,e,decide_false,Bool.false_or,List.count_cons_of_ne (Ne.symm (Ne.symm e))]
      split
      · simp only [List.length_cons]; omega
      · exact ih
end Pal.Graph
