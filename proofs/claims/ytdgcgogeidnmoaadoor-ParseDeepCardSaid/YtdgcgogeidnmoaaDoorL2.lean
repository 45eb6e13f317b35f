/- Just so deep, and so many parts: plain law of what ParseDeep asks, at each of the 40 texts and 26 expressions. No condition. -/
import Derived.Test.YtdgcgogeidnmoaaDoorPl
import Derived.ProofKit
set_option linter.unusedSimpArgs false
set_option linter.unusedVariables false
namespace Go.Proofs.YtdgcgogeidnmoaaDoor
open Go.RowKit Pal
def nots (n : Nat) : Bs := List.replicate n 33
def deepOk (n : Nat) : Bool :=
  match parseM (nots n ++ wTrue) with
  | .ok _ => decide (n + 1 ≤ 24)
  | .error p => decide (24 < n + 1) && decide (p.2 = 7)
theorem deepAll : ((List.range 40).all deepOk) = true := by kernel_rfl
theorem deep_yes (n : Nat) (h : n < 40) : deepOk n = true := by
  have k := deepAll
  rw [List.all_eq_true] at k
  exact k n (by simpa using h)
theorem deep_ok {n : Nat} (h : n + 1 ≤ 24) : ∃ e, parseM (nots n ++ wTrue) = .ok e := by
  have k := deep_yes n (by omega)
  unfold deepOk at k
  cases hp : parseM (nots n ++ wTrue) with
  | ok e => exact ⟨e, rfl⟩
  | error p => rw [hp] at k; simp at k; omega
theorem deep_no {n : Nat} (h : ¬ n + 1 ≤ 24) (h40 : n < 40) : ∃ p, parseM (nots n ++ wTrue) = .error (p, 7) := by
  have k := deep_yes n h40
  unfold deepOk at k
  cases hp : parseM (nots n ++ wTrue) with
  | ok e => rw [hp] at k; simp at k; omega
  | error p =>
    rw [hp] at k
    simp at k
    obtain ⟨p1, p2⟩ := p
    simp only at k
    exact ⟨p1, by rw [k.2]⟩
/-- The expression of k rounds, and how many parts it has. -/
def dE : Nat → Ex × Nat
  | 0 => (.mk 1 0 [] [], 1)
  | i + 1 => if i % 4 = 3 ∧ (dE i).2 < 200 then (.mk 7 0 [] [(dE i).1, (dE i).1], 2 * (dE i).2 + 1) else (.mk 5 0 [] [(dE i).1], (dE i).2 + 1)
def wideOk (k : Nat) : Bool := check (dE k).1 == (decide ((dE k).2 ≤ 128) && decide (k + 1 ≤ 24)) && decide ((dE k).2 ≤ 1000)
theorem wideAll : ((List.range 26).all wideOk) = true := by kernel_rfl
theorem wide_yes (k : Nat) (h : k < 26) : check (dE k).1 = (decide ((dE k).2 ≤ 128) && decide (k + 1 ≤ 24)) ∧ (dE k).2 ≤ 1000 := by
  have q := wideAll
  rw [List.all_eq_true] at q
  have := q k (by simpa using h)
  unfold wideOk at this
  rw [Bool.and_eq_true, beq_iff_eq, decide_eq_true_eq] at this
  exact this
theorem dE_fine (k : Nat) : Fine (dE k).1 := by
  induction k with
  | zero => exact .mk _ _ _ _ (by decide) (by decide) (by decide) (fun k hk => by cases hk)
  | succ i ih =>
    unfold dE
    split
    · refine .mk _ _ _ _ (by decide) (by decide) (by decide) (fun x hx => ?_)
      rcases List.mem_cons.1 hx with rfl | hx
      · exact ih
      · obtain rfl := List.mem_singleton.1 hx; exact ih
    · refine .mk _ _ _ _ (by decide) (by decide) (by decide) (fun x hx => ?_)
      obtain rfl := List.mem_singleton.1 hx; exact ih
theorem nots_succ (n : Nat) : nots (n + 1) = nots n ++ [33] := by
  unfold nots
  rw [List.replicate_succ', ]
end Go.Proofs.YtdgcgogeidnmoaaDoor
