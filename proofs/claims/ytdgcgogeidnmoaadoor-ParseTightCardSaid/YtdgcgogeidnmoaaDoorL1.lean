/- Which of two signs is the tighter one: plain law of what ParseTight asks, at each of the 121 pairs. No condition. -/
import Derived.Test.YtdgcgogeidnmoaaDoorPl
import Derived.ProofKit
set_option linter.unusedSimpArgs false
set_option linter.unusedVariables false
namespace Go.Proofs.YtdgcgogeidnmoaaDoor
open Go.RowKit Pal
def tgS (k : Nat) : Bs := [[124], [38], [61], [33, 61], [60], [60, 61], [43], [45], [42], [47], [37]].getD k []
def tgL (k : Nat) : Nat := [0, 1, 2, 2, 2, 2, 3, 3, 4, 4, 4].getD k 0
def tgT (a b : Nat) : Bs := [120, 32] ++ tgS a ++ [32, 121, 32] ++ tgS b ++ [32, 122]
def tgW (a b : Nat) : Bs := if tgL b ≤ tgL a then [40, 40, 120, 32] ++ tgS a ++ [32, 121, 41, 32] ++ tgS b ++ [32, 122, 41] else [40, 120, 32] ++ tgS a ++ [32, 40, 121, 32] ++ tgS b ++ [32, 122, 41, 41]
def tgOk (a b : Nat) : Bool :=
  match parseM (tgT a b) with
  | .ok e => !(tgL a == 2 && tgL b == 2) && (decide (textX e = tgW a b) && check e)
  | .error p => (tgL a == 2 && tgL b == 2) && (p.1 == 5 + (tgS a).length && decide (p.2 = 6))
def tgAll : Bool := (List.range 11).all fun a => (List.range 11).all fun b => tgOk a b
theorem tgAll_yes : tgAll = true := by kernel_rfl
theorem tgOk_yes (a b : Nat) (ha : a < 11) (hb : b < 11) : tgOk a b = true := by
  have h := tgAll_yes
  unfold tgAll at h
  rw [List.all_eq_true] at h
  have h1 := h a (by simpa using ha)
  rw [List.all_eq_true] at h1
  exact h1 b (by simpa using hb)
theorem tg_bad {a b : Nat} (ha : a < 11) (hb : b < 11) (h : tgL a = 2 ∧ tgL b = 2) : parseM (tgT a b) = .error (5 + (tgS a).length, 6) := by
  have k := tgOk_yes a b ha hb
  unfold tgOk at k
  cases hp : parseM (tgT a b) with
  | ok e => rw [hp] at k; simp [h.1, h.2] at k
  | error p =>
    rw [hp] at k
    simp only [Bool.and_eq_true, beq_iff_eq, decide_eq_true_eq] at k
    obtain ⟨p1, p2⟩ := p
    simp only at k
    rw [k.2.1, k.2.2]
theorem tg_ok {a b : Nat} (ha : a < 11) (hb : b < 11) (h : ¬ (tgL a = 2 ∧ tgL b = 2)) : ∃ e, parseM (tgT a b) = .ok e ∧ textX e = tgW a b ∧ check e = true := by
  have k := tgOk_yes a b ha hb
  unfold tgOk at k
  cases hp : parseM (tgT a b) with
  | ok e =>
    rw [hp] at k
    simp only [Bool.and_eq_true, decide_eq_true_eq] at k
    exact ⟨e, rfl, k.2.1, k.2.2⟩
  | error p =>
    rw [hp] at k
    simp only [Bool.and_eq_true, beq_iff_eq] at k
    exact absurd k.1 h
end Go.Proofs.YtdgcgogeidnmoaaDoor
