/- The document's lexer, plain: which piece begins at which byte; escapes, texts, signs, tokens by pieces. No condition. -/
import Derived.Test.YtilmmgkclijhjaaGreatDoorRA
set_option linter.unusedSimpArgs false
set_option linter.unusedVariables false
set_option linter.unusedSectionVars false
namespace Go.Proofs.YtilmmgkclijhjaaGreatDoor
open Go.RowKit Pal
/-- Piece number k begins at byte p (or the text ends there). -/
inductive AtP (l : Bs) : Nat → Nat → Prop
  | zero : AtP l 0 0
  | step {k p : Nat} (h : AtP l k p) (hp : p < l.length) : AtP l (k + 1) (p + wd (l.drop p))
theorem drop_ne {l : Bs} {p : Nat} (h : p < l.length) : l.drop p ≠ [] := fun e => by
  have := congrArg List.length e
  rw [List.length_drop] at this
  simp at this
  omega
theorem AtP.le {l : Bs} {k p : Nat} (h : AtP l k p) : p ≤ l.length ∧ k + cnt (l.drop p) = cnt l ∧ k ≤ p := by
  induction h with
  | zero => exact ⟨Nat.zero_le _, by rw [List.drop_zero]; omega, Nat.le_refl _⟩
  | @step k p h hp ih =>
    obtain ⟨h1, h2, h3⟩ := ih
    have hn := drop_ne hp
    have hw := wd_le hn
    have hw1 := wd_pos (l.drop p)
    rw [List.length_drop] at hw
    rw [cnt_cons hn, List.drop_drop] at h2
    exact ⟨by omega, by omega, by omega⟩
theorem cnt_pos {l : Bs} (h : l ≠ []) : 0 < cnt l := by rw [cnt_cons h]; omega
theorem AtP.lt {l : Bs} {k p : Nat} (h : AtP l k p) : k < cnt l ↔ p < l.length := by
  obtain ⟨h1, h2, h3⟩ := h.le
  constructor
  · intro hk
    apply Classical.byContradiction
    intro hp
    rw [List.drop_eq_nil_of_le (by omega), cnt_nil] at h2
    omega
  · intro hp
    have := cnt_pos (drop_ne hp)
    omega
theorem AtP.uniq {l : Bs} {k p : Nat} (h : AtP l k p) : ∀ {q}, AtP l k q → p = q := by
  induction h with
  | zero => intro q g; cases g; rfl
  | @step k p h hp ih =>
    intro q g
    cases g with
    | @step _ p' g hp' =>
      have := ih g
      subst this
      rfl
theorem AtP.reach {l : Bs} {z : Nat} : ∀ {k p : Nat}, AtP l k p → Reach (l.drop p) z → ∃ k', AtP l k' (p + z) ∧ k ≤ k' ∧ k' ≤ k + z := by
  intro k p h g
  generalize hm : l.drop p = m at g
  induction g generalizing k p with
  | zero m => exact ⟨k, h, Nat.le_refl _, Nat.le_refl _⟩
  | @step m z hn g ih =>
    have hp : p < l.length := by
      apply Classical.byContradiction
      intro hp
      rw [List.drop_eq_nil_of_le (by omega)] at hm
      exact hn hm.symm
    have h1 := h.step hp
    rw [hm] at h1
    obtain ⟨k', h2, h3, h4⟩ := ih h1 (by rw [← List.drop_drop, hm])
    have := wd_pos m
    exact ⟨k', by rw [← Nat.add_assoc]; exact h2, by omega, by omega⟩
/-- Where each piece begins there is one. -/
theorem AtP.ex (l : Bs) : ∀ k, k ≤ cnt l → ∃ p, AtP l k p := by
  intro k
  induction k with
  | zero => intro _; exact ⟨0, .zero⟩
  | succ k ih =>
    intro hk
    obtain ⟨p, hp⟩ := ih (by omega)
    exact ⟨_, hp.step (hp.lt.1 (by omega))⟩
theorem AtP.last {l : Bs} {p : Nat} (h : AtP l (cnt l) p) : p = l.length := by
  have h1 := h.le.1
  have h2 := h.lt
  omega
/-- Is the piece that begins l a byte that is none? -/
def badB (l : Bs) : Bool := decide (rn l = 65533 ∧ wd l = 1)
theorem badB_cls {l : Bs} (h : badB l = true) : cls (rn l) = 0 := by
  have := (of_decide_eq_true h).1
  rw [this]
  decide
theorem cls_2_low {l : Bs} (h : cls (rn l) = 2) : wd l = 1 ∧ rn l = bk l 0 ∧ 48 ≤ bk l 0 ∧ bk l 0 ≤ 57 := by
  have h1 := cls_2.1 h
  have h2 := rn_low (l := l) (by omega)
  exact ⟨h2.2.2, h2.2.1, by omega, by omega⟩
/-- One more digit. -/
theorem digits_go {l : Bs} (hn : l ≠ []) (h : cls (rn l) = 2) : l.take (run 2 2 l) = (l.headD 0) :: (l.drop 1).take (run 2 2 (l.drop 1)) ∧ (l.headD 0).toNat = bk l 0 ∧ run 2 2 l = 1 + run 2 2 (l.drop 1) := by
  have h1 := cls_2_low h
  have h2 := run_go hn (.inl h : cls (rn l) = 2 ∨ cls (rn l) = 2)
  rw [h1.1] at h2
  rw [h2]
  cases l with
  | nil => exact absurd rfl hn
  | cons c r => exact ⟨by rw [Nat.add_comm, List.take_succ_cons]; rfl, rfl, rfl⟩
theorem digits_end {l : Bs} (h : ¬ cls (rn l) = 2) : run 2 2 l = 0 := run_stop (fun x => by rcases x with x | x <;> exact h x)
theorem numR_go {c : UInt8} {r : Bs} {n : Int} {ok : Bool} : numR (c :: r) n ok = if (9223372036854775807 - ((c.toNat : Int) - 48)) / 10 < n then numR r n false else numR r (n * 10 + ((c.toNat : Int) - 48)) ok := by rw [numR]
/-- A hex digit that is a rune. -/
theorem hexD_rn {l : Bs} : (48 ≤ rn l ∧ rn l ≤ 57 → hexD (bk l 0) = some (rn l - 48) ∧ wd l = 1) ∧ (97 ≤ rn l ∧ rn l ≤ 102 → hexD (bk l 0) = some (rn l - 87) ∧ wd l = 1) ∧ (¬ (48 ≤ rn l ∧ rn l ≤ 57) → ¬ (97 ≤ rn l ∧ rn l ≤ 102) → hexD (bk l 0) = none) := by
  refine ⟨fun h => ?_, fun h => ?_, fun h g => ?_⟩
  · have h2 := rn_low (l := l) (by omega)
    unfold hexD
    rw [if_pos (by omega), h2.2.1]
    exact ⟨rfl, h2.2.2⟩
  · have h2 := rn_low (l := l) (by omega)
    unfold hexD
    rw [if_neg (by omega), if_pos (by omega), h2.2.1]
    exact ⟨rfl, h2.2.2⟩
  · unfold hexD
    by_cases hb : bk l 0 < 128
    · have h2 := dec_low hb
      rw [if_neg (by omega), if_neg (by omega)]
    · rw [if_neg (by omega), if_neg (by omega)]
end Go.Proofs.YtilmmgkclijhjaaGreatDoor
