/- The document's lexer, plain: digits as a number, one after the other; what stands behind a quote. No condition. -/
import Derived.Test.YtilmmgkclijhjaaGreatDoorPl
set_option linter.unusedSimpArgs false
set_option linter.unusedVariables false
set_option linter.unusedSectionVars false
namespace Go.Proofs.YtilmmgkclijhjaaGreatDoor
open Go.RowKit Pal

/-- Digits, as chapter 6 reads them: the number, whether it is one. -/
def numR : Bs → Int → Bool → Int × Bool
  | [], n, ok => (n, ok)
  | c :: r, n, ok => if (9223372036854775807 - ((c.toNat : Int) - 48)) / 10 < n then numR r n false else numR r (n * 10 + ((c.toNat : Int) - 48)) ok
theorem numR_false : ∀ (l : Bs) (n : Int), (numR l n false).2 = false := by
  intro l
  induction l with
  | nil => intro n; rfl
  | cons c r ih => intro n; unfold numR; split <;> exact ih _
def AllD (l : Bs) : Prop := ∀ c ∈ l, 48 ≤ c.toNat ∧ c.toNat ≤ 57
theorem uint_lo : ∀ (l : Bs) (acc u : Nat), Lib.parseUintM 18446744073709551615 acc l = .ok u → acc ≤ u := by
  intro l
  induction l with
  | nil => intro acc u h; simp only [Lib.parseUintM, Lib.NumEnd.ok.injEq] at h; omega
  | cons c r ih =>
    intro acc u h
    simp only [Lib.parseUintM] at h
    split at h
    · split at h
      · cases h
      · split at h
        · cases h
        · have := ih _ _ h; omega
    · cases h
/-- It is a number just where ParseUint's is below 2 ^ 63. -/
theorem numR_uint : ∀ (l : Bs) (acc : Nat), AllD l → acc < 9223372036854775808 →
    (match Lib.parseUintM 18446744073709551615 acc l with | .ok u => if u < 9223372036854775808 then numR l acc true = ((u : Int), true) else (numR l acc true).2 = false | _ => (numR l acc true).2 = false) := by
  intro l
  induction l with
  | nil => intro acc _ h; simp only [Lib.parseUintM]; rw [if_pos h]; rfl
  | cons c r ih =>
    intro acc hd h
    have hc := hd c (by simp)
    have hr : AllD r := fun x hx => hd x (by simp [hx])
    have e : Lib.parseUintM 18446744073709551615 acc (c :: r) = if 1844674407370955162 ≤ acc then .range else if 18446744073709551615 < acc * 10 + (c.toNat - 48) then .range else Lib.parseUintM 18446744073709551615 (acc * 10 + (c.toNat - 48)) r := by
      simp only [Lib.parseUintM]; rw [if_pos hc]
    rw [e]
    have en : numR (c :: r) acc true = if (9223372036854775807 - ((c.toNat : Int) - 48)) / 10 < (acc : Int) then numR r acc false else numR r (acc * 10 + ((c.toNat : Int) - 48)) true := by rw [numR]
    rw [en]
    by_cases hb : acc * 10 + (c.toNat - 48) < 9223372036854775808
    · rw [if_neg (by omega), if_neg (by omega), if_neg (by omega)]
      have := ih (acc * 10 + (c.toNat - 48)) hr hb
      have ec : ((acc * 10 + (c.toNat - 48) : Nat) : Int) = (acc : Int) * 10 + ((c.toNat : Int) - 48) := by omega
      rw [ec] at this
      exact this
    · have hf := numR_false r acc
      rw [if_pos (by omega : (9223372036854775807 - ((c.toNat : Int) - 48)) / 10 < (acc : Int))]
      split
      · rename_i u hu
        split at hu
        · cases hu
        · split at hu
          · cases hu
          · have := uint_lo _ _ _ hu
            rw [if_neg (by omega)]; exact hf
      · exact hf
theorem numR_num {l : Bs} (hn : l ≠ []) (hd : AllD l) : (match numOf l with | some v => numR l 0 true = (v, true) | none => (numR l 0 true).2 = false) := by
  have h := numR_uint l 0 hd (by omega)
  unfold numOf
  cases l with
  | nil => exact absurd rfl hn
  | cons c r =>
    have hc := hd c (by simp)
    simp only [Lib.parseIntB]
    rw [if_neg (by omega : ¬ (c.toNat = 43 ∨ c.toNat = 45))]
    unfold Lib.parseUintB
    rw [if_neg (by simp)]
    simp only [show (2 ^ 64 - 1 : Nat) = 18446744073709551615 by decide, show (2 ^ (64 - 1) : Nat) = 9223372036854775808 by decide]
    cases hp : Lib.parseUintM 18446744073709551615 0 (c :: r)
    case ok u =>
      rw [hp] at h
      simp only at h ⊢
      by_cases hu : u < 9223372036854775808
      · rw [if_pos hu] at h
        rw [if_neg (by omega), if_neg (by omega)]
        simp only [show ¬ c.toNat = 45 by omega, if_false]
        exact h
      · rw [if_neg hu] at h
        rw [if_pos ⟨by omega, by omega⟩]
        exact h
    all_goals
      rw [hp] at h
      exact h
end Go.Proofs.YtilmmgkclijhjaaGreatDoor
