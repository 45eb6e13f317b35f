/- What two numbers come to by a sign: plain laws of EvalNumbers, EvalProducts. Conditions where they are said: both are an int64's. -/
import Derived.Test.YtdgcgogeidnmoaaGreatDoorE0
set_option linter.unusedSimpArgs false
set_option linter.unusedVariables false
set_option linter.unusedSectionVars false
namespace Go.Proofs.YtdgcgogeidnmoaaGreatDoor
open Go.RowKit Pal
abbrev R64 (x : Int) : Prop := -9223372036854775808 ≤ x ∧ x ≤ 9223372036854775807
theorem fitM_yes {x : Int} (h : R64 x) : fitM x = vInt x := if_pos h
theorem fitM_no {x : Int} (h : ¬ R64 x) : fitM x = vBad 1 := if_neg h
theorem look_a (a b : Int) : look [[97], [98]] [vInt a, vInt b] [97] = vInt a := by simp [look, okV, vInt]
theorem look_b (a b : Int) : look [[97], [98]] [vInt a, vInt b] [98] = vInt b := by simp [look, okV, vInt]
/-- What two numbers come to. -/
def twoV (op : Int) (a b : Int) : Val :=
  if op ≤ 11 then arith op a b
  else if op = 12 then vBool (decide (a = b))
  else if op = 13 then vBool (decide (a ≠ b))
  else if op = 14 then vBool (decide (a < b))
  else vBool (decide (a ≤ b))
theorem ev_ab (op : Nat) (h : 7 ≤ op ∧ op ≤ 15) (a b : Int) : evalM (twoX op [97] [98]) [[97], [98]] [vInt a, vInt b] = twoV op a b := by
  unfold evalM
  rw [if_pos (check_ab op (by omega)).1, ev_two, look_a, look_b]
  have hle : (decide (a < b) || decide (a = b)) = decide (a ≤ b) := by
    by_cases h : a ≤ b
    · rw [decide_eq_true h]
      by_cases h' : a < b
      · simp [h']
      · simp [show a = b by omega]
    · rw [decide_eq_false h, decide_eq_false (by omega), decide_eq_false (by omega)]; rfl
  rcases (by omega : op = 7 ∨ op = 8 ∨ op = 9 ∨ op = 10 ∨ op = 11 ∨ op = 12 ∨ op = 13 ∨ op = 14 ∨ op = 15) with rfl | rfl | rfl | rfl | rfl | rfl | rfl | rfl | rfl
  · rfl
  · rfl
  · rfl
  · rfl
  · rfl
  · simp [evOp, truthM, need, vInt, sameV, twoV]
  · simp [evOp, truthM, need, vInt, sameV, twoV]
  · simp [evOp, truthM, need, vInt, lessV, twoV]
  · have e : evOp (look [[97], [98]] [vInt a, vInt b]) ((15 : Nat) : Int) 0 [] [.mk 4 0 [97] [], .mk 4 0 [98] []] (vInt a) (vInt b) vNil = vBool (decide (a < b) || decide (a = b)) := by
      simp [evOp, truthM, need, vInt, sameV, lessV]
    rw [e, hle]
    rfl
theorem wrap64_eq {x : Int} (h : R64 x) : wrap64 x = x := by unfold wrap64; omega
theorem wrap64_in (x : Int) : R64 (wrap64 x) := by unfold wrap64 R64; omega
theorem tdiv_in {a b : Int} (ha : R64 a) (h : ¬ (a = -9223372036854775808 ∧ b = -1)) : R64 (a.tdiv b) := by
  have h1 : (a.tdiv b).natAbs ≤ a.natAbs := by rw [Int.natAbs_tdiv]; exact Nat.div_le_self _ _
  by_cases hm : a = -9223372036854775808
  · subst hm
    by_cases hp : (-9223372036854775808 : Int).tdiv b = 9223372036854775808
    · exfalso
      have hb : b ≠ 0 := fun hb => by subst hb; rw [Int.tdiv_zero] at hp; omega
      have h3 := Int.mul_tdiv_add_tmod (-9223372036854775808) b
      rw [hp] at h3
      have h4 : ((-9223372036854775808 : Int).tmod b).natAbs < b.natAbs := by rw [Int.natAbs_tmod]; exact Nat.mod_lt _ (by omega)
      have h5 : ((-9223372036854775808 : Int).tmod b).natAbs ≤ 9223372036854775808 := by rw [Int.natAbs_tmod]; exact Nat.mod_le _ _
      generalize (-9223372036854775808 : Int).tmod b = t at *
      omega
    · omega
  · omega
/-- A product, divided by the one, is the other: just where it is a number. -/
theorem prod_fits {a b : Int} (ha : R64 a) (hb : R64 b) (h0 : b ≠ 0) : (wrap64 (a * b)).tdiv b = a ↔ R64 (a * b) := by
  constructor
  · intro h
    have h1 := Int.mul_tdiv_add_tmod (wrap64 (a * b)) b
    rw [h, Int.mul_comm b a] at h1
    have h2 : ((wrap64 (a * b)).tmod b).natAbs < b.natAbs := by rw [Int.natAbs_tmod]; exact Nat.mod_lt _ (by omega)
    generalize (wrap64 (a * b)).tmod b = t at *
    generalize a * b = x at *
    unfold wrap64 at h1
    omega
  · intro h
    rw [wrap64_eq h, Int.mul_tdiv_cancel _ h0]
theorem prod_go {a b : Int} (ha : R64 a) (hb : R64 b) (h0 : b ≠ 0) (hs : ¬ (b = -1 ∧ a = -9223372036854775808)) : wrap64 ((wrap64 (a * b)).tdiv b) = (wrap64 (a * b)).tdiv b := by
  refine wrap64_eq (tdiv_in (wrap64_in _) ?_)
  rintro ⟨h1, rfl⟩
  apply hs
  refine ⟨rfl, ?_⟩
  have e : a * -1 = -a := by omega
  rw [e] at h1
  unfold wrap64 at h1
  omega
end Go.Proofs.YtdgcgogeidnmoaaGreatDoor
