/- The walk of palaverlaw09.EvalNumbers, put together. Conditions: the tables hold what they are laid with; both numbers are an int64's. -/
import Derived.Test.YtdgcgogeidnmoaaGreatDoorE17a
import Derived.Test.YtdgcgogeidnmoaaGreatDoorE17b
import Derived.Test.YtdgcgogeidnmoaaGreatDoorE17c
import Derived.Test.YtdgcgogeidnmoaaGreatDoorE17d
set_option linter.unusedSimpArgs false
set_option linter.unusedVariables false
set_option linter.unusedSectionVars false
namespace Go.Proofs.YtdgcgogeidnmoaaGreatDoor
open Go.RowKit Pal
theorem twoAt_of {op : Nat} {a b k n : Int} (h : 7 ≤ op ∧ op ≤ 15) (ha : R64 a) (hb : R64 b) (e : twoV op a b = ⟨k, n, []⟩) : Hid (TwoAt op a b k n) := Lib.hid (fun w hL => by
  have := two_any op a b w h ha hb hL
  rw [e] at this
  exact this)
def bi1 (b : Bool) : Int := if b then 1 else 0
theorem cmp_of {a b : Int} (op : Int) (h : 12 ≤ op ∧ op ≤ 15) : twoV op a b = ⟨2, (twoV op a b).n, []⟩ := by
  rcases (by omega : op = 12 ∨ op = 13 ∨ op = 14 ∨ op = 15) with rfl | rfl | rfl | rfl <;> rfl
theorem numbers_walk (a b : Int) (w : World) (hL : Lay2 w) (ha : R64 a) (hb : R64 b) : Calls Tryz.prog 11 #[.int .i64 a, .int .i64 b] w (yesPost w) := by
  have hl := hL.lay
  have n0 : ∀ {x y : Int}, ¬ x = y → (x == y) = false := fun h => beq_eq_false_iff_ne.2 h
  have y0 : ∀ {x y : Int}, x = y → (x == y) = true := fun h => beq_iff_eq.2 h
  have s7 : twoV ((7 : Nat) : Int) a b = fitM (a + b) := rfl
  have s8 : twoV ((8 : Nat) : Int) a b = fitM (a - b) := rfl
  have C8s : R64 (a + b) → Hid (TwoAt 8 (a + b) b 1 a) := fun h => twoAt_of (op := 8) (by omega) h hb (by
    have e : twoV ((8 : Nat) : Int) (a + b) b = fitM (a + b - b) := rfl
    rw [e, show a + b - b = a by omega, fitM_yes ha]; rfl)
  have c7y : R64 (a + b) → Hid (TwoAt 7 a b 1 (a + b)) := fun h => twoAt_of (op := 7) (by omega) ha hb (by rw [s7, fitM_yes h]; rfl)
  have c7n : ¬ R64 (a + b) → Hid (TwoAt 7 a b 4 1) := fun h => twoAt_of (op := 7) (by omega) ha hb (by rw [s7, fitM_no h]; rfl)
  have c8y : R64 (a - b) → Hid (TwoAt 8 a b 1 (a - b)) := fun h => twoAt_of (op := 8) (by omega) ha hb (by rw [s8, fitM_yes h]; rfl)
  have c8n : ¬ R64 (a - b) → Hid (TwoAt 8 a b 4 1) := fun h => twoAt_of (op := 8) (by omega) ha hb (by rw [s8, fitM_no h]; rfl)
  by_cases hb0 : b = 0
  · have hS : R64 (a + b) := by subst hb0; rw [Int.add_zero]; exact ha
    have hD : R64 (a - b) := by subst hb0; rw [Int.sub_zero]; exact ha
    have C10 : Hid (TwoAt 10 a b 4 2) := twoAt_of (op := 10) (by omega) ha hb (by subst hb0; simp [twoV, arith, vBad])
    have C11 : Hid (TwoAt 11 a b 4 2) := twoAt_of (op := 11) (by omega) ha hb (by subst hb0; simp [twoV, arith, vBad])
    exact num_b0 a b (a + b) (a - b) w hl rfl (wrap64_eq hS) (C8s hS) rfl (wrap64_eq hD) (y0 hb0) (c7y hS) (c8y hD) C10 C11
  by_cases hsp : a = -9223372036854775808 ∧ b = -1
  · obtain ⟨h1, h2⟩ := hsp
    have hS : ¬ R64 (a + b) := by subst h1 h2; unfold R64; omega
    have hD : R64 (a - b) := by subst h1 h2; unfold R64; omega
    have C10 : Hid (TwoAt 10 a b 4 1) := twoAt_of (op := 10) (by omega) ha hb (by subst h1 h2; rfl)
    have C11 : Hid (TwoAt 11 a b 1 0) := twoAt_of (op := 11) (by omega) ha hb (by subst h1 h2; rfl)
    exact num_min a b (a - b) w hl (decide_eq_true (by omega)) (decide_eq_true (by omega)) rfl (wrap64_eq hD) (n0 hb0) (y0 h1) (y0 h2) (c7n hS) (c8y hD) C10 C11
  obtain ⟨Q, hQ⟩ : ∃ Q, a.tdiv b = Q := ⟨_, rfl⟩
  obtain ⟨M, hM⟩ : ∃ M, a.tmod b = M := ⟨_, rfl⟩
  have hin := tdiv_in ha hsp
  have hq : wrap64 (a.tdiv b) = Q := by rw [wrap64_eq hin, hQ]
  have hq2 : IntKind.i64.wrap (a.tdiv b) = Q := by rw [IntKind.wrap_i64]; unfold wrap64 at hq; exact hq
  have C10 : Hid (TwoAt 10 a b 1 Q) := twoAt_of (op := 10) (by omega) ha hb (by
    have e : twoV ((10 : Nat) : Int) a b = fitM (a.tdiv b) := by simp [twoV, arith, hb0]
    rw [e, fitM_yes hin, hQ]; rfl)
  have C11 : Hid (TwoAt 11 a b 1 M) := twoAt_of (op := 11) (by omega) ha hb (by
    have e : twoV ((11 : Nat) : Int) a b = vInt (a.tmod b) := by simp [twoV, arith, hb0]
    rw [e, hM]; rfl)
  have CC : Hid (∀ op, 12 ≤ op ∧ op ≤ 15 → TwoAt op a b 2 ((fun op => (twoV op a b).n) op)) := Lib.hid (fun op ho => by
    obtain ⟨o, rfl⟩ : ∃ o : Nat, op = o := ⟨op.toNat, by omega⟩
    exact (twoAt_of (op := o) (by omega) ha hb (cmp_of _ ho)).out)
  have TT : Hid (∀ bb, TruthAt bb (bi1 bb)) := Lib.hid (fun bb w => truth9_any bb w)
  have e14 : (fun op => (twoV op a b).n) 14 = bi1 (decide (a < b)) := rfl
  have e15 : (fun op => (twoV op a b).n) 15 = bi1 (decide (a ≤ b)) := rfl
  have e12 : (fun op => (twoV op a b).n) 12 = bi1 (a == b) := rfl
  have e13 : (fun op => (twoV op a b).n) 13 = bi1 (a != b) := by
    show (if decide (a ≠ b) then (1 : Int) else 0) = bi1 (a != b)
    unfold bi1
    by_cases h : a = b
    · simp [h]
    · simp [h]
  by_cases hmin : a = -9223372036854775808
  · have hb1 : ¬ b = -1 := fun h => hsp ⟨hmin, h⟩
    by_cases hneg : b < 0
    · have hS : ¬ R64 (a + b) := by subst hmin; unfold R64; omega
      have hD : R64 (a - b) := by subst hmin; unfold R64 at *; omega
      exact num_mgoit a b (a - b) Q M (decide (a < b)) (decide (a ≤ b)) (a == b) (a != b) (fun op => (twoV op a b).n) bi1 w hl (decide_eq_true (by omega)) (decide_eq_true hneg) rfl (wrap64_eq hD) (y0 hmin) (n0 hb1) hb0 hq hq2 hM (n0 hb0) rfl rfl rfl rfl CC TT e14 e15 e12 e13 (c7n hS) (c8y hD) C10 C11
    · have hS : R64 (a + b) := by subst hmin; unfold R64 at *; omega
      have hD : ¬ R64 (a - b) := by subst hmin; unfold R64; omega
      exact num_mgiotf a b (a + b) Q M (decide (a < b)) (decide (a ≤ b)) (a == b) (a != b) (fun op => (twoV op a b).n) bi1 w hl rfl (wrap64_eq hS) (C8s hS) (decide_eq_true (by omega)) (decide_eq_false hneg) (y0 hmin) (n0 hb1) hb0 hq hq2 hM (n0 hb0) rfl rfl rfl rfl CC TT e14 e15 e12 e13 (c7y hS) (c8n hD) C10 C11
  by_cases hS : R64 (a + b)
  · by_cases hD : R64 (a - b)
    · exact num_gii a b (a + b) (a - b) Q M (decide (a < b)) (decide (a ≤ b)) (a == b) (a != b) (fun op => (twoV op a b).n) bi1 w hl rfl (wrap64_eq hS) (C8s hS) rfl (wrap64_eq hD) (n0 hmin) hb0 hq hq2 hM (n0 hb0) rfl rfl rfl rfl CC TT e14 e15 e12 e13 (c7y hS) (c8y hD) C10 C11
    · by_cases hneg : a < 0
      · have hnb : ¬ b < 0 := by unfold R64 at *; omega
        exact num_giotf a b (a + b) Q M (decide (a < b)) (decide (a ≤ b)) (a == b) (a != b) (fun op => (twoV op a b).n) bi1 w hl rfl (wrap64_eq hS) (C8s hS) (decide_eq_true hneg) (decide_eq_false hnb) (n0 hmin) hb0 hq hq2 hM (n0 hb0) rfl rfl rfl rfl CC TT e14 e15 e12 e13 (c7y hS) (c8n hD) C10 C11
      · have hnb : b < 0 := by unfold R64 at *; omega
        exact num_gioft a b (a + b) Q M (decide (a < b)) (decide (a ≤ b)) (a == b) (a != b) (fun op => (twoV op a b).n) bi1 w hl rfl (wrap64_eq hS) (C8s hS) (decide_eq_false hneg) (decide_eq_true hnb) (n0 hmin) hb0 hq hq2 hM (n0 hb0) rfl rfl rfl rfl CC TT e14 e15 e12 e13 (c7y hS) (c8n hD) C10 C11
  · by_cases hneg : a < 0
    · have hnb : b < 0 := by unfold R64 at *; omega
      have hD : R64 (a - b) := by unfold R64 at *; omega
      exact num_goit a b (a - b) Q M (decide (a < b)) (decide (a ≤ b)) (a == b) (a != b) (fun op => (twoV op a b).n) bi1 w hl (decide_eq_true hneg) (decide_eq_true hnb) rfl (wrap64_eq hD) (n0 hmin) hb0 hq hq2 hM (n0 hb0) rfl rfl rfl rfl CC TT e14 e15 e12 e13 (c7n hS) (c8y hD) C10 C11
    · have hnb : ¬ b < 0 := by unfold R64 at *; omega
      have hD : R64 (a - b) := by unfold R64 at *; omega
      exact num_goif a b (a - b) Q M (decide (a < b)) (decide (a ≤ b)) (a == b) (a != b) (fun op => (twoV op a b).n) bi1 w hl (decide_eq_false hneg) (decide_eq_false hnb) rfl (wrap64_eq hD) (n0 hmin) hb0 hq hq2 hM (n0 hb0) rfl rfl rfl rfl CC TT e14 e15 e12 e13 (c7n hS) (c8y hD) C10 C11
end Go.Proofs.YtdgcgogeidnmoaaGreatDoor
