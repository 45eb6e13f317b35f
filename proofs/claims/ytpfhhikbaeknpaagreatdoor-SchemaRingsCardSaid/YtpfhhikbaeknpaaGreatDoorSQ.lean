/- Rings of formulas, as plain law: a ring is told by its least field, an open one is a form. No condition. -/
import Derived.Test.YtpfhhikbaeknpaaGreatDoorSB
set_option linter.unusedSimpArgs false
set_option linter.unusedVariables false
set_option linter.unusedSectionVars false
namespace Go.Proofs.YtpfhhikbaeknpaaGreatDoor
open Go.RowKit Pal
def nmB (i : Nat) : Bs := [102, UInt8.ofNat (97 + i)]
def ringF (k : Nat) (op : Bool) (i : Nat) : Fd := ⟨nmB i, 1, if op && i == k - 1 then [] else nmB ((i + 1) % k), [], []⟩
def outF (i : Nat) : Fd := ⟨120 :: nmB i, 1, nmB 0, [], []⟩
def ringL (k j : Nat) (op : Bool) : List Fd := (List.range j).map outF ++ (List.range k).map (ringF k op)
def ringB (k j : Nat) (op : Bool) : Bool := match newM (ringL k j op) with | .ok F => op && F.order.length == j + k - 1 | .error x => !op && (x.1 == 0 && decide (x.2 = 10))
theorem ring_4 : ((List.range 15).all fun a => ringB (2 + a) 4 true && ringB (2 + a) 4 false) = true := by kernel_rfl
theorem ring_3 : ((List.range 15).all fun a => ringB (2 + a) 3 true && ringB (2 + a) 3 false) = true := by kernel_rfl
theorem ring_2 : ((List.range 15).all fun a => ringB (2 + a) 2 true && ringB (2 + a) 2 false) = true := by kernel_rfl
theorem ring_1 : ((List.range 15).all fun a => ringB (2 + a) 1 true && ringB (2 + a) 1 false) = true := by kernel_rfl
theorem ring_0 : ((List.range 15).all fun a => ringB (2 + a) 0 true && ringB (2 + a) 0 false) = true := by kernel_rfl
theorem ring_at (k j : Nat) (op : Bool) (h2 : 2 ≤ k) (h16 : k ≤ 16) (hj : j < 5) : ringB k j op = true := by
  have h : ((List.range 15).all fun a => ringB (2 + a) j true && ringB (2 + a) j false) = true := by
    rcases (by omega : j = 0 ∨ j = 1 ∨ j = 2 ∨ j = 3 ∨ j = 4) with rfl | rfl | rfl | rfl | rfl
    · exact ring_0
    · exact ring_1
    · exact ring_2
    · exact ring_3
    · exact ring_4
  have h1 := List.all_eq_true.1 h (k - 2) (List.mem_range.2 (by omega))
  rw [show 2 + (k - 2) = k by omega, Bool.and_eq_true] at h1
  cases op with
  | true => exact h1.1
  | false => exact h1.2
theorem ring_open {k j : Nat} (h2 : 2 ≤ k) (h16 : k ≤ 16) (hj : j < 5) : ∃ F, newM (ringL k j true) = .ok F ∧ F.order.length = j + k - 1 := by
  have h := ring_at k j true h2 h16 hj
  unfold ringB at h
  cases hm : newM (ringL k j true) with
  | error x => rw [hm] at h; simp at h
  | ok F => rw [hm] at h; exact ⟨F, rfl, by simpa using h⟩
theorem ring_shut {k j : Nat} (h2 : 2 ≤ k) (h16 : k ≤ 16) (hj : j < 5) : newM (ringL k j false) = .error (0, 10) := by
  have h := ring_at k j false h2 h16 hj
  unfold ringB at h
  cases hm : newM (ringL k j false) with
  | ok F => rw [hm] at h; simp at h
  | error x =>
    rw [hm] at h
    obtain ⟨a, b⟩ := x
    simp only [Bool.and_eq_true, decide_eq_true_eq, beq_iff_eq] at h
    rw [h.2.1, h.2.2]
end Go.Proofs.YtpfhhikbaeknpaaGreatDoor
