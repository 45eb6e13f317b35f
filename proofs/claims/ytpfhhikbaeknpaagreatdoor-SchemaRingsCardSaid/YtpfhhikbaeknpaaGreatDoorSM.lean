/- The walk of palaverlaw00.Form: a form that may be, by a number. No condition. -/
import Derived.Test.YtpfhhikbaeknpaaGreatDoorSL
import Derived.Test.YtpfhhikbaeknpaaGreatDoorG0
set_option linter.unusedSimpArgs false
set_option linter.unusedVariables false
set_option linter.unusedSectionVars false
namespace Go.Proofs.YtpfhhikbaeknpaaGreatDoor
open Go.RowKit Pal
attribute [local go_sem ↓] Go.wp_at_zero Go.wp_at_succ
def form0 : List Fd := [⟨[97], 1, [], [97, 32, 62, 61, 32, 48], []⟩, ⟨[98], 1, [], [], []⟩, ⟨[115, 117, 109], 1, [97, 43, 98], [115, 117, 109, 32, 60, 32, 49, 48, 48], []⟩, ⟨[98, 105, 103], 2, [115, 117, 109, 32, 62, 32, 49, 48], [], []⟩, ⟨[110, 111, 116, 101], 3, [], [108, 101, 110, 40, 110, 111, 116, 101, 41, 32, 60, 32, 50, 48], [98, 105, 103]⟩]
def form1 : List Fd := [⟨[116, 111, 116, 97, 108], 1, [112, 114, 105, 99, 101, 32, 42, 32, 97, 109, 111, 117, 110, 116], [116, 111, 116, 97, 108, 32, 60, 61, 32, 49, 48, 48, 48], []⟩, ⟨[112, 114, 105, 99, 101], 1, [], [], []⟩, ⟨[97, 109, 111, 117, 110, 116], 1, [], [97, 109, 111, 117, 110, 116, 32, 62, 32, 48], []⟩, ⟨[99, 111, 117, 112, 111, 110], 3, [], [108, 101, 110, 40, 99, 111, 117, 112, 111, 110, 41, 32, 61, 32, 52], [97, 109, 111, 117, 110, 116, 32, 62, 32, 53]⟩]
def form2 : List Fd := [⟨[102, 105, 114, 115, 116], 3, [], [], []⟩, ⟨[108, 97, 115, 116], 3, [], [], []⟩, ⟨[102, 117, 108, 108], 3, [99, 97, 116, 40, 102, 105, 114, 115, 116, 44, 32, 99, 97, 116, 40, 34, 32, 34, 44, 32, 108, 97, 115, 116, 41, 41], [108, 101, 110, 40, 102, 117, 108, 108, 41, 32, 62, 32, 51], []⟩, ⟨[108, 111, 117, 100], 2, [], [], []⟩, ⟨[115, 104, 111, 117, 116], 3, [117, 112, 40, 102, 117, 108, 108, 41], [], [108, 111, 117, 100]⟩]
def form3 : List Fd := [⟨[119], 2, [122, 32, 62, 32, 51, 32, 124, 32, 120, 32, 61, 32, 48], [], []⟩, ⟨[120], 1, [], [], []⟩, ⟨[121], 1, [105, 102, 40, 104, 97, 115, 40, 120, 41, 44, 32, 120, 32, 37, 32, 55, 44, 32, 48, 41], [], []⟩, ⟨[122], 1, [49, 48, 48, 32, 47, 32, 121], [122, 32, 62, 32, 45, 53, 48], []⟩]
def form4 : List Fd := [⟨[110], 1, [], [110, 32, 60, 32, 53, 48], []⟩, ⟨[116], 3, [99, 117, 116, 40, 115, 44, 32, 110, 41], [], []⟩, ⟨[115], 3, [], [], []⟩, ⟨[102], 2, [116, 32, 61, 32, 115], [102], []⟩]
def formM (n : Int) : List Fd := if n % 5 = 0 then form0 else if n % 5 = 1 then form1 else if n % 5 = 2 then form2 else if n % 5 = 3 then form3 else form4
def blkPost (l : List Fd) (w : World) (e : Ending) (w' : World) : Prop := Below w.heap.size w w' ∧ ∃ b, e = .returned (.slice (some ⟨b, 0, none⟩) l.length l.length) ∧ w.heap.size ≤ b ∧ w'.heap[b]? = some (.cells (l.flatMap inCells).toArray 27 (0, 0))
set_option maxRecDepth 100000 in
set_option maxHeartbeats 2000000 in
theorem form_blk (n : Int) (w : World) (hn : -9223372036854775808 ≤ n ∧ n ≤ 9223372036854775807) : Calls Tryz.prog 14 #[.int .i64 n] w (blkPost (formM n) w) := by
  have HP := Lib.hid (fun w => place_any n 5 w hn (by omega) (by omega))
  obtain ⟨p, hp⟩ : ∃ p, n % 5 = p := ⟨_, rfl⟩
  have hp0 : 0 ≤ p ∧ p < 5 := by omega
  rw [hp] at HP
  have HM : Hid (formM n = if p = 0 then form0 else if p = 1 then form1 else if p = 2 then form2 else if p = 3 then form3 else form4) := Lib.hid (by unfold formM; rw [hp])
  unfold blkPost
  clear hp hn
  rcases (by omega : p = 0 ∨ p = 1 ∨ p = 2 ∨ p = 3 ∨ p = 4) with rfl | rfl | rfl | rfl | rfl
  · have HM2 : Hid (formM n = form0) := Lib.hid (by rw [HM.out]; rfl)
    have HFV := Lib.hid (heap_alloc_new w (.cells (form0.flatMap inCells).toArray 27))
    have HB := Lib.hid ((Below.refl w.heap.size w).alloc (Nat.le_refl _) (.cells (form0.flatMap inCells).toArray 27))
    clear HM hp0
    go_enter Tryz.func14, Tryz.ntmps14
    go_wp2_with fail
    refine (HP.out _).mono ?_
    rintro r W ⟨rfl, rfl⟩
    go_wp2
    try rw [Exit.noGoto_ret]
    go_ret
    rw [HM2.out]
    exact ⟨HB.out, _, rfl, Nat.le_refl _, HFV.out⟩
  · have HM2 : Hid (formM n = form1) := Lib.hid (by rw [HM.out]; rfl)
    have HFV := Lib.hid (heap_alloc_new w (.cells (form1.flatMap inCells).toArray 27))
    have HB := Lib.hid ((Below.refl w.heap.size w).alloc (Nat.le_refl _) (.cells (form1.flatMap inCells).toArray 27))
    clear HM hp0
    go_enter Tryz.func14, Tryz.ntmps14
    go_wp2_with fail
    refine (HP.out _).mono ?_
    rintro r W ⟨rfl, rfl⟩
    go_wp2
    try rw [Exit.noGoto_ret]
    go_ret
    rw [HM2.out]
    exact ⟨HB.out, _, rfl, Nat.le_refl _, HFV.out⟩
  · have HM2 : Hid (formM n = form2) := Lib.hid (by rw [HM.out]; rfl)
    have HFV := Lib.hid (heap_alloc_new w (.cells (form2.flatMap inCells).toArray 27))
    have HB := Lib.hid ((Below.refl w.heap.size w).alloc (Nat.le_refl _) (.cells (form2.flatMap inCells).toArray 27))
    clear HM hp0
    go_enter Tryz.func14, Tryz.ntmps14
    go_wp2_with fail
    refine (HP.out _).mono ?_
    rintro r W ⟨rfl, rfl⟩
    go_wp2
    try rw [Exit.noGoto_ret]
    go_ret
    rw [HM2.out]
    exact ⟨HB.out, _, rfl, Nat.le_refl _, HFV.out⟩
  · have HM2 : Hid (formM n = form3) := Lib.hid (by rw [HM.out]; rfl)
    have HFV := Lib.hid (heap_alloc_new w (.cells (form3.flatMap inCells).toArray 27))
    have HB := Lib.hid ((Below.refl w.heap.size w).alloc (Nat.le_refl _) (.cells (form3.flatMap inCells).toArray 27))
    clear HM hp0
    go_enter Tryz.func14, Tryz.ntmps14
    go_wp2_with fail
    refine (HP.out _).mono ?_
    rintro r W ⟨rfl, rfl⟩
    go_wp2
    try rw [Exit.noGoto_ret]
    go_ret
    rw [HM2.out]
    exact ⟨HB.out, _, rfl, Nat.le_refl _, HFV.out⟩
  · have HM2 : Hid (formM n = form4) := Lib.hid (by rw [HM.out]; rfl)
    have HFV := Lib.hid (heap_alloc_new w (.cells (form4.flatMap inCells).toArray 27))
    have HB := Lib.hid ((Below.refl w.heap.size w).alloc (Nat.le_refl _) (.cells (form4.flatMap inCells).toArray 27))
    clear HM hp0
    go_enter Tryz.func14, Tryz.ntmps14
    go_wp2_with fail
    refine (HP.out _).mono ?_
    rintro r W ⟨rfl, rfl⟩
    go_wp2
    try rw [Exit.noGoto_ret]
    go_ret
    rw [HM2.out]
    exact ⟨HB.out, _, rfl, Nat.le_refl _, HFV.out⟩
theorem formM_len (n : Int) : (formM n).length ≤ 5 := by
  unfold formM
  split
  · decide
  · split
    · decide
    · split
      · decide
      · split <;> decide
theorem form0_ok : (match newM form0 with | .ok _ => true | .error _ => false) = true := by kernel_rfl
theorem form1_ok : (match newM form1 with | .ok _ => true | .error _ => false) = true := by kernel_rfl
theorem form2_ok : (match newM form2 with | .ok _ => true | .error _ => false) = true := by kernel_rfl
theorem form3_ok : (match newM form3 with | .ok _ => true | .error _ => false) = true := by kernel_rfl
theorem form4_ok : (match newM form4 with | .ok _ => true | .error _ => false) = true := by kernel_rfl
theorem form_any (n : Int) (w : World) (hn : -9223372036854775808 ≤ n ∧ n ≤ 9223372036854775807) : Calls Tryz.prog 14 #[.int .i64 n] w (fdsPost (formM n) w) := by
  refine (form_blk n w hn).mono ?_
  rintro r W ⟨hb, b, rfl, _, h⟩
  have h5 := (formM_len n)
  exact ⟨hb, _, rfl, FdsV.lay _ _ h (by unfold maxLen; omega)⟩
theorem ok_of {l : List Fd} (h : (match newM l with | .ok _ => true | .error _ => false) = true) : ∃ F, newM l = .ok F := by
  cases hm : newM l with
  | error e => rw [hm] at h; cases h
  | ok F => exact ⟨F, rfl⟩
theorem formM_ok (n : Int) : ∃ F, newM (formM n) = .ok F := by
  unfold formM
  split
  · exact ok_of form0_ok
  · split
    · exact ok_of form1_ok
    · split
      · exact ok_of form2_ok
      · split
        · exact ok_of form3_ok
        · exact ok_of form4_ok
theorem formM_short (n : Int) : (formM n).length ≤ 5 ∧ 4 ≤ (formM n).length ∧ ∀ f ∈ formM n, Short f := by
  have hs : ∀ l : List Fd, (l.all fun f => decide (f.n.length ≤ 1000000) && (decide (f.fo.length ≤ 1000000) && (decide (f.ru.length ≤ 1000000) && (decide (f.sh.length ≤ 1000000) && (decide (-9223372036854775808 ≤ f.t) && decide (f.t ≤ 9223372036854775807)))))) = true → ∀ f ∈ l, Short f := by
    intro l h f hf
    have := List.all_eq_true.1 h f hf
    simp only [Bool.and_eq_true, decide_eq_true_eq] at this
    exact ⟨this.1, this.2.1, this.2.2.1, this.2.2.2.1, this.2.2.2.2⟩
  unfold formM
  split
  · exact ⟨by decide, by decide, hs _ (by kernel_rfl)⟩
  · split
    · exact ⟨by decide, by decide, hs _ (by kernel_rfl)⟩
    · split
      · exact ⟨by decide, by decide, hs _ (by kernel_rfl)⟩
      · split
        · exact ⟨by decide, by decide, hs _ (by kernel_rfl)⟩
        · exact ⟨by decide, by decide, hs _ (by kernel_rfl)⟩
end Go.Proofs.YtpfhhikbaeknpaaGreatDoor
