/- The walks of palaverref08.of, typ, Of. Conditions: the expression is fine, the types are numbers. -/
import Derived.Test.YtdgcgogeidnmoaaGreatDoorTy
import Derived.Test.YtdgcgogeidnmoaaGreatDoorR4
import Derived.BigQuiet
import Derived.Deep.QuietTactic
set_option linter.unusedSimpArgs false
set_option linter.unusedVariables false
set_option linter.unusedSectionVars false
namespace Go.Proofs.YtdgcgogeidnmoaaGreatDoor
open Go.RowKit Pal
theorem below8 (w : World) (n : Nat) : Below w.heap.size w (w.drewN n) := ⟨rfl, rfl, rfl, Nat.le_refl _, fun _ _ => rfl⟩
theorem ints2 {w : World} {tv : Value} {a b : Int} (hT : IntsV (gh w) tv [a, b]) : ∃ b0 off tc, tv = .slice (some ⟨b0, off, none⟩) 2 tc ∧ w.cell? ⟨b0, off, none⟩ = some (.int .i64 a) ∧ w.cell? ⟨b0, off + 1, none⟩ = some (.int .i64 b) := by
  obtain ⟨ta, tc, rfl, -⟩ := intsV_form hT
  obtain ⟨b0, off, rfl, c0⟩ := intsV_at (j := 0) hT rfl
  obtain ⟨b1, off1, hx, c1⟩ := intsV_at (j := 1) hT rfl
  simp only [Option.some.injEq, Addr.mk.injEq, and_true] at hx
  obtain ⟨rfl, rfl⟩ := hx
  exact ⟨b0, off, tc, rfl, c0, c1⟩
theorem ints3 {w : World} {tv : Value} {a b c : Int} (hT : IntsV (gh w) tv [a, b, c]) : ∃ b0 off tc, tv = .slice (some ⟨b0, off, none⟩) 3 tc ∧ w.cell? ⟨b0, off, none⟩ = some (.int .i64 a) ∧ w.cell? ⟨b0, off + 1, none⟩ = some (.int .i64 b) ∧ w.cell? ⟨b0, off + 2, none⟩ = some (.int .i64 c) := by
  obtain ⟨ta, tc, rfl, -⟩ := intsV_form hT
  obtain ⟨b0, off, rfl, c0⟩ := intsV_at (j := 0) hT rfl
  obtain ⟨b1, off1, hx, c1⟩ := intsV_at (j := 1) hT rfl
  obtain ⟨b2, off2, hy, c2⟩ := intsV_at (j := 2) hT rfl
  simp only [Option.some.injEq, Addr.mk.injEq, and_true] at hx hy
  obtain ⟨rfl, rfl⟩ := hx
  obtain ⟨rfl, rfl⟩ := hy
  exact ⟨b0, off, tc, rfl, c0, c1, c2⟩
theorem ints1 {w : World} {tv : Value} {a : Int} (hT : IntsV (gh w) tv [a]) : ∃ b0 off tc, tv = .slice (some ⟨b0, off, none⟩) 1 tc ∧ w.cell? ⟨b0, off, none⟩ = some (.int .i64 a) := by
  obtain ⟨ta, tc, rfl, -⟩ := intsV_form hT
  obtain ⟨b0, off, rfl, c0⟩ := intsV_at (j := 0) hT rfl
  exact ⟨b0, off, tc, rfl, c0⟩
set_option maxRecDepth 1000000 in
set_option maxHeartbeats 4000000 in
/-- Those that look at their kids' types one by one. -/
theorem of_eq (op a b : Int) (tv : Value) (w : World) (hT : IntsV (gh w) tv [a, b]) (ho : op = 12 ∨ op = 13) :
    Calls Tryz.prog 80 #[.int .i64 op, tv] w (ofPost8 op [a, b] w) := by
  obtain ⟨b0, off, tc, rfl, c0, c1⟩ := ints2 hT
  have HM : Hid (made op ([a, b].getD 0 0) ([a, b].getD 1 0) ([a, b].getD 2 0) = if a = b then 2 else 0) := Lib.hid (by rcases ho with rfl | rfl <;> rfl)
  clear hT
  by_cases h : a = b
  · have HM2 : Hid (made op ([a, b].getD 0 0) ([a, b].getD 1 0) ([a, b].getD 2 0) = 2) := Lib.hid (by rw [HM.out, if_pos h])
    have q : (a == b) = true := by simp [h]
    clear h HM
    rcases ho with rfl | rfl
    all_goals
      go_enter Tryz.func80, Tryz.ntmps80
      go_wp2
      go_quiet ((fail))
      go_wp2
      go_ret
      exact ⟨by rw [HM2.out]; rfl, below8 _ _⟩
  · have HM2 : Hid (made op ([a, b].getD 0 0) ([a, b].getD 1 0) ([a, b].getD 2 0) = 0) := Lib.hid (by rw [HM.out, if_neg h])
    have q : (a == b) = false := beq_eq_false_iff_ne.2 h
    clear h HM
    rcases ho with rfl | rfl
    all_goals
      go_enter Tryz.func80, Tryz.ntmps80
      go_wp2
      go_quiet ((fail))
      go_wp2
      go_ret
      exact ⟨by rw [HM2.out]; rfl, below8 _ _⟩
set_option maxRecDepth 1000000 in
set_option maxHeartbeats 4000000 in
theorem of_less (op a b : Int) (tv : Value) (w : World) (hT : IntsV (gh w) tv [a, b]) (ho : op = 14 ∨ op = 15) (ha : 1 ≤ a ∧ a ≤ 3) (hb : 1 ≤ b ∧ b ≤ 3) :
    Calls Tryz.prog 80 #[.int .i64 op, tv] w (ofPost8 op [a, b] w) := by
  have HM : Hid (made op ([a, b].getD 0 0) ([a, b].getD 1 0) ([a, b].getD 2 0) = if a = b ∧ a ≠ 2 then 2 else 0) := Lib.hid (by rcases ho with rfl | rfl <;> rfl)
  have H1 := Lib.hid (refAll_any 1 [a, b] tv w hT)
  have H3 := Lib.hid (refAll_any 3 [a, b] tv w hT)
  rw [allT_2] at H1 H3
  clear hT
  by_cases h1 : a = 1 ∧ b = 1
  · have HM2 : Hid (made op ([a, b].getD 0 0) ([a, b].getD 1 0) ([a, b].getD 2 0) = 2) := Lib.hid (by rw [HM.out, if_pos (by omega)])
    rw [decide_eq_true h1] at H1
    clear h1 HM H3 ha hb
    rcases ho with rfl | rfl
    all_goals
      go_enter Tryz.func80, Tryz.ntmps80
      go_wp2_with fail
      refine H1.out.mono ?_
      rintro e W ⟨rfl, rfl⟩
      go_wp2
      go_ret
      exact ⟨by rw [HM2.out]; rfl, Below.refl _ _⟩
  rw [decide_eq_false h1] at H1
  by_cases h3 : a = 3 ∧ b = 3
  · have HM2 : Hid (made op ([a, b].getD 0 0) ([a, b].getD 1 0) ([a, b].getD 2 0) = 2) := Lib.hid (by rw [HM.out, if_pos (by omega)])
    rw [decide_eq_true h3] at H3
    clear h1 h3 HM ha hb
    rcases ho with rfl | rfl
    all_goals
      go_enter Tryz.func80, Tryz.ntmps80
      go_wp2_with fail
      refine H1.out.mono ?_
      rintro e W ⟨rfl, rfl⟩
      go_wp2_with fail
      refine H3.out.mono ?_
      rintro e W ⟨rfl, rfl⟩
      go_wp2
      go_ret
      exact ⟨by rw [HM2.out]; rfl, Below.refl _ _⟩
  · have HM2 : Hid (made op ([a, b].getD 0 0) ([a, b].getD 1 0) ([a, b].getD 2 0) = 0) := Lib.hid (by rw [HM.out, if_neg (by omega)])
    rw [decide_eq_false h3] at H3
    clear h1 h3 HM ha hb
    rcases ho with rfl | rfl
    all_goals
      go_enter Tryz.func80, Tryz.ntmps80
      go_wp2_with fail
      refine H1.out.mono ?_
      rintro e W ⟨rfl, rfl⟩
      go_wp2_with fail
      refine H3.out.mono ?_
      rintro e W ⟨rfl, rfl⟩
      go_wp2
      go_ret
      exact ⟨by rw [HM2.out]; rfl, Below.refl _ _⟩
set_option maxRecDepth 1000000 in
set_option maxHeartbeats 4000000 in
theorem of_if (a b c : Int) (tv : Value) (w : World) (hT : IntsV (gh w) tv [a, b, c]) :
    Calls Tryz.prog 80 #[.int .i64 18, tv] w (ofPost8 18 [a, b, c] w) := by
  obtain ⟨b0, off, tc, rfl, c0, c1, c2⟩ := ints3 hT
  have HM : Hid (made 18 ([a, b, c].getD 0 0) ([a, b, c].getD 1 0) ([a, b, c].getD 2 0) = if a = 2 ∧ b = c then b else 0) := Lib.hid rfl
  clear hT
  by_cases h : a = 2
  · have q : (a == 2) = true := by simp [h]
    by_cases h' : b = c
    · have HM2 : Hid (made 18 ([a, b, c].getD 0 0) ([a, b, c].getD 1 0) ([a, b, c].getD 2 0) = b) := Lib.hid (by rw [HM.out, if_pos ⟨h, h'⟩])
      have q' : (b == c) = true := by simp [h']
      clear h h' HM
      go_enter Tryz.func80, Tryz.ntmps80
      go_wp2
      go_quiet ((fail))
      go_wp2
      go_ret
      exact ⟨by rw [HM2.out]; rfl, below8 _ _⟩
    · have HM2 : Hid (made 18 ([a, b, c].getD 0 0) ([a, b, c].getD 1 0) ([a, b, c].getD 2 0) = 0) := Lib.hid (by rw [HM.out, if_neg (by omega)])
      have q' : (b == c) = false := beq_eq_false_iff_ne.2 h'
      clear h h' HM
      go_enter Tryz.func80, Tryz.ntmps80
      go_wp2
      go_quiet ((fail))
      go_wp2
      go_ret
      exact ⟨by rw [HM2.out]; rfl, below8 _ _⟩
  · have HM2 : Hid (made 18 ([a, b, c].getD 0 0) ([a, b, c].getD 1 0) ([a, b, c].getD 2 0) = 0) := Lib.hid (by rw [HM.out, if_neg (by omega)])
    have q : (a == 2) = false := beq_eq_false_iff_ne.2 h
    clear h HM
    go_enter Tryz.func80, Tryz.ntmps80
    go_wp2
    go_quiet ((fail))
    go_wp2
    go_ret
    exact ⟨by rw [HM2.out]; rfl, below8 _ _⟩
set_option maxRecDepth 1000000 in
set_option maxHeartbeats 4000000 in
theorem of_len (a : Int) (tv : Value) (w : World) (hT : IntsV (gh w) tv [a]) :
    Calls Tryz.prog 80 #[.int .i64 19, tv] w (ofPost8 19 [a] w) := by
  obtain ⟨b0, off, tc, rfl, c0⟩ := ints1 hT
  have HM : Hid (made 19 ([a].getD 0 0) ([a].getD 1 0) ([a].getD 2 0) = if a = 3 then 1 else 0) := Lib.hid rfl
  clear hT
  by_cases h : a = 3
  · have HM2 : Hid (made 19 ([a].getD 0 0) ([a].getD 1 0) ([a].getD 2 0) = 1) := Lib.hid (by rw [HM.out, if_pos h])
    have q : (a == 3) = true := by simp [h]
    clear h HM
    go_enter Tryz.func80, Tryz.ntmps80
    go_wp2
    go_ret
    exact ⟨by rw [HM2.out]; rfl, Below.refl _ _⟩
  · have HM2 : Hid (made 19 ([a].getD 0 0) ([a].getD 1 0) ([a].getD 2 0) = 0) := Lib.hid (by rw [HM.out, if_neg h])
    have q : (a == 3) = false := beq_eq_false_iff_ne.2 h
    clear h HM
    go_enter Tryz.func80, Tryz.ntmps80
    go_wp2
    go_ret
    exact ⟨by rw [HM2.out]; rfl, Below.refl _ _⟩
set_option maxRecDepth 1000000 in
set_option maxHeartbeats 4000000 in
theorem of_cut (a b : Int) (tv : Value) (w : World) (hT : IntsV (gh w) tv [a, b]) :
    Calls Tryz.prog 80 #[.int .i64 21, tv] w (ofPost8 21 [a, b] w) := by
  obtain ⟨b0, off, tc, rfl, c0, c1⟩ := ints2 hT
  have HM : Hid (made 21 ([a, b].getD 0 0) ([a, b].getD 1 0) ([a, b].getD 2 0) = if a = 3 ∧ b = 1 then 3 else 0) := Lib.hid rfl
  clear hT
  by_cases h : a = 3
  · have q : (a == 3) = true := by simp [h]
    by_cases h' : b = 1
    · have HM2 : Hid (made 21 ([a, b].getD 0 0) ([a, b].getD 1 0) ([a, b].getD 2 0) = 3) := Lib.hid (by rw [HM.out, if_pos ⟨h, h'⟩])
      have q' : (b == 1) = true := by simp [h']
      clear h h' HM
      go_enter Tryz.func80, Tryz.ntmps80
      go_wp2
      go_ret
      exact ⟨by rw [HM2.out]; rfl, Below.refl _ _⟩
    · have HM2 : Hid (made 21 ([a, b].getD 0 0) ([a, b].getD 1 0) ([a, b].getD 2 0) = 0) := Lib.hid (by rw [HM.out, if_neg (by omega)])
      have q' : (b == 1) = false := beq_eq_false_iff_ne.2 h'
      clear h h' HM
      go_enter Tryz.func80, Tryz.ntmps80
      go_wp2
      go_ret
      exact ⟨by rw [HM2.out]; rfl, Below.refl _ _⟩
  · have HM2 : Hid (made 21 ([a, b].getD 0 0) ([a, b].getD 1 0) ([a, b].getD 2 0) = 0) := Lib.hid (by rw [HM.out, if_neg (by omega)])
    have q : (a == 3) = false := beq_eq_false_iff_ne.2 h
    clear h HM
    go_enter Tryz.func80, Tryz.ntmps80
    go_wp2
    go_ret
    exact ⟨by rw [HM2.out]; rfl, Below.refl _ _⟩
set_option maxRecDepth 1000000 in
set_option maxHeartbeats 4000000 in
theorem of_has (ts : List Int) (tv : Value) (w : World) :
    Calls Tryz.prog 80 #[.int .i64 22, tv] w (ofPost8 22 ts w) := by
  have HM : Hid (made 22 (ts.getD 0 0) (ts.getD 1 0) (ts.getD 2 0) = 2) := Lib.hid rfl
  go_enter Tryz.func80, Tryz.ntmps80
  go_wp2
  go_ret
  exact ⟨by rw [HM.out]; rfl, Below.refl _ _⟩
theorem arity_cases {op : Int} {n : Nat} (h : (n : Int) = arity op) (h5 : ¬ (op = 1 ∨ op = 2 ∨ op = 3 ∨ op = 4)) :
    (n = 1 ∧ (op = 5 ∨ op = 6 ∨ op = 19 ∨ op = 22 ∨ op = 23)) ∨ (n = 2 ∧ (7 ≤ op ∧ op ≤ 17 ∨ op = 20 ∨ op = 21)) ∨ (n = 3 ∧ op = 18) := by
  unfold arity at h
  split at h
  · omega
  · split at h
    · omega
    · split at h
      · omega
      · split at h
        · omega
        · omega
theorem of8_any (op : Int) (ts : List Int) (tv : Value) (w : World) (hT : IntsV (gh w) tv ts) (hl : (ts.length : Int) = arity op) (h5 : ¬ (op = 1 ∨ op = 2 ∨ op = 3 ∨ op = 4)) (h3 : ∀ t ∈ ts, 1 ≤ t ∧ t ≤ 3) :
    Calls Tryz.prog 80 #[.int .i64 op, tv] w (ofPost8 op ts w) := by
  rcases arity_cases hl h5 with ⟨hn, ho⟩ | ⟨hn, ho⟩ | ⟨hn, ho⟩
  · match ts, hn, hT, h3 with
    | [a], _, hT, h3 =>
      rcases ho with rfl | rfl | rfl | rfl | rfl
      · exact of_one 5 1 1 [a] tv w hT (.inl ⟨by decide, rfl, rfl⟩) (by rw [allT_1]; simp [made])
      · exact of_one 6 2 2 [a] tv w hT (.inr (.inl ⟨by decide, rfl, rfl⟩)) (by rw [allT_1]; simp [made])
      · exact of_len a tv w hT
      · exact of_has [a] tv w
      · exact of_one 23 3 3 [a] tv w hT (.inr (.inr ⟨by decide, rfl, rfl⟩)) (by rw [allT_1]; simp [made])
  · match ts, hn, hT, h3 with
    | [a, b], _, hT, h3 =>
      have ha := h3 a (by simp)
      have hb := h3 b (by simp)
      rcases (by omega : op = 7 ∨ op = 8 ∨ op = 9 ∨ op = 10 ∨ op = 11 ∨ op = 12 ∨ op = 13 ∨ op = 14 ∨ op = 15 ∨ op = 16 ∨ op = 17 ∨ op = 20 ∨ op = 21) with rfl | rfl | rfl | rfl | rfl | rfl | rfl | rfl | rfl | rfl | rfl | rfl | rfl
      · exact of_one 7 1 1 [a, b] tv w hT (.inl ⟨by decide, rfl, rfl⟩) (by rw [allT_2]; simp [made])
      · exact of_one 8 1 1 [a, b] tv w hT (.inl ⟨by decide, rfl, rfl⟩) (by rw [allT_2]; simp [made])
      · exact of_one 9 1 1 [a, b] tv w hT (.inl ⟨by decide, rfl, rfl⟩) (by rw [allT_2]; simp [made])
      · exact of_one 10 1 1 [a, b] tv w hT (.inl ⟨by decide, rfl, rfl⟩) (by rw [allT_2]; simp [made])
      · exact of_one 11 1 1 [a, b] tv w hT (.inl ⟨by decide, rfl, rfl⟩) (by rw [allT_2]; simp [made])
      · exact of_eq 12 a b tv w hT (.inl rfl)
      · exact of_eq 13 a b tv w hT (.inr rfl)
      · exact of_less 14 a b tv w hT (.inl rfl) ha hb
      · exact of_less 15 a b tv w hT (.inr rfl) ha hb
      · exact of_one 16 2 2 [a, b] tv w hT (.inr (.inl ⟨by decide, rfl, rfl⟩)) (by rw [allT_2]; simp [made])
      · exact of_one 17 2 2 [a, b] tv w hT (.inr (.inl ⟨by decide, rfl, rfl⟩)) (by rw [allT_2]; simp [made])
      · exact of_one 20 3 3 [a, b] tv w hT (.inr (.inr ⟨by decide, rfl, rfl⟩)) (by rw [allT_2]; simp [made])
      · exact of_cut a b tv w hT
  · match ts, hn, hT, h3 with
    | [a, b, c], _, hT, h3 =>
      subst ho
      exact of_if a b c tv w hT
end Go.Proofs.YtdgcgogeidnmoaaGreatDoor
