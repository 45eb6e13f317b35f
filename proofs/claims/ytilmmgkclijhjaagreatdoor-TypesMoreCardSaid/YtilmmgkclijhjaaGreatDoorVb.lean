/- The walks of lex.Word, value.text, value.Check, parse.kids. The walk of value.Check. The walk of lex.Name. Expressions in memory. No condition. The walk of parse.alone. The walks of parse.holds, parse.Check. The state of the program's parser in memory. No condition. -/
import Derived.Test.YtilmmgkclijhjaaGreatDoorVa
import Derived.Test.YtilmmgkclijhjaaGreatDoorPl
set_option linter.unusedSimpArgs false
set_option linter.unusedVariables false
set_option linter.unusedSectionVars false
namespace Go.Proofs.YtilmmgkclijhjaaGreatDoor
open Go.RowKit Pal
theorem beq_no {s t : Bs} (h : ¬ s = t) : (s == t) = false := beq_eq_false_iff_ne.2 h
set_option maxRecDepth 1000000 in
theorem word_yes (s : Bs) (w : World) (h : s ∈ [wTrue, wFalse, wIf, wLen, wCat, wCut, wHas, wUp]) :
    Calls Tryz.prog 68 #[strV s] w fun e w' => e = .returned (.bool true) ∧ w = w' := by
  simp only [List.mem_cons, List.mem_nil_iff, or_false] at h
  rcases h with rfl | rfl | rfl | rfl | rfl | rfl | rfl | rfl
  all_goals
    simp only [strV, wTrue, wFalse, wIf, wLen, wCat, wCut, wHas, wUp]
    go_enter Tryz.func68, Tryz.ntmps68
    go_wp2
    go_ret
    exact ⟨rfl, rfl⟩
set_option maxRecDepth 1000000 in
theorem word_no (s : Bs) (w : World) (h1 : ¬ s = wTrue) (h2 : ¬ s = wFalse) (h3 : ¬ s = wIf) (h4 : ¬ s = wLen) (h5 : ¬ s = wCat) (h6 : ¬ s = wCut) (h7 : ¬ s = wHas) (h8 : ¬ s = wUp) :
    Calls Tryz.prog 68 #[strV s] w fun e w' => e = .returned (.bool false) ∧ w = w' := by
  replace h1 := beq_no h1
  replace h2 := beq_no h2
  replace h3 := beq_no h3
  replace h4 := beq_no h4
  replace h5 := beq_no h5
  replace h6 := beq_no h6
  replace h7 := beq_no h7
  replace h8 := beq_no h8
  simp only [wTrue, wFalse, wIf, wLen, wCat, wCut, wHas, wUp] at *
  unfold strV
  go_enter Tryz.func68, Tryz.ntmps68
  go_wp2
  go_ret
  exact ⟨rfl, rfl⟩
theorem word_any (s : Bs) (w : World) :
    Calls Tryz.prog 68 #[strV s] w fun e w' => e = .returned (.bool (word s)) ∧ w = w' := by
  by_cases h : s ∈ [wTrue, wFalse, wIf, wLen, wCat, wCut, wHas, wUp]
  · have e : word s = true := by unfold word; simpa using h
    rw [e]; exact word_yes s w h
  · have e : word s = false := by unfold word; simpa using h
    rw [e]
    simp only [List.mem_cons, List.mem_nil_iff, or_false, not_or] at h
    obtain ⟨h1, h2, h3, h4, h5, h6, h7, h8⟩ := h
    exact word_no s w h1 h2 h3 h4 h5 h6 h7 h8
/-- The string of some bytes. -/
abbrev bs (s : Bs) : ByteArray := ⟨s.toArray⟩
theorem bs_list (s : Bs) : (bs s).data.toList = s := by simp
theorem bs_size (s : Bs) : (bs s).size = s.length := by simp [ByteArray.size]
set_option maxRecDepth 1000000 in
theorem valueText_any (s : Bs) (w : World) (hm : s.length ≤ 9223372036854775806) (hL : Lay (gh w)) :
    Calls Tryz.prog 67 #[strV s] w fun e w' => e = .returned (.bool (textOk s)) ∧ Below w.heap.size w w' := by
  by_cases h1 : s.length ≤ 400
  · have hv := runesValid_any (bs s) w (by rw [bs_size]; omega) hL
    rw [bs_list] at hv
    have HV := Lib.hid hv
    clear hv
    cases h2 : val s with
    | false =>
      have HT : Hid (textOk s = false) := Lib.hid (by unfold textOk; rw [h2]; simp)
      rw [h2] at HV
      clear h2
      unfold strV
      go_enter Tryz.func67, Tryz.ntmps67
      go_wp2_with fail
      refine HV.out.mono ?_
      rintro e W1 ⟨rfl, hb1⟩
      go_wp2
      go_ret
      exact ⟨by rw [HT.out]; rfl, hb1⟩
    | true =>
      rw [h2] at HV
      have HT : Hid (textOk s = decide (cnt s ≤ 100)) := Lib.hid (by unfold textOk; rw [h2, decide_eq_true h1]; simp)
      clear h2
      unfold strV
      go_enter Tryz.func67, Tryz.ntmps67
      go_wp2_with fail
      refine HV.out.mono ?_
      rintro e W1 ⟨rfl, hb1⟩
      go_wp2_with fail
      refine (runesCount_any (bs s) _ (by rw [bs_size]; omega)).mono ?_
      rintro e W2 ⟨rfl, hb2⟩
      rw [bs_list]
      go_wp2
      go_ret
      refine ⟨?_, hb1.seq hb2⟩
      rw [HT.out]
      simp
      omega
  · have HT : Hid (textOk s = false) := Lib.hid (by unfold textOk; rw [decide_eq_false h1]; rfl)
    unfold strV
    go_enter Tryz.func67, Tryz.ntmps67
    go_wp2
    go_ret
    exact ⟨by rw [HT.out]; rfl, Below.refl _ _⟩
set_option maxRecDepth 1000000 in
theorem kids_conc (op : Int) (w : World) (h : op = 5 ∨ op = 6 ∨ op = 19 ∨ op = 22 ∨ op = 23 ∨ op = 20 ∨ op = 21 ∨ op = 18) :
    Calls Tryz.prog 47 #[.int .i64 op] w fun e w' => e = .returned (.int .i64 (arity op)) ∧ w' = w := by
  rcases h with rfl | rfl | rfl | rfl | rfl | rfl | rfl | rfl
  all_goals
    go_enter Tryz.func47, Tryz.ntmps47
    go_wp2
    go_ret
    exact ⟨rfl, rfl⟩
set_option maxRecDepth 1000000 in
theorem kids_rng (op : Int) (w : World) (h : ¬ (op = 5 ∨ op = 6 ∨ op = 19 ∨ op = 22 ∨ op = 23 ∨ op = 20 ∨ op = 21 ∨ op = 18)) :
    Calls Tryz.prog 47 #[.int .i64 op] w fun e w' => e = .returned (.int .i64 (arity op)) ∧ w' = w := by
  have e5 : (op == 5) = false := beq_eq_false_iff_ne.2 (by omega)
  have e6 : (op == 6) = false := beq_eq_false_iff_ne.2 (by omega)
  have e19 : (op == 19) = false := beq_eq_false_iff_ne.2 (by omega)
  have e22 : (op == 22) = false := beq_eq_false_iff_ne.2 (by omega)
  have e23 : (op == 23) = false := beq_eq_false_iff_ne.2 (by omega)
  have e20 : (op == 20) = false := beq_eq_false_iff_ne.2 (by omega)
  have e21 : (op == 21) = false := beq_eq_false_iff_ne.2 (by omega)
  have e18 : (op == 18) = false := beq_eq_false_iff_ne.2 (by omega)
  by_cases a1 : 1 ≤ op
  · by_cases a2 : op ≤ 4
    · have E : Hid (arity op = 0) := Lib.hid (by unfold arity; rw [if_pos ⟨a1, a2⟩])
      clear h
      go_enter Tryz.func47, Tryz.ntmps47
      go_wp2
      go_ret
      exact ⟨by rw [E.out]; rfl, rfl⟩
    · by_cases a4 : op ≤ 17
      · have a3 : 7 ≤ op := by omega
        have E : Hid (arity op = 2) := Lib.hid (by unfold arity; rw [if_neg (by omega), if_neg (by omega), if_pos (by omega)])
        clear h
        go_enter Tryz.func47, Tryz.ntmps47
        go_wp2
        go_ret
        exact ⟨by rw [E.out]; rfl, rfl⟩
      · have a3 : 7 ≤ op := by omega
        have E : Hid (arity op = -1) := Lib.hid (by unfold arity; rw [if_neg (by omega), if_neg (by omega), if_neg (by omega), if_neg (by omega)])
        clear h
        go_enter Tryz.func47, Tryz.ntmps47
        go_wp2
        go_ret
        exact ⟨by rw [E.out]; rfl, rfl⟩
  · have a3 : ¬ 7 ≤ op := by omega
    have E : Hid (arity op = -1) := Lib.hid (by unfold arity; rw [if_neg (by omega), if_neg (by omega), if_neg (by omega), if_neg (by omega)])
    clear h
    go_enter Tryz.func47, Tryz.ntmps47
    go_wp2
    go_ret
    exact ⟨by rw [E.out]; rfl, rfl⟩
theorem kids_any (op : Int) (w : World) :
    Calls Tryz.prog 47 #[.int .i64 op] w fun e w' => e = .returned (.int .i64 (arity op)) ∧ w' = w := by
  by_cases h : op = 5 ∨ op = 6 ∨ op = 19 ∨ op = 22 ∨ op = 23 ∨ op = 20 ∨ op = 21 ∨ op = 18
  · exact kids_conc op w h
  · exact kids_rng op w h
end Go.Proofs.YtilmmgkclijhjaaGreatDoor
namespace Go.Proofs.YtilmmgkclijhjaaGreatDoor
open Go.RowKit Pal
def valV (v : Val) : Value := .agg #[.int .i64 v.k, .int .i64 v.n, strV v.s]
set_option maxRecDepth 1000000 in
theorem check_other (k n : Int) (s : Bs) (w : World) (h : ¬ (k = 0 ∨ k = 1 ∨ k = 2 ∨ k = 3 ∨ k = 4)) :
    Calls Tryz.prog 48 #[.agg #[.int .i64 k, .int .i64 n, strV s]] w fun e w' => e = .returned (.bool false) ∧ Below w.heap.size w w' := by
  have e0 : (k == 0) = false := beq_eq_false_iff_ne.2 (by omega)
  have e1 : (k == 1) = false := beq_eq_false_iff_ne.2 (by omega)
  have e2 : (k == 2) = false := beq_eq_false_iff_ne.2 (by omega)
  have e3 : (k == 3) = false := beq_eq_false_iff_ne.2 (by omega)
  have e4 : (k == 4) = false := beq_eq_false_iff_ne.2 (by omega)
  clear h
  unfold strV
  go_enter Tryz.func48, Tryz.ntmps48
  go_wp2
  go_ret
  exact ⟨rfl, (Below.refl _ _).alloc (Nat.le_refl _) _⟩
theorem isEmpty_no {s : Bs} (h : ¬ s = []) : List.isEmpty s = false := by cases s with | nil => exact absurd rfl h | cons a b => rfl
theorem ret_bool {a b : Bool} (h : a = b) : Ending.returned (.bool a) = .returned (.bool b) := by rw [h]
set_option maxRecDepth 1000000 in
set_option maxHeartbeats 1000000 in
theorem check_01 (k n : Int) (s : Bs) (w : World) (h : k = 0 ∨ k = 1) :
    Calls Tryz.prog 48 #[.agg #[.int .i64 k, .int .i64 n, strV s]] w fun e w' => e = .returned (.bool (okV ⟨k, n, s⟩)) ∧ Below w.heap.size w w' := by
  have HB : Hid (Below w.heap.size w w) := Lib.hid (Below.refl _ _)
  by_cases hs : s = []
  · subst hs
    rcases h with rfl | rfl
    · by_cases hn : n = 0
      · have E : Hid (okV ⟨0, n, []⟩ = true) := Lib.hid (by unfold okV; simp [hn])
        have q : (n == 0) = true := by simp [hn]
        clear hn
        unfold strV
        go_enter Tryz.func48, Tryz.ntmps48
        go_wp2
        go_ret
        exact ⟨by rw [E.out]; rfl, HB.out.alloc (Nat.le_refl _) _⟩
      · have E : Hid (okV ⟨0, n, []⟩ = false) := Lib.hid (by unfold okV; simp [hn])
        have q : (n == 0) = false := beq_eq_false_iff_ne.2 hn
        clear hn
        unfold strV
        go_enter Tryz.func48, Tryz.ntmps48
        go_wp2
        go_ret
        exact ⟨by rw [E.out]; rfl, HB.out.alloc (Nat.le_refl _) _⟩
    · have E : Hid (okV ⟨1, n, []⟩ = true) := Lib.hid (by unfold okV; simp)
      unfold strV
      go_enter Tryz.func48, Tryz.ntmps48
      go_wp2
      go_ret
      exact ⟨by rw [E.out]; rfl, HB.out.alloc (Nat.le_refl _) _⟩
  · have E : Hid (okV ⟨k, n, s⟩ = false) := Lib.hid (by unfold okV; rcases h with rfl | rfl <;> simp [hs])
    have q := isEmpty_no hs
    clear hs
    unfold strV
    rcases h with rfl | rfl
    · by_cases hn : n = 0
      · have q2 : (n == 0) = true := by simp [hn]
        clear hn
        go_enter Tryz.func48, Tryz.ntmps48
        go_wp2
        go_ret
        exact ⟨by rw [E.out]; rfl, HB.out.alloc (Nat.le_refl _) _⟩
      · have q2 : (n == 0) = false := beq_eq_false_iff_ne.2 hn
        clear hn
        go_enter Tryz.func48, Tryz.ntmps48
        go_wp2
        go_ret
        exact ⟨by rw [E.out]; rfl, HB.out.alloc (Nat.le_refl _) _⟩
    · go_enter Tryz.func48, Tryz.ntmps48
      go_wp2
      go_ret
      exact ⟨by rw [E.out]; rfl, HB.out.alloc (Nat.le_refl _) _⟩
set_option maxRecDepth 1000000 in
set_option maxHeartbeats 1000000 in
theorem check_2 (n : Int) (s : Bs) (w : World) :
    Calls Tryz.prog 48 #[.agg #[.int .i64 2, .int .i64 n, strV s]] w fun e w' => e = .returned (.bool (okV ⟨2, n, s⟩)) ∧ Below w.heap.size w w' := by
  have HB : Hid (Below w.heap.size w w) := Lib.hid (Below.refl _ _)
  have E : Hid (okV ⟨2, n, s⟩ = (decide (n = 0 ∨ n = 1) && List.isEmpty s)) := Lib.hid (by unfold okV; cases s <;> simp)
  by_cases h0 : n = 0
  · have E2 : Hid (okV ⟨2, n, s⟩ = List.isEmpty s) := Lib.hid (by rw [E.out]; simp [h0])
    have q : (n == 0) = true := by simp [h0]
    clear h0 E
    unfold strV
    go_enter Tryz.func48, Tryz.ntmps48
    go_wp2
    go_ret
    exact ⟨by rw [E2.out]; rfl, HB.out.alloc (Nat.le_refl _) _⟩
  · have q : (n == 0) = false := beq_eq_false_iff_ne.2 h0
    by_cases h1 : n = 1
    · have E2 : Hid (okV ⟨2, n, s⟩ = List.isEmpty s) := Lib.hid (by rw [E.out]; simp [h1])
      have q1 : (n == 1) = true := by simp [h1]
      clear h0 h1 E
      unfold strV
      go_enter Tryz.func48, Tryz.ntmps48
      go_wp2
      go_ret
      exact ⟨by rw [E2.out]; rfl, HB.out.alloc (Nat.le_refl _) _⟩
    · have E2 : Hid (okV ⟨2, n, s⟩ = false) := Lib.hid (by rw [E.out]; simp [h0, h1])
      have q1 : (n == 1) = false := beq_eq_false_iff_ne.2 h1
      clear h0 h1 E
      unfold strV
      go_enter Tryz.func48, Tryz.ntmps48
      go_wp2
      go_ret
      exact ⟨by rw [E2.out]; rfl, HB.out.alloc (Nat.le_refl _) _⟩
set_option maxRecDepth 1000000 in
set_option maxHeartbeats 1000000 in
theorem check_3 (n : Int) (s : Bs) (w : World) (hm : s.length ≤ 9223372036854775806) (hL : Lay (gh w)) :
    Calls Tryz.prog 48 #[.agg #[.int .i64 3, .int .i64 n, strV s]] w fun e w' => e = .returned (.bool (okV ⟨3, n, s⟩)) ∧ Below w.heap.size w w' := by
  have HB : Hid (Below w.heap.size w w) := Lib.hid (Below.refl _ _)
  have E : Hid (okV ⟨3, n, s⟩ = (decide (n = 0) && textOk s)) := Lib.hid (by unfold okV; simp)
  by_cases h0 : n = 0
  · have E2 : Hid (okV ⟨3, n, s⟩ = textOk s) := Lib.hid (by rw [E.out]; simp [h0])
    have q : (n == 0) = true := by simp [h0]
    have hv := fun w hL => valueText_any s w hm hL
    have HV := Lib.hid hv
    clear h0 E hv
    have hb0 := HB.out.alloc (Nat.le_refl _) (.cells #[.int .i64 3, .int .i64 n, strV s] 55)
    have hL1 := hL.below hb0
    unfold strV at *
    go_enter Tryz.func48, Tryz.ntmps48
    go_wp2_with fail
    refine (HV.out _ hL1).mono ?_
    rintro e W1 ⟨rfl, hb1⟩
    go_wp2
    go_ret
    exact ⟨by rw [E2.out]; rfl, hb0.seq hb1⟩
  · have q : (n == 0) = false := beq_eq_false_iff_ne.2 h0
    have E2 : Hid (okV ⟨3, n, s⟩ = false) := Lib.hid (by rw [E.out]; simp [h0])
    clear h0 E
    unfold strV
    go_enter Tryz.func48, Tryz.ntmps48
    go_wp2
    go_ret
    exact ⟨by rw [E2.out]; rfl, HB.out.alloc (Nat.le_refl _) _⟩
set_option maxRecDepth 1000000 in
set_option maxHeartbeats 1000000 in
theorem check_4 (n : Int) (s : Bs) (w : World) :
    Calls Tryz.prog 48 #[.agg #[.int .i64 4, .int .i64 n, strV s]] w fun e w' => e = .returned (.bool (okV ⟨4, n, s⟩)) ∧ Below w.heap.size w w' := by
  have HB : Hid (Below w.heap.size w w) := Lib.hid (Below.refl _ _)
  have E : Hid (okV ⟨4, n, s⟩ = (decide (1 ≤ n ∧ n ≤ 4) && List.isEmpty s)) := Lib.hid (by unfold okV; cases s <;> simp)
  by_cases h0 : 1 ≤ n
  · by_cases h1 : n ≤ 4
    · have E2 : Hid (okV ⟨4, n, s⟩ = List.isEmpty s) := Lib.hid (by rw [E.out, decide_eq_true ⟨h0, h1⟩]; rfl)
      unfold strV
      go_enter Tryz.func48, Tryz.ntmps48
      go_wp2
      go_ret
      exact ⟨by rw [E2.out]; rfl, HB.out.alloc (Nat.le_refl _) _⟩
    · have E2 : Hid (okV ⟨4, n, s⟩ = false) := Lib.hid (by rw [E.out, decide_eq_false (fun h => h1 h.2)]; rfl)
      unfold strV
      go_enter Tryz.func48, Tryz.ntmps48
      go_wp2
      go_ret
      exact ⟨by rw [E2.out]; rfl, HB.out.alloc (Nat.le_refl _) _⟩
  · have E2 : Hid (okV ⟨4, n, s⟩ = false) := Lib.hid (by rw [E.out, decide_eq_false (fun h => h0 h.1)]; rfl)
    unfold strV
    go_enter Tryz.func48, Tryz.ntmps48
    go_wp2
    go_ret
    exact ⟨by rw [E2.out]; rfl, HB.out.alloc (Nat.le_refl _) _⟩
theorem valueCheck_any (k n : Int) (s : Bs) (w : World) (hm : s.length ≤ 9223372036854775806) (hL : Lay (gh w)) :
    Calls Tryz.prog 48 #[.agg #[.int .i64 k, .int .i64 n, strV s]] w fun e w' => e = .returned (.bool (okV ⟨k, n, s⟩)) ∧ Below w.heap.size w w' := by
  by_cases h : k = 0 ∨ k = 1 ∨ k = 2 ∨ k = 3 ∨ k = 4
  · rcases h with h | h | h | h | h
    · exact check_01 k n s w (.inl h)
    · exact check_01 k n s w (.inr h)
    · subst h; exact check_2 n s w
    · subst h; exact check_3 n s w hm hL
    · subst h; exact check_4 n s w
  · have e : okV ⟨k, n, s⟩ = false := by
      unfold okV
      rw [if_neg (fun x => h (by simp_all)), if_neg (fun x => h (by simp_all)), if_neg (fun x => h (by simp_all)), if_neg (fun x => h (by simp_all)), if_neg (fun x => h (by simp_all))]
    rw [e]
    exact check_other k n s w h
end Go.Proofs.YtilmmgkclijhjaaGreatDoor
namespace Go.Proofs.YtilmmgkclijhjaaGreatDoor
open Go.RowKit Pal
theorem TokV.form {h : GH} {v : Value} {ts : List Tok} (t : TokV h v ts) : ∃ a cap, v = .slice a ts.length cap := by
  obtain ⟨a, cap, hv, _⟩ := t
  exact ⟨a, cap, hv⟩
/-- The cells of a token. -/
theorem TokV.at {w : World} {a : Option Addr} {n cap : Nat} {ts : List Tok} (t : TokV (gh w) (.slice a n cap) ts) {j : Nat} {x : Tok} (hx : ts[j]? = some x) :
    ∃ b off, a = some ⟨b, off, none⟩ ∧ w.cell? ⟨b, off + j * 4, none⟩ = some (.int .i64 x.k) ∧ w.cell? ⟨b, off + j * 4 + 1, none⟩ = some (strV x.s) ∧ w.cell? ⟨b, off + j * 4 + 2, none⟩ = some (.int .i64 x.n) ∧ w.cell? ⟨b, off + j * 4 + 3, none⟩ = some (.int .i64 x.p) := by
  obtain ⟨a', cap', hv, hn, hc, hm, hcell⟩ := t
  simp only [Value.slice.injEq] at hv
  obtain ⟨rfl, rfl, rfl⟩ := hv
  have hj := (List.getElem?_eq_some_iff.1 hx).1
  have hd : ts.getD j noTok = x := by rw [List.getD_eq_getElem?_getD, hx]; rfl
  have get : ∀ c y, (tokCells x)[c]? = some y → ∃ b off, a = some ⟨b, off, none⟩ ∧ (gh w).cell b (off + (4 * j + c)) = some y := fun c y h => hcell j c y hj (by show (tokCells (ts.getD j noTok))[c]? = _; rw [hd]; exact h)
  obtain ⟨b, off, ha, h0⟩ := get 0 _ rfl
  obtain ⟨b1, off1, ha1, h1⟩ := get 1 _ rfl
  obtain ⟨b2, off2, ha2, h2⟩ := get 2 _ rfl
  obtain ⟨b3, off3, ha3, h3⟩ := get 3 _ rfl
  rw [ha] at ha1 ha2 ha3
  simp only [Option.some.injEq, Addr.mk.injEq, and_true] at ha1 ha2 ha3
  obtain ⟨rfl, rfl⟩ := ha1
  obtain ⟨rfl, rfl⟩ := ha2
  obtain ⟨rfl, rfl⟩ := ha3
  rw [gh_cell] at h0 h1 h2 h3
  rw [Nat.mul_comm 4 j, ← Nat.add_assoc] at h0 h1 h2 h3
  exact ⟨b, off, ha, h0, h1, h2, h3⟩
set_option maxRecDepth 1000000 in
set_option maxHeartbeats 1000000 in
theorem name_long (s : Bs) (w : World) (h : 400 < s.length) (hm : s.length ≤ 9223372036854775806) :
    Calls Tryz.prog 49 #[strV s] w fun e w' => e = .returned (.bool false) ∧ Below w.heap.size w w' := by
  unfold strV
  go_enter Tryz.func49, Tryz.ntmps49
  go_wp2_with fail
  refine (lex_long (bs s) _ (by rw [bs_size]; exact h) (by rw [bs_size]; omega)).mono ?_
  rintro e W1 ⟨rfl, rfl⟩
  go_wp2
  go_ret
  exact ⟨rfl, Below.refl _ _⟩
set_option maxRecDepth 1000000 in
set_option maxHeartbeats 1000000 in
theorem name_any (s : Bs) (w : World) (hm : s.length ≤ 9223372036854775806) (hL : Lay (gh w)) :
    Calls Tryz.prog 49 #[strV s] w fun e w' => e = .returned (.bool (isName s)) ∧ Below w.heap.size w w' := by
  by_cases h4 : s.length ≤ 400
  · have hx := lex_any (bs s) w (by rw [bs_size]; exact h4) hL
    unfold lexPost at hx
    rw [bs_list] at hx
    have HI : Hid (isName s = (match lexAll s with | .ok [t, _] => decide (t.k = 3 ∧ t.s = s) && !word s | _ => false)) := Lib.hid (by unfold isName; rw [decide_eq_true h4]; rfl)
    cases hl : lexAll s with
    | error p =>
      rw [hl] at hx HI
      simp only at hx HI
      have HX := Lib.hid hx
      clear hx hl
      unfold strV
      go_enter Tryz.func49, Tryz.ntmps49
      go_wp2_with fail
      refine HX.out.mono ?_
      rintro e W1 ⟨hb1, rfl⟩
      go_wp2
      go_ret
      exact ⟨by rw [HI.out]; rfl, hb1⟩
    | ok ts =>
      rw [hl] at hx HI
      simp only at hx HI
      have HX := Lib.hid hx
      clear hx hl
      unfold strV
      go_enter Tryz.func49, Tryz.ntmps49
      go_wp2_with fail
      refine HX.out.mono ?_
      rintro e W1 ⟨hb1, v, rfl, hT⟩
      obtain ⟨a, cap, rfl⟩ := hT.form
      by_cases h2 : ts.length = 2
      · match ts, h2 with
        | [t, u], _ =>
          simp only at HI
          obtain ⟨b, off, rfl, c0, c1, c2, c3⟩ := hT.at (j := 0) (x := t) rfl
          simp only [Nat.zero_mul, Nat.add_zero] at c0 c1 c2 c3
          clear hT c2 c3
          unfold strV at c1
          simp only [List.length_cons, List.length_nil, Nat.zero_add, Nat.reduceAdd]
          by_cases k3 : t.k = 3
          · have K3 : (t.k == 3) = true := by simp [k3]
            by_cases es : t.s = s
            · have ES : (t.s == s) = true := by simp [es]
              have HI2 : Hid (isName s = !word s) := Lib.hid (by rw [HI.out]; simp [k3, es])
              clear k3 es HI
              go_wp2_with fail
              refine (word_any s _).mono ?_
              rintro e W2 ⟨rfl, rfl⟩
              go_wp2
              go_ret
              exact ⟨by rw [HI2.out]; rfl, hb1⟩
            · have ES : (t.s == s) = false := beq_no es
              have HI2 : Hid (isName s = false) := Lib.hid (by rw [HI.out]; simp [es])
              clear k3 es HI
              go_wp2
              go_ret
              exact ⟨by rw [HI2.out]; rfl, hb1⟩
          · have K3 : (t.k == 3) = false := beq_eq_false_iff_ne.2 k3
            have HI2 : Hid (isName s = false) := Lib.hid (by rw [HI.out]; simp [k3])
            clear k3 HI
            go_wp2
            go_ret
            exact ⟨by rw [HI2.out]; rfl, hb1⟩
      · have HI2 : Hid (isName s = false) := Lib.hid (by
          rw [HI.out]
          match ts, h2 with
          | [], _ => rfl
          | [a], _ => rfl
          | a :: b :: c :: d, _ => rfl)
        have K2 : ((ts.length : Int) == 2) = false := beq_eq_false_iff_ne.2 (by omega)
        clear h2 HI hT
        go_wp2
        go_ret
        exact ⟨by rw [HI2.out]; rfl, hb1⟩
  · have e : isName s = false := by unfold isName; rw [decide_eq_false h4]; rfl
    rw [e]
    exact name_long s w (by omega) hm
end Go.Proofs.YtilmmgkclijhjaaGreatDoor
namespace Go.Proofs.YtilmmgkclijhjaaGreatDoor
open Go.RowKit Pal
/-- The parts of an expression, as a slice reads. -/
inductive KV (h : GH) : Value → List Ex → Prop
  | mk (ks : List Ex) (a : Option Addr) (cap : Nat) (us : Nat → Value) (hn : a = none → ks = [] ∧ cap = 0) (hc : ks.length ≤ cap) (hm : cap ≤ maxLen)
      (hx : ∀ j k, ks[j]? = some k → ∃ b off, a = some ⟨b, off, none⟩ ∧ h.cell b (off + j * 4) = some (.int .i64 k.op) ∧ h.cell b (off + j * 4 + 1) = some (.int .i64 k.n) ∧ h.cell b (off + j * 4 + 2) = some (strV k.s) ∧ h.cell b (off + j * 4 + 3) = some (us j))
      (hk : ∀ (j : Nat) (k : Ex), ks[j]? = some k → KV h (us j) k.ks) : KV h (.slice a ks.length cap) ks
theorem KV.mono {h h' : GH} (l : h.le h') {v : Value} {ks : List Ex} (k : KV h v ks) : KV h' v ks := by
  induction k with
  | mk ks a cap us hn hc hm hx hk ih =>
    exact .mk ks a cap us hn hc hm (fun j k hj => by
      obtain ⟨b, off, ha, h0, h1, h2, h3⟩ := hx j k hj
      exact ⟨b, off, ha, l.cell h0, l.cell h1, l.cell h2, l.cell h3⟩) ih
theorem KV.keep {w w' : World} {v : Value} {ks : List Ex} (k : KV (gh w) v ks) (hb : Below w.heap.size w w') : KV (gh w') v ks := k.mono (below_gh hb)
theorem KV.form {h : GH} {v : Value} {ks : List Ex} (k : KV h v ks) : ∃ a cap, v = .slice a ks.length cap := by
  cases k with | mk _ a cap us => exact ⟨a, cap, rfl⟩
theorem KV.nil (h : GH) : KV h (.slice none 0 0) [] := .mk [] none 0 (fun _ => .nilIface) (fun _ => ⟨rfl, rfl⟩) (by simp) (by simp [maxLen]) (fun j k hj => by simp at hj) (fun j k hj => by simp at hj)
/-- One part. -/
theorem KV.at {w : World} {a : Option Addr} {n cap : Nat} {ks : List Ex} (t : KV (gh w) (.slice a n cap) ks) {j : Nat} {k : Ex} (hj : ks[j]? = some k) :
    ∃ b off u, a = some ⟨b, off, none⟩ ∧ w.cell? ⟨b, off + j * 4, none⟩ = some (.int .i64 k.op) ∧ w.cell? ⟨b, off + j * 4 + 1, none⟩ = some (.int .i64 k.n) ∧ w.cell? ⟨b, off + j * 4 + 2, none⟩ = some (strV k.s) ∧ w.cell? ⟨b, off + j * 4 + 3, none⟩ = some u ∧ KV (gh w) u k.ks := by
  generalize hv : Value.slice a n cap = v at t
  cases t with
  | mk _ a' cap' us hn hc hm hx hk =>
    simp only [Value.slice.injEq] at hv
    obtain ⟨rfl, rfl, rfl⟩ := hv
    obtain ⟨b, off, ha, h0, h1, h2, h3⟩ := hx j k hj
    rw [gh_cell] at h0 h1 h2 h3
    exact ⟨b, off, us j, ha, h0, h1, h2, h3, hk j k hj⟩
/-- An expression as a value. -/
def exV (op n : Int) (s : Bs) (kv : Value) : Value := .agg #[.int .i64 op, .int .i64 n, strV s, kv]
def EV (h : GH) (v : Value) (e : Ex) : Prop := ∃ kv, v = exV e.op e.n e.s kv ∧ KV h kv e.ks
theorem EV.mono {h h' : GH} (l : h.le h') {v : Value} {e : Ex} (k : EV h v e) : EV h' v e := by obtain ⟨kv, hv, hk⟩ := k; exact ⟨kv, hv, hk.mono l⟩
theorem EV.keep {w w' : World} {v : Value} {e : Ex} (k : EV (gh w) v e) (hb : Below w.heap.size w w') : EV (gh w') v e := k.mono (below_gh hb)
theorem four_cells {W : World} {B : Nat} {x0 x1 x2 x3 : Value} {T : TypeId} (h : W.heap[B]? = some (.cells #[x0, x1, x2, x3] T (0, 0))) :
    W.cell? ⟨B, 0, none⟩ = some x0 ∧ W.cell? ⟨B, 1, none⟩ = some x1 ∧ W.cell? ⟨B, 2, none⟩ = some x2 ∧ W.cell? ⟨B, 3, none⟩ = some x3 := by
  simp [World.cell?, h]
theorem KV.cap {h : GH} {a : Option Addr} {n cap : Nat} {ks : List Ex} (k : KV h (.slice a n cap) ks) : n = ks.length ∧ n ≤ cap ∧ cap ≤ 9223372036854775807 ∧ (a = none → n = 0) := by
  generalize hv : Value.slice a n cap = vv at k
  cases k with
  | mk _ a' cap' us hn hc hm hx hk =>
    simp only [Value.slice.injEq] at hv
    obtain ⟨rfl, rfl, rfl⟩ := hv
    unfold maxLen at hm
    exact ⟨rfl, hc, by omega, fun h => by rw [(hn h).1]; rfl⟩
end Go.Proofs.YtilmmgkclijhjaaGreatDoor
namespace Go.Proofs.YtilmmgkclijhjaaGreatDoor
open Go.RowKit Pal
set_option maxRecDepth 1000000 in
set_option maxHeartbeats 2000000 in
theorem alone_len (op n : Int) (s : Bs) (a : Option Addr) (len cap : Nat) (w : World) (h : ¬ (len : Int) = arity op) :
    Calls Tryz.prog 31 #[exV op n s (.slice a len cap)] w fun e w' => e = .returned (.bool false) ∧ Below w.heap.size w w' := by
  have q : ((len : Int) != arity op) = true := bne_iff_ne.2 h
  have HK := Lib.hid (fun w => kids_any op w)
  clear h
  unfold exV strV
  go_enter Tryz.func31, Tryz.ntmps31
  go_wp2
  go_quiet ((go_at_call 47; exact Calls.quiet_of_same (HK.out _)))
  go_wp2
  go_ret
  exact ⟨rfl, below_drewN ((Below.refl _ _).alloc (Nat.le_refl _) _) _⟩
theorem emp_iff (s : Bs) : decide (s = []) = List.isEmpty s := by cases s <;> simp
theorem alone_1 {n : Int} {s : Bs} {ks : List Ex} (h : (ks.length : Int) = arity 1) : alone 1 n s ks = (decide (0 ≤ n) && List.isEmpty s) := by
  unfold alone
  rw [decide_eq_true h, if_pos rfl, ← emp_iff, Bool.true_and, Bool.decide_and]
theorem alone_2 {n : Int} {s : Bs} {ks : List Ex} (h : (ks.length : Int) = arity 2) : alone 2 n s ks = (decide (n = 0) && textOk s) := by
  unfold alone
  rw [decide_eq_true h, if_neg (by omega), if_pos rfl, Bool.true_and]
theorem alone_3 {n : Int} {s : Bs} {ks : List Ex} (h : (ks.length : Int) = arity 3) : alone 3 n s ks = (decide (n = 0 ∨ n = 1) && List.isEmpty s) := by
  unfold alone
  rw [decide_eq_true h, if_neg (by omega), if_neg (by omega), if_pos rfl, ← emp_iff, Bool.true_and, Bool.decide_and]
theorem alone_4 {n : Int} {s : Bs} {ks : List Ex} (h : (ks.length : Int) = arity 4) : alone 4 n s ks = (decide (n = 0) && isName s) := by
  unfold alone
  rw [decide_eq_true h, if_neg (by omega), if_neg (by omega), if_neg (by omega), if_pos rfl, Bool.true_and]
theorem alone_x {op n : Int} {s : Bs} {ks : List Ex} (h : (ks.length : Int) = arity op) (h1 : op ≠ 1) (h2 : op ≠ 2) (h3 : op ≠ 3) (h4 : op ≠ 4) : alone op n s ks = (decide (n = 0) && (List.isEmpty s && decide (op = 22 → kidOp ks = 4))) := by
  unfold alone
  rw [decide_eq_true h, if_neg h1, if_neg h2, if_neg h3, if_neg h4, ← emp_iff, Bool.true_and, Bool.decide_and, Bool.decide_and]
set_option maxRecDepth 1000000 in
set_option maxHeartbeats 2000000 in
theorem alone_w1 (n : Int) (s : Bs) (a : Option Addr) (cap : Nat) (ks : List Ex) (w : World) (h : (ks.length : Int) = arity 1) :
    Calls Tryz.prog 31 #[exV 1 n s (.slice a ks.length cap)] w fun e w' => e = .returned (.bool (alone 1 n s ks)) ∧ Below w.heap.size w w' := by
  have q : ((ks.length : Int) != arity 1) = false := by rw [bne_eq_false_iff_eq]; exact h
  have HK := Lib.hid (fun w => kids_any 1 w)
  have E := Lib.hid (alone_1 (n := n) (s := s) h)
  clear h
  unfold exV strV
  obtain ⟨d, hd⟩ : ∃ d, decide (0 ≤ n) = d := ⟨_, rfl⟩
  rw [hd] at E
  cases d
  all_goals
    have h0 := hd
    simp at h0
    clear hd
    go_enter Tryz.func31, Tryz.ntmps31
    go_wp2
    go_quiet ((go_at_call 47; exact Calls.quiet_of_same (HK.out _)))
    go_wp2
    go_ret
    exact ⟨by rw [E.out]; simp, below_drewN ((Below.refl _ _).alloc (Nat.le_refl _) _) _⟩
set_option maxRecDepth 1000000 in
set_option maxHeartbeats 2000000 in
theorem alone_w2 (n : Int) (s : Bs) (a : Option Addr) (cap : Nat) (ks : List Ex) (w : World) (h : (ks.length : Int) = arity 2) (hm : s.length ≤ 9223372036854775806) (hL : Lay (gh w)) :
    Calls Tryz.prog 31 #[exV 2 n s (.slice a ks.length cap)] w fun e w' => e = .returned (.bool (alone 2 n s ks)) ∧ Below w.heap.size w w' := by
  have q : ((ks.length : Int) != arity 2) = false := by rw [bne_eq_false_iff_eq]; exact h
  have HK := Lib.hid (fun w => kids_any 2 w)
  have E := Lib.hid (alone_2 (n := n) (s := s) h)
  clear h
  by_cases h0 : n = 0
  · have q0 : (n == 0) = true := by simp [h0]
    have E2 : Hid (alone 2 n s ks = textOk s) := Lib.hid (by rw [E.out, decide_eq_true h0]; rfl)
    have hok : okV ⟨3, 0, s⟩ = textOk s := by unfold okV; simp
    have HV := Lib.hid (fun w hL => valueCheck_any 3 0 s w hm hL)
    have HO := Lib.hid hok
    clear h0 E hok
    unfold exV strV
    unfold strV at HV
    go_enter Tryz.func31, Tryz.ntmps31
    go_wp2
    go_quiet ((go_at_call 47; exact Calls.quiet_of_same (HK.out _)))
    have hb := below_drewN ((Below.refl w.heap.size w).alloc (Nat.le_refl _) (.cells #[.int .i64 2, .int .i64 n, .string ⟨s.toArray⟩, .slice a ks.length cap] 24)) nq
    go_wp2_with fail
    refine (HV.out _ (hL.below hb)).mono ?_
    rintro e W1 ⟨rfl, hb1⟩
    rw [HO.out]
    have hb2 := hb.trans (hb1.mono hb.size)
    go_wp2
    go_ret
    exact ⟨by rw [E2.out]; rfl, hb2⟩
  · have q0 : (n == 0) = false := beq_eq_false_iff_ne.2 h0
    have E2 : Hid (alone 2 n s ks = false) := Lib.hid (by rw [E.out, decide_eq_false h0]; rfl)
    clear h0 E
    unfold exV strV
    go_enter Tryz.func31, Tryz.ntmps31
    go_wp2
    go_quiet ((go_at_call 47; exact Calls.quiet_of_same (HK.out _)))
    go_wp2
    go_ret
    exact ⟨by rw [E2.out]; rfl, below_drewN ((Below.refl _ _).alloc (Nat.le_refl _) _) _⟩
set_option maxRecDepth 1000000 in
set_option maxHeartbeats 2000000 in
theorem alone_w3 (n : Int) (s : Bs) (a : Option Addr) (cap : Nat) (ks : List Ex) (w : World) (h : (ks.length : Int) = arity 3) :
    Calls Tryz.prog 31 #[exV 3 n s (.slice a ks.length cap)] w fun e w' => e = .returned (.bool (alone 3 n s ks)) ∧ Below w.heap.size w w' := by
  have q : ((ks.length : Int) != arity 3) = false := by rw [bne_eq_false_iff_eq]; exact h
  have HK := Lib.hid (fun w => kids_any 3 w)
  have E := Lib.hid (alone_3 (n := n) (s := s) h)
  clear h
  have go : ∀ (b0 b1 : Bool), (n == 0) = b0 → (n == 1) = b1 → decide (n = 0 ∨ n = 1) = (b0 || b1) := by
    intro b0 b1 h0 h1
    rw [← h0, ← h1, Bool.eq_iff_iff]; simp
  unfold exV strV
  cases h0 : (n == 0) <;> cases h1 : (n == 1)
  all_goals
    have E2 := Lib.hid (go _ _ h0 h1)
    clear go
    go_enter Tryz.func31, Tryz.ntmps31
    go_wp2
    go_quiet ((go_at_call 47; exact Calls.quiet_of_same (HK.out _)))
    go_wp2
    go_ret
    exact ⟨by rw [E.out, E2.out]; simp, below_drewN ((Below.refl _ _).alloc (Nat.le_refl _) _) _⟩
set_option maxRecDepth 1000000 in
set_option maxHeartbeats 2000000 in
theorem alone_w4 (n : Int) (s : Bs) (a : Option Addr) (cap : Nat) (ks : List Ex) (w : World) (h : (ks.length : Int) = arity 4) (hm : s.length ≤ 9223372036854775806) (hL : Lay (gh w)) :
    Calls Tryz.prog 31 #[exV 4 n s (.slice a ks.length cap)] w fun e w' => e = .returned (.bool (alone 4 n s ks)) ∧ Below w.heap.size w w' := by
  have q : ((ks.length : Int) != arity 4) = false := by rw [bne_eq_false_iff_eq]; exact h
  have HK := Lib.hid (fun w => kids_any 4 w)
  have E := Lib.hid (alone_4 (n := n) (s := s) h)
  clear h
  by_cases h0 : n = 0
  · have q0 : (n == 0) = true := by simp [h0]
    have E2 : Hid (alone 4 n s ks = isName s) := Lib.hid (by rw [E.out, decide_eq_true h0]; rfl)
    have HV := Lib.hid (fun w hL => name_any s w hm hL)
    clear h0 E
    unfold exV strV
    unfold strV at HV
    go_enter Tryz.func31, Tryz.ntmps31
    go_wp2
    go_quiet ((go_at_call 47; exact Calls.quiet_of_same (HK.out _)))
    have hb := below_drewN ((Below.refl w.heap.size w).alloc (Nat.le_refl _) (.cells #[.int .i64 4, .int .i64 n, .string ⟨s.toArray⟩, .slice a ks.length cap] 24)) nq
    go_wp2_with fail
    refine (HV.out _ (hL.below hb)).mono ?_
    rintro e W1 ⟨rfl, hb1⟩
    have hb2 := hb.trans (hb1.mono hb.size)
    go_wp2
    go_ret
    exact ⟨by rw [E2.out]; rfl, hb2⟩
  · have q0 : (n == 0) = false := beq_eq_false_iff_ne.2 h0
    have E2 : Hid (alone 4 n s ks = false) := Lib.hid (by rw [E.out, decide_eq_false h0]; rfl)
    clear h0 E
    unfold exV strV
    go_enter Tryz.func31, Tryz.ntmps31
    go_wp2
    go_quiet ((go_at_call 47; exact Calls.quiet_of_same (HK.out _)))
    go_wp2
    go_ret
    exact ⟨by rw [E2.out]; rfl, below_drewN ((Below.refl _ _).alloc (Nat.le_refl _) _) _⟩
set_option maxRecDepth 1000000 in
set_option maxHeartbeats 2000000 in
theorem alone_wx (op n : Int) (s : Bs) (v : Value) (ks : List Ex) (w : World) (h : (ks.length : Int) = arity op) (h1 : op ≠ 1) (h2 : op ≠ 2) (h3 : op ≠ 3) (h4 : op ≠ 4) (hK : KV (gh w) v ks) :
    Calls Tryz.prog 31 #[exV op n s v] w fun e w' => e = .returned (.bool (alone op n s ks)) ∧ Below w.heap.size w w' := by
  obtain ⟨a, cap, rfl⟩ := hK.form
  have q : ((ks.length : Int) != arity op) = false := by rw [bne_eq_false_iff_eq]; exact h
  have HK := Lib.hid (fun w => kids_any op w)
  have E := Lib.hid (alone_x (n := n) (s := s) h h1 h2 h3 h4)
  have e1 : (op == 1) = false := beq_eq_false_iff_ne.2 h1
  have e2 : (op == 2) = false := beq_eq_false_iff_ne.2 h2
  have e3 : (op == 3) = false := beq_eq_false_iff_ne.2 h3
  have e4 : (op == 4) = false := beq_eq_false_iff_ne.2 h4
  clear h1 h2 h3 h4
  by_cases h22 : op = 22
  · subst h22
    have hl : ks.length = 1 := by have : arity 22 = 1 := by decide
                                  omega
    match ks, hl with
    | [k], _ =>
      obtain ⟨b, off, u, rfl, c0, -, -, -, -⟩ := hK.at (j := 0) (k := k) rfl
      simp only [Nat.zero_mul, Nat.add_zero] at c0
      have hbl : b < w.heap.size := World.block_lt_of_cell? w _ c0
      have c1 : ∀ o : Obj, (w.alloc o).cell? ⟨b, off, none⟩ = some (.int .i64 k.op) := fun o => by rw [World.cell?_alloc_past _ _ _ hbl]; exact c0
      have hcap : 1 ≤ cap := by
        generalize hv : Value.slice (some ⟨b, off, none⟩) ([k] : List Ex).length cap = vv at hK
        cases hK with
        | mk _ a' cap' us hn hc hm hx hk =>
          simp only [Value.slice.injEq] at hv
          simp at hc; omega
      have E2 : Hid (alone 22 n s [k] = (decide (n = 0) && (List.isEmpty s && (k.op == 4)))) := Lib.hid (by
        rw [E.out]
        have : decide (22 = (22 : Int) → kidOp [k] = 4) = (k.op == 4) := by
          rw [Bool.eq_iff_iff]; simp [kidOp]
        rw [this])
      clear E hK h
      simp only [List.length_cons, List.length_nil, Nat.zero_add] at q ⊢
      unfold exV strV
      cases hn : (n == 0) <;> cases hs : List.isEmpty s
      all_goals
        have hn2 : Hid (decide (n = 0) = (n == 0)) := Lib.hid (by rw [Bool.eq_iff_iff]; simp)
        have hn3 := Lib.hid hn
        have hs3 := Lib.hid hs
        go_enter Tryz.func31, Tryz.ntmps31
        go_wp2
        go_quiet ((go_at_call 47; exact Calls.quiet_of_same (HK.out _)))
        go_wp2
        go_ret
        exact ⟨by rw [E2.out, hn2.out, hn3.out, hs3.out]; simp, below_drewN ((Below.refl _ _).alloc (Nat.le_refl _) _) _⟩
  · have e22 : (op != 22) = true := bne_iff_ne.2 h22
    have E2 : Hid (alone op n s ks = (decide (n = 0) && List.isEmpty s)) := Lib.hid (by
      rw [E.out, decide_eq_true (fun h => absurd h h22), Bool.and_true])
    clear E hK h22 h
    unfold exV strV
    cases hn : (n == 0) <;> cases hs : List.isEmpty s
    all_goals
      have hn2 : Hid (decide (n = 0) = (n == 0)) := Lib.hid (by rw [Bool.eq_iff_iff]; simp)
      have hn3 := Lib.hid hn
      have hs3 := Lib.hid hs
      go_enter Tryz.func31, Tryz.ntmps31
      go_wp2
      go_quiet ((go_at_call 47; exact Calls.quiet_of_same (HK.out _)))
      go_wp2
      go_ret
      exact ⟨by rw [E2.out, hn2.out, hn3.out, hs3.out]; simp, below_drewN ((Below.refl _ _).alloc (Nat.le_refl _) _) _⟩
theorem alone_any (op n : Int) (s : Bs) (v : Value) (ks : List Ex) (w : World) (hm : s.length ≤ 9223372036854775806) (hL : Lay (gh w)) (hK : KV (gh w) v ks) :
    Calls Tryz.prog 31 #[exV op n s v] w fun e w' => e = .returned (.bool (alone op n s ks)) ∧ Below w.heap.size w w' := by
  by_cases h : (ks.length : Int) = arity op
  · by_cases h1 : op = 1
    · obtain ⟨a, cap, rfl⟩ := hK.form
      subst h1; exact alone_w1 n s a cap ks w h
    by_cases h2 : op = 2
    · obtain ⟨a, cap, rfl⟩ := hK.form
      subst h2; exact alone_w2 n s a cap ks w h hm hL
    by_cases h3 : op = 3
    · obtain ⟨a, cap, rfl⟩ := hK.form
      subst h3; exact alone_w3 n s a cap ks w h
    by_cases h4 : op = 4
    · obtain ⟨a, cap, rfl⟩ := hK.form
      subst h4; exact alone_w4 n s a cap ks w h hm hL
    exact alone_wx op n s v ks w h h1 h2 h3 h4 hK
  · obtain ⟨a, cap, rfl⟩ := hK.form
    have e : alone op n s ks = false := by unfold alone; rw [decide_eq_false h]; rfl
    rw [e]
    exact alone_len op n s a ks.length cap w h
end Go.Proofs.YtilmmgkclijhjaaGreatDoor
namespace Go.Proofs.YtilmmgkclijhjaaGreatDoor
open Go.RowKit Pal
def holdsPost (r : Option Nat) (w : World) (e : Ending) (w' : World) : Prop :=
  (∃ m : Int, e = .returned (.tuple #[.int .i64 m, .bool r.isSome]) ∧ ∀ k, r = some k → m = k) ∧ Below w.heap.size w w'
theorem Fine.kids {op n : Int} {s : Bs} {ks : List Ex} (h : Fine (.mk op n s ks)) : s.length ≤ 140737488355328 ∧ ∀ k ∈ ks, Fine k := by
  cases h with | mk _ _ _ _ ho hn hs hk => exact ⟨hs, hk⟩
theorem chkL_nil (deep left : Nat) : chkL [] deep left = some left := by rw [chkL]
theorem chkL_cons (k : Ex) (ks : List Ex) (deep left : Nat) : chkL (k :: ks) deep left = (chk k deep left).bind fun m => chkL ks deep m := by rw [chkL]
theorem chk_no {op n : Int} {s : Bs} {ks : List Ex} {deep left : Nat} (h : left = 0 ∨ 24 < deep ∨ alone op n s ks = false) : chk (.mk op n s ks) deep left = none := by rw [chk, if_pos h]
theorem chk_yes {op n : Int} {s : Bs} {ks : List Ex} {deep left : Nat} (h : ¬ (left = 0 ∨ 24 < deep ∨ alone op n s ks = false)) : chk (.mk op n s ks) deep left = chkL ks (deep + 1) (left - 1) := by rw [chk, if_neg h]
theorem chkL_le : ∀ (e : Ex) (deep left m : Nat), chk e deep left = some m → m ≤ left := by
  intro e
  refine Ex.ind (P := fun e => ∀ (deep left m : Nat), chk e deep left = some m → m ≤ left) ?_ e
  intro op n s ks ih deep left m h
  by_cases hc : left = 0 ∨ 24 < deep ∨ alone op n s ks = false
  · rw [chk_no hc] at h; cases h
  · rw [chk_yes hc] at h
    have go : ∀ (l : List Ex), (∀ k ∈ l, k ∈ ks) → ∀ (left m : Nat), chkL l (deep + 1) left = some m → m ≤ left := by
      intro l
      induction l with
      | nil => intro _ left m h; rw [chkL_nil] at h; cases h; exact Nat.le_refl _
      | cons a t iht =>
        intro hm left m h
        rw [chkL_cons] at h
        cases e : chk a (deep + 1) left with
        | none => rw [e] at h; cases h
        | some x =>
          rw [e] at h
          have h1 := ih a (hm a (by simp)) _ _ _ e
          have h2 := iht (fun k hk => hm k (by simp [hk])) x m h
          omega
    have := go ks (fun _ h => h) _ _ h
    omega
set_option maxRecDepth 1000000 in
set_option maxHeartbeats 2000000 in
theorem holds_left (op n : Int) (s : Bs) (v : Value) (ks : List Ex) (deep left : Nat) (w : World) (h : left = 0 ∨ 24 < deep) (hl : left ≤ 128) (hd : deep ≤ 1000) :
    Calls Tryz.prog 22 #[exV op n s v, .int .i64 left, .int .i64 deep] w (holdsPost (chk (.mk op n s ks) deep left) w) := by
  rw [chk_no (h.elim .inl (fun x => .inr (.inl x)))]
  unfold exV strV
  by_cases h0 : left = 0
  · subst h0
    go_enter Tryz.func22, Tryz.ntmps22
    go_wp2
    go_ret2
    exact ⟨⟨_, rfl, fun k hk => by cases hk⟩, (Below.refl _ _).alloc (Nat.le_refl _) _⟩
  · have h1 : 24 < deep := by omega
    have h2 : 1 ≤ left := by omega
    clear h h0
    go_enter Tryz.func22, Tryz.ntmps22
    go_wp2
    go_ret2
    exact ⟨⟨_, rfl, fun k hk => by cases hk⟩, (Below.refl _ _).alloc (Nat.le_refl _) _⟩
set_option maxRecDepth 1000000 in
set_option maxHeartbeats 2000000 in
theorem holds_alone (op n : Int) (s : Bs) (v : Value) (ks : List Ex) (deep left : Nat) (w : World) (h : alone op n s ks = false) (hl : left ≤ 128) (h1 : 1 ≤ left) (hd : deep ≤ 24) (hs : s.length ≤ 9223372036854775806) (hL : Lay (gh w)) (hK : KV (gh w) v ks) :
    Calls Tryz.prog 22 #[exV op n s v, .int .i64 left, .int .i64 deep] w (holdsPost (chk (.mk op n s ks) deep left) w) := by
  rw [chk_no (.inr (.inr h))]
  have HA := Lib.hid (fun w hL hK => alone_any op n s v ks w hs hL hK)
  rw [h] at HA
  obtain ⟨a, cap, rfl⟩ := hK.form
  have hb := (Below.refl w.heap.size w).alloc (Nat.le_refl _) (.cells #[.int .i64 op, .int .i64 n, .string ⟨s.toArray⟩, .slice a ks.length cap] 24)
  clear h
  unfold exV strV at *
  go_enter Tryz.func22, Tryz.ntmps22
  go_wp2_with fail
  refine (HA.out _ (hL.below hb) (hK.keep hb)).mono ?_
  rintro e W1 ⟨rfl, hb1⟩
  have hb2 := hb.seq hb1
  go_wp2
  go_ret2
  exact ⟨⟨_, rfl, fun k hk => by cases hk⟩, hb2⟩
set_option maxRecDepth 1000000 in
set_option maxHeartbeats 4000000 in
theorem holds_any (e : Ex) : ∀ (v : Value) (deep left : Nat) (w : World), Fine e → left ≤ 128 → deep ≤ 25 → Lay (gh w) → KV (gh w) v e.ks →
    Calls Tryz.prog 22 #[exV e.op e.n e.s v, .int .i64 left, .int .i64 deep] w (holdsPost (chk e deep left) w) := by
  refine Ex.ind (P := fun e => ∀ (v : Value) (deep left : Nat) (w : World), Fine e → left ≤ 128 → deep ≤ 25 → Lay (gh w) → KV (gh w) v e.ks →
    Calls Tryz.prog 22 #[exV e.op e.n e.s v, .int .i64 left, .int .i64 deep] w (holdsPost (chk e deep left) w)) ?_ e
  intro op n s ks ih v deep left w hF hl hd hL hK
  simp only [Ex.op, Ex.n, Ex.s, Ex.ks] at hK ⊢
  by_cases hc : left = 0 ∨ 24 < deep
  · exact holds_left op n s v ks deep left w hc hl (by omega)
  have hs := hF.kids.1
  by_cases ha : alone op n s ks = false
  · exact holds_alone op n s v ks deep left w ha hl (by omega) (by omega) (by omega) hL hK
  have HA := Lib.hid (fun w hL hK => alone_any op n s v ks w (by omega) hL hK)
  rw [Bool.not_eq_false] at ha
  rw [ha] at HA
  have hnc : ¬ (left = 0 ∨ 24 < deep ∨ alone op n s ks = false) := by
    rintro (h | h | h)
    · exact hc (.inl h)
    · exact hc (.inr h)
    · rw [ha] at h; cases h
  rw [chk_yes hnc]
  have h1 : 1 ≤ left := by omega
  have h2 : deep ≤ 24 := by omega
  obtain ⟨a, cap, rfl⟩ := hK.form
  have hb := (Below.refl w.heap.size w).alloc (Nat.le_refl _) (.cells #[.int .i64 op, .int .i64 n, .string ⟨s.toArray⟩, .slice a ks.length cap] 24)
  have HF := Lib.hid hF.kids.2
  have HI := Lib.hid ih
  obtain ⟨R, hR⟩ : ∃ R, chkL ks (deep + 1) (left - 1) = R := ⟨_, rfl⟩
  rw [hR]
  have HR := Lib.hid hR
  have hlen : ks.length ≤ 9223372036854775807 := by have := hK.cap; omega
  clear hc ha hF ih hR hs hnc
  unfold exV strV at *
  go_enter Tryz.func22, Tryz.ntmps22
  go_wp2_with fail
  refine (HA.out _ (hL.below hb) (hK.keep hb)).mono ?_
  rintro e W1 ⟨rfl, hb1⟩
  have hb2 := hb.seq hb1
  have hblk : W1.heap[w.heap.size]? = some (.cells #[.int .i64 op, .int .i64 n, .string ⟨s.toArray⟩, .slice a ks.length cap] 24 (0, 0)) := by
    rw [hb1.block _ (by simp)]; exact heap_alloc_new w _
  obtain ⟨-, -, -, c3⟩ := four_cells hblk
  clear hb hb1 HA hblk
  go_wp2
  clear c3
  go_loopg [1, 8, 28] ks.length (fun g l ok i wr => ∃ (k m : Nat), i = .int .i64 k ∧ l = .int .i64 m ∧ ok = .bool true ∧ m ≤ 128 ∧ Below w.heap.size w wr ∧ k + g = ks.length ∧ Hid (chkL (ks.drop k) (deep + 1) m = R))
  case atStart => exact ⟨0, left - 1, rfl, by congr 1; omega, rfl, by omega, hb2, by omega, Lib.hid HR.out⟩
  case round =>
    obtain ⟨k, m, rfl, rfl, rfl, hm, hbw, hg, HC⟩ := hrel
    have hKr := hK.keep hbw
    by_cases hlt : k < ks.length
    · obtain ⟨b, off, u, rfl, c0, c1, c2, c3, hKu⟩ := hKr.at (List.getElem?_eq_getElem hlt)
      obtain ⟨ua, uc, rfl⟩ := hKu.form
      have hdr : ks.drop k = ks[k] :: ks.drop (k + 1) := List.drop_eq_getElem_cons hlt
      have hmem : ks[k] ∈ ks := List.getElem_mem hlt
      have hfk := HF.out _ hmem
      have HCC := HC.out
      rw [hdr, chkL_cons] at HCC
      have HD := Lib.hid HCC
      have hbA := hbw.alloc hbw.size (.cells #[.int .i64 ks[k].op, .int .i64 ks[k].n, .string ⟨ks[k].s.toArray⟩, .slice ua ks[k].ks.length uc] 24)
      have hlx := HI.out ks[k] hmem (.slice ua ks[k].ks.length uc) (deep + 1) m (wr.alloc (.cells #[.int .i64 ks[k].op, .int .i64 ks[k].n, .string ⟨ks[k].s.toArray⟩, .slice ua ks[k].ks.length uc] 24)) hfk hm (by omega) (hL.below hbA) (hKu.keep ((Below.refl _ _).alloc (Nat.le_refl _) _))
      rw [show (((deep + 1 : Nat)) : Int) = (deep : Int) + 1 from by omega] at hlx
      unfold holdsPost at hlx
      have HX := Lib.hid hlx
      have hcap := hK.cap
      try unfold strV at c2
      clear hlx hdr HCC hmem hfk hKu hKr HC
      have hmr := chkL_le ks[k] (deep + 1) m
      have HMR := Lib.hid hmr
      clear hmr
      cases hch : chk ks[k] (deep + 1) m with
      | none =>
        rw [hch] at HX HD
        have HD2 : Hid (R = none) := Lib.hid (by rw [← HD.out]; rfl)
        clear hch HD
        go_wp2_with fail
        refine HX.out.mono ?_
        rintro e W2 ⟨⟨m2, rfl, -⟩, hb3⟩
        have hb4 := hbA.seq hb3
        go_wp2
        go_ret2
        refine ⟨⟨m2, ?_, fun k hk => by rw [HD2.out] at hk; cases hk⟩, hb4⟩
        rw [HD2.out]; rfl
      | some x =>
        rw [hch] at HX HD
        have hx2 := HMR.out x hch
        have HD2 : Hid (chkL (ks.drop (k + 1)) (deep + 1) x = R) := Lib.hid (by rw [← HD.out]; rfl)
        clear hch HD
        go_wp2_with fail
        refine HX.out.mono ?_
        rintro e W2 ⟨⟨m2, rfl, hm2⟩, hb3⟩
        have hm3 : m2 = x := hm2 x rfl
        subst hm3
        have hb4 := hbA.seq hb3
        clear hm2
        go_wp2
        go_roundg (gk - 1)
        case rel => exact ⟨k + 1, x, by go_num, rfl, rfl, by omega, hb4, by omega, Lib.hid HD2.out⟩
        case measure => omega
    · have hnil : ks.drop k = [] := List.drop_eq_nil_of_le (by omega)
      have HD : Hid (R = some m) := Lib.hid (by rw [← HC.out, hnil, chkL_nil])
      clear hnil
      go_wp2
      go_ret2
      refine ⟨⟨m, ?_, fun k hk => by rw [HD.out] at hk; cases hk; rfl⟩, hbw⟩
      rw [HD.out]; rfl
set_option maxRecDepth 1000000 in
set_option maxHeartbeats 1000000 in
theorem parseCheck_any (e : Ex) (v : Value) (w : World) (hF : Fine e) (hL : Lay (gh w)) (hE : EV (gh w) v e) :
    Calls Tryz.prog 16 #[v] w fun r w' => r = .returned (.bool (check e)) ∧ Below w.heap.size w w' := by
  obtain ⟨kv, rfl, hK⟩ := hE
  obtain ⟨a, cap, rfl⟩ := hK.form
  have hb := (Below.refl w.heap.size w).alloc (Nat.le_refl _) (.cells #[.int .i64 e.op, .int .i64 e.n, .string ⟨e.s.toArray⟩, .slice a e.ks.length cap] 24)
  have hh := holds_any e (.slice a e.ks.length cap) 1 128 _ hF (by omega) (by omega) (hL.below hb) (hK.keep hb)
  have HC : Hid (check e = (chk e 1 128).isSome) := Lib.hid rfl
  unfold exV strV holdsPost at hh
  have HH := Lib.hid hh
  clear hh
  unfold exV strV
  go_enter Tryz.func16, Tryz.ntmps16
  go_wp2_with fail
  refine HH.out.mono ?_
  rintro r W1 ⟨⟨m, rfl, -⟩, hb1⟩
  go_wp2
  go_ret
  exact ⟨by rw [HC.out]; rfl, hb.seq hb1⟩
end Go.Proofs.YtilmmgkclijhjaaGreatDoor
namespace Go.Proofs.YtilmmgkclijhjaaGreatDoor
open Go.RowKit Pal
/-- Of what was there only block pb may have turned. -/
structure But (pb : Nat) (w w' : World) : Prop where
  os : w'.os = w.os
  tape : w'.tape = w.tape
  output : w'.output = w.output
  size : w.heap.size ≤ w'.heap.size
  block : ∀ b, b < w.heap.size → b ≠ pb → w'.heap[b]? = w.heap[b]?
theorem But.refl (pb : Nat) (w : World) : But pb w w := ⟨rfl, rfl, rfl, Nat.le_refl _, fun _ _ _ => rfl⟩
theorem But.trans {pb : Nat} {a b c : World} (h : But pb a b) (g : But pb b c) : But pb a c :=
  ⟨g.os.trans h.os, g.tape.trans h.tape, g.output.trans h.output, Nat.le_trans h.size g.size, fun x hx hn => (g.block x (Nat.lt_of_lt_of_le hx h.size) hn).trans (h.block x hx hn)⟩
theorem But.call {pb : Nat} {a b c : World} (h : But pb a b) (g : Below b.heap.size b c) : But pb a c :=
  h.trans ⟨g.os, g.tape, g.output, g.size, fun x hx _ => g.block x hx⟩
theorem But.below {pb : Nat} {a b : World} (g : Below a.heap.size a b) : But pb a b := (But.refl pb a).call g
theorem But.alloc {pb : Nat} {a b : World} (h : But pb a b) (o : Obj) : But pb a (b.alloc o) := h.call ((Below.refl _ _).alloc (Nat.le_refl _) _)
theorem But.drewN {pb : Nat} {a b : World} (h : But pb a b) (n : Nat) : But pb a (b.drewN n) := ⟨h.os, h.tape, h.output, h.size, h.block⟩
theorem But.drew {pb : Nat} {a b : World} (h : But pb a b) : But pb a b.drew := ⟨h.os, h.tape, h.output, h.size, h.block⟩
theorem But.setPb {pb : Nat} {a b : World} (h : But pb a b) (i : Nat) (v : Value) : But pb a (b.setCell ⟨pb, i, none⟩ v) :=
  h.trans ⟨rfl, rfl, rfl, by simp [World.setCell], fun x _ hn => Below.heap_setCell _ _ _ _ (fun e => hn e)⟩
theorem But.setNew {pb : Nat} {a b : World} (h : But pb a b) {p : Addr} (hp : a.heap.size ≤ p.block) (v : Value) : But pb a (b.setCell p v) :=
  ⟨h.os, h.tape, h.output, Nat.le_trans h.size (by simp [World.setCell]), fun x hx hn => (Below.heap_setCell _ _ _ _ (fun e => by omega)).trans (h.block x hx hn)⟩
/-- From where the block was not there: nothing that was there has turned. -/
theorem But.toBelow {pb : Nat} {w w' : World} (h : But pb w w') (hp : w.heap.size ≤ pb) : Below w.heap.size w w' := ⟨h.os, h.tape, h.output, h.size, fun b hb => h.block b hb (by omega)⟩
/-- What lies outside block pb. -/
def gb (pb : Nat) (w : World) : GH := fun b => if b = pb then none else w.heap[b]?
theorem gb_gh (pb : Nat) (w : World) : (gb pb w).le (gh w) := fun b o h => by
  unfold gb at h
  split at h
  · cases h
  · exact h
theorem But.gb {pb : Nat} {w w' : World} (h : But pb w w') : (gb pb w).le (gb pb w') := fun b o hh => by
  unfold Proofs.YtilmmgkclijhjaaGreatDoor.gb at hh ⊢
  split at hh
  · cases hh
  · rename_i hn
    rw [if_neg hn, h.block b (Array.getElem?_eq_some_iff.1 hh).1 hn]; exact hh
theorem gb_lt {pb : Nat} {w : World} (hp : w.heap.size ≤ pb) : (gh w).le (gb pb w) := fun b o h => by
  unfold gb
  have := (Array.getElem?_eq_some_iff.1 h).1
  rw [if_neg (by omega)]; exact h
/-- The parser: its tokens, where it is. -/
def PSt (w : World) (pb : Nat) (tv : Value) (p : Nat) : Prop := w.heap[pb]? = some (.cells #[tv, .int .i64 p] 66 (0, 0))
theorem PSt.cells {w : World} {pb : Nat} {tv : Value} {p : Nat} (h : PSt w pb tv p) : w.cell? ⟨pb, 0, none⟩ = some tv ∧ w.cell? ⟨pb, 1, none⟩ = some (.int .i64 p) ∧ w.frozen? ⟨pb, 1, none⟩ = false ∧ pb < w.heap.size := by
  unfold PSt at h
  exact ⟨by simp [World.cell?, h], by simp [World.cell?, h], by simp [World.frozen?, h], (Array.getElem?_eq_some_iff.1 h).1⟩
theorem PSt.keep {w w' : World} {pb : Nat} {tv : Value} {p : Nat} (h : PSt w pb tv p) (hb : Below w.heap.size w w') : PSt w' pb tv p := by
  unfold PSt at *
  rw [hb.block _ (Array.getElem?_eq_some_iff.1 h).1]; exact h
theorem PSt.set {w : World} {pb : Nat} {tv : Value} {p : Nat} (h : PSt w pb tv p) (q : Int) (q' : Nat) (e : q = q') : PSt (w.setCell ⟨pb, 1, none⟩ (.int .i64 q)) pb tv q' := by
  subst e
  unfold PSt at *
  simp [World.setCell, Array.getElem?_modify, h]
/-- A slice of texts. -/
def StrsV (h : GH) (v : Value) (l : List Bs) : Prop := ∃ a cap, v = .slice a l.length cap ∧ (a = none → l = []) ∧ l.length ≤ cap ∧ cap ≤ maxLen ∧ ∀ j s, l[j]? = some s → ∃ b off, a = some ⟨b, off, none⟩ ∧ h.cell b (off + j) = some (strV s)
theorem StrsV.mono {h h' : GH} (l : h.le h') {v : Value} {ss : List Bs} (s : StrsV h v ss) : StrsV h' v ss := by
  obtain ⟨a, cap, hv, hn, hc, hm, hx⟩ := s
  exact ⟨a, cap, hv, hn, hc, hm, fun j s hj => let ⟨b, off, ha, hcc⟩ := hx j s hj; ⟨b, off, ha, l.cell hcc⟩⟩
/-- One that has just been laid. -/
theorem StrsV.lay {w : World} {b : Nat} (l : List Bs) (T : TypeId) (h : w.heap[b]? = some (.cells (l.map strV).toArray T (0, 0))) (hm : l.length ≤ maxLen) : StrsV (gh w) (.slice (some ⟨b, 0, none⟩) l.length l.length) l := by
  refine ⟨_, _, rfl, fun h => (by cases h), Nat.le_refl _, hm, fun j s hj => ⟨b, 0, rfl, ?_⟩⟩
  rw [gh_cell]
  simp [World.cell?, h, hj]
theorem cell_old {w : World} {b i : Nat} {v : Value} (hb : b < w.heap.size) (h : w.cell? ⟨b, i, none⟩ = some v) (o : Obj) : (w.alloc o).cell? ⟨b, i, none⟩ = some v := by
  rw [World.cell?_alloc_past _ _ _ hb]; exact h
theorem StrsV.at {w : World} {a : Option Addr} {n cap : Nat} {ss : List Bs} (t : StrsV (gh w) (.slice a n cap) ss) {j : Nat} {s : Bs} (hj : ss[j]? = some s) : ∃ b off, a = some ⟨b, off, none⟩ ∧ w.cell? ⟨b, off + j, none⟩ = some (strV s) := by
  obtain ⟨a', cap', hv, hn, hc, hm, hx⟩ := t
  simp only [Value.slice.injEq] at hv
  obtain ⟨rfl, rfl, rfl⟩ := hv
  obtain ⟨b, off, ha, hcc⟩ := hx j s hj
  rw [gh_cell] at hcc
  exact ⟨b, off, ha, hcc⟩
theorem StrsV.form {h : GH} {v : Value} {ss : List Bs} (t : StrsV h v ss) : ∃ a cap, v = .slice a ss.length cap := by obtain ⟨a, cap, hv, _⟩ := t; exact ⟨a, cap, hv⟩
end Go.Proofs.YtilmmgkclijhjaaGreatDoor
