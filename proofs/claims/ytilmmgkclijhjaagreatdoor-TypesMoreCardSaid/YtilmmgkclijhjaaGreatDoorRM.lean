/- The walks of the document's Reserved, Name, Arity, plain. Condition: the text is no longer than any may be. -/
import Derived.Test.YtilmmgkclijhjaaGreatDoorRL
import Derived.Test.YtilmmgkclijhjaaGreatDoorRE
set_option linter.unusedSimpArgs false
set_option linter.unusedVariables false
set_option linter.unusedSectionVars false
namespace Go.Proofs.YtilmmgkclijhjaaGreatDoor
open Go.RowKit Pal
def words8 : List Bs := [wTrue, wFalse, wIf, wLen, wCat, wCut, wHas, wUp]
set_option maxRecDepth 1000000 in
set_option maxHeartbeats 4000000 in
theorem refReserved_any (s : Bs) (w : World) : Calls Tryz.prog 35 #[.string ⟨s.toArray⟩] w fun e w' => e = .returned (.bool (word s)) ∧ Below w.heap.size w w' := by
  obtain ⟨R, hR⟩ : ∃ R, word s = R := ⟨_, rfl⟩
  rw [hR]
  have HR := Lib.hid hR
  have hl := StrsV.lay (w := w.alloc (.cells (words8.map strV).toArray 9)) (b := w.heap.size) words8 9 (heap_alloc_new w _) (by simp [maxLen, words8])
  have hb : Below w.heap.size w (w.alloc (.cells (words8.map strV).toArray 9)) := (Below.refl _ _).alloc (Nat.le_refl _) _
  simp only [words8, List.map_cons, List.map_nil, strV, wTrue, wFalse, wIf, wLen, wCat, wCut, wHas, wUp, List.length_cons, List.length_nil, Nat.zero_add, Nat.reduceAdd] at hl hb
  have HL := Lib.hid hl
  have HB := Lib.hid hb
  clear hR hl hb
  go_enter Tryz.func35, Tryz.ntmps35
  go_wp2
  have HL2 : Hid (StrsV (gh _) _ words8) := HL
  generalize (w.alloc _) = W at *
  go_loopg [4] 8 (fun g i wr => ∃ j : Nat, i = .int .i64 j ∧ wr = W ∧ j + g = 8 ∧ Hid (∀ i, i < j → words8[i]? ≠ some s))
  case atStart => exact ⟨0, rfl, rfl, by omega, Lib.hid (fun i hi => by omega)⟩
  case round =>
    obtain ⟨j, rfl, rfl, hg, HN⟩ := hrel
    by_cases hj : j < 8
    · have hj8 : j < words8.length := by simpa [words8] using hj
      obtain ⟨b, off, he, c0⟩ := HL2.out.at (List.getElem?_eq_getElem hj8)
      simp only [Option.some.injEq, Addr.mk.injEq, and_true] at he
      obtain ⟨rfl, rfl⟩ := he
      have hgg := List.getElem?_eq_getElem hj8
      have HG := Lib.hid hgg
      unfold strV at c0
      generalize words8[j] = x at *
      rw [Nat.zero_add] at c0
      clear hgg
      by_cases hx : x = s
      · have q : (x == s) = true := by simp [hx]
        have HE : Hid (R = true) := Lib.hid (by
          rw [← HR.out]
          unfold word
          rw [List.contains_iff_mem]
          exact List.mem_of_getElem? (by rw [← hx]; exact HG.out))
        clear hx
        go_wp2
        try rw [Exit.noGoto_ret]
        go_ret
        exact ⟨by rw [HE.out]; rfl, HB.out⟩
      · have q : (x == s) = false := beq_no hx
        have HN2 : Hid (∀ i, i < j + 1 → words8[i]? ≠ some s) := Lib.hid (fun i hi h => by
          by_cases h2 : i < j
          · exact HN.out i h2 h
          · obtain rfl : i = j := by omega
            rw [HG.out] at h
            exact hx (Option.some.inj h))
        clear hx
        go_wp2
        go_roundg (gk - 1)
        case rel => exact ⟨j + 1, by go_num, rfl, by omega, HN2⟩
        case measure => omega
    · have HE : Hid (R = false) := Lib.hid (by
        rw [← HR.out]
        cases h : word s with
        | false => rfl
        | true =>
          unfold word at h
          rw [List.contains_iff_mem] at h
          obtain ⟨i, hi, e⟩ := List.getElem_of_mem h
          exact absurd (by rw [← e]; exact List.getElem?_eq_getElem hi) (HN.out i (by simp at hi; omega)))
      go_wp2
      try rw [Exit.noGoto_ret]
      go_ret
      exact ⟨by rw [HE.out]; rfl, HB.out⟩
def nameOf (ts : List Tok) (s : Bs) : Bool := match ts with | [t, _] => decide (t.k = 3 ∧ t.s = s) && !word s | _ => false
theorem isName_ok {s : Bs} {ts : List Tok} (hl : ¬ 400 < s.length) (h : lexAll s = .ok ts) : isName s = nameOf ts s := by
  unfold isName nameOf
  rw [h, decide_eq_true (by omega), Bool.true_and]
  rcases ts with _ | ⟨t, _ | ⟨u, _ | ⟨v, r⟩⟩⟩ <;> rfl
theorem isName_err {s : Bs} {p : Nat} (h : lexAll s = .error p) : isName s = false := by
  unfold isName
  rw [h]
  simp
set_option maxRecDepth 1000000 in
set_option maxHeartbeats 4000000 in
theorem refName_any (s : Bs) (w : World) (hm : s.length ≤ 9223372036854775807) : Calls Tryz.prog 26 #[.string ⟨s.toArray⟩] w fun e w' => e = .returned (.bool (isName s)) ∧ Below w.heap.size w w' := by
  by_cases hl : 400 < s.length
  · have HX := Lib.hid (refLex_long s w hl hm)
    have HE : Hid (isName s = false) := Lib.hid (by unfold isName; rw [decide_eq_false (by omega)]; rfl)
    clear hl
    go_enter Tryz.func26, Tryz.ntmps26
    go_wp2_with fail
    refine HX.out.mono ?_
    rintro e W ⟨rfl, rfl⟩
    go_wp2
    go_ret
    exact ⟨by rw [HE.out]; rfl, Below.refl _ _⟩
  · have hx := refLex_any s w (by omega)
    unfold refLexPost at hx
    cases hlx : lexAll s with
    | error p =>
      rw [hlx] at hx
      have HX := Lib.hid hx
      have HE : Hid (isName s = false) := Lib.hid (isName_err hlx)
      clear hx hlx
      go_enter Tryz.func26, Tryz.ntmps26
      go_wp2_with fail
      refine HX.out.mono ?_
      rintro e W ⟨hb, rfl⟩
      go_wp2
      go_ret
      exact ⟨by rw [HE.out]; rfl, hb⟩
    | ok ts =>
      rw [hlx] at hx
      have HX := Lib.hid hx
      have HI := Lib.hid (isName_ok hl hlx)
      clear hx hlx
      go_enter Tryz.func26, Tryz.ntmps26
      go_wp2_with fail
      refine HX.out.mono ?_
      rintro e W ⟨hb, v, rfl, hv⟩
      obtain ⟨a, cap, rfl⟩ := hv.form
      by_cases h2 : ts.length = 2
      · match ts, h2 with
        | [t, t2], _ =>
          have hv' : TokV (gh W) (.slice a 2 cap) [t, t2] := hv
          obtain ⟨b, off, rfl, c0, c1, -, -⟩ := hv'.at (j := 0) (x := t) rfl
          simp only [Nat.zero_mul, Nat.add_zero] at c0 c1
          unfold strV at c1
          have HI2 : Hid (isName s = (decide (t.k = 3 ∧ t.s = s) && !word s)) := HI
          simp only [List.length_cons, List.length_nil, Nat.zero_add]
          clear hv hv' HI HX
          by_cases hk : t.k = 3
          · have q1 : (t.k == 3) = true := by simp [hk]
            by_cases hs : t.s = s
            · have q2 : (t.s == s) = true := by simp [hs]
              have HE : Hid (isName s = !word s) := Lib.hid (by rw [HI2.out, decide_eq_true ⟨hk, hs⟩, Bool.true_and])
              have HRS := Lib.hid (refReserved_any s W)
              clear hk hs HI2
              go_wp2_with fail
              refine HRS.out.mono ?_
              rintro e W2 ⟨rfl, hb2⟩
              have hb3 := hb.seq hb2
              generalize word s = wd' at *
              go_wp2
              go_ret
              exact ⟨by rw [HE.out]; rfl, hb3⟩
            · have q2 : (t.s == s) = false := beq_no hs
              have HE : Hid (isName s = false) := Lib.hid (by rw [HI2.out, decide_eq_false (fun h => hs h.2), Bool.false_and])
              clear hk hs HI2
              go_wp2
              go_ret
              exact ⟨by rw [HE.out]; rfl, hb⟩
          · have q1 : (t.k == 3) = false := beq_eq_false_iff_ne.2 hk
            have HE : Hid (isName s = false) := Lib.hid (by rw [HI2.out, decide_eq_false (fun h => hk h.1), Bool.false_and])
            clear hk HI2
            go_wp2
            go_ret
            exact ⟨by rw [HE.out]; rfl, hb⟩
      · have q0 : ((ts.length : Int) == 2) = false := beq_eq_false_iff_ne.2 (by omega)
        have HE : Hid (isName s = false) := Lib.hid (by
          rw [HI.out]
          match ts, h2 with
          | [], _ => rfl
          | [_], _ => rfl
          | [_, _], h => exact absurd rfl h
          | _ :: _ :: _ :: _, _ => rfl)
        clear hv h2 HI HX
        go_wp2
        go_ret
        exact ⟨by rw [HE.out]; rfl, hb⟩
set_option maxRecDepth 1000000 in
theorem refArity_1 (op : Int) (w : World) (h : op = 5 ∨ op = 6 ∨ op = 19 ∨ op = 22 ∨ op = 23 ∨ op = 20 ∨ op = 21 ∨ op = 18 ∨ op = 1 ∨ op = 2 ∨ op = 3 ∨ op = 4) :
    Calls Tryz.prog 18 #[.int .i64 op] w fun e w' => e = .returned (.int .i64 (arity op)) ∧ w' = w := by
  rcases h with rfl | rfl | rfl | rfl | rfl | rfl | rfl | rfl | rfl | rfl | rfl | rfl
  all_goals
    go_enter Tryz.func18, Tryz.ntmps18
    go_wp2
    go_ret
    exact ⟨rfl, rfl⟩
set_option maxRecDepth 1000000 in
theorem refArity_2 (op : Int) (w : World) (h : ¬ (op = 5 ∨ op = 6 ∨ op = 19 ∨ op = 22 ∨ op = 23 ∨ op = 20 ∨ op = 21 ∨ op = 18 ∨ op = 1 ∨ op = 2 ∨ op = 3 ∨ op = 4)) :
    Calls Tryz.prog 18 #[.int .i64 op] w fun e w' => e = .returned (.int .i64 (arity op)) ∧ w' = w := by
  have e5 : (op == 5) = false := beq_eq_false_iff_ne.2 (by omega)
  have e6 : (op == 6) = false := beq_eq_false_iff_ne.2 (by omega)
  have e19 : (op == 19) = false := beq_eq_false_iff_ne.2 (by omega)
  have e22 : (op == 22) = false := beq_eq_false_iff_ne.2 (by omega)
  have e23 : (op == 23) = false := beq_eq_false_iff_ne.2 (by omega)
  have e20 : (op == 20) = false := beq_eq_false_iff_ne.2 (by omega)
  have e21 : (op == 21) = false := beq_eq_false_iff_ne.2 (by omega)
  have e18 : (op == 18) = false := beq_eq_false_iff_ne.2 (by omega)
  by_cases h7 : 7 ≤ op ∧ op ≤ 17
  · have HE : Hid (arity op = 2) := Lib.hid (by unfold arity; rw [if_neg (by omega), if_neg (by omega), if_pos (by omega)])
    obtain ⟨h7, h17⟩ := h7
    have g1 : 1 ≤ op := by omega
    have g4 : ¬ op ≤ 4 := by omega
    clear h
    go_enter Tryz.func18, Tryz.ntmps18
    go_wp2
    go_ret
    exact ⟨by rw [HE.out]; rfl, rfl⟩
  · have HE : Hid (arity op = -1) := Lib.hid (by unfold arity; rw [if_neg (by omega), if_neg (by omega), if_neg (by omega), if_neg (by omega)])
    rcases (by omega : op < 1 ∨ 23 < op) with h1 | h1
    · clear h h7
      go_enter Tryz.func18, Tryz.ntmps18
      go_wp2
      go_ret
      exact ⟨by rw [HE.out]; rfl, rfl⟩
    · have g4 : ¬ op ≤ 4 := by omega
      have g7 : 7 ≤ op := by omega
      have g17 : ¬ op ≤ 17 := by omega
      clear h h7
      go_enter Tryz.func18, Tryz.ntmps18
      go_wp2
      go_ret
      exact ⟨by rw [HE.out]; rfl, rfl⟩
theorem refArity_any (op : Int) (w : World) : Calls Tryz.prog 18 #[.int .i64 op] w fun e w' => e = .returned (.int .i64 (arity op)) ∧ w' = w := by
  by_cases h : op = 5 ∨ op = 6 ∨ op = 19 ∨ op = 22 ∨ op = 23 ∨ op = 20 ∨ op = 21 ∨ op = 18 ∨ op = 1 ∨ op = 2 ∨ op = 3 ∨ op = 4
  · exact refArity_1 op w h
  · exact refArity_2 op w h
/-- Are its own number and text right? -/
def plainM (op n : Int) (s : Bs) : Bool :=
  if op = 1 then decide (0 ≤ n) && List.isEmpty s
  else if op = 2 then decide (n = 0) && textOk s
  else if op = 3 then (n == 0 || n == 1) && List.isEmpty s
  else if op = 4 then decide (n = 0) && isName s
  else decide (n = 0) && List.isEmpty s
theorem alone_plain (op n : Int) (s : Bs) (ks : List Ex) : alone op n s ks = (decide ((ks.length : Int) = arity op) && (plainM op n s && decide (op = 22 → kidOp ks = 4))) := by
  have d3 : decide (n = 0 ∨ n = 1) = (n == 0 || n == 1) := by rw [Bool.eq_iff_iff]; simp
  unfold alone plainM
  congr 1
  split
  · rw [Bool.decide_and, emp_iff, decide_eq_true (show op = 22 → kidOp ks = 4 by omega), Bool.and_true]
  split
  · rw [decide_eq_true (show op = 22 → kidOp ks = 4 by omega), Bool.and_true]
  split
  · rw [Bool.decide_and, emp_iff, d3, decide_eq_true (show op = 22 → kidOp ks = 4 by omega), Bool.and_true]
  split
  · rw [decide_eq_true (show op = 22 → kidOp ks = 4 by omega), Bool.and_true]
  · rw [Bool.decide_and, Bool.decide_and, emp_iff, Bool.and_assoc]
set_option maxRecDepth 1000000 in
set_option maxHeartbeats 4000000 in
theorem refPlain_any (op n : Int) (s : Bs) (a : Option Addr) (len cap : Nat) (w : World) (hm : s.length ≤ 9223372036854775806) :
    Calls Tryz.prog 19 #[.agg #[.int .i64 op, .int .i64 n, .string ⟨s.toArray⟩, .slice a len cap]] w fun e w' => e = .returned (.bool (plainM op n s)) ∧ Below w.heap.size w w' := by
  have HB := Lib.hid ((Below.refl w.heap.size w).alloc (Nat.le_refl _) (.cells #[.int .i64 op, .int .i64 n, .string ⟨s.toArray⟩, .slice a len cap] 24))
  by_cases h1 : op = 1
  · subst h1
    cases hd : decide (0 ≤ n) <;> cases he : List.isEmpty s
    all_goals
      have hd' := hd
      simp at hd'
      have HE : Hid (plainM 1 n s = (decide (0 ≤ n) && List.isEmpty s)) := Lib.hid (by unfold plainM; rw [if_pos rfl])
      rw [hd, he] at HE
      clear hd
      go_enter Tryz.func19, Tryz.ntmps19
      go_wp2
      go_ret
      exact ⟨by rw [HE.out]; rfl, HB.out⟩
  by_cases h2 : op = 2
  · subst h2
    by_cases hn : n = 0
    · have q : (n == 0) = true := by simp [hn]
      have HE : Hid (plainM 2 n s = okV ⟨3, 0, s⟩) := Lib.hid (by unfold plainM; rw [if_neg (by decide), if_pos rfl, decide_eq_true hn]; simp [okV])
      have hc := fun w => refCheck_any 3 0 s w (by omega)
      unfold strV at hc
      have HC := Lib.hid hc
      clear hn h1 hc
      go_enter Tryz.func19, Tryz.ntmps19
      go_wp2_with fail
      refine (HC.out _).mono ?_
      rintro e W ⟨rfl, hb⟩
      have hb2 := HB.out.seq hb
      generalize okV ⟨3, 0, s⟩ = x at *
      go_wp2
      go_ret
      exact ⟨by rw [HE.out]; rfl, hb2⟩
    · have q : (n == 0) = false := beq_eq_false_iff_ne.2 hn
      have HE : Hid (plainM 2 n s = false) := Lib.hid (by unfold plainM; rw [if_neg (by decide), if_pos rfl, decide_eq_false hn]; rfl)
      clear hn h1
      go_enter Tryz.func19, Tryz.ntmps19
      go_wp2
      go_ret
      exact ⟨by rw [HE.out]; rfl, HB.out⟩
  by_cases h3 : op = 3
  · subst h3
    cases q0 : (n == 0) <;> cases q1 : (n == 1) <;> cases he : List.isEmpty s
    all_goals
      have HE : Hid (plainM 3 n s = ((n == 0 || n == 1) && List.isEmpty s)) := Lib.hid (by unfold plainM; rw [if_neg (by decide), if_neg (by decide), if_pos rfl])
      rw [q0, q1, he] at HE
      clear h1 h2
      go_enter Tryz.func19, Tryz.ntmps19
      go_wp2
      go_ret
      exact ⟨by rw [HE.out]; rfl, HB.out⟩
  by_cases h4 : op = 4
  · subst h4
    by_cases hn : n = 0
    · have q : (n == 0) = true := by simp [hn]
      have HE : Hid (plainM 4 n s = isName s) := Lib.hid (by unfold plainM; rw [if_neg (by decide), if_neg (by decide), if_neg (by decide), if_pos rfl, decide_eq_true hn]; simp)
      have HC := Lib.hid (fun w => refName_any s w (by omega))
      clear hn h1 h2 h3
      go_enter Tryz.func19, Tryz.ntmps19
      go_wp2_with fail
      refine (HC.out _).mono ?_
      rintro e W ⟨rfl, hb⟩
      have hb2 := HB.out.seq hb
      generalize isName s = x at *
      go_wp2
      go_ret
      exact ⟨by rw [HE.out]; rfl, hb2⟩
    · have q : (n == 0) = false := beq_eq_false_iff_ne.2 hn
      have HE : Hid (plainM 4 n s = false) := Lib.hid (by unfold plainM; rw [if_neg (by decide), if_neg (by decide), if_neg (by decide), if_pos rfl, decide_eq_false hn]; rfl)
      clear hn h1 h2 h3
      go_enter Tryz.func19, Tryz.ntmps19
      go_wp2
      go_ret
      exact ⟨by rw [HE.out]; rfl, HB.out⟩
  · have e1 : (op == 1) = false := beq_eq_false_iff_ne.2 h1
    have e2 : (op == 2) = false := beq_eq_false_iff_ne.2 h2
    have e3 : (op == 3) = false := beq_eq_false_iff_ne.2 h3
    have e4 : (op == 4) = false := beq_eq_false_iff_ne.2 h4
    have HE0 : Hid (plainM op n s = (decide (n = 0) && List.isEmpty s)) := Lib.hid (by unfold plainM; rw [if_neg h1, if_neg h2, if_neg h3, if_neg h4])
    have hn2 : decide (n = 0) = (n == 0) := by rw [Bool.eq_iff_iff]; simp
    rw [hn2] at HE0
    clear h1 h2 h3 h4 hn2
    cases q0 : (n == 0) <;> cases he : List.isEmpty s
    all_goals
      have HE := HE0
      rw [q0, he] at HE
      clear HE0
      go_enter Tryz.func19, Tryz.ntmps19
      go_wp2
      go_ret
      exact ⟨by rw [HE.out]; rfl, HB.out⟩
end Go.Proofs.YtilmmgkclijhjaaGreatDoor
