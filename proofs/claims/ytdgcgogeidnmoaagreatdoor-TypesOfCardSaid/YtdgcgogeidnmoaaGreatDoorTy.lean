/- The walks of palaverref08.find, all, of. Conditions: the types are some of three. -/
import Derived.Test.YtdgcgogeidnmoaaGreatDoorCp
import Derived.Test.YtdgcgogeidnmoaaGreatDoorT3
import Derived.Test.YtdgcgogeidnmoaaGreatDoorPx
set_option linter.unusedSimpArgs false
set_option linter.unusedVariables false
set_option linter.unusedSectionVars false
namespace Go.Proofs.YtdgcgogeidnmoaaGreatDoor
open Go.RowKit Pal
set_option maxRecDepth 1000000 in
set_option maxHeartbeats 2000000 in
theorem refFind_any (s : Bs) (names : List Bs) (types : List Int) (nv tv : Value) (w : World) (hN : StrsV (gh w) nv names) (hT : IntsV (gh w) tv types) :
    Calls Tryz.prog 79 #[strV s, nv, tv] w fun e w' => e = .returned (.int .i64 (findT names types s)) ∧ w = w' := by
  obtain ⟨na, nc, rfl⟩ := hN.form
  obtain ⟨ta, tc, rfl, htl⟩ := intsV_form hT
  have hnl : names.length ≤ 9223372036854775807 := by
    obtain ⟨_, _, hv, _, h1, h2, _⟩ := hN
    simp only [Value.slice.injEq] at hv
    unfold maxLen at h2
    omega
  obtain ⟨R, hR⟩ : ∃ R, findT names types s = R := ⟨_, rfl⟩
  rw [hR]
  have HR := Lib.hid hR
  clear hR
  unfold strV
  go_enter Tryz.func79, Tryz.ntmps79
  go_wp2
  go_loopg [7] names.length (fun g i wr => ∃ k : Nat, i = .int .i64 k ∧ k + g = names.length ∧ wr = w ∧ Hid (findT (names.drop k) (types.drop k) s = R))
  case atStart => exact ⟨0, rfl, by omega, rfl, Lib.hid HR.out⟩
  case round =>
    obtain ⟨k, rfl, hg, rfl, HC⟩ := hrel
    by_cases hlt : k < names.length
    · obtain ⟨b, off, rfl, c0⟩ := hN.at (List.getElem?_eq_getElem hlt)
      unfold strV at c0
      have hdr : names.drop k = names[k] :: names.drop (k + 1) := List.drop_eq_getElem_cons hlt
      by_cases hs : names[k] = s
      · have hc := HC.out
        rw [hdr, findT_hit hs] at hc
        have q : (names[k] != s) = false := by simp [hs]
        have qe : (names[k] == s) = true := by simp [hs]
        by_cases hlt2 : k < types.length
        · rw [List.drop_eq_getElem_cons hlt2] at hc
          simp only at hc
          obtain ⟨b2, off2, rfl, c2⟩ := intsV_at hT (List.getElem?_eq_getElem hlt2)
          generalize types[k] = t at *
          have HD := Lib.hid hc
          have q2 : (decide (types.length ≤ k)) = false := decide_eq_false (by omega)
          have q3 : ¬ types.length ≤ k := by omega
          clear hc hdr HC hN hT
          by_cases h1 : t < 1
          · have HE : Hid (R = 0) := Lib.hid (by rw [← HD.out, if_neg (fun h => by omega)])
            clear hs
            go_wp2
            try rw [Exit.noGoto_ret]
            go_ret
            exact ⟨by rw [HE.out]; rfl, rfl⟩
          · by_cases h2 : 3 < t
            · have HE : Hid (R = 0) := Lib.hid (by rw [← HD.out, if_neg (fun h => by omega)])
              clear hs
              go_wp2
              try rw [Exit.noGoto_ret]
              go_ret
              exact ⟨by rw [HE.out]; rfl, rfl⟩
            · have HE : Hid (R = t) := Lib.hid (by rw [← HD.out, if_pos ⟨by omega, by omega⟩])
              clear hs
              go_wp2
              try rw [Exit.noGoto_ret]
              go_ret
              exact ⟨by rw [HE.out]; rfl, rfl⟩
        · rw [List.drop_eq_nil_of_le (by omega)] at hc
          have HE : Hid (R = 0) := Lib.hid (by rw [← hc])
          have q3 : types.length ≤ k := by omega
          clear hc hdr HC hs hN hT
          go_wp2
          try rw [Exit.noGoto_ret]
          go_ret
          exact ⟨by rw [HE.out]; rfl, rfl⟩
      · have hc := HC.out
        rw [hdr, findT_miss hs, List.tail_drop] at hc
        have HD := Lib.hid hc
        have q : (names[k] != s) = true := bne_iff_ne.2 hs
        have qe : (names[k] == s) = false := beq_eq_false_iff_ne.2 hs
        clear hc hdr HC hs
        go_wp2
        go_roundg (gk - 1)
        case rel => exact ⟨k + 1, by go_num, by omega, rfl, Lib.hid HD.out⟩
        case measure => omega
    · have HE : Hid (R = 0) := Lib.hid (by rw [← HC.out, List.drop_eq_nil_of_le (by omega), findT_nil])
      clear HC
      go_wp2
      go_ret
      exact ⟨by rw [HE.out]; rfl, rfl⟩
def allT (t : Int) (ts : List Int) : Bool := ts.all (fun x => x == t)
set_option maxRecDepth 1000000 in
set_option maxHeartbeats 2000000 in
theorem refAll_any (t : Int) (ts : List Int) (tv : Value) (w : World) (hT : IntsV (gh w) tv ts) :
    Calls Tryz.prog 120 #[tv, .int .i64 t] w fun e w' => e = .returned (.bool (allT t ts)) ∧ w = w' := by
  obtain ⟨ta, tc, rfl, htl⟩ := intsV_form hT
  obtain ⟨R, hR⟩ : ∃ R, allT t ts = R := ⟨_, rfl⟩
  rw [hR]
  have HR := Lib.hid hR
  clear hR
  go_enter Tryz.func120, Tryz.ntmps120
  go_wp2
  go_loopg [5] ts.length (fun g i wr => ∃ k : Nat, i = .int .i64 k ∧ k + g = ts.length ∧ wr = w ∧ Hid (allT t (ts.drop k) = R))
  case atStart => exact ⟨0, rfl, by omega, rfl, Lib.hid HR.out⟩
  case round =>
    obtain ⟨k, rfl, hg, rfl, HC⟩ := hrel
    by_cases hlt : k < ts.length
    · obtain ⟨b2, off2, rfl, c2⟩ := intsV_at hT (List.getElem?_eq_getElem hlt)
      have hc := HC.out
      rw [List.drop_eq_getElem_cons hlt] at hc
      unfold allT at hc
      rw [List.all_cons] at hc
      generalize ts[k] = x at *
      by_cases hx : x = t
      · have q : (x != t) = false := by simp [hx]
        have HD : Hid (allT t (ts.drop (k + 1)) = R) := Lib.hid (by rw [← hc]; simp [hx, allT])
        clear hc HC hx
        go_wp2
        go_roundg (gk - 1)
        case rel => exact ⟨k + 1, by go_num, by omega, rfl, HD⟩
        case measure => omega
      · have q : (x != t) = true := bne_iff_ne.2 hx
        have HE : Hid (R = false) := Lib.hid (by rw [← hc, beq_eq_false_iff_ne.2 hx]; rfl)
        clear hc HC hx
        go_wp2
        try rw [Exit.noGoto_ret]
        go_ret
        exact ⟨by rw [HE.out]; rfl, rfl⟩
    · have HE : Hid (R = true) := Lib.hid (by rw [← HC.out, List.drop_eq_nil_of_le (by omega)]; rfl)
      clear HC
      go_wp2
      go_ret
      exact ⟨by rw [HE.out]; rfl, rfl⟩
theorem allT_1 (t a : Int) : allT t [a] = decide (a = t) := by unfold allT; simp only [List.all_cons, List.all_nil, Bool.and_true]; rw [Bool.eq_iff_iff]; simp
theorem allT_2 (t a b : Int) : allT t [a, b] = decide (a = t ∧ b = t) := by unfold allT; simp only [List.all_cons, List.all_nil, Bool.and_true]; rw [Bool.eq_iff_iff]; simp
def ofPost8 (op : Int) (ts : List Int) (w : World) (e : Ending) (w' : World) : Prop := e = .returned (.int .i64 (made op (ts.getD 0 0) (ts.getD 1 0) (ts.getD 2 0))) ∧ Below w.heap.size w w'
set_option maxRecDepth 1000000 in
set_option maxHeartbeats 4000000 in
/-- Those that ask one type of all. -/
theorem of_one (op t r : Int) (ts : List Int) (tv : Value) (w : World) (hT : IntsV (gh w) tv ts)
    (h : (op = 5 ∨ op = 7 ∨ op = 8 ∨ op = 9 ∨ op = 10 ∨ op = 11) ∧ t = 1 ∧ r = 1 ∨ (op = 6 ∨ op = 16 ∨ op = 17) ∧ t = 2 ∧ r = 2 ∨ (op = 20 ∨ op = 23) ∧ t = 3 ∧ r = 3)
    (hm : made op (ts.getD 0 0) (ts.getD 1 0) (ts.getD 2 0) = if allT t ts = true then r else 0) :
    Calls Tryz.prog 80 #[.int .i64 op, tv] w (ofPost8 op ts w) := by
  have HM := Lib.hid hm
  have HA := Lib.hid (refAll_any t ts tv w hT)
  clear hm hT
  cases ha : allT t ts with
  | true =>
    rw [ha] at HA HM
    clear ha
    rcases h with ⟨h, rfl, rfl⟩ | ⟨h, rfl, rfl⟩ | ⟨h, rfl, rfl⟩
    · rcases h with rfl | rfl | rfl | rfl | rfl | rfl
      all_goals
        go_enter Tryz.func80, Tryz.ntmps80
        go_wp2_with fail
        refine HA.out.mono ?_
        rintro e W ⟨rfl, rfl⟩
        go_wp2
        go_ret
        exact ⟨by rw [HM.out]; rfl, Below.refl _ _⟩
    · rcases h with rfl | rfl | rfl
      all_goals
        go_enter Tryz.func80, Tryz.ntmps80
        go_wp2_with fail
        refine HA.out.mono ?_
        rintro e W ⟨rfl, rfl⟩
        go_wp2
        go_ret
        exact ⟨by rw [HM.out]; rfl, Below.refl _ _⟩
    · rcases h with rfl | rfl
      all_goals
        go_enter Tryz.func80, Tryz.ntmps80
        go_wp2_with fail
        refine HA.out.mono ?_
        rintro e W ⟨rfl, rfl⟩
        go_wp2
        go_ret
        exact ⟨by rw [HM.out]; rfl, Below.refl _ _⟩
  | false =>
    rw [ha] at HA HM
    clear ha
    rcases h with ⟨h, rfl, rfl⟩ | ⟨h, rfl, rfl⟩ | ⟨h, rfl, rfl⟩
    · rcases h with rfl | rfl | rfl | rfl | rfl | rfl
      all_goals
        go_enter Tryz.func80, Tryz.ntmps80
        go_wp2_with fail
        refine HA.out.mono ?_
        rintro e W ⟨rfl, rfl⟩
        go_wp2
        go_ret
        exact ⟨by rw [HM.out]; rfl, Below.refl _ _⟩
    · rcases h with rfl | rfl | rfl
      all_goals
        go_enter Tryz.func80, Tryz.ntmps80
        go_wp2_with fail
        refine HA.out.mono ?_
        rintro e W ⟨rfl, rfl⟩
        go_wp2
        go_ret
        exact ⟨by rw [HM.out]; rfl, Below.refl _ _⟩
    · rcases h with rfl | rfl
      all_goals
        go_enter Tryz.func80, Tryz.ntmps80
        go_wp2_with fail
        refine HA.out.mono ?_
        rintro e W ⟨rfl, rfl⟩
        go_wp2
        go_ret
        exact ⟨by rw [HM.out]; rfl, Below.refl _ _⟩
end Go.Proofs.YtdgcgogeidnmoaaGreatDoor
