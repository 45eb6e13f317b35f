/- The walks of types.find, types.made. -/
import Derived.Test.YtilmmgkclijhjaaGreatDoorVb
set_option linter.unusedSimpArgs false
set_option linter.unusedVariables false
set_option linter.unusedSectionVars false
namespace Go.Proofs.YtilmmgkclijhjaaGreatDoor
open Go.RowKit Pal
theorem intsV_at {w : World} {a : Option Addr} {n cap : Nat} {xs : List Int} (t : IntsV (gh w) (.slice a n cap) xs) {j : Nat} {x : Int} (hj : xs[j]? = some x) : ∃ b off, a = some ⟨b, off, none⟩ ∧ w.cell? ⟨b, off + j, none⟩ = some (.int .i64 x) := by
  obtain ⟨a', cap', hv, hn, hl, hx⟩ := t
  simp only [Value.slice.injEq] at hv
  obtain ⟨rfl, rfl, rfl⟩ := hv
  obtain ⟨b, off, ha, hc⟩ := hx j x hj
  rw [gh_cell] at hc
  exact ⟨b, off, ha, hc⟩
theorem intsV_form {h : GH} {v : Value} {xs : List Int} (t : IntsV h v xs) : ∃ a cap, v = .slice a xs.length cap ∧ xs.length ≤ 17592186044416 := by obtain ⟨a, cap, hv, _, hl, _⟩ := t; exact ⟨a, cap, hv, hl⟩
theorem findT_nil (ts : List Int) (s : Bs) : findT [] ts s = 0 := by unfold findT; rfl
theorem findT_hit {m s : Bs} {ms : List Bs} {ts : List Int} (h : m = s) : findT (m :: ms) ts s = (match ts with | t :: _ => if 1 ≤ t ∧ t ≤ 3 then t else 0 | [] => 0) := by rw [findT.eq_def]; simp only; rw [if_pos h]; cases ts <;> rfl
theorem findT_miss {m s : Bs} {ms : List Bs} {ts : List Int} (h : ¬ m = s) : findT (m :: ms) ts s = findT ms ts.tail s := by rw [findT.eq_def]; simp only; rw [if_neg h]
def findPost (t : Int) (w : World) (e : Ending) (w' : World) : Prop := e = .returned (.tuple #[.int .i64 t, .bool (decide (t ≠ 0))]) ∧ w = w'
set_option maxRecDepth 1000000 in
set_option maxHeartbeats 2000000 in
theorem find_any (s : Bs) (names : List Bs) (types : List Int) (nv tv : Value) (w : World) (hN : StrsV (gh w) nv names) (hT : IntsV (gh w) tv types) :
    Calls Tryz.prog 23 #[strV s, nv, tv] w (findPost (findT names types s) w) := by
  obtain ⟨na, nc, rfl⟩ := hN.form
  obtain ⟨ta, tc, rfl, htl⟩ := intsV_form hT
  have hnl : names.length ≤ 9223372036854775807 := by
    obtain ⟨_, _, hv, _, h1, h2, _⟩ := hN
    simp only [Value.slice.injEq] at hv
    unfold maxLen at h2
    omega
  obtain ⟨R, hR⟩ : ∃ R, findT names types s = R := ⟨_, rfl⟩
  rw [hR]
  have HR := Lib.hid hR
  clear hR
  unfold strV
  go_enter Tryz.func23, Tryz.ntmps23
  go_wp2
  go_step3
  go_wp2
  go_step3
  go_wp2
  go_loopg [8, 13] names.length (fun g m i wr => ∃ k : Nat, m = .int .i64 (-1) ∧ i = .int .i64 k ∧ k + g = names.length ∧ wr = w ∧ Hid (findT (names.drop k) (types.drop k) s = R))
  case atStart => exact ⟨0, rfl, rfl, by omega, rfl, Lib.hid HR.out⟩
  case round =>
    obtain ⟨k, rfl, rfl, hg, rfl, HC⟩ := hrel
    have k0 : ¬ ((k : Int) < 0) := by omega
    have k1 : decide ((k : Int) < 0) = false := decide_eq_false k0
    by_cases hlt : k < names.length
    · obtain ⟨b, off, rfl, c0⟩ := hN.at (List.getElem?_eq_getElem hlt)
      unfold strV at c0
      have hdr : names.drop k = names[k] :: names.drop (k + 1) := List.drop_eq_getElem_cons hlt
      by_cases hs : names[k] = s
      · have hc := HC.out
        rw [hdr, findT_hit hs] at hc
        have q : (names[k] == s) = true := by simp [hs]
        by_cases hlt2 : k < types.length
        · rw [List.drop_eq_getElem_cons hlt2] at hc
          simp only at hc
          obtain ⟨b2, off2, rfl, c2⟩ := intsV_at hT (List.getElem?_eq_getElem hlt2)
          generalize types[k] = t at *
          have HD := Lib.hid hc
          have q2 : (decide (types.length ≤ k)) = false := decide_eq_false (by omega)
          have q3 : ¬ types.length ≤ k := by omega
          clear hc hdr HC hN hT
          by_cases h1 : 1 ≤ t
          · by_cases h2 : t ≤ 3
            · have HE : Hid (R = t) := Lib.hid (by rw [← HD.out, if_pos ⟨h1, h2⟩])
              have HF : Hid (decide (t ≠ 0) = true) := Lib.hid (decide_eq_true (by omega))
              clear hs
              go_wp2
              try rw [Exit.noGoto_ret]
              go_ret2
              refine ⟨?_, rfl⟩
              rw [HE.out, HF.out]; rfl
            · have HE : Hid (R = 0) := Lib.hid (by rw [← HD.out, if_neg (fun h => h2 h.2)])
              have h3 : 3 < t := by omega
              clear hs h2
              go_wp2
              try rw [Exit.noGoto_ret]
              go_ret2
              (refine ⟨?_, rfl⟩; rw [HE.out]; rfl)
          · have HE : Hid (R = 0) := Lib.hid (by rw [← HD.out, if_neg (fun h => h1 h.1)])
            have h3 : t < 1 := by omega
            clear hs h1
            go_wp2
            try rw [Exit.noGoto_ret]
            go_ret2
            (refine ⟨?_, rfl⟩; rw [HE.out]; rfl)
        · rw [List.drop_eq_nil_of_le (by omega)] at hc
          have HE : Hid (R = 0) := Lib.hid (by rw [← hc])
          have q3 : types.length ≤ k := by omega
          clear hc hdr HC hs hN hT
          go_wp2
          try rw [Exit.noGoto_ret]
          go_ret2
          (refine ⟨?_, rfl⟩; rw [HE.out]; rfl)
      · have hc := HC.out
        rw [hdr, findT_miss hs, List.tail_drop] at hc
        have HD := Lib.hid hc
        have q : (names[k] == s) = false := beq_no hs
        clear hc hdr HC hs
        go_wp2
        go_roundg (gk - 1)
        case rel => exact ⟨k + 1, rfl, by go_num, by omega, rfl, Lib.hid HD.out⟩
        case measure => omega
    · have HE : Hid (R = 0) := Lib.hid (by rw [← HC.out, List.drop_eq_nil_of_le (by omega), findT_nil])
      clear HC
      go_wp2
      try rw [Exit.noGoto_ret]
      go_ret2
      (refine ⟨?_, rfl⟩; rw [HE.out]; rfl)
def madePost (t : Int) (w : World) (e : Ending) (w' : World) : Prop := e = .returned (.int .i64 t) ∧ Below w.heap.size w w'
theorem madePost_mk {t u : Int} (h : t = u) {w w' : World} (hb : Below w.heap.size w w') : madePost u w (.returned (.int .i64 t)) w' := ⟨by rw [h], hb⟩
end Go.Proofs.YtilmmgkclijhjaaGreatDoor
