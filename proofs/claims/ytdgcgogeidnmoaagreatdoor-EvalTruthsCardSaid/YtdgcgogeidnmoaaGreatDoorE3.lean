/- The walks of value.Box, eval's named, bad. Conditions: the texts are no longer than any may be; the tables hold what they are laid with. -/
import Derived.Test.YtdgcgogeidnmoaaGreatDoorE2
set_option linter.unusedSimpArgs false
set_option linter.unusedVariables false
set_option linter.unusedSectionVars false
namespace Go.Proofs.YtdgcgogeidnmoaaGreatDoor
open Go.RowKit Pal
set_option maxRecDepth 1000000 in
set_option maxHeartbeats 2000000 in
theorem box_any (v : Val) (w : World) (hs : v.s.length ≤ 9223372036854775806) (hL : Lay (gh w)) : Calls Tryz.prog 141 #[valV v] w (boxPost (if okV v then v else vNil) w) := by
  obtain ⟨k, n, s⟩ := v
  have hb := (Below.refl w.heap.size w).alloc (Nat.le_refl _) (.cells #[.int .i64 k, .int .i64 n, strV s] 47)
  have hc := valueCheck_any k n s _ hs (hL.below hb)
  have hz := heap_alloc_new w (.cells #[.int .i64 k, .int .i64 n, strV s] 47)
  have HC := Lib.hid hc
  have HZ := Lib.hid hz
  have HB := Lib.hid hb
  clear hc hz hb hs hL
  unfold valV
  by_cases hok : okV ⟨k, n, s⟩ = true
  · rw [if_pos hok]
    have HO := Lib.hid hok
    have hk : k = 0 ∨ k = 1 ∨ k = 2 ∨ k = 3 ∨ k = 4 := by
      unfold okV at hok
      simp only at hok
      apply Classical.byContradiction
      intro hh
      rw [if_neg (fun x => hh (by simp_all)), if_neg (fun x => hh (by simp_all)), if_neg (fun x => hh (by simp_all)), if_neg (fun x => hh (by simp_all)), if_neg (fun x => hh (by simp_all))] at hok
      cases hok
    clear hok
    unfold boxPost strV at *
    rcases hk with rfl | rfl | rfl | rfl | rfl
    all_goals
      go_enter Tryz.func141, Tryz.ntmps141
      go_wp2_with fail
      refine HC.out.mono ?_
      rintro e W ⟨rfl, hb⟩
      rw [HO.out]
      have hzW := (hb.block _ (by simp)).trans HZ.out
      obtain ⟨⟨c0, c1, c2⟩, -⟩ := three_all hzW
      have HBW := Lib.hid (HB.out.seq hb)
      clear hb hzW
      go_wp2
      go_ret
      exact ⟨rfl, HBW.out⟩
  · rw [if_neg hok]
    have HO : Hid (okV ⟨k, n, s⟩ = false) := Lib.hid (by simpa using hok)
    clear hok
    unfold boxPost strV at *
    go_enter Tryz.func141, Tryz.ntmps141
    go_wp2_with fail
    refine HC.out.mono ?_
    rintro e W ⟨rfl, hb⟩
    rw [HO.out]
    have HBW := Lib.hid (HB.out.seq hb)
    clear hb
    go_wp2
    go_ret
    exact ⟨rfl, HBW.out⟩
theorem look_nil (vs : List Val) (s : Bs) : look [] vs s = vNil := by unfold look; rfl
theorem look_hit {m s : Bs} {ms : List Bs} {vs : List Val} (h : m = s) : look (m :: ms) vs s = (match vs with | v :: _ => if okV v then v else vNil | [] => vNil) := by rw [look.eq_def]; simp only; rw [if_pos h]; cases vs <;> rfl
theorem look_miss {m s : Bs} {ms : List Bs} {vs : List Val} (h : ¬ m = s) : look (m :: ms) vs s = look ms vs.tail s := by rw [look.eq_def]; simp only; rw [if_neg h]
set_option maxRecDepth 1000000 in
set_option maxHeartbeats 4000000 in
theorem named_any (s : Bs) (names : List Bs) (vals : List Val) (p : Nat) (w : World) (hW : WithV w p names vals) :
    Calls Tryz.prog 99 #[.pointer (some ⟨p, 0, none⟩), strV s] w (boxPost (look names vals s) w) := by
  obtain ⟨hL, hF, nv, vv, hc, hN, hV⟩ := hW
  obtain ⟨na, nc, rfl⟩ := hN.form
  obtain ⟨va, vc, rfl, hv1, hv2⟩ := hV.form
  have hnl : names.length ≤ 9223372036854775807 := by
    obtain ⟨_, _, hv, _, h1, h2, _⟩ := hN
    simp only [Value.slice.injEq] at hv
    unfold maxLen at h2
    omega
  obtain ⟨p0, p1, -⟩ := two_cells hc
  obtain ⟨R, hR⟩ : ∃ R, look names vals s = R := ⟨_, rfl⟩
  rw [hR]
  have HR := Lib.hid hR
  have HB : Hid (Below w.heap.size w w) := Lib.hid (Below.refl _ _)
  clear hR hc
  unfold strV
  go_enter Tryz.func99, Tryz.ntmps99
  go_wp2
  go_loopg [12] names.length (fun g i wr => ∃ k : Nat, i = .int .i64 k ∧ k + g = names.length ∧ wr = w ∧ Hid (look (names.drop k) (vals.drop k) s = R))
  case atStart => exact ⟨0, rfl, by omega, rfl, Lib.hid HR.out⟩
  case round =>
    obtain ⟨k, rfl, hg, rfl, HC⟩ := hrel
    have k0 : ¬ ((k : Int) < 0) := by omega
    by_cases hlt : k < names.length
    · obtain ⟨b, off, rfl, c0⟩ := hN.at (List.getElem?_eq_getElem hlt)
      unfold strV at c0
      have hdr : names.drop k = names[k] :: names.drop (k + 1) := List.drop_eq_getElem_cons hlt
      by_cases hs : names[k] = s
      · have hc := HC.out
        rw [hdr, look_hit hs] at hc
        have q : (names[k] == s) = true := by simp [hs]
        by_cases hlt2 : k < vals.length
        · have hbx := box_any vals[k] wr (hF _ (List.getElem_mem hlt2)).2 hL
          rw [List.drop_eq_getElem_cons hlt2] at hc
          simp only at hc
          obtain ⟨b2, off2, rfl, c2, c3, c4⟩ := hV.at (List.getElem?_eq_getElem hlt2)
          generalize vals[k] = x at *
          rw [hc] at hbx
          unfold valV strV at hbx
          unfold strV at c4
          have HX := Lib.hid hbx
          have q3 : ¬ vals.length ≤ k := by omega
          clear hc hdr HC hN hV hbx hs
          go_wp2_with fail
          refine HX.out.mono ?_
          rintro e W ⟨rfl, hb⟩
          go_wp2
          try rw [Exit.noGoto_ret]
          go_ret
          exact ⟨rfl, hb⟩
        · rw [List.drop_eq_nil_of_le (by omega)] at hc
          have HE : Hid (R = vNil) := Lib.hid (by rw [← hc])
          have q3 : vals.length ≤ k := by omega
          clear hc hdr HC hs hN hV
          go_wp2
          try rw [Exit.noGoto_ret]
          go_ret
          (refine ⟨?_, HB.out⟩; rw [HE.out]; rfl)
      · have hc := HC.out
        rw [hdr, look_miss hs, List.tail_drop] at hc
        have HD := Lib.hid hc
        have q : (names[k] == s) = false := beq_no hs
        clear hc hdr HC hs
        go_wp2
        go_roundg (gk - 1)
        case rel => exact ⟨k + 1, by go_num, by omega, rfl, Lib.hid HD.out⟩
        case measure => omega
    · have HE : Hid (R = vNil) := Lib.hid (by rw [← HC.out, List.drop_eq_nil_of_le (by omega), look_nil])
      clear HC
      go_wp2
      try rw [Exit.noGoto_ret]
      go_ret
      (refine ⟨?_, HB.out⟩; rw [HE.out]; rfl)
set_option maxRecDepth 1000000 in
set_option maxHeartbeats 1000000 in
theorem bad_any (n : Int) (w : World) : Calls Tryz.prog 147 #[.int .i64 n] w fun e w' => e = .returned (boxV (vBad n)) ∧ w' = w := by
  go_enter Tryz.func147, Tryz.ntmps147
  go_wp2
  go_ret
  exact ⟨rfl, rfl⟩
end Go.Proofs.YtdgcgogeidnmoaaGreatDoor
