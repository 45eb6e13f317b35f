/- The document's pieces at their places; the walks of palaverref01.Count, Valid. Condition: the text is no longer than any may be. -/
import Derived.Test.YtilmmgkclijhjaaGreatDoorRC
set_option linter.unusedSimpArgs false
set_option linter.unusedVariables false
set_option linter.unusedSectionVars false
namespace Go.Proofs.YtilmmgkclijhjaaGreatDoor
open Go.RowKit Pal
theorem PsV.form {h : GH} {v : Value} {l : Bs} (t : PsV h v l) : ∃ a cap, v = .slice a (cnt l) cap := by
  obtain ⟨ps, ⟨a, cap, hv, _⟩, hn, _⟩ := t
  exact ⟨a, cap, by rw [hv, hn]⟩
theorem PsV.at {w : World} {a : Option Addr} {n cap : Nat} {l : Bs} (t : PsV (gh w) (.slice a n cap) l) {k p : Nat} (hat : AtP l k p) (hp : p < l.length) :
    ∃ b off, a = some ⟨b, off, none⟩ ∧ w.cell? ⟨b, off + k * 4, none⟩ = some (.int .i64 p) ∧ w.cell? ⟨b, off + k * 4 + 1, none⟩ = some (.int .i64 (wd (l.drop p))) ∧ w.cell? ⟨b, off + k * 4 + 2, none⟩ = some (.int .i32 (rn (l.drop p))) ∧ w.cell? ⟨b, off + k * 4 + 3, none⟩ = some (.bool (badB (l.drop p))) := by
  obtain ⟨ps, ⟨a', cap', hv, hn, hc, hm, hcell⟩, hpn, hps⟩ := t
  simp only [Value.slice.injEq] at hv
  obtain ⟨rfl, rfl, rfl⟩ := hv
  have hx := hps k p hat hp
  have hj := (List.getElem?_eq_some_iff.1 hx).1
  have hd : ps.getD k 0 = p := by rw [List.getD_eq_getElem?_getD, hx]; rfl
  have get : ∀ c y, (pcells l p)[c]? = some y → ∃ b off, a = some ⟨b, off, none⟩ ∧ (gh w).cell b (off + (4 * k + c)) = some y := fun c y h => hcell k c y hj (by show (pcells l (ps.getD k 0))[c]? = _; rw [hd]; exact h)
  obtain ⟨b, off, ha, h0⟩ := get 0 _ rfl
  obtain ⟨b1, off1, ha1, h1⟩ := get 1 _ rfl
  obtain ⟨b2, off2, ha2, h2⟩ := get 2 _ rfl
  obtain ⟨b3, off3, ha3, h3⟩ := get 3 _ rfl
  rw [ha] at ha1 ha2 ha3
  simp only [Option.some.injEq, Addr.mk.injEq, and_true] at ha1 ha2 ha3
  obtain ⟨rfl, rfl⟩ := ha1
  obtain ⟨rfl, rfl⟩ := ha2
  obtain ⟨rfl, rfl⟩ := ha3
  rw [gh_cell] at h0 h1 h2 h3
  rw [Nat.mul_comm 4 k, ← Nat.add_assoc] at h0 h1 h2 h3
  exact ⟨b, off, ha, h0, h1, h2, h3⟩
set_option maxRecDepth 1000000 in
set_option maxHeartbeats 1000000 in
theorem refCount_any (s : ByteArray) (w : World) (hs : s.size ≤ 1000000) : Calls Tryz.prog 33 #[.string s] w fun e w' => e = .returned (.int .i64 (cnt s.data.toList)) ∧ Below w.heap.size w w' := by
  have HP := Lib.hid (pieces_any s w hs)
  go_enter Tryz.func33, Tryz.ntmps33
  go_wp2_with fail
  refine HP.out.mono ?_
  rintro e W ⟨hb, v, rfl, hv⟩
  obtain ⟨a, cap, rfl⟩ := hv.form
  clear hv
  go_wp2
  go_ret
  exact ⟨rfl, hb⟩
set_option maxRecDepth 1000000 in
set_option maxHeartbeats 2000000 in
theorem refValid_any (s : ByteArray) (w : World) (hs : s.size ≤ 1000000) : Calls Tryz.prog 32 #[.string s] w fun e w' => e = .returned (.bool (val s.data.toList)) ∧ Below w.heap.size w w' := by
  have HP := Lib.hid (pieces_any s w hs)
  obtain ⟨R, hR⟩ : ∃ R, val s.data.toList = R := ⟨_, rfl⟩
  rw [hR]
  have HR := Lib.hid hR
  have HCL := Lib.hid (cnt_le s.data.toList)
  clear hR
  go_enter Tryz.func32, Tryz.ntmps32
  go_wp2_with fail
  refine HP.out.mono ?_
  rintro e W ⟨hb, v, rfl, hv⟩
  obtain ⟨a, cap, rfl⟩ := hv.form
  have HV := Lib.hid hv
  have HB := Lib.hid hb
  obtain ⟨n, hn⟩ : ∃ n, cnt s.data.toList = n := ⟨_, rfl⟩
  have HN := Lib.hid hn
  rw [hn] at HV ⊢
  have hn1 : n ≤ 1000000 := by have := HCL.out; rw [len_toList] at this; omega
  clear hv hb hn HP
  go_wp2
  go_loopg [4] n (fun g i wr => ∃ k p : Nat, i = .int .i64 k ∧ k + g = n ∧ wr = W ∧ Hid (AtP s.data.toList k p) ∧ Hid (val (s.data.toList.drop p) = R))
  case atStart => exact ⟨0, 0, rfl, by omega, rfl, Lib.hid .zero, Lib.hid (by rw [List.drop_zero]; exact HR.out)⟩
  case round =>
    obtain ⟨k, p, rfl, hg, rfl, HA, HC⟩ := hrel
    have hlp := HA.out.lt
    rw [HN.out] at hlp
    by_cases hlt : k < n
    · have hp := hlp.1 hlt
      obtain ⟨b, off, rfl, c0, c1, c2, c3⟩ := HV.out.at HA.out hp
      have hne := drop_ne hp
      have hst := HA.out.step hp
      have hvc := HC.out
      rw [val_cons hne] at hvc
      have HST := Lib.hid hst
      clear hlp hne hst hp c0 c1 c2
      cases hbd : badB (s.data.toList.drop p) with
      | true =>
        have HE : Hid (R = false) := Lib.hid (by rw [← hvc, if_pos (of_decide_eq_true hbd)])
        rw [hbd] at c3
        clear hvc hbd
        go_wp2
        try rw [Exit.noGoto_ret]
        go_ret
        exact ⟨by rw [HE.out]; rfl, HB.out⟩
      | false =>
        have HE : Hid (val (s.data.toList.drop (p + wd (s.data.toList.drop p))) = R) := Lib.hid (by
          rw [← hvc, if_neg (of_decide_eq_false hbd), List.drop_drop])
        rw [hbd] at c3
        clear hvc hbd
        go_wp2
        go_roundg (gk - 1)
        case rel => exact ⟨k + 1, p + wd (s.data.toList.drop p), by go_num, by omega, rfl, HST, HE⟩
        case measure => omega
    · have HE : Hid (R = true) := Lib.hid (by
        have : ¬ p < s.data.toList.length := fun h => hlt (hlp.2 h)
        rw [← HC.out, List.drop_eq_nil_of_le (by omega), val_nil])
      clear hlp
      go_wp2
      try rw [Exit.noGoto_ret]
      go_ret
      exact ⟨by rw [HE.out]; rfl, HB.out⟩
end Go.Proofs.YtilmmgkclijhjaaGreatDoor
