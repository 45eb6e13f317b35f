/- The walk of the document's Same. No condition. -/
import Derived.Test.YtoklhppalkgdeaaGreatDoorVs
import Derived.Test.YtoklhppalkgdeaaGreatDoorVc
import Derived.Deep.RegionHeld3
set_option linter.unusedSimpArgs false
set_option linter.unusedVariables false
set_option linter.unusedSectionVars false
namespace Go.Proofs.YtoklhppalkgdeaaGreatDoor
open Go.RowKit Pal
theorem cellB {w W : World} (h : Below w.heap.size w W) {b o : Nat} {v : Value} (c : w.cell? ⟨b, o, none⟩ = some v) : W.cell? ⟨b, o, none⟩ = some v := (h.cell (p := ⟨b, o, none⟩) (World.block_lt_of_cell? w _ c)).trans c
def RSameOK (k : Ex) : Prop := ∀ (e : Ex) (v v' : Value) (w : World), KV (gh w) v k.ks → KV (gh w) v' e.ks →
  Calls Tryz.prog 21 #[exV k.op k.n k.s v, exV e.op e.n e.s v'] w (boolPost (sameX k e) w)
set_option maxRecDepth 1000000 in
set_option maxHeartbeats 8000000 in
theorem rsame_walk (o n : Int) (s : Bs) (ks : List Ex) (o' n' : Int) (s' : Bs) (ls : List Ex) (a a2 : Option Addr) (cap cap2 : Nat) (w : World) (X : Bool)
    (hX : (decide (o = o') && (decide (n = n') && (decide (s = s') && sameL ks ls))) = X)
    (hK : KV (gh w) (.slice a ks.length cap) ks) (hL : KV (gh w) (.slice a2 ls.length cap2) ls) (ih : ∀ k ∈ ks, RSameOK k) :
    Calls Tryz.prog 21 #[exV o n s (.slice a ks.length cap), exV o' n' s' (.slice a2 ls.length cap2)] w (boolPost X w) := by
  have HB := Lib.hid (((Below.refl w.heap.size w).alloc (Nat.le_refl _) (.cells #[.int .i64 o, .int .i64 n, .string ⟨s.toArray⟩, .slice a ks.length cap] 28)).alloc (by simp) (.cells #[.int .i64 o', .int .i64 n', .string ⟨s'.toArray⟩, .slice a2 ls.length cap2] 28))
  have hcap := hK.cap
  have hcap2 := hL.cap
  have hkm : ks.length ≤ 9223372036854775807 := by omega
  unfold exV strV
  by_cases h1 : o = o'
  · have q1 : (o != o') = false := by simp [h1]
    by_cases h2 : n = n'
    · have q2 : (n != n') = false := by simp [h2]
      by_cases h3 : s = s'
      · have q3 : (s == s') = true := by simp [h3]
        rw [decide_eq_true h1, decide_eq_true h2, decide_eq_true h3, Bool.true_and, Bool.true_and, Bool.true_and] at hX
        by_cases hlen : ks.length = ls.length
        · have q4 : ((ks.length : Int) != (ls.length : Int)) = false := by rw [bne_eq_false_iff_eq]; omega
          have q5 : (ks.length != ls.length) = false := by rw [bne_eq_false_iff_eq]; omega
          have HLEN := Lib.hid hlen
          have HI := Lib.hid ih
          have HX := Lib.hid hX
          have hA0 := (Lib.alloc_old (w.alloc (.cells #[.int .i64 o, .int .i64 n, .string ⟨s.toArray⟩, .slice a ks.length cap] 28)) (.cells #[.int .i64 o', .int .i64 n', .string ⟨s'.toArray⟩, .slice a2 ls.length cap2] 28) w.heap.size (by simp)).trans (heap_alloc_new w (.cells #[.int .i64 o, .int .i64 n, .string ⟨s.toArray⟩, .slice a ks.length cap] 28))
          have hB0 := heap_alloc_new (w.alloc (.cells #[.int .i64 o, .int .i64 n, .string ⟨s.toArray⟩, .slice a ks.length cap] 28)) (.cells #[.int .i64 o', .int .i64 n', .string ⟨s'.toArray⟩, .slice a2 ls.length cap2] 28)
          rw [show (w.alloc (.cells #[.int .i64 o, .int .i64 n, .string ⟨s.toArray⟩, .slice a ks.length cap] 28)).heap.size = w.heap.size + 1 by simp] at hB0
          have HA0 := Lib.hid hA0
          have HB0 := Lib.hid hB0
          have HK := Lib.hid (hK.keep HB.out)
          have HL := Lib.hid (hL.keep HB.out)
          have hl0 : w.heap.size < ((w.alloc (.cells #[.int .i64 o, .int .i64 n, .string ⟨s.toArray⟩, .slice a ks.length cap] 28)).alloc (.cells #[.int .i64 o', .int .i64 n', .string ⟨s'.toArray⟩, .slice a2 ls.length cap2] 28)).heap.size := by simp; omega
          have hl1 : w.heap.size + 1 < ((w.alloc (.cells #[.int .i64 o, .int .i64 n, .string ⟨s.toArray⟩, .slice a ks.length cap] 28)).alloc (.cells #[.int .i64 o', .int .i64 n', .string ⟨s'.toArray⟩, .slice a2 ls.length cap2] 28)).heap.size := by simp
          clear hX ih hK hL hA0 hB0 h1 h2 h3 hlen
          go_enter Tryz.func21, Tryz.ntmps21
          go_upto_region 3 with fail
          generalize (w.alloc (.cells #[.int .i64 o, .int .i64 n, .string ⟨s.toArray⟩, .slice a ks.length cap] 28)).alloc (.cells #[.int .i64 o', .int .i64 n', .string ⟨s'.toArray⟩, .slice a2 ls.length cap2] 28) = W0 at *
          clear q1 q2 q3 q4 q5
          go_wp2
          go_loopg [5] ks.length (fun g i wr => ∃ k : Nat, i = .int .i64 k ∧ k + g = ks.length ∧ Hid (Below W0.heap.size W0 wr) ∧ Hid (sameL (ks.drop k) (ls.drop k) = X))
          case atStart => exact ⟨0, rfl, by omega, Lib.hid (Below.refl _ _), Lib.hid HX.out⟩
          case round =>
            obtain ⟨k, rfl, hg, HBW, HC⟩ := hrel
            have HAW := Lib.hid ((HBW.out.block _ hl0).trans HA0.out)
            have HBB := Lib.hid ((HBW.out.block _ hl1).trans HB0.out)
            obtain ⟨⟨x0, x1, x2, x3⟩, -⟩ := four_all HAW.out
            obtain ⟨⟨y0, y1, y2, y3⟩, -⟩ := four_all HBB.out
            by_cases hlt : k < ks.length
            · obtain ⟨g, rfl⟩ : ∃ g, gk = g + 1 := ⟨gk - 1, by omega⟩
              have hlt2 : k < ls.length := by have := HLEN.out; omega
              obtain ⟨b, off, u, rfl, c0, c1, c2, c3, hKu⟩ := (HK.out.keep HBW.out).at (List.getElem?_eq_getElem hlt)
              obtain ⟨b2, off2, u2, rfl, d0, d1, d2, d3, hKu2⟩ := (HL.out.keep HBW.out).at (List.getElem?_eq_getElem hlt2)
              obtain ⟨ua, uc, rfl⟩ := hKu.form
              obtain ⟨ua2, uc2, rfl⟩ := hKu2.form
              have hh := HC.out
              rw [List.drop_eq_getElem_cons hlt, List.drop_eq_getElem_cons hlt2, sameL_cons] at hh
              have hx := fun W (hb : Below wr.heap.size wr W) => HI.out ks[k] (List.getElem_mem hlt) ls[k] _ _ W (hKu.keep hb) (hKu2.keep hb)
              have HD := Lib.hid hh
              unfold strV at c2 d2
              unfold exV strV at hx
              generalize ks[k] = p at *
              generalize ls[k] = q at *
              obtain ⟨sx, hsx⟩ : ∃ b, sameX p q = b := ⟨_, rfl⟩
              rw [hsx] at HD
              simp only [hsx] at hx
              have HXX := Lib.hid hx
              have hbe : Below wr.heap.size wr wr.drew := (Below.refl _ _).drew
              clear hh hx hKu hKu2 hsx HC
              go_upto_region 6 with fail
              go_region_held3 (fun w' => (w'.cell? ⟨w.heap.size, 3, none⟩ = some (.slice (some ⟨b, off, none⟩) ks.length cap) ∧ w'.cell? ⟨w.heap.size + 1, 3, none⟩ = some (.slice (some ⟨b2, off2, none⟩) ls.length cap2) ∧
                  w'.cell? ⟨b, off + k * 4, none⟩ = some (.int .i64 p.op) ∧ w'.cell? ⟨b, off + k * 4 + 1, none⟩ = some (.int .i64 p.n) ∧ w'.cell? ⟨b, off + k * 4 + 2, none⟩ = some (.string ⟨p.s.toArray⟩) ∧ w'.cell? ⟨b, off + k * 4 + 3, none⟩ = some (.slice ua p.ks.length uc) ∧
                  w'.cell? ⟨b2, off2 + k * 4, none⟩ = some (.int .i64 q.op) ∧ w'.cell? ⟨b2, off2 + k * 4 + 1, none⟩ = some (.int .i64 q.n) ∧ w'.cell? ⟨b2, off2 + k * 4 + 2, none⟩ = some (.string ⟨q.s.toArray⟩) ∧ w'.cell? ⟨b2, off2 + k * 4 + 3, none⟩ = some (.slice ua2 q.ks.length uc2))) (go_keep)
                ((go_at_call 21; refine (HXX.out _ hbe).mono ?_; rintro r W2 ⟨rfl, hb2⟩; have HB2 := Lib.hid (HBW.out.seq (hbe.seq hb2)); have hbx := hbe.seq hb2; have m0 := cellB hbx x3; have m1 := cellB hbx y3; have m2 := cellB hbx c0; have m3 := cellB hbx c1; have m4 := cellB hbx c2; have m5 := cellB hbx c3; have m6 := cellB hbx d0; have m7 := cellB hbx d1; have m8 := cellB hbx d2; have m9 := cellB hbx d3; clear hb2 hbx))
              all_goals
                clear x0 x1 x2 x3 y0 y1 y2 y3 c0 c1 c2 c3 d0 d1 d2 d3 HXX hbe
                cases sx with
                | false =>
                  have HE : Hid (X = false) := Lib.hid (by rw [← HD.out]; rfl)
                  clear HD
                  go_wp2
                  go_ret
                  exact ⟨by rw [HE.out]; rfl, HB.out.seq HB2.out⟩
                | true =>
                  have HE2 : Hid (sameL (ks.drop (k + 1)) (ls.drop (k + 1)) = X) := Lib.hid (by have := HD.out; rw [Bool.true_and] at this; exact this)
                  clear HD
                  go_wp2
                  go_roundg g
                  case rel => exact ⟨k + 1, by go_num, by omega, HB2, HE2⟩
                  case measure => omega
            · have hnil : ks.drop k = [] := List.drop_eq_nil_of_le (by omega)
              have hnil2 : ls.drop k = [] := List.drop_eq_nil_of_le (by have := HLEN.out; omega)
              have HE : Hid (X = true) := Lib.hid (by rw [← HC.out, hnil, hnil2, sameL_nil]; rfl)
              clear HC hnil hnil2
              go_wp2
              go_ret
              exact ⟨by rw [HE.out]; rfl, HB.out.seq HBW.out⟩
        · have HE : Hid (X = false) := Lib.hid (by rw [← hX]; exact sameL_len hlen)
          have q4 : ((ks.length : Int) != (ls.length : Int)) = true := by rw [bne_iff_ne]; omega
          have q5 : (ks.length != ls.length) = true := by rw [bne_iff_ne]; omega
          clear hlen h1 h2 h3
          clear hX ih hK hL
          go_enter Tryz.func21, Tryz.ntmps21
          go_wp2
          go_ret
          exact ⟨by rw [HE.out]; rfl, HB.out⟩
      · have HE : Hid (X = false) := Lib.hid (by rw [← hX, decide_eq_false h3, Bool.false_and, Bool.and_false, Bool.and_false])
        have q3 : (s == s') = false := beq_eq_false_iff_ne.2 h3
        clear h1 h2 h3
        clear hX ih hK hL
        go_enter Tryz.func21, Tryz.ntmps21
        go_wp2
        go_ret
        exact ⟨by rw [HE.out]; rfl, HB.out⟩
    · have HE : Hid (X = false) := Lib.hid (by rw [← hX, decide_eq_false h2, Bool.false_and, Bool.and_false])
      have q2 : (n != n') = true := bne_iff_ne.2 h2
      clear h1 h2
      clear hX ih hK hL
      go_enter Tryz.func21, Tryz.ntmps21
      go_wp2
      go_ret
      exact ⟨by rw [HE.out]; rfl, HB.out⟩
  · have HE : Hid (X = false) := Lib.hid (by rw [← hX, decide_eq_false h1, Bool.false_and])
    have q1 : (o != o') = true := bne_iff_ne.2 h1
    clear h1
    clear hX ih hK hL
    go_enter Tryz.func21, Tryz.ntmps21
    go_wp2
    go_ret
    exact ⟨by rw [HE.out]; rfl, HB.out⟩
theorem rsame_any (e : Ex) : RSameOK e := by
  refine Ex.ind (P := RSameOK) ?_ e
  intro o n s ks ih e' v v' w hK hL
  cases e' with
  | mk o' n' s' ls =>
    simp only [Ex.op, Ex.n, Ex.s, Ex.ks] at hK hL ⊢
    obtain ⟨a, cap, rfl⟩ := hK.form
    obtain ⟨a2, cap2, rfl⟩ := hL.form
    exact rsame_walk o n s ks o' n' s' ls a a2 cap cap2 w _ (sameX_mk o n s ks (.mk o' n' s' ls)).symm hK hL ih
end Go.Proofs.YtoklhppalkgdeaaGreatDoor
