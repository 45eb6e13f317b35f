/- The document's pieces: how they lie; the walk of palaverref01.Pieces. Condition: the text is no longer than any may be. -/
import Derived.Test.YtilmmgkclijhjaaGreatDoorRB
import Derived.Test.YtilmmgkclijhjaaGreatDoorLt
import Derived.Test.YtilmmgkclijhjaaGreatDoorVb
set_option linter.unusedSimpArgs false
set_option linter.unusedVariables false
set_option linter.unusedSectionVars false
namespace Go.Proofs.YtilmmgkclijhjaaGreatDoor
open Go.RowKit Pal
/-- A piece of a text, as its cells. -/
def pcells (l : Bs) (p : Nat) : List Value := [.int .i64 p, .int .i64 (wd (l.drop p)), .int .i32 (rn (l.drop p)), .bool (badB (l.drop p))]
theorem pcells_len (l : Bs) (p : Nat) : (pcells l p).length = 4 := rfl
/-- The pieces of a text, as a slice reads. -/
def PsV (h : GH) (v : Value) (l : Bs) : Prop := ∃ ps : List Nat, SlV h v ps.length 4 (fun j => pcells l (ps.getD j 0)) ∧ ps.length = cnt l ∧ ∀ k p, AtP l k p → p < l.length → ps[k]? = some p
theorem PsV.mono {h h' : GH} {v : Value} {l : Bs} (s : PsV h v l) (k : h.le h') : PsV h' v l := by
  obtain ⟨ps, hs, hn, hp⟩ := s
  exact ⟨ps, hs.mono k, hn, hp⟩
theorem infoP : (Tryz.prog.info? 88).map (fun i => (i.zero, i.size, i.bytes)) = some (some (.agg #[.int .i64 0, .int .i64 0, .int .i32 0, .bool false]), 4, 24) := by kernel_rfl
theorem pieceV_at (s : ByteArray) (i : Nat) : pieceV i (dLen s i) (dRune s i) (badP s i) = .agg #[.int .i64 i, .int .i64 (wd (s.data.toList.drop i)), .int .i32 (rn (s.data.toList.drop i)), .bool (badB (s.data.toList.drop i))] := by
  unfold pieceV badP badB
  rw [dLen_at, dRune_at]
def piecesPost (s : ByteArray) (w : World) (e : Ending) (w' : World) : Prop := Below w.heap.size w w' ∧ ∃ v, e = .returned v ∧ PsV (gh w') v s.data.toList
set_option maxRecDepth 1000000 in
set_option maxHeartbeats 4000000 in
theorem pieces_any (s : ByteArray) (w : World) (hs : s.size ≤ 1000000) : Calls Tryz.prog 50 #[.string s] w (piecesPost s w) := by
  obtain ⟨i0, hi, hz0, hz1, hz2⟩ := info_parts infoP
  go_enter Tryz.func50, Tryz.ntmps50
  go_wp2
  go_loopg [3, 4] s.size (fun g l i wr => ∃ (tau : Tag) (k p : Nat) (ps : List Nat), i = .int .i64 p ∧ Row tau 1 wr 88 4 l ps.length (ps.flatMap (pcells s.data.toList)) ∧ Evo T0 w tau wr (· ≠ 0) ∧
      AtP s.data.toList k p ∧ ps.length = k ∧ Hid (∀ j q, AtP s.data.toList j q → j < k → ps[j]? = some q) ∧ s.size ≤ p + g ∧ p ≤ s.size)
  case atStart => exact ⟨T0, 0, 0, [], rfl, Row.nil _ _ _ _ _, Evo.refl _ _ _, .zero, rfl, Lib.hid (fun j q _ h => by omega), by omega, by omega⟩
  case round =>
    obtain ⟨tau, k, p, ps, rfl, hrow, hev, hat, rfl, HP, hg, hp⟩ := hrel
    by_cases hlt : p < s.size
    · obtain ⟨g, rfl⟩ : ∃ g, gk = g + 1 := ⟨gk - 1, by omega⟩
      obtain ⟨la, lc, rfl⟩ := hrow.form
      have hone := one_any s p hlt (by omega) wr
      unfold onePost at hone
      rw [pieceV_at] at hone
      have hne : s.data.toList.drop p ≠ [] := drop_ne (by rw [len_toList]; exact hlt)
      have hst := hat.step (by rw [len_toList]; exact hlt)
      have hwl := wd_le hne
      have hwp := wd_pos (s.data.toList.drop p)
      rw [List.length_drop, len_toList] at hwl
      have hpc : pcells s.data.toList p = [.int .i64 p, .int .i64 (wd (s.data.toList.drop p)), .int .i32 (rn (s.data.toList.drop p)), .bool (badB (s.data.toList.drop p))] := rfl
      generalize wd (s.data.toList.drop p) = z at *
      generalize rn (s.data.toList.drop p) = r at *
      generalize badB (s.data.toList.drop p) = bd at *
      have HPC := Lib.hid hpc
      have HO := Lib.hid hone
      have HST := Lib.hid hst
      have HAT := Lib.hid hat
      clear hone hne hpc hst hat
      go_wp2_with fail
      refine HO.out.mono ?_
      rintro e W1 ⟨rfl, hb1⟩
      have hrow1 := hrow.call hb1
      have hev1 := hev.call hb1
      have hrow2 := hrow1.keep (K := fun _ => False) ((Evo.refl tau W1 _).alloc 3 (.cells #[.int .i64 p, .int .i64 z, .int .i32 r, .bool bd] 88 (0, 0))) (fun h => h)
      have hev2 := hev1.alloc 3 (.cells #[.int .i64 p, .int .i64 z, .int .i32 r, .bool bd] 88 (0, 0))
      have hvar2 : (W1.alloc (.cells #[.int .i64 p, .int .i64 z, .int .i32 r, .bool bd] 88 (0, 0))).heap[W1.heap.size]? = some (.cells #[.int .i64 p, .int .i64 z, .int .i32 r, .bool bd] 88 (0, 0)) := heap_alloc_new W1 _
      have htg2 : (tau.set W1.heap.size 3) W1.heap.size = 3 := Tag.set_same _ _ _
      have hsz2 : W1.heap.size < (W1.alloc (.cells #[.int .i64 p, .int .i64 z, .int .i32 r, .bool bd] 88 (0, 0))).heap.size := by simp
      clear hrow hev hb1 HO hrow1 hev1
      go_wp2_with (at_builtin; refine wpList_append_one rfl _ _ 85 rfl 88 i0 _ 4 24 Tryz.underlying85 hi hz0 hz1 hz2 rfl (by decide) rfl hrow2 #[.int .i64 p, .int .i64 z, .int .i32 r, .bool bd] 88 (0,0) _ rfl ?c0 rfl ?c1 ?c2 ?c3 ?_)
      case c0 => simp
      case c1 => first | exact ⟨rfl, rfl, rfl, rfl⟩ | (intro u hu; simp at hu; rcases hu with rfl | rfl | rfl | rfl <;> rfl)
      case c2 => unfold maxLen; have := HAT.out.le; omega
      case c3 => have := HAT.out.le; omega
      intro v' t' w' hr3 he
      have hev6 := hev2.trans (he.mono (K' := (· ≠ 0)) (by intro x hx; omega))
      have hvar6 : w'.heap[W1.heap.size]? = some (.cells #[.int .i64 p, .int .i64 z, .int .i32 r, .bool bd] 88 (0, 0)) := by rw [he.block _ hsz2 (by rw [htg2]; omega)]; exact hvar2
      obtain ⟨x0, x1, x2, x3⟩ := four_cells hvar6
      have HR3 := Lib.hid hr3
      have HEV := Lib.hid hev6
      clear he hr3 hev6 hvar6 hvar2 htg2 hev2 hrow2 hsz2
      go_wp2
      go_roundg g
      case rel =>
        refine ⟨t', ps.length + 1, p + z, ps ++ [p], by go_num, ?_, HEV.out, HST.out, by rw [List.length_append]; rfl, Lib.hid ?_, by omega, by omega⟩
        · have h := HR3.out
          have hf : (ps ++ [p]).flatMap (pcells s.data.toList) = ps.flatMap (pcells s.data.toList) ++ [.int .i64 p, .int .i64 z, .int .i32 r, .bool bd] := by rw [List.flatMap_append, ← HPC.out]; simp
          rw [hf, List.length_append]
          exact h
        · intro j q hj hjk
          by_cases hjk2 : j < ps.length
          · rw [List.getElem?_append_left (by omega)]
            exact HP.out j q hj hjk2
          · obtain rfl : j = ps.length := by omega
            rw [List.getElem?_append_right (by omega), Nat.sub_self, hj.uniq HAT.out]
            rfl
      case measure => omega
    · have hpe : p = s.size := by omega
      subst hpe
      have hkc : ps.length = cnt s.data.toList := by
        have h := hat.le
        rw [List.drop_eq_nil_of_le (by rw [len_toList]; omega), cnt_nil] at h
        omega
      obtain ⟨la, lc, rfl⟩ := hrow.form
      have HV := Lib.hid (SlV.ofRow (pcells s.data.toList) ps 0 (by decide) (pcells_len _) hrow)
      have HB := Lib.hid (hev.toBelow (by simp))
      have hkl : ps.length = cnt s.data.toList := hkc
      have HKL := Lib.hid hkl
      clear hrow hev hat hkc hkl
      go_wp2
      try rw [Exit.noGoto_ret]
      go_ret
      refine ⟨HB.out, _, rfl, ps, HV.out, HKL.out, fun j q hj hq => HP.out j q hj ?_⟩
      have := hj.lt
      rw [len_toList] at *
      have h2 := hj.lt.2 (by rw [len_toList]; exact hq)
      have := HKL.out
      omega
end Go.Proofs.YtilmmgkclijhjaaGreatDoor
