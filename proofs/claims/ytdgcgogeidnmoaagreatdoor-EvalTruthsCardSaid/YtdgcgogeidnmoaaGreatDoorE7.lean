/- The walks of runes.Cut, Upper, Fold. Conditions: the text is no longer than any may be; for Fold each piece is a rune. -/
import Derived.Test.YtdgcgogeidnmoaaGreatDoorE3
set_option linter.unusedSimpArgs false
set_option linter.unusedVariables false
set_option linter.unusedSectionVars false
namespace Go.Proofs.YtdgcgogeidnmoaaGreatDoor
open Go.RowKit Pal
theorem bs_take (s : ByteArray) (p : Nat) (l : Bs) (h : s.data.toList.take p = l) : s.extract 0 p = ⟨l.toArray⟩ := by
  rw [← h, ← ext_take]
theorem takeP_out {n : Nat} {l : Bs} (h : l = []) : takeP n l = [] := by subst h; exact takeP_nil n
set_option maxRecDepth 1000000 in
set_option maxHeartbeats 4000000 in
theorem cut_any (s : ByteArray) (n : Int) (w : World) (hn : -9223372036854775808 ≤ n ∧ n ≤ 9223372036854775807) (hm : s.size ≤ 1000000) :
    Calls Tryz.prog 150 #[.string s, .int .i64 n] w (strRet (takeP n.toNat s.data.toList) w) := by
  unfold strRet strV
  by_cases h1 : n < 1
  · have HT : Hid (takeP n.toNat s.data.toList = []) := Lib.hid (by rw [show n.toNat = 0 by omega]; simp [takeP])
    have HB : Hid (Below w.heap.size w w) := Lib.hid (Below.refl _ _)
    go_enter Tryz.func150, Tryz.ntmps150
    go_wp2
    go_ret
    exact ⟨by rw [HT.out]; rfl, HB.out⟩
  · obtain ⟨m, rfl⟩ : ∃ m : Nat, n = m := ⟨n.toNat, by omega⟩
    have hmt : ((m : Int).toNat) = m := by omega
    rw [hmt]
    obtain ⟨R, hR⟩ : ∃ R, takeP m s.data.toList = R := ⟨_, rfl⟩
    rw [hR]
    have HR := Lib.hid hR
    clear hR hmt
    have hn0 : w.alloc (.stringIter s 0) = w.iter s 0 := rfl
    have hbw0 : Below w.heap.size w (w.iter s 0) := (Below.refl _ _).alloc (Nat.le_refl _) (.stringIter s 0)
    go_enter Tryz.func150, Tryz.ntmps150
    go_wp2
    go_loopg [1] s.size (fun g v wr => ∃ (pos j : Nat), v = .int .i64 j ∧ j ≤ m ∧ Below w.heap.size w wr ∧ wr.heap[w.heap.size]? = some (.stringIter s pos) ∧
      Hid (s.data.toList.take pos ++ takeP j (s.data.toList.drop pos) = R) ∧ s.size ≤ pos + g ∧ pos ≤ s.size)
    case atStart => exact ⟨0, m, rfl, Nat.le_refl _, hbw0, World.iter_heap w s 0, Lib.hid (by rw [← HR.out]; simp), by omega, by omega⟩
    case round =>
      obtain ⟨pos, j, rfl, hj, hbw, hit, HC, hg, hp⟩ := hrel
      have hsz : w.heap.size < wr.heap.size := (Array.getElem?_eq_some_iff.1 hit).1
      by_cases hps : pos < s.size
      · have hnx : ∀ ty, (Instr.next (.pointer (some ⟨w.heap.size, 0, none⟩)) true ty).run Tryz.prog wr = .ok (.tuple #[.bool true, .int .i64 pos, .int .i32 (dRune s pos)]) (wr.iterAt w.heap.size s (pos + dLen s pos)) := fun ty => Lib.run_next_any_at wr w.heap.size s pos ty hit hps
        have hwd := dLen_pos hps
        have hit2 := Lib.iterAt_heap wr w.heap.size s pos (pos + dLen s pos) hit
        have hb2 : Below w.heap.size w (wr.iterAt w.heap.size s (pos + dLen s pos)) := Lib.below_iterAt hbw (by omega) _ _
        have hdl := dLen_at s pos
        have hll : (s.data.toList.drop pos).length = s.size - pos := by rw [List.length_drop]; rfl
        have hne : s.data.toList.drop pos ≠ [] := fun h => by rw [h] at hll; simp at hll; omega
        have hwl := wd_le hne
        rw [hll, ← hdl] at hwl
        have Hne := Lib.hid hne
        have HDL := Lib.hid hdl
        obtain ⟨g, rfl⟩ : ∃ g, gk = g + 1 := ⟨gk - 1, by omega⟩
        clear hne hdl hll hbw hit hsz
        generalize hW : wr.iterAt w.heap.size s (pos + dLen s pos) = W at *
        clear hW
        generalize dLen s pos = z at *
        by_cases h0 : j = 0
        · subst h0
          have HE : Hid (s.data.toList.take pos = R) := Lib.hid (by rw [← HC.out]; simp [takeP])
          have k0 : ¬ ((pos : Int) < 0) := by omega
          have HBB := Lib.hid hb2
          clear HC hb2 hit2 hwl hwd
          go_wp2
          try rw [Exit.noGoto_ret]
          go_ret
          exact ⟨by rw [← bs_take s pos R HE.out]; rfl, HBB.out⟩
        · have q0 : ((j : Int) == 0) = false := beq_eq_false_iff_ne.2 (by omega)
          obtain ⟨i, rfl⟩ : ∃ i, j = i + 1 := ⟨j - 1, by omega⟩
          have HD : Hid (s.data.toList.take (pos + z) ++ takeP i (s.data.toList.drop (pos + z)) = R) := Lib.hid (by
            rw [← HC.out, takeP_go Hne.out, ← HDL.out, List.drop_drop, ← List.append_assoc, ← List.take_add])
          have HBB := Lib.hid hb2
          have HI2 := Lib.hid hit2
          clear HC hb2 hit2
          go_wp2
          go_roundg g
          case rel => exact ⟨pos + z, i, by go_num, by omega, HBB.out, HI2.out, HD, by omega, by omega⟩
          case measure => omega
      · have hnx : ∀ ty, (Instr.next (.pointer (some ⟨w.heap.size, 0, none⟩)) true ty).run Tryz.prog wr = _ := fun ty => Lib.run_next_end_at wr w.heap.size s pos ty hit hps
        have hnil : s.data.toList.drop pos = [] := List.drop_eq_nil_of_le (by rw [len_toList]; omega)
        have HE : Hid (s.data.toList = R) := Lib.hid (by
          rw [← HC.out, hnil, takeP_nil, List.append_nil, List.take_of_length_le (by rw [len_toList]; omega)])
        have HBB := Lib.hid hbw
        clear hnil HC hbw hit hsz
        go_wp2
        try rw [Exit.noGoto_ret]
        go_ret
        exact ⟨by rw [← HE.out]; rfl, HBB.out⟩
def rg : List (Int × Int) := [(97, 122), (224, 246), (248, 254), (945, 961), (963, 969), (1072, 1103)]
def uprL : List (Int × Int) → Int → Int
  | [], r => if r = 962 then 931 else r
  | (a, b) :: t, r => if a ≤ r ∧ r ≤ b then r - 32 else uprL t r
theorem und_upper : Tryz.prog.underlying 234 = some (.array 6 145) := by kernel_rfl
def uppersV : Value := .agg #[.int .i32 97, .int .i32 122, .int .i32 224, .int .i32 246, .int .i32 248, .int .i32 254, .int .i32 945, .int .i32 961, .int .i32 963, .int .i32 969, .int .i32 1072, .int .i32 1103]
theorem upper_ix0 (W : World) : (Instr.index 234 (.agg #[.int .i32 97, .int .i32 122, .int .i32 224, .int .i32 246, .int .i32 248, .int .i32 254, .int .i32 945, .int .i32 961, .int .i32 963, .int .i32 969, .int .i32 1072, .int .i32 1103]) (.int .i64 0)).run Tryz.prog W = .ok (.agg #[.int .i32 97, .int .i32 122]) W := by
  simp only [Instr.index, asIntOf]
  simp [run_underlying und_upper, Tryz.sizeOf145, Tryz.isAgg145, part, Result.andThen]
theorem upper_ix1 (W : World) : (Instr.index 234 (.agg #[.int .i32 97, .int .i32 122, .int .i32 224, .int .i32 246, .int .i32 248, .int .i32 254, .int .i32 945, .int .i32 961, .int .i32 963, .int .i32 969, .int .i32 1072, .int .i32 1103]) (.int .i64 1)).run Tryz.prog W = .ok (.agg #[.int .i32 224, .int .i32 246]) W := by
  simp only [Instr.index, asIntOf]
  simp [run_underlying und_upper, Tryz.sizeOf145, Tryz.isAgg145, part, Result.andThen]
theorem upper_ix2 (W : World) : (Instr.index 234 (.agg #[.int .i32 97, .int .i32 122, .int .i32 224, .int .i32 246, .int .i32 248, .int .i32 254, .int .i32 945, .int .i32 961, .int .i32 963, .int .i32 969, .int .i32 1072, .int .i32 1103]) (.int .i64 2)).run Tryz.prog W = .ok (.agg #[.int .i32 248, .int .i32 254]) W := by
  simp only [Instr.index, asIntOf]
  simp [run_underlying und_upper, Tryz.sizeOf145, Tryz.isAgg145, part, Result.andThen]
theorem upper_ix3 (W : World) : (Instr.index 234 (.agg #[.int .i32 97, .int .i32 122, .int .i32 224, .int .i32 246, .int .i32 248, .int .i32 254, .int .i32 945, .int .i32 961, .int .i32 963, .int .i32 969, .int .i32 1072, .int .i32 1103]) (.int .i64 3)).run Tryz.prog W = .ok (.agg #[.int .i32 945, .int .i32 961]) W := by
  simp only [Instr.index, asIntOf]
  simp [run_underlying und_upper, Tryz.sizeOf145, Tryz.isAgg145, part, Result.andThen]
theorem upper_ix4 (W : World) : (Instr.index 234 (.agg #[.int .i32 97, .int .i32 122, .int .i32 224, .int .i32 246, .int .i32 248, .int .i32 254, .int .i32 945, .int .i32 961, .int .i32 963, .int .i32 969, .int .i32 1072, .int .i32 1103]) (.int .i64 4)).run Tryz.prog W = .ok (.agg #[.int .i32 963, .int .i32 969]) W := by
  simp only [Instr.index, asIntOf]
  simp [run_underlying und_upper, Tryz.sizeOf145, Tryz.isAgg145, part, Result.andThen]
theorem upper_ix5 (W : World) : (Instr.index 234 (.agg #[.int .i32 97, .int .i32 122, .int .i32 224, .int .i32 246, .int .i32 248, .int .i32 254, .int .i32 945, .int .i32 961, .int .i32 963, .int .i32 969, .int .i32 1072, .int .i32 1103]) (.int .i64 5)).run Tryz.prog W = .ok (.agg #[.int .i32 1072, .int .i32 1103]) W := by
  simp only [Instr.index, asIntOf]
  simp [run_underlying und_upper, Tryz.sizeOf145, Tryz.isAgg145, part, Result.andThen]
theorem uprL_upr (r : Int) : uprL rg r = upr r := by
  unfold rg upr
  simp only [uprL]
  repeat' split
  all_goals omega
set_option maxRecDepth 1000000 in
set_option maxHeartbeats 4000000 in
theorem upper_any (r : Int) (w : World) (hr : 0 ≤ r ∧ r ≤ 1114111) : Calls Tryz.prog 198 #[.int .i32 r] w fun e w' => e = .returned (.int .i32 (upr r)) ∧ Below w.heap.size w w' := by
  obtain ⟨R, hR⟩ : ∃ R, uprL rg r = R := ⟨_, rfl⟩
  have HU : Hid (upr r = R) := Lib.hid (by rw [← uprL_upr, hR])
  have HR := Lib.hid hR
  rw [HU.out]
  clear hR HU
  go_enter Tryz.func198, Tryz.ntmps198
  go_wp2
  go_loopg [12] 6 (fun g i wr => ∃ k : Nat, i = .int .i64 k ∧ k + g = 6 ∧ Below w.heap.size w wr ∧ Hid (uprL (rg.drop k) r = R))
  case atStart => exact ⟨0, rfl, rfl, Below.refl _ _, Lib.hid HR.out⟩
  case round =>
    obtain ⟨k, rfl, hg, hbw, HC⟩ := hrel
    have hbA := fun o => hbw.alloc hbw.size o
    have HBA := Lib.hid hbA
    rcases (by omega : k = 0 ∨ k = 1 ∨ k = 2 ∨ k = 3 ∨ k = 4 ∨ k = 5 ∨ k = 6) with rfl | rfl | rfl | rfl | rfl | rfl | rfl
    · have hix := upper_ix0
      have hc : (if 97 ≤ r ∧ r ≤ 122 then r - 32 else uprL (rg.drop 1) r) = R := HC.out
      by_cases h1 : 97 ≤ r
      · by_cases h2 : r ≤ 122
        · rw [if_pos ⟨h1, h2⟩] at hc
          have HE := Lib.hid hc
          clear hc HC hbw hbA
          go_wp2
          try rw [Exit.noGoto_ret]
          go_ret
          exact ⟨by rw [← HE.out]; rfl, HBA.out _⟩
        · rw [if_neg (fun h => h2 h.2)] at hc
          have HE := Lib.hid hc
          clear hc HC hbw hbA
          go_wp2
          go_roundg (gk - 1)
          case rel => exact ⟨1, by go_num, by omega, HBA.out _, Lib.hid HE.out⟩
          case measure => omega
      · rw [if_neg (fun h => h1 h.1)] at hc
        have HE := Lib.hid hc
        clear hc HC hbw hbA
        go_wp2
        go_roundg (gk - 1)
        case rel => exact ⟨1, by go_num, by omega, HBA.out _, Lib.hid HE.out⟩
        case measure => omega
    · have hix := upper_ix1
      have hc : (if 224 ≤ r ∧ r ≤ 246 then r - 32 else uprL (rg.drop 2) r) = R := HC.out
      by_cases h1 : 224 ≤ r
      · by_cases h2 : r ≤ 246
        · rw [if_pos ⟨h1, h2⟩] at hc
          have HE := Lib.hid hc
          clear hc HC hbw hbA
          go_wp2
          try rw [Exit.noGoto_ret]
          go_ret
          exact ⟨by rw [← HE.out]; rfl, HBA.out _⟩
        · rw [if_neg (fun h => h2 h.2)] at hc
          have HE := Lib.hid hc
          clear hc HC hbw hbA
          go_wp2
          go_roundg (gk - 1)
          case rel => exact ⟨2, by go_num, by omega, HBA.out _, Lib.hid HE.out⟩
          case measure => omega
      · rw [if_neg (fun h => h1 h.1)] at hc
        have HE := Lib.hid hc
        clear hc HC hbw hbA
        go_wp2
        go_roundg (gk - 1)
        case rel => exact ⟨2, by go_num, by omega, HBA.out _, Lib.hid HE.out⟩
        case measure => omega
    · have hix := upper_ix2
      have hc : (if 248 ≤ r ∧ r ≤ 254 then r - 32 else uprL (rg.drop 3) r) = R := HC.out
      by_cases h1 : 248 ≤ r
      · by_cases h2 : r ≤ 254
        · rw [if_pos ⟨h1, h2⟩] at hc
          have HE := Lib.hid hc
          clear hc HC hbw hbA
          go_wp2
          try rw [Exit.noGoto_ret]
          go_ret
          exact ⟨by rw [← HE.out]; rfl, HBA.out _⟩
        · rw [if_neg (fun h => h2 h.2)] at hc
          have HE := Lib.hid hc
          clear hc HC hbw hbA
          go_wp2
          go_roundg (gk - 1)
          case rel => exact ⟨3, by go_num, by omega, HBA.out _, Lib.hid HE.out⟩
          case measure => omega
      · rw [if_neg (fun h => h1 h.1)] at hc
        have HE := Lib.hid hc
        clear hc HC hbw hbA
        go_wp2
        go_roundg (gk - 1)
        case rel => exact ⟨3, by go_num, by omega, HBA.out _, Lib.hid HE.out⟩
        case measure => omega
    · have hix := upper_ix3
      have hc : (if 945 ≤ r ∧ r ≤ 961 then r - 32 else uprL (rg.drop 4) r) = R := HC.out
      by_cases h1 : 945 ≤ r
      · by_cases h2 : r ≤ 961
        · rw [if_pos ⟨h1, h2⟩] at hc
          have HE := Lib.hid hc
          clear hc HC hbw hbA
          go_wp2
          try rw [Exit.noGoto_ret]
          go_ret
          exact ⟨by rw [← HE.out]; rfl, HBA.out _⟩
        · rw [if_neg (fun h => h2 h.2)] at hc
          have HE := Lib.hid hc
          clear hc HC hbw hbA
          go_wp2
          go_roundg (gk - 1)
          case rel => exact ⟨4, by go_num, by omega, HBA.out _, Lib.hid HE.out⟩
          case measure => omega
      · rw [if_neg (fun h => h1 h.1)] at hc
        have HE := Lib.hid hc
        clear hc HC hbw hbA
        go_wp2
        go_roundg (gk - 1)
        case rel => exact ⟨4, by go_num, by omega, HBA.out _, Lib.hid HE.out⟩
        case measure => omega
    · have hix := upper_ix4
      have hc : (if 963 ≤ r ∧ r ≤ 969 then r - 32 else uprL (rg.drop 5) r) = R := HC.out
      by_cases h1 : 963 ≤ r
      · by_cases h2 : r ≤ 969
        · rw [if_pos ⟨h1, h2⟩] at hc
          have HE := Lib.hid hc
          clear hc HC hbw hbA
          go_wp2
          try rw [Exit.noGoto_ret]
          go_ret
          exact ⟨by rw [← HE.out]; rfl, HBA.out _⟩
        · rw [if_neg (fun h => h2 h.2)] at hc
          have HE := Lib.hid hc
          clear hc HC hbw hbA
          go_wp2
          go_roundg (gk - 1)
          case rel => exact ⟨5, by go_num, by omega, HBA.out _, Lib.hid HE.out⟩
          case measure => omega
      · rw [if_neg (fun h => h1 h.1)] at hc
        have HE := Lib.hid hc
        clear hc HC hbw hbA
        go_wp2
        go_roundg (gk - 1)
        case rel => exact ⟨5, by go_num, by omega, HBA.out _, Lib.hid HE.out⟩
        case measure => omega
    · have hix := upper_ix5
      have hc : (if 1072 ≤ r ∧ r ≤ 1103 then r - 32 else uprL (rg.drop 6) r) = R := HC.out
      by_cases h1 : 1072 ≤ r
      · by_cases h2 : r ≤ 1103
        · rw [if_pos ⟨h1, h2⟩] at hc
          have HE := Lib.hid hc
          clear hc HC hbw hbA
          go_wp2
          try rw [Exit.noGoto_ret]
          go_ret
          exact ⟨by rw [← HE.out]; rfl, HBA.out _⟩
        · rw [if_neg (fun h => h2 h.2)] at hc
          have HE := Lib.hid hc
          clear hc HC hbw hbA
          go_wp2
          go_roundg (gk - 1)
          case rel => exact ⟨6, by go_num, by omega, HBA.out _, Lib.hid HE.out⟩
          case measure => omega
      · rw [if_neg (fun h => h1 h.1)] at hc
        have HE := Lib.hid hc
        clear hc HC hbw hbA
        go_wp2
        go_roundg (gk - 1)
        case rel => exact ⟨6, by go_num, by omega, HBA.out _, Lib.hid HE.out⟩
        case measure => omega
    · have hc : (if r = 962 then 931 else r) = R := HC.out
      have HB := Lib.hid hbw
      by_cases h1 : r = 962
      · rw [if_pos h1] at hc
        have HE := Lib.hid hc
        subst h1
        clear hc HC hbw hbA
        go_wp2
        try rw [Exit.noGoto_ret]
        go_ret
        exact ⟨by rw [← HE.out]; rfl, HB.out⟩
      · rw [if_neg h1] at hc
        have HE := Lib.hid hc
        have q : (r == 962) = false := beq_eq_false_iff_ne.2 h1
        clear hc HC hbw hbA
        go_wp2
        try rw [Exit.noGoto_ret]
        go_ret
        exact ⟨by rw [← HE.out]; rfl, HB.out⟩
theorem foldF_end (f : Nat) (l : Bs) (h : l = []) : foldF f l = [] := by subst h; cases f <;> simp [foldF]
theorem foldF_go {f : Nat} {l : Bs} (hn : l ≠ []) (hv : val l = true) : foldF (f + 1) l = Lib.encodeRune (upr (rn l)) ++ foldF f (l.drop (wd l)) := by
  have hne : ¬ (rn l = 65533 ∧ wd l = 1) := by
    intro hc
    rw [val_cons hn, if_pos hc] at hv
    cases hv
  rw [foldF, if_neg hn, if_neg hne]
set_option maxRecDepth 1000000 in
set_option maxHeartbeats 4000000 in
theorem fold_any (s : ByteArray) (w : World) (hv : val s.data.toList = true) (hm : s.size ≤ 1000000) (hL : Lay (gh w)) :
    Calls Tryz.prog 149 #[.string s] w (strRet (fold s.data.toList) w) := by
  unfold strRet
  have hI := Lib.IsBuilderF.of (Lib.fresh_isBuilder 176 5 w)
  have hbw0 : Below w.heap.size w (w.alloc (.cells #[.pointer none, .slice none 0 0] 176)) := (Below.refl _ _).alloc (Nat.le_refl _) _
  go_enter Tryz.func149, Tryz.ntmps149
  go_wp2
  have hs0 : (w.alloc (.cells #[.pointer none, .slice none 0 0] 176)).heap.size = w.heap.size + 1 := by simp
  generalize w.alloc (.cells #[.pointer none, .slice none 0 0] 176) = W1 at *
  have hI0 : Lib.IsBuilderF 176 5 w.heap.size w.heap.size (Lib.byteCells []) (W1.iter s 0) := builder_below hI ((Below.refl W1.heap.size W1).alloc (Nat.le_refl _) _)
  have hbw1 : Below w.heap.size w (W1.iter s 0) := hbw0.alloc hbw0.size (.stringIter s 0)
  have hn0 : W1.alloc (.stringIter s 0) = W1.iter s 0 := rfl
  have HL := Lib.hid hL
  have hq : fold s.data.toList = foldF s.size s.data.toList := by unfold fold; rw [len_toList]
  have HQ := Lib.hid hq
  have HV := Lib.hid hv
  have hit0 := World.iter_heap W1 s 0
  rw [hs0] at hit0
  have HIT := Lib.hid hit0
  clear hI hbw0 hL hq hv hs0 hit0
  go_loopg [5] s.size (fun g r wr => ∃ (pos : Nat) (acc : Bs), Lib.IsBuilderF 176 5 w.heap.size w.heap.size (Lib.byteCells acc) wr ∧ Below w.heap.size w wr ∧ wr.heap[(w.heap.size + 1)]? = some (.stringIter s pos) ∧
      Hid (acc ++ foldF g (s.data.toList.drop pos) = fold s.data.toList) ∧ Hid (val (s.data.toList.drop pos) = true) ∧ s.size ≤ pos + g ∧ pos ≤ s.size ∧ acc.length ≤ 4 * pos)
  case atStart => exact ⟨0, [], hI0, hbw1, HIT.out, Lib.hid (by rw [HQ.out]; rfl), Lib.hid HV.out, by omega, by omega, by simp⟩
  case round =>
    obtain ⟨pos, acc, hI, hbw, hit, HR, HVV, hg, hp, hal⟩ := hrel
    have hsz : (w.heap.size + 1) < wr.heap.size := (Array.getElem?_eq_some_iff.1 hit).1
    by_cases hps : pos < s.size
    · have hnx : ∀ ty, (Instr.next (.pointer (some ⟨(w.heap.size + 1), 0, none⟩)) true ty).run Tryz.prog wr = .ok (.tuple #[.bool true, .int .i64 pos, .int .i32 (dRune s pos)]) (wr.iterAt (w.heap.size + 1) s (pos + dLen s pos)) := fun ty => Lib.run_next_any_at wr (w.heap.size + 1) s pos ty hit hps
      have hwd := dLen_pos hps
      have hit2 := Lib.iterAt_heap wr (w.heap.size + 1) s pos (pos + dLen s pos) hit
      have hiB : Lib.IsBuilderF 176 5 w.heap.size w.heap.size (Lib.byteCells acc) (wr.iterAt (w.heap.size + 1) s (pos + dLen s pos)) := hI.iterAt hit _
      have hb2 : Below w.heap.size w (wr.iterAt (w.heap.size + 1) s (pos + dLen s pos)) := Lib.below_iterAt hbw (by omega) _ _
      have hlt2 : (w.heap.size + 1) < (wr.iterAt (w.heap.size + 1) s (pos + dLen s pos)).heap.size := by rw [Lib.iterAt_size]; exact hsz
      obtain ⟨g, rfl⟩ : ∃ g, gk = g + 1 := ⟨gk - 1, by omega⟩
      have hll : (s.data.toList.drop pos).length = s.size - pos := by rw [List.length_drop]; rfl
      have hne : s.data.toList.drop pos ≠ [] := fun h => by rw [h] at hll; simp at hll; omega
      have hwl := wd_le hne
      have hdl := dLen_at s pos
      have hdr := dRune_at s pos
      rw [hll, ← hdl] at hwl
      have hst := val_step hne HVV.out
      have hq1 := HR.out
      rw [foldF_go hne HVV.out, ← hdr, ← hdl, List.drop_drop, ← List.append_assoc] at hq1
      rw [← hdl, List.drop_drop] at hst
      have hnb : ¬ (dRune s pos = 65533 ∧ dLen s pos = 1) := fun h => by
        have := HVV.out
        rw [val_cons hne, if_pos ⟨by rw [← hdr]; exact h.1, by rw [← hdl]; exact h.2⟩] at this
        cases this
      have HQ1 := Lib.hid hq1
      have HV2 := Lib.hid hst.2.2.1
      have hrr := rn_range (s.data.toList.drop pos)
      rw [← hdr] at hrr
      have hde := decode_any (s.extract pos s.size) (wr.iterAt (w.heap.size + 1) s (pos + dLen s pos)) (by rw [ext_drop]; exact hne) (HL.out.below hb2)
      rw [ext_drop, ← hdr, ← hdl] at hde
      have HDE := Lib.hid hde
      clear hq1 hst hne hll HR hdl hdr hde HVV
      clear hI hbw hit hsz hI0 hbw1
      generalize hW : wr.iterAt (w.heap.size + 1) s (pos + dLen s pos) = W at *
      generalize dRune s pos = r at *
      generalize dLen s pos = z at *
      clear hW
      have hup := fun w => upper_any r w hrr
      have hur : -2147483648 ≤ upr r ∧ upr r ≤ 2147483647 := by unfold upr; split <;> (try split) <;> omega
      have HUP := Lib.hid hup
      generalize upr r = ur at *
      have hpe : (pos : Int) ≤ (s.size : Int) := by omega
      have hcs : (r = 65533 ∧ (((z : Nat) : Int) == 1) = false) ∨ ((r == 65533) = false) := by
        by_cases h : r = 65533
        · exact .inl ⟨h, beq_eq_false_iff_ne.2 (fun hz => hnb ⟨h, by omega⟩)⟩
        · exact .inr (beq_eq_false_iff_ne.2 h)
      clear hup hnb
      rcases hcs with ⟨rfl, q2⟩ | q1
      all_goals
        go_wp2_with fail
        refine HDE.out.mono ?_
        rintro e W2 ⟨rfl, hb3⟩
        have hb4 := hb2.seq hb3
        have hi2 := builder_below hiB hb3
        have hit3 := (hb3.block _ hlt2).trans hit2
        have hlt3 : (w.heap.size + 1) < W2.heap.size := Nat.lt_of_lt_of_le hlt2 hb3.size
        clear hb2 hb3 hiB hit2 hlt2 HDE
        go_wp2_with fail
        refine (HUP.out _).mono ?_
        rintro e W3 ⟨rfl, hb5⟩
        have hb6 := hb4.seq hb5
        have hi4 := builder_below hi2 hb5
        have hit4 := (hb5.block _ hlt3).trans hit3
        have hs6 := hb6.size
        have hlen := (enc_len ur).2
        have hl2 : (Lib.byteCells acc).length + 4 ≤ 140737488355328 := by rw [Lib.byteCells_length]; omega
        clear hb4 hb5 hi2 hit3 hlt3
        go_wp2_with fail
        refine (writeRune_k w.heap.size w.heap.size _ ur hur.1 hur.2 _ hi4 hl2 hs6).mono ?_
        rintro e W4 ⟨rfl, hi5, hb7, ho7⟩
        have hb8 := hb6.trans hb7
        have hit5 : W4.heap[(w.heap.size + 1)]? = some (.stringIter s (pos + z)) := ho7 _ _ hit4 (by simp) (by intro c fz h; cases h)
        rw [byteCells_snoc] at hi5
        clear hi4 hb6 hb7 ho7 hit4
        go_wp2
        go_roundg g
        case rel => exact ⟨pos + z, acc ++ Lib.encodeRune ur, hi5, hb8, hit5, HQ1, HV2, by omega, by omega, by simp; omega⟩
        case measure => omega
    · have hnx : ∀ ty, (Instr.next (.pointer (some ⟨(w.heap.size + 1), 0, none⟩)) true ty).run Tryz.prog wr = _ := fun ty => Lib.run_next_end_at wr (w.heap.size + 1) s pos ty hit hps
      have hnil : s.data.toList.drop pos = [] := List.drop_eq_nil_of_le (by rw [len_toList]; omega)
      have hq := HR.out
      rw [foldF_end _ _ hnil, List.append_nil] at hq
      have HQ2 := Lib.hid hq
      clear hnil hq HR hI0 hbw1 hit
      go_wp2_with fail
      refine (Tryz.Builder_String_any_k _ _ _ _ hI hbw.size).mono ?_
      rintro e W3 ⟨rfl, _, hb5, _⟩
      go_wp2
      go_ret
      refine ⟨?_, hbw.trans hb5⟩
      rw [← HQ2.out]; rfl
end Go.Proofs.YtdgcgogeidnmoaaGreatDoor
