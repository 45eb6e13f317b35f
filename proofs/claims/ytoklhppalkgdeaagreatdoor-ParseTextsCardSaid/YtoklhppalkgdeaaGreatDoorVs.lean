/- The walk of parse.sign. The walk of value.quoted. The walks of slices.EqualFunc (over parts), parse.same, parse.Same. -/
import Derived.Test.YtoklhppalkgdeaaGreatDoorVb
import Derived.Test.YtoklhppalkgdeaaGreatDoorPl
import Derived.Test.YtoklhppalkgdeaaGreatDoorVa
import Derived.Lib.QuoteBits
set_option linter.unusedSimpArgs false
set_option linter.unusedVariables false
set_option linter.unusedSectionVars false
namespace Go.Proofs.YtoklhppalkgdeaaGreatDoor
open Go.RowKit Pal
set_option maxRecDepth 1000000 in
set_option maxHeartbeats 4000000 in
theorem sign_any (op : Int) (w : World) (h : 7 ≤ op ∧ op ≤ 17) :
    Calls Tryz.prog 93 #[.int .i64 op] w fun e w' => e = .returned (strV (sgn op)) ∧ Below w.heap.size w w' := by
  have hb : ∀ o, Below w.heap.size w (w.alloc o) := fun o => (Below.refl w.heap.size w).alloc (Nat.le_refl _) o
  have HB := Lib.hid hb
  clear hb
  rcases (by omega : op = 7 ∨ op = 8 ∨ op = 9 ∨ op = 10 ∨ op = 11 ∨ op = 12 ∨ op = 13 ∨ op = 14 ∨ op = 15 ∨ op = 16 ∨ op = 17) with rfl | rfl | rfl | rfl | rfl | rfl | rfl | rfl | rfl | rfl | rfl
  all_goals
    clear h
    go_enter Tryz.func93, Tryz.ntmps93
    go_wp2
    go_ret
    exact ⟨rfl, HB.out _⟩
end Go.Proofs.YtoklhppalkgdeaaGreatDoor
namespace Go.Proofs.YtoklhppalkgdeaaGreatDoor
open Go.RowKit Pal
theorem quoteF_end (f : Nat) (l : Bs) (h : l = []) : quoteF f l = [] := by
  subst h
  cases f <;> simp [quoteF]
theorem quoteF_go {f : Nat} {l : Bs} (h : l ≠ []) : quoteF (f + 1) l = quote1 (rn l) ++ quoteF f (l.drop (wd l)) := by
  conv => lhs; unfold quoteF
  rw [if_neg h]
theorem hex_arr (n : Nat) (h : n < (⟨#[48, 49, 50, 51, 52, 53, 54, 55, 56, 57, 97, 98, 99, 100, 101, 102]⟩ : ByteArray).size) : ((⟨#[48, 49, 50, 51, 52, 53, 54, 55, 56, 57, 97, 98, 99, 100, 101, 102]⟩ : ByteArray)[n]'h).toNat = (hexB n).toNat := by
  have : n < 16 := h
  rcases (by omega : n = 0 ∨ n = 1 ∨ n = 2 ∨ n = 3 ∨ n = 4 ∨ n = 5 ∨ n = 6 ∨ n = 7 ∨ n = 8 ∨ n = 9 ∨ n = 10 ∨ n = 11 ∨ n = 12 ∨ n = 13 ∨ n = 14 ∨ n = 15) with rfl | rfl | rfl | rfl | rfl | rfl | rfl | rfl | rfl | rfl | rfl | rfl | rfl | rfl | rfl | rfl <;> rfl
theorem ucells {T e : TypeId} {B b : Nat} {acc : Bs} {x : Nat} {W : World} (h : Lib.IsBuilderF T e B b (Lib.byteCells acc ++ Lib.strCells ⟨#[92, 117, 48, 48]⟩ ++ [Value.int .u8 ((hexB ((x : Int) / 16).toNat).toNat : Int)] ++ [Value.int .u8 ((hexB (x % 16)).toNat : Int)]) W) :
    Lib.IsBuilderF T e B b (Lib.byteCells (acc ++ [92, 117, 48, 48, hexB (x / 16), hexB (x % 16)])) W := by
  have h1 : ((x : Int) / 16).toNat = x / 16 := by omega
  rw [h1] at h
  have hc : Lib.byteCells (acc ++ [92, 117, 48, 48, hexB (x / 16), hexB (x % 16)]) = Lib.byteCells acc ++ Lib.strCells ⟨#[92, 117, 48, 48]⟩ ++ [Value.int .u8 ((hexB (x / 16)).toNat : Int)] ++ [Value.int .u8 ((hexB (x % 16)).toNat : Int)] := by
    rw [Lib.byteCells_append, List.append_assoc, List.append_assoc]
    rfl
  rw [hc]; exact h
theorem qcells {T e : TypeId} {B b : Nat} {acc : Bs} {r : Int} {W : World} (h : Lib.IsBuilderF T e B b (Lib.byteCells acc ++ [Value.int .u8 92] ++ Lib.runeCells r) W) : Lib.IsBuilderF T e B b (Lib.byteCells (acc ++ (92 :: Lib.encodeRune r))) W := by
  have hc : Lib.byteCells acc ++ [Value.int .u8 92] ++ Lib.runeCells r = Lib.byteCells (acc ++ (92 :: Lib.encodeRune r)) := by
    rw [show acc ++ (92 :: Lib.encodeRune r) = (acc ++ [92]) ++ Lib.encodeRune r by simp, ← byteCells_snoc, Lib.byteCells_append]
    rfl
  rw [← hc]; exact h
set_option maxRecDepth 1000000 in
set_option maxHeartbeats 4000000 in
theorem quoted_any (s : ByteArray) (w : World) (hm : s.size ≤ 1000000) :
    Calls Tryz.prog 188 #[.string s] w fun e w' => e = .returned (strV (quoteB s.data.toList)) ∧ Below w.heap.size w w' := by
  have HW := Lib.hid (writeByte_k w.heap.size w.heap.size [] 34 _ (Lib.IsBuilderF.of (Lib.fresh_isBuilder 163 5 w)) (by simp) (by simp))
  go_enter Tryz.func188, Tryz.ntmps188
  go_wp2_with fail
  refine HW.out.mono ?_
  clear HW
  rintro e W1 ⟨rfl, hI, hb1, -⟩
  have hbw : Below w.heap.size w W1 := ((Below.refl w.heap.size w).alloc (Nat.le_refl _) _).trans hb1
  have hzi : w.heap.size < W1.heap.size := by have := hb1.size; simp at this; omega
  clear hb1
  go_wp2
  have hn0 : W1.alloc (.stringIter s 0) = W1.iter s 0 := rfl
  have h34 : ([] ++ [Value.int .u8 34] : List Value) = Lib.byteCells [34] := rfl
  rw [h34] at hI
  have hI0 : Lib.IsBuilderF 163 5 w.heap.size w.heap.size (Lib.byteCells [34]) (W1.iter s 0) := builder_below hI ((Below.refl W1.heap.size W1).alloc (Nat.le_refl _) _)
  have hbw0 : Below w.heap.size w (W1.iter s 0) := hbw.alloc hbw.size (.stringIter s 0)
  have hq : quoteB s.data.toList = [34] ++ (quoteF s.size s.data.toList ++ [34]) := by unfold quoteB; rw [len_toList]; rfl
  have HQ := Lib.hid hq
  clear hq h34 hI hbw
  go_loopg [5] s.size (fun g r wr => ∃ (pos : Nat) (acc : Bs), Lib.IsBuilderF 163 5 w.heap.size w.heap.size (Lib.byteCells acc) wr ∧ Below w.heap.size w wr ∧ wr.heap[W1.heap.size]? = some (.stringIter s pos) ∧
      Hid (acc ++ (quoteF g (s.data.toList.drop pos) ++ [34]) = quoteB s.data.toList) ∧ s.size ≤ pos + g ∧ pos ≤ s.size ∧ acc.length ≤ 6 * pos + 1)
  case atStart => exact ⟨0, [34], hI0, hbw0, World.iter_heap W1 s 0, Lib.hid (by rw [HQ.out]; rfl), by omega, by omega, by simp⟩
  case round =>
    obtain ⟨pos, acc, hI, hbw, hit, HR, hg, hp, hal⟩ := hrel
    have hsz : W1.heap.size < wr.heap.size := (Array.getElem?_eq_some_iff.1 hit).1
    by_cases hps : pos < s.size
    · have hnx : ∀ ty, (Instr.next (.pointer (some ⟨W1.heap.size, 0, none⟩)) true ty).run Tryz.prog wr = .ok (.tuple #[.bool true, .int .i64 pos, .int .i32 (dRune s pos)]) (wr.iterAt W1.heap.size s (pos + dLen s pos)) := fun ty => Lib.run_next_any_at wr W1.heap.size s pos ty hit hps
      have hwd := dLen_pos hps
      have hd1 := dRune_le s pos
      have hit2 := Lib.iterAt_heap wr W1.heap.size s pos (pos + dLen s pos) hit
      have hiB : Lib.IsBuilderF 163 5 w.heap.size w.heap.size (Lib.byteCells acc) (wr.iterAt W1.heap.size s (pos + dLen s pos)) := hI.iterAt hit _
      have hb2 : Below w.heap.size w (wr.iterAt W1.heap.size s (pos + dLen s pos)) := Lib.below_iterAt hbw (by omega) _ _
      have hs2 := hb2.size
      obtain ⟨g, rfl⟩ : ∃ g, gk = g + 1 := ⟨gk - 1, by omega⟩
      have hll : (s.data.toList.drop pos).length = s.size - pos := by rw [List.length_drop]; rfl
      have hne : s.data.toList.drop pos ≠ [] := fun h => by rw [h] at hll; simp at hll; omega
      have hq1 := HR.out
      rw [quoteF_go hne, ← dRune_at, ← dLen_at, List.drop_drop] at hq1
      have HQ1 := Lib.hid hq1
      clear hq1 hne hll HR
      clear hI hbw hit hsz hI0 hbw0
      have hdle := dLen_at s pos
      have hwl := wd_le (l := s.data.toList.drop pos) (by intro h; have := congrArg List.length h; rw [List.length_drop, len_toList] at this; simp at this; omega)
      rw [← hdle, List.length_drop, len_toList] at hwl
      clear hdle
      generalize hW : wr.iterAt W1.heap.size s (pos + dLen s pos) = W at *
      generalize dRune s pos = r at *
      generalize dLen s pos = z at *
      clear hW
      by_cases c1 : r = 34 ∨ r = 92
      · have HQ2 : Hid (quote1 r = 92 :: Lib.encodeRune r) := Lib.hid (by unfold quote1; rw [if_pos c1])
        rcases c1 with rfl | rfl
        · go_wp2_with fail
          refine (writeByte_k w.heap.size w.heap.size _ 92 _ hiB (by rw [Lib.byteCells_length]; omega) hs2).mono ?_
          rintro e W2 ⟨rfl, hi2, hb3, ho3⟩
          have hb4 := hb2.trans hb3
          have hit2b : W2.heap[W1.heap.size]? = some (.stringIter s (pos + z)) := ho3 _ _ hit2 (by simp; omega) (by intro c fz h; cases h)
          have hs4 := hb4.size
          have hl2 : (Lib.byteCells acc ++ [Value.int .u8 92]).length + 4 ≤ 140737488355328 := by rw [List.length_append, Lib.byteCells_length]; simp; omega
          clear hiB hb2 hs2 hb3 ho3 hit2
          go_wp2_with fail
          refine (writeRune_k w.heap.size w.heap.size _ _ (by omega) (by omega) _ hi2 hl2 hs4).mono ?_
          rintro e W3 ⟨rfl, hi3, hb5, ho5⟩
          have hb6 := hb4.trans hb5
          have hit3 : W3.heap[W1.heap.size]? = some (.stringIter s (pos + z)) := ho5 _ _ hit2b (by simp; omega) (by intro c fz h; cases h)
          clear hi2 hb4 hb5 ho5 hit2b hl2 hs4
          have hlen := (enc_len (34 : Int)).2
          have hi3 := qcells hi3
          go_wp2
          go_roundg g
          case rel => exact ⟨pos + z, acc ++ (92 :: Lib.encodeRune (34 : Int)), hi3, hb6, hit3, Lib.hid (by rw [← HQ1.out, HQ2.out]; simp), by omega, by omega, by simp; omega⟩
          case measure => omega
        · go_wp2_with fail
          refine (writeByte_k w.heap.size w.heap.size _ 92 _ hiB (by rw [Lib.byteCells_length]; omega) hs2).mono ?_
          rintro e W2 ⟨rfl, hi2, hb3, ho3⟩
          have hb4 := hb2.trans hb3
          have hit2b : W2.heap[W1.heap.size]? = some (.stringIter s (pos + z)) := ho3 _ _ hit2 (by simp; omega) (by intro c fz h; cases h)
          have hs4 := hb4.size
          have hl2 : (Lib.byteCells acc ++ [Value.int .u8 92]).length + 4 ≤ 140737488355328 := by rw [List.length_append, Lib.byteCells_length]; simp; omega
          clear hiB hb2 hs2 hb3 ho3 hit2
          go_wp2_with fail
          refine (writeRune_k w.heap.size w.heap.size _ _ (by omega) (by omega) _ hi2 hl2 hs4).mono ?_
          rintro e W3 ⟨rfl, hi3, hb5, ho5⟩
          have hb6 := hb4.trans hb5
          have hit3 : W3.heap[W1.heap.size]? = some (.stringIter s (pos + z)) := ho5 _ _ hit2b (by simp; omega) (by intro c fz h; cases h)
          clear hi2 hb4 hb5 ho5 hit2b hl2 hs4
          have hlen := (enc_len (92 : Int)).2
          have hi3 := qcells hi3
          go_wp2
          go_roundg g
          case rel => exact ⟨pos + z, acc ++ (92 :: Lib.encodeRune (92 : Int)), hi3, hb6, hit3, Lib.hid (by rw [← HQ1.out, HQ2.out]; simp), by omega, by omega, by simp; omega⟩
          case measure => omega
      · by_cases c2 : r < 32 ∨ (127 ≤ r ∧ r ≤ 159)
        · have hrx : ∃ x : Nat, r = x := ⟨r.toNat, by omega⟩
          obtain ⟨x, rfl⟩ := hrx
          have HQ2 : Hid (quote1 (x : Int) = [92, 117, 48, 48, hexB (x / 16), hexB (x % 16)]) := Lib.hid (by unfold quote1; rw [if_neg c1, if_pos c2]; rfl)
          have q1 : ((x : Int) == 34) = false := beq_eq_false_iff_ne.2 (by omega)
          have q2 : ((x : Int) == 92) = false := beq_eq_false_iff_ne.2 (by omega)
          have hl2 : (Lib.byteCells acc).length + 4 ≤ 140737488355328 := by rw [Lib.byteCells_length]; omega
          have HW := Lib.hid (writeString_k w.heap.size w.heap.size _ ⟨#[92, 117, 48, 48]⟩ _ hiB hl2 hs2)
          clear c1 hiB hl2 hs2
          have k0 : 0 ≤ (x : Int) / 16 := by omega
          have k1 : (x : Int) / 16 < 16 := by omega
          have ha : bits .and .i32 (x : Int) 15 = ((x % 16 : Nat) : Int) := Lib.and15_i32 x (by omega)
          have k2 : 0 ≤ ((x % 16 : Nat) : Int) := by omega
          have k3 : ((x % 16 : Nat) : Int) < 16 := by omega
          have k4 : ((x % 16 : Nat) : Int).toNat = x % 16 := by omega
          rcases c2 with c3 | ⟨c3, c4⟩
          · have q3 : decide ((x : Int) < 32) = true := decide_eq_true c3
            go_wp2_with fail
            refine HW.out.mono ?_
            rintro e W3 ⟨rfl, hi3, hb5, ho5⟩
            have hb6 := hb2.trans hb5
            have hit3 : W3.heap[W1.heap.size]? = some (.stringIter s (pos + z)) := ho5 _ _ hit2 (by simp; omega) (by intro c fz h; cases h)
            have hl3 : (Lib.byteCells acc ++ Lib.strCells ⟨#[92, 117, 48, 48]⟩).length + 1 ≤ 140737488355328 := by rw [List.length_append, Lib.byteCells_length, Lib.strCells_length]; show acc.length + 4 + 1 ≤ _; omega
            have hs6 := hb6.size
            clear HW hb2 hb5 ho5 hit2
            go_wp2_with fail
            refine (writeByte_k w.heap.size w.heap.size _ _ _ hi3 hl3 hs6).mono ?_
            rintro e W4 ⟨rfl, hi4, hb7, ho7⟩
            rw [hex_arr] at hi4
            have hb8 := hb6.trans hb7
            have hit4 : W4.heap[W1.heap.size]? = some (.stringIter s (pos + z)) := ho7 _ _ hit3 (by simp; omega) (by intro c fz h; cases h)
            have hl4 : (Lib.byteCells acc ++ Lib.strCells ⟨#[92, 117, 48, 48]⟩ ++ [Value.int .u8 ((hexB ((x : Int) / 16).toNat).toNat : Int)]).length + 1 ≤ 140737488355328 := by rw [List.length_append, List.length_append, Lib.byteCells_length, Lib.strCells_length]; show acc.length + 4 + 1 + 1 ≤ _; omega
            have hs8 := hb8.size
            clear hi3 hb6 hb7 ho7 hit3 hl3 hs6
            go_wp2_with fail
            refine (writeByte_k w.heap.size w.heap.size _ _ _ hi4 hl4 hs8).mono ?_
            rintro e W5 ⟨rfl, hi5, hb9, ho9⟩
            rw [hex_arr] at hi5
            have hi6 := ucells hi5
            have hbz := hb8.trans hb9
            have hit5 : W5.heap[W1.heap.size]? = some (.stringIter s (pos + z)) := ho9 _ _ hit4 (by simp; omega) (by intro c fz h; cases h)
            clear hi4 hb8 hb9 ho9 hit4 hl4 hs8 hi5
            go_wp2
            go_roundg g
            case rel => exact ⟨pos + z, acc ++ [92, 117, 48, 48, hexB (x / 16), hexB (x % 16)], hi6, hbz, hit5, Lib.hid (by rw [← HQ1.out, HQ2.out]; simp), by omega, by omega, by simp; omega⟩
            case measure => omega
          · have q3 : decide ((x : Int) < 32) = false := decide_eq_false (by omega)
            have q4 : decide (127 ≤ (x : Int)) = true := decide_eq_true c3
            have q5 : decide ((x : Int) ≤ 159) = true := decide_eq_true c4
            go_wp2_with fail
            refine HW.out.mono ?_
            rintro e W3 ⟨rfl, hi3, hb5, ho5⟩
            have hb6 := hb2.trans hb5
            have hit3 : W3.heap[W1.heap.size]? = some (.stringIter s (pos + z)) := ho5 _ _ hit2 (by simp; omega) (by intro c fz h; cases h)
            have hl3 : (Lib.byteCells acc ++ Lib.strCells ⟨#[92, 117, 48, 48]⟩).length + 1 ≤ 140737488355328 := by rw [List.length_append, Lib.byteCells_length, Lib.strCells_length]; show acc.length + 4 + 1 ≤ _; omega
            have hs6 := hb6.size
            clear HW hb2 hb5 ho5 hit2
            go_wp2_with fail
            refine (writeByte_k w.heap.size w.heap.size _ _ _ hi3 hl3 hs6).mono ?_
            rintro e W4 ⟨rfl, hi4, hb7, ho7⟩
            rw [hex_arr] at hi4
            have hb8 := hb6.trans hb7
            have hit4 : W4.heap[W1.heap.size]? = some (.stringIter s (pos + z)) := ho7 _ _ hit3 (by simp; omega) (by intro c fz h; cases h)
            have hl4 : (Lib.byteCells acc ++ Lib.strCells ⟨#[92, 117, 48, 48]⟩ ++ [Value.int .u8 ((hexB ((x : Int) / 16).toNat).toNat : Int)]).length + 1 ≤ 140737488355328 := by rw [List.length_append, List.length_append, Lib.byteCells_length, Lib.strCells_length]; show acc.length + 4 + 1 + 1 ≤ _; omega
            have hs8 := hb8.size
            clear hi3 hb6 hb7 ho7 hit3 hl3 hs6
            go_wp2_with fail
            refine (writeByte_k w.heap.size w.heap.size _ _ _ hi4 hl4 hs8).mono ?_
            rintro e W5 ⟨rfl, hi5, hb9, ho9⟩
            rw [hex_arr] at hi5
            have hi6 := ucells hi5
            have hbz := hb8.trans hb9
            have hit5 : W5.heap[W1.heap.size]? = some (.stringIter s (pos + z)) := ho9 _ _ hit4 (by simp; omega) (by intro c fz h; cases h)
            clear hi4 hb8 hb9 ho9 hit4 hl4 hs8 hi5
            go_wp2
            go_roundg g
            case rel => exact ⟨pos + z, acc ++ [92, 117, 48, 48, hexB (x / 16), hexB (x % 16)], hi6, hbz, hit5, Lib.hid (by rw [← HQ1.out, HQ2.out]; simp), by omega, by omega, by simp; omega⟩
            case measure => omega
        · have HQ2 : Hid (quote1 r = Lib.encodeRune r) := Lib.hid (by unfold quote1; rw [if_neg c1, if_neg c2])
          have q1 : (r == 34) = false := beq_eq_false_iff_ne.2 (by omega)
          have q2 : (r == 92) = false := beq_eq_false_iff_ne.2 (by omega)
          have q3 : decide (r < 32) = false := decide_eq_false (by omega)
          have hlen := (enc_len r).2
          have hl2 : (Lib.byteCells acc).length + 4 ≤ 140737488355328 := by rw [Lib.byteCells_length]; omega
          have HW := Lib.hid (writeRune_k w.heap.size w.heap.size _ r (by omega) (by omega) _ hiB hl2 hs2)
          clear c1 hiB hl2 hs2
          rcases (by omega : r < 127 ∨ 159 < r) with c3 | c3
          · have q4 : decide (127 ≤ r) = false := decide_eq_false (by omega)
            clear c2
            go_wp2_with fail
            refine HW.out.mono ?_
            rintro e W3 ⟨rfl, hi3, hb5, ho5⟩
            have hb6 := hb2.trans hb5
            have hit3 : W3.heap[W1.heap.size]? = some (.stringIter s (pos + z)) := ho5 _ _ hit2 (by simp; omega) (by intro c fz h; cases h)
            rw [byteCells_snoc] at hi3
            clear HW hb2 hb5 ho5 hit2
            go_wp2
            go_roundg g
            case rel => exact ⟨pos + z, acc ++ Lib.encodeRune r, hi3, hb6, hit3, Lib.hid (by rw [← HQ1.out, HQ2.out]; simp), by omega, by omega, by simp; omega⟩
            case measure => omega
          · have q4 : decide (127 ≤ r) = true := decide_eq_true (by omega)
            have q5 : decide (r ≤ 159) = false := decide_eq_false (by omega)
            clear c2
            go_wp2_with fail
            refine HW.out.mono ?_
            rintro e W3 ⟨rfl, hi3, hb5, ho5⟩
            have hb6 := hb2.trans hb5
            have hit3 : W3.heap[W1.heap.size]? = some (.stringIter s (pos + z)) := ho5 _ _ hit2 (by simp; omega) (by intro c fz h; cases h)
            rw [byteCells_snoc] at hi3
            clear HW hb2 hb5 ho5 hit2
            go_wp2
            go_roundg g
            case rel => exact ⟨pos + z, acc ++ Lib.encodeRune r, hi3, hb6, hit3, Lib.hid (by rw [← HQ1.out, HQ2.out]; simp), by omega, by omega, by simp; omega⟩
            case measure => omega
    · have hnx : ∀ ty, (Instr.next (.pointer (some ⟨W1.heap.size, 0, none⟩)) true ty).run Tryz.prog wr = _ := fun ty => Lib.run_next_end_at wr W1.heap.size s pos ty hit hps
      have hnil : s.data.toList.drop pos = [] := List.drop_eq_nil_of_le (by rw [len_toList]; omega)
      have hq := HR.out
      rw [hnil, quoteF_end _ _ rfl] at hq
      have HQ2 := Lib.hid hq
      have hl2 : (Lib.byteCells acc).length + 1 ≤ 140737488355328 := by rw [Lib.byteCells_length]; omega
      have HW := Lib.hid (writeByte_k w.heap.size w.heap.size _ 34 _ hI hl2 hbw.size)
      clear hnil hq HR hl2 hI hI0 hbw0
      go_wp2_with fail
      refine HW.out.mono ?_
      rintro e W2 ⟨rfl, hi2, hb3, ho3⟩
      have h34b : (Lib.byteCells acc ++ [Value.int .u8 34] : List Value) = Lib.byteCells (acc ++ [34]) := by rw [Lib.byteCells_append]; rfl
      rw [h34b] at hi2
      have hb4 := hbw.trans hb3
      have hs4 := hb4.size
      clear HW h34b hb3 ho3 hnx hit
      go_wp2_with fail
      refine (Tryz.Builder_String_any_k _ _ _ _ hi2 hs4).mono ?_
      rintro e W3 ⟨rfl, _, hb5, _⟩
      go_wp2
      go_ret
      refine ⟨?_, hb4.trans hb5⟩
      rw [← HQ2.out]; rfl
end Go.Proofs.YtoklhppalkgdeaaGreatDoor
namespace Go.Proofs.YtoklhppalkgdeaaGreatDoor
open Go.RowKit Pal
mutual
/-- The same, part by part. -/
def sameX : Ex → Ex → Bool
  | .mk o n s ks, e => decide (o = e.op) && (decide (n = e.n) && (decide (s = e.s) && sameL ks e.ks))
def sameL : List Ex → List Ex → Bool
  | [], l => l.isEmpty
  | a :: l, m => match m with | [] => false | b :: r => sameX a b && sameL l r
end
theorem sameX_mk (o n : Int) (s : Bs) (ks : List Ex) (e : Ex) : sameX (.mk o n s ks) e = (decide (o = e.op) && (decide (n = e.n) && (decide (s = e.s) && sameL ks e.ks))) := by rw [sameX]
theorem sameL_nil (l : List Ex) : sameL [] l = l.isEmpty := by rw [sameL]
theorem sameL_cons (a b : Ex) (l r : List Ex) : sameL (a :: l) (b :: r) = (sameX a b && sameL l r) := by rw [sameL]
theorem sameX_iff (e : Ex) : ∀ e', sameX e e' = true ↔ e = e' := by
  refine Ex.ind (P := fun e => ∀ e', sameX e e' = true ↔ e = e') ?_ e
  intro o n s ks ih e'
  have go : ∀ (l : List Ex), (∀ k ∈ l, k ∈ ks) → ∀ m, sameL l m = true ↔ l = m := by
    intro l
    induction l with
    | nil => intro _ m; rw [sameL_nil]; cases m <;> simp
    | cons a l ihl =>
      intro hm m
      cases m with
      | nil => simp [sameL]
      | cons b r =>
        rw [sameL_cons, Bool.and_eq_true, ih a (hm a (by simp)), ihl (fun k hk => hm k (by simp [hk]))]
        simp
  cases e' with
  | mk o' n' s' ks' =>
    rw [sameX_mk]
    simp only [Ex.op, Ex.n, Ex.s, Ex.ks, Bool.and_eq_true, Ex.mk.injEq]
    rw [go ks (fun _ h => h) ks']
    exact ⟨fun h => ⟨of_decide_eq_true h.1, of_decide_eq_true h.2.1, of_decide_eq_true h.2.2.1, h.2.2.2⟩, fun h => ⟨decide_eq_true h.1, decide_eq_true h.2.1, decide_eq_true h.2.2.1, h.2.2.2⟩⟩
theorem sameL_len {l m : List Ex} (h : l.length ≠ m.length) : sameL l m = false := by
  induction l generalizing m with
  | nil => rw [sameL_nil]; cases m with | nil => simp at h | cons a b => rfl
  | cons a l ih =>
    cases m with
    | nil => rw [sameL]
    | cons b r => rw [sameL_cons, ih (by simpa using h), Bool.and_false]
def boolPost (b : Bool) (w : World) (e : Ending) (w' : World) : Prop := e = .returned (.bool b) ∧ Below w.heap.size w w'
/-- What is said of same. -/
def SameOK (k : Ex) : Prop := ∀ (e : Ex) (v v' : Value) (w : World), KV (gh w) v k.ks → KV (gh w) v' e.ks →
  Calls Tryz.prog 55 #[exV k.op k.n k.s v, exV e.op e.n e.s v'] w (boolPost (sameX k e) w)
set_option maxRecDepth 1000000 in
set_option maxHeartbeats 4000000 in
theorem equal_any (ks ls : List Ex) (hs : ∀ k ∈ ks, SameOK k) (v v' : Value) (w : World) (hK : KV (gh w) v ks) (hL : KV (gh w) v' ls) :
    Calls Tryz.prog 98 #[v, v', .func (.func 55) #[] #[]] w (boolPost (sameL ks ls) w) := by
  obtain ⟨a, cap, rfl⟩ := hK.form
  obtain ⟨a2, cap2, rfl⟩ := hL.form
  have hcap := hK.cap
  have hcap2 := hL.cap
  have hkm : ks.length ≤ 9223372036854775807 := by omega
  by_cases hlen : ks.length = ls.length
  · have HI := Lib.hid hs
    obtain ⟨R, hR⟩ : ∃ R, sameL ks ls = R := ⟨_, rfl⟩
    have HR := Lib.hid hR
    rw [hR]
    have HLEN := Lib.hid hlen
    have q : ((ks.length : Int) != (ls.length : Int)) = false := by rw [bne_eq_false_iff_eq]; omega
    have q2 : (ks.length != ls.length) = false := by rw [bne_eq_false_iff_eq]; omega
    clear hs hR hlen
    go_enter Tryz.func98, Tryz.ntmps98
    go_wp2
    go_loopg [17] ks.length (fun g i wr => ∃ k : Nat, i = .int .i64 k ∧ k + g = ks.length ∧ Below w.heap.size w wr ∧ Hid (sameL (ks.drop k) (ls.drop k) = R))
    case atStart => exact ⟨0, rfl, by omega, Below.refl _ _, Lib.hid HR.out⟩
    case round =>
      obtain ⟨k, rfl, hg, hbw, HC⟩ := hrel
      by_cases hlt : k < ks.length
      · obtain ⟨g, rfl⟩ : ∃ g, gk = g + 1 := ⟨gk - 1, by omega⟩
        have hlt2 : k < ls.length := by have := HLEN.out; omega
        obtain ⟨b, off, u, rfl, c0, c1, c2, c3, hKu⟩ := (hK.keep hbw).at (List.getElem?_eq_getElem hlt)
        obtain ⟨b2, off2, u2, rfl, d0, d1, d2, d3, hKu2⟩ := (hL.keep hbw).at (List.getElem?_eq_getElem hlt2)
        obtain ⟨ua, uc, rfl⟩ := hKu.form
        obtain ⟨ua2, uc2, rfl⟩ := hKu2.form
        have hh := HC.out
        rw [List.drop_eq_getElem_cons hlt, List.drop_eq_getElem_cons hlt2, sameL_cons] at hh
        have hbA := ((Below.refl wr.heap.size wr).alloc (Nat.le_refl _) (.cells #[.int .i64 ks[k].op, .int .i64 ks[k].n, .string ⟨ks[k].s.toArray⟩, .slice ua ks[k].ks.length uc] 28)).alloc (by simp) (.cells #[.int .i64 ls[k].op, .int .i64 ls[k].n, .string ⟨ls[k].s.toArray⟩, .slice ua2 ls[k].ks.length uc2] 28)
        have hx := HI.out ks[k] (List.getElem_mem hlt) ls[k] _ _ _ (hKu.keep hbA) (hKu2.keep hbA)
        have hbB := hbw.seq hbA
        have HD := Lib.hid hh
        unfold strV at c2 d2
        unfold exV strV at hx
        have HX := Lib.hid hx
        have hb2l : b2 < wr.heap.size := World.block_lt_of_cell? wr _ d0
        have e0 := fun o : Obj => cell_old hb2l d0 o
        have e1 := fun o : Obj => cell_old hb2l d1 o
        have e2 := fun o : Obj => cell_old hb2l d2 o
        have e3 := fun o : Obj => cell_old hb2l d3 o
        clear hh hx hKu hKu2 hbA d0 d1 d2 d3 hcap hcap2
        go_wp2_with fail
        refine HX.out.mono ?_
        rintro e W2 ⟨rfl, hb3⟩
        have hb4 := hbB.seq hb3
        clear hb3 hbB e0 e1 e2 e3 c0 c1 c2 c3 HX HC
        cases hsx : sameX ks[k] ls[k] with
        | false =>
          have HE : Hid (R = false) := Lib.hid (by rw [← HD.out, hsx]; rfl)
          clear HD hsx
          go_wp2
          go_ret
          exact ⟨by rw [HE.out]; rfl, hb4⟩
        | true =>
          have HE := HD.out
          rw [hsx, Bool.true_and] at HE
          have HE2 := Lib.hid HE
          clear HD hsx HE
          go_wp2
          go_roundg g
          case rel => exact ⟨k + 1, by go_num, by omega, hb4, Lib.hid HE2.out⟩
          case measure => omega
      · have hnil : ks.drop k = [] := List.drop_eq_nil_of_le (by omega)
        have hnil2 : ls.drop k = [] := List.drop_eq_nil_of_le (by have := HLEN.out; omega)
        have HE : Hid (R = true) := Lib.hid (by rw [← HC.out, hnil, hnil2, sameL_nil]; rfl)
        clear HC hnil hnil2
        go_wp2
        go_ret
        exact ⟨by rw [HE.out]; rfl, hbw⟩
  · have HE := Lib.hid (sameL_len hlen)
    have q : ((ks.length : Int) != (ls.length : Int)) = true := by rw [bne_iff_ne]; omega
    have q2 : (ks.length != ls.length) = true := by rw [bne_iff_ne]; omega
    clear hlen hs
    go_enter Tryz.func98, Tryz.ntmps98
    go_wp2
    go_ret
    exact ⟨by rw [HE.out]; rfl, Below.refl _ _⟩
set_option maxRecDepth 1000000 in
set_option maxHeartbeats 4000000 in
theorem same_walk (o n : Int) (s : Bs) (ks : List Ex) (o' n' : Int) (s' : Bs) (ls : List Ex) (a a2 : Option Addr) (cap cap2 : Nat) (w : World) (X : Bool)
    (hX : (decide (o = o') && (decide (n = n') && (decide (s = s') && sameL ks ls))) = X)
    (hK : KV (gh w) (.slice a ks.length cap) ks) (hL : KV (gh w) (.slice a2 ls.length cap2) ls) (hs : ∀ k ∈ ks, SameOK k) :
    Calls Tryz.prog 55 #[exV o n s (.slice a ks.length cap), exV o' n' s' (.slice a2 ls.length cap2)] w (boolPost X w) := by
  have hb := ((Below.refl w.heap.size w).alloc (Nat.le_refl _) (.cells #[.int .i64 o, .int .i64 n, .string ⟨s.toArray⟩, .slice a ks.length cap] 28)).alloc (by simp) (.cells #[.int .i64 o', .int .i64 n', .string ⟨s'.toArray⟩, .slice a2 ls.length cap2] 28)
  have HQ := Lib.hid (equal_any ks ls hs _ _ _ (hK.keep hb) (hL.keep hb))
  have HB := Lib.hid hb
  clear hb hK hL hs
  unfold exV strV
  by_cases h1 : o = o'
  · subst h1
    rw [decide_eq_true rfl, Bool.true_and] at hX
    by_cases h2 : n = n'
    · subst h2
      rw [decide_eq_true rfl, Bool.true_and] at hX
      by_cases h3 : s = s'
      · subst h3
        rw [decide_eq_true rfl, Bool.true_and] at hX
        subst hX
        go_enter Tryz.func55, Tryz.ntmps55
        go_wp2_with fail
        refine HQ.out.mono ?_
        rintro e W ⟨rfl, hb1⟩
        have hb2 := HB.out.seq hb1
        clear hb1 HQ HB
        go_wp2
        go_ret
        exact ⟨rfl, hb2⟩
      · have q : (s == s') = false := beq_eq_false_iff_ne.2 h3
        rw [decide_eq_false h3, Bool.false_and] at hX
        subst hX
        clear h3
        go_enter Tryz.func55, Tryz.ntmps55
        go_wp2
        go_ret
        exact ⟨rfl, HB.out⟩
    · have q : (n == n') = false := beq_eq_false_iff_ne.2 h2
      rw [decide_eq_false h2, Bool.false_and] at hX
      subst hX
      clear h2
      go_enter Tryz.func55, Tryz.ntmps55
      go_wp2
      go_ret
      exact ⟨rfl, HB.out⟩
  · have q : (o == o') = false := beq_eq_false_iff_ne.2 h1
    rw [decide_eq_false h1, Bool.false_and] at hX
    subst hX
    clear h1
    go_enter Tryz.func55, Tryz.ntmps55
    go_wp2
    go_ret
    exact ⟨rfl, HB.out⟩
theorem same_any (e : Ex) : SameOK e := by
  refine Ex.ind (P := SameOK) ?_ e
  intro o n s ks ih e' v v' w hK hL
  cases e' with
  | mk o' n' s' ls =>
    simp only [Ex.op, Ex.n, Ex.s, Ex.ks] at hK hL ⊢
    obtain ⟨a, cap, rfl⟩ := hK.form
    obtain ⟨a2, cap2, rfl⟩ := hL.form
    exact same_walk o n s ks o' n' s' ls a a2 cap cap2 w _ (sameX_mk o n s ks (.mk o' n' s' ls)).symm hK hL ih
end Go.Proofs.YtoklhppalkgdeaaGreatDoor
