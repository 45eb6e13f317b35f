/- The walk of parse.text. Condition: each part may be, its text is no longer than a million bytes. -/
import Derived.Test.YtoklhppalkgdeaaGreatDoorR1
import Derived.Deep.RegionHeld3
import Derived.Deep.DrawnRows
set_option linter.unusedSimpArgs false
set_option linter.unusedVariables false
namespace Go.Proofs.YtoklhppalkgdeaaGreatDoor
open Go.RowKit Pal
/-- Each part may be, but for how many and how deep; its text is no longer than a million bytes. -/
inductive Tz : Ex → Prop
  | mk (op n : Int) (s : Bs) (ks : List Ex) (ha : alone op n s ks = true) (hn : -9223372036854775808 ≤ n ∧ n ≤ 9223372036854775807) (hl : (textX (.mk op n s ks)).length ≤ 1000000) (hk : ∀ k ∈ ks, Tz k) : Tz (.mk op n s ks)
theorem textX_mk (op n : Int) (s : Bs) (ks : List Ex) : textX (.mk op n s ks) = textOp op n s (textL ks) := by rw [textX]
theorem textL_nil : textL [] = [] := by rw [textL]
theorem textL_cons (k : Ex) (r : List Ex) : textL (k :: r) = textX k :: textL r := by rw [textL]
theorem textL_map (ks : List Ex) : textL ks = ks.map textX := by
  induction ks with
  | nil => rw [textL_nil]; rfl
  | cons k r ih => rw [textL_cons, ih]; rfl
theorem textL_len (ks : List Ex) : (textL ks).length = ks.length := by rw [textL_map]; simp
theorem arity_le2 {op : Int} {n : Nat} (h : (n : Int) = arity op) : (1 ≤ op ∧ op ≤ 23) ∧ n ≤ 3 := by
  unfold arity at h
  split at h
  · omega
  · split at h
    · omega
    · split at h
      · omega
      · split at h <;> omega
theorem alone_ar2 {op n : Int} {s : Bs} {ks : List Ex} (h : alone op n s ks = true) : (ks.length : Int) = arity op := by
  unfold alone at h
  rw [Bool.and_eq_true, decide_eq_true_eq] at h
  exact h.1
/-- What is said of text. -/
def TextW (e : Ex) : Prop := ∀ (v : Value) (w : World), Tz e → Lay2 w → KV (gh w) v e.ks → Calls Tryz.prog 48 #[exV e.op e.n e.s v] w (strPost (textX e) w)
theorem alone_s {op n : Int} {s : Bs} {ks : List Ex} (h : alone op n s ks = true) (h2 : op = 2) : s.length ≤ 400 := by
  subst h2
  unfold alone at h
  rw [Bool.and_eq_true] at h
  have := h.2
  simp only [show ¬ ((2 : Int) = 1) by decide, if_false, if_true, Bool.and_eq_true] at this
  unfold textOk at this
  simp only [Bool.and_eq_true, decide_eq_true_eq] at this
  exact this.2.1.1
/-- The texts of the parts are no longer than the whole. -/
theorem join_le (op n : Int) (s : Bs) (l : List Bs) (h : (l.length : Int) = arity op) : (Lib.join l [44, 32]).length ≤ (textOp op n s l).length := by
  have hr := (arity_le2 h).1
  rcases (by omega : op ≤ 4 ∨ op = 5 ∨ op = 6 ∨ (18 ≤ op ∧ op ≤ 23) ∨ (7 ≤ op ∧ op ≤ 17)) with h1 | rfl | rfl | h1 | h1
  · have : arity op = 0 := by unfold arity; rw [if_pos (by omega)]
    have hl : l = [] := List.eq_nil_of_length_eq_zero (by omega)
    subst hl
    simp [Lib.join]
  · unfold textOp; simp
  · unfold textOp; simp
  · unfold textOp
    rw [if_neg (by omega), if_neg (by omega), if_neg (by omega), if_neg (by omega), if_neg (by omega), if_neg (by omega), if_pos h1]
    simp only [List.length_append]
    omega
  · have : arity op = 2 := by unfold arity; rw [if_neg (by omega), if_neg (by omega), if_pos (by omega)]
    match l, (by omega : l.length = 2) with
    | [x, y], _ =>
      unfold textOp
      rw [if_neg (by omega), if_neg (by omega), if_neg (by omega), if_neg (by omega), if_neg (by omega), if_neg (by omega), if_neg (by omega)]
      simp [Lib.join, Lib.joinTail]
      omega
theorem str_eq {x : ByteArray} {l : Bs} (h : x.data.toList = l) : Ending.returned (.string x) = .returned (strV l) := by subst h; rw [strV_data]
set_option maxRecDepth 1000000 in
set_option maxHeartbeats 8000000 in
theorem text_walk (op n : Int) (s : Bs) (ks : List Ex) (ih : ∀ k ∈ ks, TextW k) : TextW (.mk op n s ks) := by
  intro v w hT hL hK
  simp only [Ex.op, Ex.n, Ex.s, Ex.ks] at hK ⊢
  obtain ⟨a, cap, rfl⟩ := hK.form
  obtain ⟨ha, hn, hl, hTk⟩ : alone op n s ks = true ∧ (-9223372036854775808 ≤ n ∧ n ≤ 9223372036854775807) ∧ (textX (.mk op n s ks)).length ≤ 1000000 ∧ (∀ k ∈ ks, Tz k) := by
    cases hT with | mk _ _ _ _ h1 h2 h3 h4 => exact ⟨h1, h2, h3, h4⟩
  obtain ⟨i0, hi, hz0, hz1, hz2⟩ := info_parts infoStr
  have hcap := hK.cap
  have har := alone_ar2 ha
  have h3 := arity_le2 har
  have hs2 := alone_s ha
  rw [textX_mk] at hl ⊢
  have HI := Lib.hid ih
  have HTK := Lib.hid hTk
  have HAR := Lib.hid har
  have HL := Lib.hid hL
  have HLEN := Lib.hid hl
  have HS2 := Lib.hid hs2
  clear ih hTk har hT ha hL hl hs2
  obtain ⟨h31, h32⟩ := h3
  unfold exV strV
  go_enter Tryz.func48, Tryz.ntmps48
  go_wp2
  have ev0 : Evo T0 w (T0.set w.heap.size 2) (w.alloc (.cells #[.int .i64 op, .int .i64 n, .string ⟨s.toArray⟩, .slice a ks.length cap] 28)) (· ≠ 0) := (Evo.refl T0 w _).alloc 2 _
  have he0 := heap_alloc_new w (.cells #[.int .i64 op, .int .i64 n, .string ⟨s.toArray⟩, .slice a ks.length cap] 28)
  go_loopg [3, 10] ks.length (fun g l i wr => ∃ (tau : Tag) (k : Nat), i = .int .i64 k ∧ k + g = ks.length ∧ Row tau 1 wr 9 1 l k ((textL (ks.take k)).map strV) ∧ Evo T0 w tau wr (· ≠ 0) ∧
    wr.heap[w.heap.size]? = some (.cells #[.int .i64 op, .int .i64 n, .string ⟨s.toArray⟩, .slice a ks.length cap] 28 (0, 0)) ∧ tau w.heap.size = 2)
  case atStart => exact ⟨_, 0, rfl, by omega, Row.nil _ _ _ _ _, ev0, he0, Tag.set_same _ _ _⟩
  case round =>
    obtain ⟨tau, k, rfl, hg, hrow, hev, he, htg⟩ := hrel
    clear ev0 he0
    have hbw : Below w.heap.size w wr := hev.toBelow (by simp)
    have hsz : w.heap.size < wr.heap.size := (Array.getElem?_eq_some_iff.1 he).1
    by_cases hlt : k < ks.length
    · obtain ⟨g, rfl⟩ : ∃ g, gk = g + 1 := ⟨gk - 1, by omega⟩
      obtain ⟨b, off, u, rfl, c0, c1, c2, c3, hKu⟩ := (hK.keep hbw).at (List.getElem?_eq_getElem hlt)
      obtain ⟨ua, uc, rfl⟩ := hKu.form
      have hmem : ks[k] ∈ ks := List.getElem_mem hlt
      have hbA := (Below.refl wr.heap.size wr).alloc (Nat.le_refl _) (.cells #[.int .i64 ks[k].op, .int .i64 ks[k].n, .string ⟨ks[k].s.toArray⟩, .slice ua ks[k].ks.length uc] 28)
      have hx := HI.out ks[k] hmem (.slice ua ks[k].ks.length uc) _ (HTK.out _ hmem) (HL.out.below (hbw.seq hbA)) (hKu.keep hbA)
      have hzA : (wr.alloc (.cells #[.int .i64 ks[k].op, .int .i64 ks[k].n, .string ⟨ks[k].s.toArray⟩, .slice ua ks[k].ks.length uc] 28)).heap.size = wr.heap.size + 1 := by simp
      have hsn : textL (ks.take (k + 1)) = textL (ks.take k) ++ [textX ks[k]] := by
        rw [textL_map, textL_map, List.take_succ_eq_append_getElem hlt, List.map_append]; rfl
      have HSN := Lib.hid hsn
      have hrowA := hrow.call hbA
      have hevA := hev.call hbA
      have heA := (hbA.block _ hsz).trans he
      obtain ⟨la, lc, rfl⟩ := hrow.form
      unfold exV strV at hx
      unfold strV at c2
      have HX := Lib.hid hx
      have HEA := Lib.hid heA
      have HZA := Lib.hid hzA
      clear hx hsn hKu hbA hrow hev he hmem heA hzA
      go_wp2_with fail
      refine HX.out.mono ?_
      generalize wr.alloc (.cells #[.int .i64 ks[k].op, .int .i64 ks[k].n, .string ⟨ks[k].s.toArray⟩, .slice ua ks[k].ks.length uc] 28) = W1 at *
      rintro e W2 ⟨rfl, hb2⟩
      have hrow2 := hrowA.call hb2
      have hev2 := hevA.call hb2
      have hsz1 : w.heap.size < W1.heap.size := by have := HZA.out; omega
      have he2 := (hb2.block _ hsz1).trans HEA.out
      have hs2 : wr.heap.size + 1 ≤ W2.heap.size := by have := hb2.size; have := HZA.out; omega
      clear hrowA hevA hb2 HX HEA HZA c0 c1 c2 c3
      unfold strV
      go_wp2_with (at_builtin; refine wpList_append_one rfl _ _ 22 rfl 9 i0 _ 1 16 Tryz.underlying22 hi hz0 hz1 hz2 rfl (by decide) rfl hrow2 #[.string ⟨(textX ks[k]).toArray⟩] 9 (0,0) _ rfl ?c0 rfl ?c1 ?c2 ?c3 ?_)
      case c0 => simp
      case c1 => first | rfl | (intro u hu; simp at hu; subst hu; rfl)
      case c2 => unfold maxLen; omega
      case c3 => omega
      intro v' t' w' hr3 he3
      have hev3 := hev2.trans (he3.mono (K' := (· ≠ 0)) (by intro x hx; omega))
      have hsz2 : w.heap.size < W2.heap.size := by omega
      have he4 : w'.heap[w.heap.size]? = some (.cells #[.int .i64 op, .int .i64 n, .string ⟨s.toArray⟩, .slice (some ⟨b, off, none⟩) ks.length cap] 28 (0, 0)) := by rw [he3.block _ hsz2 (by rw [htg]; omega)]; exact he2
      have htg4 : t' w.heap.size = 2 := by rw [he3.tag _ hsz2]; exact htg
      have hr4 : Row t' 1 w' 9 1 v' (k + 1) ((textL (ks.take (k + 1))).map strV) := by
        rw [HSN.out, List.map_append]; exact hr3
      have HR4 := Lib.hid hr4
      clear hr3 hr4 he3 hev2 hrow2 he2
      go_wp2
      go_roundg g
      case rel => exact ⟨t', k + 1, by go_num, by omega, HR4.out, hev3, he4, htg4⟩
      case measure => omega
    · have hall : ks.take k = ks := List.take_of_length_le (by omega)
      rw [hall] at hrow
      obtain ⟨hS, hk⟩ := StrsV.ofRow hrow
      obtain ⟨la, lc, rfl⟩ := hrow.form
      rw [textL_len] at hk
      subst hk
      have hl2 : ks.length = (textL ks).length := (textL_len ks).symm
      obtain ⟨d0, d1, d2, d3⟩ := four_cells he
      have HT := Lib.hid hS
      have HW := Lib.hid (HL.out.below hbw)
      have HB := Lib.hid hbw
      clear hall hrow hev htg HI HTK hbw
      have HSN := Lib.hid hl2
      have hll : (textL ks).length ≤ 3 := by omega
      clear hl2
      have hj := join_any (textL ks) [44, 32] _ wr HT.out (by have := join_le op n s (textL ks) (by rw [textL_len]; exact HAR.out); have := HLEN.out; omega) (by omega)
      have hjl : (Lib.join (textL ks) [44, 32]).length ≤ 1000000 := by have := join_le op n s (textL ks) (by rw [textL_len]; exact HAR.out); have := HLEN.out; omega
      obtain ⟨jn, hjn⟩ : ∃ jn, Lib.join (textL ks) [44, 32] = jn := ⟨_, rfl⟩
      rw [hjn] at hj hjl
      have HJN := Lib.hid hjn
      clear hjn
      have HJ := Lib.hid hj
      have HE := Lib.hid he
      clear hj he
      go_wp2_with fail
      refine HJ.out.mono ?_
      rintro e W ⟨rfl, hbJ⟩
      have HB2 := Lib.hid (HB.out.seq hbJ)
      have hL2 := HW.out.below hbJ
      have he2 := (hbJ.block _ hsz).trans HE.out
      have hS2 := HT.out.mono (below_gh hbJ)
      have hWl : w.heap.size < W.heap.size := (Array.getElem?_eq_some_iff.1 he2).1
      have HS3 := Lib.hid hS2
      have HE2 := Lib.hid he2
      clear d0 d1 d2 d3 hbJ HT HB HE HW HJ he2 hS2
      obtain ⟨d0, d1, d2, d3⟩ := four_cells HE2.out
      unfold strV
      rcases (by omega : op = 1 ∨ op = 2 ∨ op = 3 ∨ op = 4 ∨ op = 5 ∨ op = 6 ∨ (7 ≤ op ∧ op ≤ 17) ∨ op = 18 ∨ op = 19 ∨ op = 20 ∨ op = 21 ∨ op = 22 ∨ op = 23) with rfl | rfl | rfl | rfl | rfl | rfl | h717 | rfl | rfl | rfl | rfl | rfl | rfl
      · go_wp2_with fail
        refine (formatInt_any n hn _ hL2).mono ?_
        rintro e W3 ⟨rfl, hb3⟩
        have hb4 := HB2.out.seq hb3
        go_wp2
        go_ret
        exact ⟨rfl, hb4⟩
      · have hl4 := HS2.out rfl
        go_wp2_with fail
        have hq := quote_any s W (by omega)
        unfold strV at hq
        refine hq.mono ?_
        rintro e W3 ⟨rfl, hb3⟩
        have hb4 := HB2.out.seq hb3
        go_wp2
        go_ret
        exact ⟨rfl, hb4⟩
      · go_wp2_with fail
        refine (formatBool_any (n == 1) _).mono ?_
        rintro e W3 ⟨rfl, hb3⟩
        have hb4 := HB2.out.seq hb3
        go_wp2
        go_ret
        exact ⟨rfl, hb4⟩
      · go_wp2
        go_ret
        exact ⟨rfl, HB2.out⟩
      · go_wp2
        generalize hcat : (_ ++ _ : ByteArray) = xx
        refine bodyPost_ret (v := .string xx) (by simp [results, Tryz.results48, go_sem]) rfl ?_
        exact ⟨str_eq (by rw [← hcat]; unfold textOp; rw [HJN.out]; rfl), HB2.out⟩
      · go_wp2
        generalize hcat : (_ ++ _ : ByteArray) = xx
        refine bodyPost_ret (v := .string xx) (by simp [results, Tryz.results48, go_sem]) rfl ?_
        exact ⟨str_eq (by rw [← hcat]; unfold textOp; rw [HJN.out]; rfl), HB2.out⟩
      · have h2 : ks.length = 2 := by
          have h := HAR.out
          unfold arity at h
          rw [if_neg (by omega), if_neg (by omega), if_pos (by omega)] at h
          omega
        obtain ⟨x, y, hxy⟩ : ∃ x y, textL ks = [x, y] := by
          have := textL_len ks
          match hm : textL ks with
          | [x, y] => exact ⟨x, y, rfl⟩
          | [] => rw [hm] at this; simp at this; omega
          | [_] => rw [hm] at this; simp at this; omega
          | _ :: _ :: _ :: _ => rw [hm] at this; simp at this; omega
        have hS4 := HS3.out
        rw [hxy] at hS4
        obtain ⟨b, off, rfl, e0⟩ := hS4.at (j := 0) rfl
        obtain ⟨b', off', hbb, e1⟩ := hS4.at (j := 1) rfl
        simp only [Option.some.injEq, Addr.mk.injEq, and_true] at hbb
        obtain ⟨rfl, rfl⟩ := hbb
        rw [Nat.add_zero] at e0
        unfold strV at e0 e1
        have hbl : b < W.heap.size := World.block_lt_of_cell? W _ e0
        have htx : textOp op n s (textL ks) = [40] ++ x ++ [32] ++ sgn op ++ [32] ++ y ++ [41] := by
          rw [hxy]
          unfold textOp
          rw [if_neg (by omega), if_neg (by omega), if_neg (by omega), if_neg (by omega), if_neg (by omega), if_neg (by omega), if_neg (by omega)]
          rfl
        have hlx := HLEN.out
        rw [htx] at hlx
        have HTX := Lib.hid htx
        have hly : x.length ≤ 1000000 ∧ y.length ≤ 1000000 ∧ (sgn op).length ≤ 1000000 := by simp at hlx; omega
        obtain ⟨hlx1, hly1, hlz1⟩ := hly
        have hi0 : (0 : Int) < (ks.length : Int) := by omega
        have hi1 : (1 : Int) < (ks.length : Int) := by omega
        have hsg := fun w => sign_any op w h717
        unfold strV at hsg
        have HSG := Lib.hid hsg
        have hk3 : ∀ W3, Below W.drew.heap.size W.drew W3 → W3.cell? ⟨b, off, none⟩ = some (.string ⟨x.toArray⟩) ∧ W3.cell? ⟨b, off + 1, none⟩ = some (.string ⟨y.toArray⟩) ∧ W3.cell? ⟨w.heap.size, 0, none⟩ = some (.int .i64 op) := fun W3 hb => by
          refine ⟨?_, ?_, ?_⟩
          · rw [hb.cell (p := ⟨b, off, none⟩) hbl]; exact e0
          · rw [hb.cell (p := ⟨b, off + 1, none⟩) hbl]; exact e1
          · rw [hb.cell (p := ⟨w.heap.size, 0, none⟩) hWl]; exact d0
        have HK3 := Lib.hid hk3
        clear hS4 hxy htx hlx HJN hi hk3 hsg
        go_upto_region 33 with fail
        have z1 : ¬ 9223372036854775807 < 1 + x.length := by omega
        have z2 : ¬ 9223372036854775807 < 1 + x.length + 1 := by omega
        have z3 : ¬ 9223372036854775807 < 1 + x.length + 1 + (sgn op).length := by omega
        have z4 : ¬ 9223372036854775807 < 1 + x.length + 1 + (sgn op).length + 1 := by omega
        have z5 : ¬ 9223372036854775807 < 1 + x.length + 1 + (sgn op).length + 1 + y.length := by omega
        have z6 : ¬ 9223372036854775807 < 1 + x.length + 1 + (sgn op).length + 1 + y.length + 1 := by omega
        clear h2 hi0 hi1
        go_region_held3 (fun w' => (w'.cell? ⟨b, off, none⟩ = some (.string ⟨x.toArray⟩) ∧ w'.cell? ⟨b, off + 1, none⟩ = some (.string ⟨y.toArray⟩) ∧ w'.cell? ⟨w.heap.size, 0, none⟩ = some (.int .i64 op)) ) (go_keep)
          ((go_at_call 93; refine (HSG.out _).mono ?_; rintro r W3 ⟨rfl, hb3⟩; have hb4 := HB2.out.drew.seq hb3; obtain ⟨g0, g1, g2⟩ := HK3.out W3 hb3; clear hb3))
        all_goals
          go_wp2
          generalize hcat : (_ ++ _ : ByteArray) = xx
          go_ret
          exact ⟨str_eq (by rw [← hcat, HTX.out]; simp [strV]), hb4⟩
      all_goals
        go_wp2
        generalize hcat : (_ ++ _ : ByteArray) = xx
        refine bodyPost_ret (v := .string xx) (by simp [results, Tryz.results48, go_sem]) rfl ?_
        exact ⟨str_eq (by rw [← hcat]; unfold textOp; rw [HJN.out]; rfl), HB2.out⟩
end Go.Proofs.YtoklhppalkgdeaaGreatDoor
