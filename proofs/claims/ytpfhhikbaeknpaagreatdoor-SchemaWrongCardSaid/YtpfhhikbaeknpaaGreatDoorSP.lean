/- The walk of palaverlaw11.SchemaWrong. Condition: the arguments are int64's. -/
import Derived.Test.YtpfhhikbaeknpaaGreatDoorSM
import Derived.Test.YtpfhhikbaeknpaaGreatDoorR1
set_option linter.unusedSimpArgs false
set_option linter.unusedVariables false
set_option linter.unusedSectionVars false
namespace Go.Proofs.YtpfhhikbaeknpaaGreatDoor
open Go.RowKit Pal
attribute [local go_sem ↓] Go.wp_at_zero Go.wp_at_succ
def turn (h : Nat) (f : Fd) : Fd := if h = 0 then { f with ru := [49] } else if h = 1 then { f with sh := [34, 120, 34] } else if h = 2 then { f with t := 9 } else { f with fo := [110, 111, 98, 111, 100, 121] }
def wantW (h : Nat) : Int := if h = 3 then 9 else 8
def wrongB (l : List Fd) (k h : Nat) : Bool := match newM (l.set k (turn h (l.getD k noFd))) with | .ok _ => false | .error x => (decide (x.1 = k) && decide (x.2 = wantW h)) || decide (x.1 < k)
def allB (l : List Fd) (h : Nat) : Bool := (List.range l.length).all fun k => wrongB l k h
theorem form0_w0 : allB form0 0 = true := by kernel_rfl
theorem form0_w1 : allB form0 1 = true := by kernel_rfl
theorem form0_w2 : allB form0 2 = true := by kernel_rfl
theorem form0_w3 : allB form0 3 = true := by kernel_rfl
theorem form1_w0 : allB form1 0 = true := by kernel_rfl
theorem form1_w1 : allB form1 1 = true := by kernel_rfl
theorem form1_w2 : allB form1 2 = true := by kernel_rfl
theorem form1_w3 : allB form1 3 = true := by kernel_rfl
theorem form2_w0 : allB form2 0 = true := by kernel_rfl
theorem form2_w1 : allB form2 1 = true := by kernel_rfl
theorem form2_w2 : allB form2 2 = true := by kernel_rfl
theorem form2_w3 : allB form2 3 = true := by kernel_rfl
theorem form3_w0 : allB form3 0 = true := by kernel_rfl
theorem form3_w1 : allB form3 1 = true := by kernel_rfl
theorem form3_w2 : allB form3 2 = true := by kernel_rfl
theorem form3_w3 : allB form3 3 = true := by kernel_rfl
theorem form4_w0 : allB form4 0 = true := by kernel_rfl
theorem form4_w1 : allB form4 1 = true := by kernel_rfl
theorem form4_w2 : allB form4 2 = true := by kernel_rfl
theorem form4_w3 : allB form4 3 = true := by kernel_rfl
theorem formM_wrong (n : Int) (h : Nat) (hh : h < 4) : allB (formM n) h = true := by
  unfold formM
  rcases (by omega : h = 0 ∨ h = 1 ∨ h = 2 ∨ h = 3) with rfl | rfl | rfl | rfl
  · split
    · exact form0_w0
    · split
      · exact form1_w0
      · split
        · exact form2_w0
        · split
          · exact form3_w0
          · exact form4_w0
  · split
    · exact form0_w1
    · split
      · exact form1_w1
      · split
        · exact form2_w1
        · split
          · exact form3_w1
          · exact form4_w1
  · split
    · exact form0_w2
    · split
      · exact form1_w2
      · split
        · exact form2_w2
        · split
          · exact form3_w2
          · exact form4_w2
  · split
    · exact form0_w3
    · split
      · exact form1_w3
      · split
        · exact form2_w3
        · split
          · exact form3_w3
          · exact form4_w3
theorem wrong_at {l : List Fd} {h k : Nat} (ha : allB l h = true) (hk : k < l.length) : ∃ i e, newM (l.set k (turn h (l.getD k noFd))) = .error (i, e) ∧ (i = k ∧ e = wantW h ∨ i < k) := by
  have := List.all_eq_true.1 ha k (List.mem_range.2 hk)
  unfold wrongB at this
  cases hm : newM (l.set k (turn h (l.getD k noFd))) with
  | ok F => rw [hm] at this; cases this
  | error x =>
    rw [hm] at this
    obtain ⟨i, e⟩ := x
    simp only [Bool.or_eq_true, Bool.and_eq_true, decide_eq_true_eq] at this
    exact ⟨i, e, rfl, this⟩
theorem flat_set (l : List Fd) (k c : Nat) (f f' : Fd) (v : Value) (hk : l[k]? = some f) (hc : c < 5) (hf : inCells f' = (inCells f).set c v) : ((l.flatMap inCells).toArray).setIfInBounds (k * 5 + c) v = ((l.set k f').flatMap inCells).toArray := by
  have e : ∀ (l : List Fd) (k : Nat), l[k]? = some f → (l.flatMap inCells).set (k * 5 + c) v = (l.set k f').flatMap inCells := by
    intro l
    induction l with
    | nil => intro k hk; simp at hk
    | cons a r ih =>
      intro k hk
      cases k with
      | zero =>
        simp at hk
        subst hk
        rw [List.flatMap_cons, List.set_cons_zero, List.flatMap_cons, hf, List.set_append]
        rw [if_pos (by rw [inCells_len]; omega)]
        congr 1
        congr 1
        omega
      | succ k =>
        simp at hk
        rw [List.flatMap_cons, List.set_cons_succ, List.flatMap_cons, ← ih k hk, List.set_append]
        rw [if_neg (by rw [inCells_len]; omega)]
        congr 2
        rw [inCells_len]; omega
  rw [← e l k hk]
  simp
theorem turn_short {f : Fd} (h : Short f) (x : Nat) : Short (turn x f) := by
  obtain ⟨a, b, c, d, e⟩ := h
  unfold turn
  split
  · exact ⟨a, b, (by simp), d, e⟩
  · split
    · exact ⟨a, b, c, (by simp), e⟩
    · split
      · exact ⟨a, b, c, d, (by show (-9223372036854775808 : Int) ≤ 9 ∧ (9 : Int) ≤ 9223372036854775807; decide)⟩
      · exact ⟨a, (by simp), c, d, e⟩
set_option maxRecDepth 1000000 in
set_option maxHeartbeats 8000000 in
theorem wrong_walk (n at0 how : Int) (w : World) (hL : Lay2 w) (hn : -9223372036854775808 ≤ n ∧ n ≤ 9223372036854775807) (ha : -9223372036854775808 ≤ at0 ∧ at0 ≤ 9223372036854775807) (hh : -9223372036854775808 ≤ how ∧ how ≤ 9223372036854775807) :
    Calls Tryz.prog 4 #[.int .i64 n, .int .i64 at0, .int .i64 how] w (yesPost w) := by
  have HL := Lib.hid hL.lay
  have HFO := Lib.hid (form_blk n w hn)
  have HPH := Lib.hid (fun W => place_any how 4 W hh (by omega) (by omega))
  have HAW := Lib.hid (fun W (hb : Below w.heap.size w W) => awake11 W (HL.out.below hb))
  have HWR := Lib.hid (formM_wrong n)
  obtain ⟨hs5, hs4, hss⟩ := formM_short n
  unfold blkPost at HFO
  generalize formM n = L at *
  have HSS := Lib.hid hss
  obtain ⟨N, hN⟩ : ∃ N, L.length = N := ⟨_, rfl⟩
  rw [hN] at hs5 hs4 HFO
  obtain ⟨k, hk⟩ : ∃ k : Nat, at0 % (N : Int) = k := ⟨(at0 % (N : Int)).toNat, by have := Int.emod_nonneg at0 (show (N : Int) ≠ 0 by omega); omega⟩
  have hkN : k < N := by have := Int.emod_lt_of_pos at0 (show (0 : Int) < (N : Int) by omega); omega
  have HPA := Lib.hid (fun W => place_any at0 (N : Int) W ha (by omega) (by omega))
  rw [hk] at HPA
  obtain ⟨p, hp⟩ : ∃ p : Nat, how % 4 = p := ⟨(how % 4).toNat, by omega⟩
  have hp4 : p < 4 := by omega
  rw [hp] at HPH
  obtain ⟨f, hf⟩ : ∃ f, L[k]? = some f := ⟨_, List.getElem?_eq_getElem (by omega)⟩
  have HNN := Lib.hid hN
  have HFK := Lib.hid hf
  unfold yesPost at HAW ⊢
  clear hL hn ha hh hk hp hss hN hf
  rcases (by omega : p = 0 ∨ p = 1 ∨ p = 2 ∨ p = 3) with rfl | rfl | rfl | rfl
  · obtain ⟨i, e, hm, hie⟩ := wrong_at (HWR.out 0 (by omega)) (by rw [HNN.out]; exact hkN)
    have hg : L.getD k noFd = f := by simp [List.getD, HFK.out]
    rw [hg] at hm
    have he0 : (e == 0) = false := by have := newM_err_ne hm; simpa using this
    have HM := Lib.hid hm
    have HIE := Lib.hid hie
    clear hm hg hie hp4
    go_enter Tryz.func4, Tryz.ntmps4
    go_wp2_with fail
    refine HFO.out.mono ?_
    rintro r W1 ⟨hb1, b, rfl, hbw, hblk⟩
    have HB1 := Lib.hid hb1
    have HBK := Lib.hid hblk
    clear hb1 hblk
    go_wp2_with fail
    refine (HPA.out _).mono ?_
    rintro r W2 ⟨rfl, rfl⟩
    go_wp2_with fail
    refine (HPH.out _).mono ?_
    rintro r W2 ⟨rfl, rfl⟩
    have hx := flat_get inCells 5 inCells_len L k 3 f HFK.out (by omega)
    have cc : W1.cell? ⟨b, k * 5 + 3, none⟩ = (inCells f)[3]? := by
      rw [cell_of_row W1 b _ _ _ (0, 0) HBK.out, show k * 5 + 3 = 5 * k + 3 by omega]
      simpa using hx
    have c0 : W1.cell? ⟨b, k * 5 + 3, none⟩ = some (.string ⟨f.ru.toArray⟩) := by rw [cc]; rfl
    have f0 : W1.frozen? ⟨b, k * 5 + 3, none⟩ = false := by simp [World.frozen?, HBK.out]
    have HX : Hid ((W1.setCell ⟨b, k * 5 + 3, none⟩ (.string ⟨#[49]⟩)).heap[b]? = some (.cells ((L.set k (turn 0 f)).flatMap inCells).toArray 27 (0, 0))) := Lib.hid (by
      have := HBK.out
      rw [← flat_set L k 3 f (turn 0 f) (.string ⟨#[49]⟩) HFK.out (by omega) rfl]
      simp [World.setCell, Array.getElem?_modify, this])
    have HB2 := Lib.hid (HB1.out.setCell (p := ⟨b, k * 5 + 3, none⟩) hbw (.string ⟨#[49]⟩))
    have hkz : (0 : Int) ≤ (k : Int) := by omega
    have hkz2 : (k : Int) < (N : Int) := by omega
    clear hx cc
    go_upto_region 14 with fail
    have HLN : Hid ((L.set k (turn 0 f)).length = N) := Lib.hid (by rw [List.length_set]; exact HNN.out)
    have hsh : ∀ x ∈ L.set k (turn 0 f), Short x := fun x hx => by
      rcases List.mem_or_eq_of_mem_set hx with h1 | h1
      · exact HSS.out x h1
      · rw [h1]; exact turn_short (HSS.out f (List.mem_of_getElem? HFK.out)) _
    have hfv := FdsV.lay (L.set k (turn 0 f)) _ HX.out (by rw [HLN.out]; unfold maxLen; omega)
    rw [HLN.out] at hfv
    have HNEW := Lib.hid (new_bad _ _ (by rw [HLN.out]; omega) hsh (HL.out.below HB2.out) hfv HM.out)
    clear hsh hfv c0 f0 HX
    generalize W1.setCell ⟨b, k * 5 + 3, none⟩ (.string ⟨#[49]⟩) = W2 at *
    go_wp2_with fail
    refine HNEW.out.mono ?_
    rintro r W3 ⟨hb3, rfl⟩
    have HB3 := Lib.hid (HB2.out.seq hb3)
    have HAW3 := Lib.hid (HAW.out W3 HB3.out)
    clear hb3 HNEW
    rcases HIE.out with ⟨rfl, he⟩ | hlt
    · have he2 : e = 8 := he
      subst he2
      clear he
      go_wp2_with fail
      refine HAW3.out.mono ?_
      rintro r W4 ⟨rfl, hb4⟩
      have HB4 := Lib.hid (HB3.out.seq hb4)
      clear hb4
      go_wp2
      go_ret
      exact ⟨rfl, HB4.out⟩
    · have q1 : ((i : Int) == (k : Int)) = false := by simp; omega
      have q2 : decide (i < k) = true := decide_eq_true hlt
      have q3 : decide ((i : Int) < (k : Int)) = true := decide_eq_true (by omega)
      have q4 : (i == k) = false := by simp; omega
      go_wp2_with fail
      refine HAW3.out.mono ?_
      rintro r W4 ⟨rfl, hb4⟩
      have HB4 := Lib.hid (HB3.out.seq hb4)
      clear hb4
      go_wp2
      go_ret
      exact ⟨rfl, HB4.out⟩
  · obtain ⟨i, e, hm, hie⟩ := wrong_at (HWR.out 1 (by omega)) (by rw [HNN.out]; exact hkN)
    have hg : L.getD k noFd = f := by simp [List.getD, HFK.out]
    rw [hg] at hm
    have he0 : (e == 0) = false := by have := newM_err_ne hm; simpa using this
    have HM := Lib.hid hm
    have HIE := Lib.hid hie
    clear hm hg hie hp4
    go_enter Tryz.func4, Tryz.ntmps4
    go_wp2_with fail
    refine HFO.out.mono ?_
    rintro r W1 ⟨hb1, b, rfl, hbw, hblk⟩
    have HB1 := Lib.hid hb1
    have HBK := Lib.hid hblk
    clear hb1 hblk
    go_wp2_with fail
    refine (HPA.out _).mono ?_
    rintro r W2 ⟨rfl, rfl⟩
    go_wp2_with fail
    refine (HPH.out _).mono ?_
    rintro r W2 ⟨rfl, rfl⟩
    have hx := flat_get inCells 5 inCells_len L k 4 f HFK.out (by omega)
    have cc : W1.cell? ⟨b, k * 5 + 4, none⟩ = (inCells f)[4]? := by
      rw [cell_of_row W1 b _ _ _ (0, 0) HBK.out, show k * 5 + 4 = 5 * k + 4 by omega]
      simpa using hx
    have c0 : W1.cell? ⟨b, k * 5 + 4, none⟩ = some (.string ⟨f.sh.toArray⟩) := by rw [cc]; rfl
    have f0 : W1.frozen? ⟨b, k * 5 + 4, none⟩ = false := by simp [World.frozen?, HBK.out]
    have HX : Hid ((W1.setCell ⟨b, k * 5 + 4, none⟩ (.string ⟨#[34, 120, 34]⟩)).heap[b]? = some (.cells ((L.set k (turn 1 f)).flatMap inCells).toArray 27 (0, 0))) := Lib.hid (by
      have := HBK.out
      rw [← flat_set L k 4 f (turn 1 f) (.string ⟨#[34, 120, 34]⟩) HFK.out (by omega) rfl]
      simp [World.setCell, Array.getElem?_modify, this])
    have HB2 := Lib.hid (HB1.out.setCell (p := ⟨b, k * 5 + 4, none⟩) hbw (.string ⟨#[34, 120, 34]⟩))
    have hkz : (0 : Int) ≤ (k : Int) := by omega
    have hkz2 : (k : Int) < (N : Int) := by omega
    clear hx cc
    go_upto_region 14 with fail
    have HLN : Hid ((L.set k (turn 1 f)).length = N) := Lib.hid (by rw [List.length_set]; exact HNN.out)
    have hsh : ∀ x ∈ L.set k (turn 1 f), Short x := fun x hx => by
      rcases List.mem_or_eq_of_mem_set hx with h1 | h1
      · exact HSS.out x h1
      · rw [h1]; exact turn_short (HSS.out f (List.mem_of_getElem? HFK.out)) _
    have hfv := FdsV.lay (L.set k (turn 1 f)) _ HX.out (by rw [HLN.out]; unfold maxLen; omega)
    rw [HLN.out] at hfv
    have HNEW := Lib.hid (new_bad _ _ (by rw [HLN.out]; omega) hsh (HL.out.below HB2.out) hfv HM.out)
    clear hsh hfv c0 f0 HX
    generalize W1.setCell ⟨b, k * 5 + 4, none⟩ (.string ⟨#[34, 120, 34]⟩) = W2 at *
    go_wp2_with fail
    refine HNEW.out.mono ?_
    rintro r W3 ⟨hb3, rfl⟩
    have HB3 := Lib.hid (HB2.out.seq hb3)
    have HAW3 := Lib.hid (HAW.out W3 HB3.out)
    clear hb3 HNEW
    rcases HIE.out with ⟨rfl, he⟩ | hlt
    · have he2 : e = 8 := he
      subst he2
      clear he
      go_wp2_with fail
      refine HAW3.out.mono ?_
      rintro r W4 ⟨rfl, hb4⟩
      have HB4 := Lib.hid (HB3.out.seq hb4)
      clear hb4
      go_wp2
      go_ret
      exact ⟨rfl, HB4.out⟩
    · have q1 : ((i : Int) == (k : Int)) = false := by simp; omega
      have q2 : decide (i < k) = true := decide_eq_true hlt
      have q3 : decide ((i : Int) < (k : Int)) = true := decide_eq_true (by omega)
      have q4 : (i == k) = false := by simp; omega
      go_wp2_with fail
      refine HAW3.out.mono ?_
      rintro r W4 ⟨rfl, hb4⟩
      have HB4 := Lib.hid (HB3.out.seq hb4)
      clear hb4
      go_wp2
      go_ret
      exact ⟨rfl, HB4.out⟩
  · obtain ⟨i, e, hm, hie⟩ := wrong_at (HWR.out 2 (by omega)) (by rw [HNN.out]; exact hkN)
    have hg : L.getD k noFd = f := by simp [List.getD, HFK.out]
    rw [hg] at hm
    have he0 : (e == 0) = false := by have := newM_err_ne hm; simpa using this
    have HM := Lib.hid hm
    have HIE := Lib.hid hie
    clear hm hg hie hp4
    go_enter Tryz.func4, Tryz.ntmps4
    go_wp2_with fail
    refine HFO.out.mono ?_
    rintro r W1 ⟨hb1, b, rfl, hbw, hblk⟩
    have HB1 := Lib.hid hb1
    have HBK := Lib.hid hblk
    clear hb1 hblk
    go_wp2_with fail
    refine (HPA.out _).mono ?_
    rintro r W2 ⟨rfl, rfl⟩
    go_wp2_with fail
    refine (HPH.out _).mono ?_
    rintro r W2 ⟨rfl, rfl⟩
    have hx := flat_get inCells 5 inCells_len L k 1 f HFK.out (by omega)
    have cc : W1.cell? ⟨b, k * 5 + 1, none⟩ = (inCells f)[1]? := by
      rw [cell_of_row W1 b _ _ _ (0, 0) HBK.out, show k * 5 + 1 = 5 * k + 1 by omega]
      simpa using hx
    have c0 : W1.cell? ⟨b, k * 5 + 1, none⟩ = some (.int .i64 f.t) := by rw [cc]; rfl
    have f0 : W1.frozen? ⟨b, k * 5 + 1, none⟩ = false := by simp [World.frozen?, HBK.out]
    have HX : Hid ((W1.setCell ⟨b, k * 5 + 1, none⟩ (.int .i64 9)).heap[b]? = some (.cells ((L.set k (turn 2 f)).flatMap inCells).toArray 27 (0, 0))) := Lib.hid (by
      have := HBK.out
      rw [← flat_set L k 1 f (turn 2 f) (.int .i64 9) HFK.out (by omega) rfl]
      simp [World.setCell, Array.getElem?_modify, this])
    have HB2 := Lib.hid (HB1.out.setCell (p := ⟨b, k * 5 + 1, none⟩) hbw (.int .i64 9))
    have hkz : (0 : Int) ≤ (k : Int) := by omega
    have hkz2 : (k : Int) < (N : Int) := by omega
    clear hx cc
    go_upto_region 14 with fail
    have HLN : Hid ((L.set k (turn 2 f)).length = N) := Lib.hid (by rw [List.length_set]; exact HNN.out)
    have hsh : ∀ x ∈ L.set k (turn 2 f), Short x := fun x hx => by
      rcases List.mem_or_eq_of_mem_set hx with h1 | h1
      · exact HSS.out x h1
      · rw [h1]; exact turn_short (HSS.out f (List.mem_of_getElem? HFK.out)) _
    have hfv := FdsV.lay (L.set k (turn 2 f)) _ HX.out (by rw [HLN.out]; unfold maxLen; omega)
    rw [HLN.out] at hfv
    have HNEW := Lib.hid (new_bad _ _ (by rw [HLN.out]; omega) hsh (HL.out.below HB2.out) hfv HM.out)
    clear hsh hfv c0 f0 HX
    generalize W1.setCell ⟨b, k * 5 + 1, none⟩ (.int .i64 9) = W2 at *
    go_wp2_with fail
    refine HNEW.out.mono ?_
    rintro r W3 ⟨hb3, rfl⟩
    have HB3 := Lib.hid (HB2.out.seq hb3)
    have HAW3 := Lib.hid (HAW.out W3 HB3.out)
    clear hb3 HNEW
    rcases HIE.out with ⟨rfl, he⟩ | hlt
    · have he2 : e = 8 := he
      subst he2
      clear he
      go_wp2_with fail
      refine HAW3.out.mono ?_
      rintro r W4 ⟨rfl, hb4⟩
      have HB4 := Lib.hid (HB3.out.seq hb4)
      clear hb4
      go_wp2
      go_ret
      exact ⟨rfl, HB4.out⟩
    · have q1 : ((i : Int) == (k : Int)) = false := by simp; omega
      have q2 : decide (i < k) = true := decide_eq_true hlt
      have q3 : decide ((i : Int) < (k : Int)) = true := decide_eq_true (by omega)
      have q4 : (i == k) = false := by simp; omega
      go_wp2_with fail
      refine HAW3.out.mono ?_
      rintro r W4 ⟨rfl, hb4⟩
      have HB4 := Lib.hid (HB3.out.seq hb4)
      clear hb4
      go_wp2
      go_ret
      exact ⟨rfl, HB4.out⟩
  · obtain ⟨i, e, hm, hie⟩ := wrong_at (HWR.out 3 (by omega)) (by rw [HNN.out]; exact hkN)
    have hg : L.getD k noFd = f := by simp [List.getD, HFK.out]
    rw [hg] at hm
    have he0 : (e == 0) = false := by have := newM_err_ne hm; simpa using this
    have HM := Lib.hid hm
    have HIE := Lib.hid hie
    clear hm hg hie hp4
    go_enter Tryz.func4, Tryz.ntmps4
    go_wp2_with fail
    refine HFO.out.mono ?_
    rintro r W1 ⟨hb1, b, rfl, hbw, hblk⟩
    have HB1 := Lib.hid hb1
    have HBK := Lib.hid hblk
    clear hb1 hblk
    go_wp2_with fail
    refine (HPA.out _).mono ?_
    rintro r W2 ⟨rfl, rfl⟩
    go_wp2_with fail
    refine (HPH.out _).mono ?_
    rintro r W2 ⟨rfl, rfl⟩
    have hx := flat_get inCells 5 inCells_len L k 2 f HFK.out (by omega)
    have cc : W1.cell? ⟨b, k * 5 + 2, none⟩ = (inCells f)[2]? := by
      rw [cell_of_row W1 b _ _ _ (0, 0) HBK.out, show k * 5 + 2 = 5 * k + 2 by omega]
      simpa using hx
    have c0 : W1.cell? ⟨b, k * 5 + 2, none⟩ = some (.string ⟨f.fo.toArray⟩) := by rw [cc]; rfl
    have f0 : W1.frozen? ⟨b, k * 5 + 2, none⟩ = false := by simp [World.frozen?, HBK.out]
    have HX : Hid ((W1.setCell ⟨b, k * 5 + 2, none⟩ (.string ⟨#[110, 111, 98, 111, 100, 121]⟩)).heap[b]? = some (.cells ((L.set k (turn 3 f)).flatMap inCells).toArray 27 (0, 0))) := Lib.hid (by
      have := HBK.out
      rw [← flat_set L k 2 f (turn 3 f) (.string ⟨#[110, 111, 98, 111, 100, 121]⟩) HFK.out (by omega) rfl]
      simp [World.setCell, Array.getElem?_modify, this])
    have HB2 := Lib.hid (HB1.out.setCell (p := ⟨b, k * 5 + 2, none⟩) hbw (.string ⟨#[110, 111, 98, 111, 100, 121]⟩))
    have hkz : (0 : Int) ≤ (k : Int) := by omega
    have hkz2 : (k : Int) < (N : Int) := by omega
    clear hx cc
    go_upto_region 14 with fail
    have HLN : Hid ((L.set k (turn 3 f)).length = N) := Lib.hid (by rw [List.length_set]; exact HNN.out)
    have hsh : ∀ x ∈ L.set k (turn 3 f), Short x := fun x hx => by
      rcases List.mem_or_eq_of_mem_set hx with h1 | h1
      · exact HSS.out x h1
      · rw [h1]; exact turn_short (HSS.out f (List.mem_of_getElem? HFK.out)) _
    have hfv := FdsV.lay (L.set k (turn 3 f)) _ HX.out (by rw [HLN.out]; unfold maxLen; omega)
    rw [HLN.out] at hfv
    have HNEW := Lib.hid (new_bad _ _ (by rw [HLN.out]; omega) hsh (HL.out.below HB2.out) hfv HM.out)
    clear hsh hfv c0 f0 HX
    generalize W1.setCell ⟨b, k * 5 + 2, none⟩ (.string ⟨#[110, 111, 98, 111, 100, 121]⟩) = W2 at *
    go_wp2_with fail
    refine HNEW.out.mono ?_
    rintro r W3 ⟨hb3, rfl⟩
    have HB3 := Lib.hid (HB2.out.seq hb3)
    have HAW3 := Lib.hid (HAW.out W3 HB3.out)
    clear hb3 HNEW
    rcases HIE.out with ⟨rfl, he⟩ | hlt
    · have he2 : e = 9 := he
      subst he2
      clear he
      go_wp2_with fail
      refine HAW3.out.mono ?_
      rintro r W4 ⟨rfl, hb4⟩
      have HB4 := Lib.hid (HB3.out.seq hb4)
      clear hb4
      go_wp2
      go_ret
      exact ⟨rfl, HB4.out⟩
    · have q1 : ((i : Int) == (k : Int)) = false := by simp; omega
      have q2 : decide (i < k) = true := decide_eq_true hlt
      have q3 : decide ((i : Int) < (k : Int)) = true := decide_eq_true (by omega)
      have q4 : (i == k) = false := by simp; omega
      go_wp2_with fail
      refine HAW3.out.mono ?_
      rintro r W4 ⟨rfl, hb4⟩
      have HB4 := Lib.hid (HB3.out.seq hb4)
      clear hb4
      go_wp2
      go_ret
      exact ⟨rfl, HB4.out⟩
end Go.Proofs.YtpfhhikbaeknpaaGreatDoor
