/- The walk of the document's Parse. Condition: the text is no longer than any may be. -/
import Derived.Test.YtoklhppalkgdeaaGreatDoorQ6
set_option linter.unusedSimpArgs false
set_option linter.unusedVariables false
set_option linter.unusedSectionVars false
namespace Go.Proofs.YtoklhppalkgdeaaGreatDoor
open Go.RowKit Pal
def rparsePost (s : Bs) (w : World) (e : Ending) (w' : World) : Prop :=
  Below w.heap.size w w' ∧ (match parseM s with
    | .error (p, k) => e = .returned (.tuple #[zeroV, .int .i64 p, .int .i64 k])
    | .ok ex => ∃ v, e = .returned (.tuple #[v, .int .i64 0, .int .i64 0]) ∧ EV (gn w.heap.size w') v ex)
set_option maxRecDepth 1000000 in
set_option maxHeartbeats 8000000 in
theorem rparse_err (s : Bs) (w : World) (p : Nat) (k : Int) (hk : k = 5 ∨ k = 7)
    (hc : Calls Tryz.prog 33 #[.string ⟨s.toArray⟩] (w.alloc (.cells #[.int .i64 0, .int .i64 0, .string ⟨#[]⟩, .slice none 0 0] 28)) fun e w' => e = .returned (.tuple #[.slice none 0 0, .int .i64 p, .int .i64 k]) ∧ Below (w.alloc (.cells #[.int .i64 0, .int .i64 0, .string ⟨#[]⟩, .slice none 0 0] 28)).heap.size (w.alloc (.cells #[.int .i64 0, .int .i64 0, .string ⟨#[]⟩, .slice none 0 0] 28)) w')
    (hm : parseM s = .error (p, k)) : Calls Tryz.prog 11 #[.string ⟨s.toArray⟩] w (rparsePost s w) := by
  have HC := Lib.hid hc
  have HM := Lib.hid hm
  have HZ := Lib.hid (heap_alloc_new w (.cells #[.int .i64 0, .int .i64 0, .string ⟨#[]⟩, .slice none 0 0] 28))
  have HB := Lib.hid ((Below.refl w.heap.size w).alloc (Nat.le_refl _) (.cells #[.int .i64 0, .int .i64 0, .string ⟨#[]⟩, .slice none 0 0] 28))
  have hsz : w.heap.size < (w.alloc (.cells #[.int .i64 0, .int .i64 0, .string ⟨#[]⟩, .slice none 0 0] 28)).heap.size := by simp
  obtain ⟨sb, hsb⟩ : ∃ sb : ByteArray, (⟨s.toArray⟩ : ByteArray) = sb := ⟨_, rfl⟩
  rw [hsb] at HC ⊢
  clear hc hm hsb
  rcases hk with rfl | rfl
  · go_enter Tryz.func11, Tryz.ntmps11
    go_upto_region 1 with fail
    generalize w.alloc (.cells #[.int .i64 0, .int .i64 0, .string ⟨#[]⟩, .slice none 0 0] 28) = W0 at *
    go_wp2_with fail
    refine HC.out.mono ?_
    rintro e W ⟨rfl, hb⟩
    have hz := (hb.block _ hsz).trans HZ.out
    have HBW := Lib.hid (HB.out.seq hb)
    clear hb HC HZ HB hsz
    obtain ⟨⟨g0, g1, g2, g3⟩, e0, e1, e2, e3⟩ := four_all hz
    have HZF := Lib.hid hz
    go_wp2
    have hh := four_all (set4_heap HZF.out (.int .i64 0) (.int .i64 0) (.string ⟨#[]⟩) (.slice none 0 0))
    refine bodyPost_ret (v := .tuple #[zeroV, .int .i64 p, .int .i64 5]) (by simp [results, Tryz.results11, go_sem, zeroV, hh.1]) rfl ⟨Below.set4 HBW.out (Nat.le_refl _) _ _ _ _, ?_⟩
    rw [HM.out]
  · go_enter Tryz.func11, Tryz.ntmps11
    go_upto_region 1 with fail
    generalize w.alloc (.cells #[.int .i64 0, .int .i64 0, .string ⟨#[]⟩, .slice none 0 0] 28) = W0 at *
    go_wp2_with fail
    refine HC.out.mono ?_
    rintro e W ⟨rfl, hb⟩
    have hz := (hb.block _ hsz).trans HZ.out
    have HBW := Lib.hid (HB.out.seq hb)
    clear hb HC HZ HB hsz
    obtain ⟨⟨g0, g1, g2, g3⟩, e0, e1, e2, e3⟩ := four_all hz
    have HZF := Lib.hid hz
    go_wp2
    have hh := four_all (set4_heap HZF.out (.int .i64 0) (.int .i64 0) (.string ⟨#[]⟩) (.slice none 0 0))
    refine bodyPost_ret (v := .tuple #[zeroV, .int .i64 p, .int .i64 7]) (by simp [results, Tryz.results11, go_sem, zeroV, hh.1]) rfl ⟨Below.set4 HBW.out (Nat.le_refl _) _ _ _ _, ?_⟩
    rw [HM.out]
set_option maxRecDepth 1000000 in
set_option maxHeartbeats 8000000 in
theorem rparse_ok (s : Bs) (w : World) (ts : List Tok) (hs : s.length ≤ 400) (hlx : lexAll s = .ok ts) : Calls Tryz.prog 11 #[.string ⟨s.toArray⟩] w (rparsePost s w) := by
  have hF := lexAll_fine (l := s) (by omega) hlx
  have hM : parseM s = match readL ts with
      | .error q => .error (q, 6)
      | .ok e => if check e = true then .ok e else .error (0, 7) := by
    unfold parseM
    rw [if_neg (by omega), hlx]
    rfl
  have hE := hF.1
  have hl : ts.length ≤ 1000 := by have := hF.2.1; omega
  have hne : parseJ (8 * ts.length + 8) (.two 0) ts ≠ .out := parseJ_enough _ _ _ hE (by simp only [Job.need]; omega) (fun n h => by cases h; omega) (fun n e h => by cases h)
  have hr : readL ts = match parseJ (8 * ts.length + 8) (.two 0) ts with
    | .out => .error 0
    | .bad p => .error p
    | .ok e r => if (hd r).k = 0 then .ok e else .error (hd r).p := rfl
  have HFI := Lib.hid (fun e h => readL_fine (e := e) hF.2.2 h)
  have HC := Lib.hid (refLex_any s (w.alloc (.cells #[.int .i64 0, .int .i64 0, .string ⟨#[]⟩, .slice none 0 0] 28)) hs)
  unfold refLexPost at HC
  simp only [hlx] at HC
  have HPL := Lib.hid (fun e r => parseJ_left (8 * ts.length + 8) (.two 0) ts hE e r)
  have HLV := Lib.hid (fun B v W h1 h2 => lvOK (8 * ts.length + 8) 0 B 0 ts v W (by omega) h1 h2 (by rw [List.drop_zero]; exact hE) hl (by rw [List.drop_zero]; exact hne))
  simp only [List.drop_zero] at HLV
  have HM := Lib.hid hM
  have HZ := Lib.hid (heap_alloc_new w (.cells #[.int .i64 0, .int .i64 0, .string ⟨#[]⟩, .slice none 0 0] 28))
  have HB := Lib.hid ((Below.refl w.heap.size w).alloc (Nat.le_refl _) (.cells #[.int .i64 0, .int .i64 0, .string ⟨#[]⟩, .slice none 0 0] 28))
  have hsz : w.heap.size < (w.alloc (.cells #[.int .i64 0, .int .i64 0, .string ⟨#[]⟩, .slice none 0 0] 28)).heap.size := by simp
  obtain ⟨sb, hsb⟩ : ∃ sb : ByteArray, (⟨s.toArray⟩ : ByteArray) = sb := ⟨_, rfl⟩
  rw [hsb] at HC ⊢
  generalize parseJ (8 * ts.length + 8) (.two 0) ts = x at *
  have HR := Lib.hid hr
  have HNE := Lib.hid hne
  clear hsb hF hM hlx hne hr hE hs
  go_enter Tryz.func11, Tryz.ntmps11
  go_upto_region 1 with fail
  generalize w.alloc (.cells #[.int .i64 0, .int .i64 0, .string ⟨#[]⟩, .slice none 0 0] 28) = W0 at *
  go_wp2_with fail
  refine HC.out.mono ?_
  rintro e W1 ⟨hb, tv, rfl, hT1⟩
  have hz1 := (hb.block _ hsz).trans HZ.out
  have hsz1 : w.heap.size < W1.heap.size := (Array.getElem?_eq_some_iff.1 hz1).1
  have HB2 := Lib.hid ((HB.out.seq hb).alloc (by have := (HB.out.seq hb).size; omega) (.cells #[tv, .int .i64 0, .int .i64 (-1), .int .i64 0] 58))
  have hT2 : TokV (gb W1.heap.size (W1.alloc (.cells #[tv, .int .i64 0, .int .i64 (-1), .int .i64 0] 58))) tv ts := SlV.mono (SlV.mono hT1 (gb_lt (Nat.le_refl _))) (But.gb (But.below (pb := W1.heap.size) ((Below.refl _ _).alloc (Nat.le_refl _) _)))
  have hX2 : XS (W1.alloc (.cells #[tv, .int .i64 0, .int .i64 (-1), .int .i64 0] 58)) W1.heap.size tv 0 (-1) := heap_alloc_new W1 (.cells #[tv, .int .i64 0, .int .i64 (-1), .int .i64 0] 58)
  have hz2 := (Lib.alloc_old W1 (.cells #[tv, .int .i64 0, .int .i64 (-1), .int .i64 0] 58) _ hsz1).trans hz1
  obtain ⟨ta, tc, rfl⟩ := hT1.form
  clear hb hz1 hT1 HC HZ HB hsz
  go_upto_region 5 with fail
  have hBs : w.heap.size < W1.heap.size := hsz1
  generalize W1.alloc (.cells #[(.slice ta ts.length tc), .int .i64 0, .int .i64 (-1), .int .i64 0] 58) = W2 at *
  generalize W1.heap.size = B at *
  have HCC : Calls Tryz.prog 34 #[.pointer (some ⟨B, 0, none⟩)] W2 (RRes B (.slice ta ts.length tc) ts x W2) := HLV.out B _ W2 hX2 hT2
  have HC := Lib.hid HCC
  have HT2 := Lib.hid hT2
  have hsz2 : w.heap.size < W2.heap.size := (Array.getElem?_eq_some_iff.1 hz2).1
  clear HCC HLV hX2 hT2
  go_wp2_with fail
  refine HC.out.mono ?_
  clear HC
  cases x with
  | out => exact absurd rfl HNE.out
  | bad q =>
    rintro e W3 ⟨hb3, ⟨v, rfl, o, n, s0, a, l, c, rfl⟩, p', hx3⟩
    have hz3 := (hb3.block _ hsz2 (by omega)).trans hz2
    have hsz3 : w.heap.size < W3.heap.size := (Array.getElem?_eq_some_iff.1 hz3).1
    have HB4 := Lib.hid (((But.below HB2.out).trans hb3).alloc (.cells #[.int .i64 o, .int .i64 n, .string ⟨s0.toArray⟩, .slice a l c] 28))
    have HX4 := Lib.hid (hx3.alloc (.cells #[.int .i64 o, .int .i64 n, .string ⟨s0.toArray⟩, .slice a l c] 28))
    have hz4 := (Lib.alloc_old W3 (.cells #[.int .i64 o, .int .i64 n, .string ⟨s0.toArray⟩, .slice a l c] 28) _ hsz3).trans hz3
    have HM4 : Hid (parseM s = .error (q, 6)) := Lib.hid (by rw [HM.out, HR.out])
    clear hb3 hx3 hz2 hz3 HB2 HM HR HPL HFI HNE
    unfold exV strV
    go_upto_region 6 with fail
    generalize W3.alloc (.cells #[.int .i64 o, .int .i64 n, .string ⟨s0.toArray⟩, .slice a l c] 28) = W4 at *
    obtain ⟨c0, c1, c2, f1, f2, -⟩ := HX4.out.cells
    have i5 : (0 : Int) ≤ (q : Int) := by omega
    have i6 : ¬ (q : Int) < 0 := by omega
    obtain ⟨⟨g0, g1, g2, g3⟩, e0, e1, e2, e3⟩ := four_all hz4
    have HZF := Lib.hid hz4
    go_wp2
    go_region
    go_wp2
    have hh := four_all (set4_heap HZF.out (.int .i64 0) (.int .i64 0) (.string ⟨#[]⟩) (.slice none 0 0))
    refine bodyPost_ret (v := .tuple #[zeroV, .int .i64 q, .int .i64 6]) (by simp [results, Tryz.results11, go_sem, zeroV, hh.1]) rfl ⟨?_, ?_⟩
    · exact ((HB4.out.set4 (Nat.le_refl _) _ _ _ _).drew).toBelow (by omega)
    · rw [HM4.out]
  | ok ex r =>
    rintro e W3 ⟨hb3, ⟨v, rfl, kv, rfl, hK⟩, p', hd3, hx3⟩
    obtain ⟨ka, kc, rfl⟩ := hK.form
    have hEr := (HPL.out ex r rfl).1
    have hat : ts[p']? = some (hd r) := by rw [← hd3] at hEr ⊢; exact hEr.at.1
    have hz3 := (hb3.block _ hsz2 (by omega)).trans hz2
    have hsz3 : w.heap.size < W3.heap.size := (Array.getElem?_eq_some_iff.1 hz3).1
    have HB4 := Lib.hid (((But.below HB2.out).trans hb3).alloc (.cells #[.int .i64 ex.op, .int .i64 ex.n, .string ⟨ex.s.toArray⟩, .slice ka ex.ks.length kc] 28))
    have HX4 := Lib.hid (hx3.alloc (.cells #[.int .i64 ex.op, .int .i64 ex.n, .string ⟨ex.s.toArray⟩, .slice ka ex.ks.length kc] 28))
    have HT4 : Hid (TokV (gb B (W3.alloc (.cells #[.int .i64 ex.op, .int .i64 ex.n, .string ⟨ex.s.toArray⟩, .slice ka ex.ks.length kc] 28))) (.slice ta ts.length tc) ts) := Lib.hid (SlV.mono HT2.out (hb3.alloc (.cells #[.int .i64 ex.op, .int .i64 ex.n, .string ⟨ex.s.toArray⟩, .slice ka ex.ks.length kc] 28)).gb)
    have hz4 := (Lib.alloc_old W3 (.cells #[.int .i64 ex.op, .int .i64 ex.n, .string ⟨ex.s.toArray⟩, .slice ka ex.ks.length kc] 28) _ hsz3).trans hz3
    have hc4 := heap_alloc_new W3 (.cells #[.int .i64 ex.op, .int .i64 ex.n, .string ⟨ex.s.toArray⟩, .slice ka ex.ks.length kc] 28)
    have HK4 : Hid (KV (gp (fun b => w.heap.size < b) (W3.alloc (.cells #[.int .i64 ex.op, .int .i64 ex.n, .string ⟨ex.s.toArray⟩, .slice ka ex.ks.length kc] 28))) (.slice ka ex.ks.length kc) ex.ks) := Lib.hid (hK.mono (gp_le fun b hb hl => ⟨by omega, Lib.alloc_old W3 _ b hl⟩))
    clear hb3 hx3 hz2 hz3 HB2 HNE hK HPL hEr hd3
    unfold exV strV
    go_upto_region 6 with fail
    generalize W3.alloc (.cells #[.int .i64 ex.op, .int .i64 ex.n, .string ⟨ex.s.toArray⟩, .slice ka ex.ks.length kc] 28) = W4 at *
    have hszb : W3.heap.size < W4.heap.size := (Array.getElem?_eq_some_iff.1 hc4).1
    have hneB : W3.heap.size ≠ B := by have := HX4.out.cells.2.2.2.2.2; have := HT2; intro e; have h1 := HX4.out; unfold XS at h1; rw [← e, hc4] at h1; simp at h1
    obtain ⟨t, ht⟩ : ∃ t, hd r = t := ⟨_, rfl⟩
    rw [ht] at hat
    have HTK := Lib.hid (xtok_any B p' (-1) ts t _ W4 HX4.out HT4.out hat hl)
    have HWR := Lib.hid (fun W h1 h2 => xwrong_any B p' ts t (.slice ta ts.length tc) W h1 h2 hat hl)
    obtain ⟨fd0, fd1, fd3⟩ := tok_field t.k ⟨t.s.toArray⟩ t.n t.p
    unfold tokV strV at HTK
    obtain ⟨c0, c1, c2, f1, f2, -⟩ := HX4.out.cells
    go_wp2_with fail
    refine HTK.out.mono ?_
    rintro e W5 ⟨rfl, hb5⟩
    have HB5 := Lib.hid (HB4.out.call hb5)
    have HX5 := Lib.hid (HX4.out.keep hb5)
    have HT5 := Lib.hid (SlV.mono HT4.out (But.below (pb := B) hb5).gb)
    have hz5 := (hb5.block _ (Array.getElem?_eq_some_iff.1 hz4).1).trans hz4
    have hc5 := (hb5.block _ hszb).trans hc4
    have HK5 := Lib.hid (HK4.out.mono (h' := gp (fun b => w.heap.size < b) W5) (gp_le fun b hb hl => ⟨hb, hb5.block _ hl⟩))
    clear hb5 hz4 hc4 HB4 HX4 HT4 HK4 HTK c0 c1 c2 f1 f2
    by_cases hk : t.k = 0
    · have q1 : (t.k != 0) = false := by simp [hk]
      have HRL : Hid (readL ts = .ok ex) := Lib.hid (by rw [HR.out]; simp only [ht]; rw [if_pos hk])
      obtain ⟨c0, c1, c2, f1, f2, -⟩ := HX5.out.cells
      obtain ⟨⟨d0, d1, d2, d3⟩, -⟩ := four_all hc5
      have HCK := Lib.hid (refCheck7_any ex (exV ex.op ex.n ex.s (.slice ka ex.ks.length kc)) W5 (HFI.out ex HRL.out) ⟨_, rfl, HK5.out.mono (gp_gh _ _)⟩)
      obtain ⟨ck, hck⟩ : ∃ b, check ex = b := ⟨_, rfl⟩
      rw [hck] at HCK
      unfold exV strV at HCK
      have HCE := Lib.hid hck
      clear hk hck HR hat ht
      go_wp2_with fail
      refine HCK.out.mono ?_
      rintro e W6 ⟨rfl, hb6⟩
      have HB6 := Lib.hid (HB5.out.call hb6)
      have hz6 := (hb6.block _ (Array.getElem?_eq_some_iff.1 hz5).1).trans hz5
      have hc6 := (hb6.block _ (Array.getElem?_eq_some_iff.1 hc5).1).trans hc5
      have HK6 := Lib.hid (HK5.out.mono (h' := gp (fun b => w.heap.size < b) W6) (gp_le fun b hb hl => ⟨hb, hb6.block _ hl⟩))
      clear hb6 hz5 hc5 HB5 HX5 HT5 HK5 c0 c1 c2 f1 f2 d0 d1 d2 d3
      obtain ⟨⟨d0, d1, d2, d3⟩, -⟩ := four_all hc6
      obtain ⟨⟨g0, g1, g2, g3⟩, e0, e1, e2, e3⟩ := four_all hz6
      have HZF := Lib.hid hz6
      cases ck with
      | false =>
        have HM6 : Hid (parseM s = .error (0, 7)) := Lib.hid (by rw [HM.out, HRL.out]; simp only [HCE.out]; rfl)
        go_wp2
        have hh := four_all (set4_heap HZF.out (.int .i64 0) (.int .i64 0) (.string ⟨#[]⟩) (.slice none 0 0))
        refine bodyPost_ret (v := .tuple #[zeroV, .int .i64 0, .int .i64 7]) (by simp [results, Tryz.results11, go_sem, zeroV, hh.1]) rfl ⟨?_, ?_⟩
        · exact (HB6.out.set4 (Nat.le_refl _) _ _ _ _).toBelow (by omega)
        · rw [HM6.out]; rfl
      | true =>
        have HM6 : Hid (parseM s = .ok ex) := Lib.hid (by rw [HM.out, HRL.out]; simp only [HCE.out]; rfl)
        go_wp2
        have hh := four_all (set4_heap HZF.out (.int .i64 ex.op) (.int .i64 ex.n) (.string ⟨ex.s.toArray⟩) (.slice ka ex.ks.length kc))
        refine bodyPost_ret (v := .tuple #[exV ex.op ex.n ex.s (.slice ka ex.ks.length kc), .int .i64 0, .int .i64 0]) (by simp [results, Tryz.results11, go_sem, exV, strV, hh.1]) rfl ⟨?_, ?_⟩
        · exact (HB6.out.set4 (Nat.le_refl _) _ _ _ _).toBelow (by omega)
        · rw [HM6.out]
          exact ⟨_, rfl, _, rfl, HK6.out.mono (gp_le fun b hb _ => ⟨by omega, set4_other (by omega) _ _ _ _⟩)⟩
    · have q1 : (t.k != 0) = true := bne_iff_ne.2 hk
      have HM6 : Hid (parseM s = .error (t.p, 6)) := Lib.hid (by rw [HM.out, HR.out]; simp only [ht]; rw [if_neg hk])
      clear hk HR hat ht HM
      go_wp2_with fail
      refine (HWR.out _ HX5.out HT5.out).mono ?_
      rintro e W6 ⟨rfl, hb6, hx6⟩
      have HB6 := Lib.hid (HB5.out.trans hb6)
      have hz6 := (hb6.block _ (Array.getElem?_eq_some_iff.1 hz5).1 (by omega)).trans hz5
      clear HB5 HX5 HT5 HK5 hz5 hc5 hb6
      obtain ⟨c0, c1, c2, f1, f2, -⟩ := hx6.cells
      have i5 : (0 : Int) ≤ (t.p : Int) := by omega
      have i6 : ¬ (t.p : Int) < 0 := by omega
      obtain ⟨⟨g0, g1, g2, g3⟩, e0, e1, e2, e3⟩ := four_all hz6
      have HZF := Lib.hid hz6
      go_wp2
      go_region
      go_wp2
      have hh := four_all (set4_heap HZF.out (.int .i64 0) (.int .i64 0) (.string ⟨#[]⟩) (.slice none 0 0))
      refine bodyPost_ret (v := .tuple #[zeroV, .int .i64 t.p, .int .i64 6]) (by simp [results, Tryz.results11, go_sem, zeroV, hh.1]) rfl ⟨?_, ?_⟩
      · exact ((HB6.out.set4 (Nat.le_refl _) _ _ _ _).drew).toBelow (by omega)
      · rw [HM6.out]
theorem rparse_any (s : Bs) (w : World) (hm : s.length ≤ 9223372036854775807) : Calls Tryz.prog 11 #[.string ⟨s.toArray⟩] w (rparsePost s w) := by
  by_cases hs : s.length ≤ 400
  · cases hx : lexAll s with
    | error p =>
      refine rparse_err s w p 5 (.inl rfl) ((refLex_any s _ hs).mono ?_) ?_
      · rintro e w' ⟨hb, hp⟩
        rw [hx] at hp
        exact ⟨hp, hb⟩
      · unfold parseM
        rw [if_neg (by omega), hx]
    | ok ts => exact rparse_ok s w ts hs hx
  · refine rparse_err s w 400 7 (.inr rfl) ((refLex_long s _ (by omega) hm).mono ?_) ?_
    · rintro e w' ⟨rfl, rfl⟩
      exact ⟨rfl, Below.refl _ _⟩
    · unfold parseM
      rw [if_pos (by omega)]
theorem refParse_any (s : ByteArray) (w : World) (hm : s.size ≤ 9223372036854775807) : Calls Tryz.prog 11 #[.string s] w (parsePost s w) :=
  rparse_any s.data.toList w (by rw [len_toList]; exact hm)
end Go.Proofs.YtoklhppalkgdeaaGreatDoor
