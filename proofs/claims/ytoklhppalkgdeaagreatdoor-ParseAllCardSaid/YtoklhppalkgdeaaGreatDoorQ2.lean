/- The walks of the document's word. No condition. -/
import Derived.Test.YtoklhppalkgdeaaGreatDoorQ1
set_option linter.unusedSimpArgs false
set_option linter.unusedVariables false
set_option linter.unusedSectionVars false
namespace Go.Proofs.YtoklhppalkgdeaaGreatDoor
open Go.RowKit Pal
set_option maxRecDepth 1000000 in
set_option maxHeartbeats 8000000 in
theorem word_name (B p : Nat) (toks : List Tok) (tv : Value) (w : World) (s : Bs) (h : XS w B tv p (-1)) (hT : TokV (gb B w) tv toks) (hl : toks.length ≤ 1000) (hpt : p < toks.length) (hs : word s = false) : Calls Tryz.prog 225 #[.pointer (some ⟨B, 0, none⟩), strV s] w (RRes B tv toks (.ok (.mk 4 0 s []) (toks.drop (p + 1))) w) := by
  have hpl := h.cells.2.2.2.2.2
  have i1 : (p : Int) < 1000 := by omega
  have i0 : (0 : Int) ≤ (p : Int) := by omega
  have HX0 := Lib.hid ((h.setI ((p : Int) + 1) (p' := p + 1) (by omega)).alloc (.cells #[.int .i64 0, .int .i64 0, .string ⟨#[]⟩, .slice none 0 0] 28))
  have HB0 := Lib.hid (((But.refl B w).setPb 1 (.int .i64 ((p : Int) + 1))).alloc (.cells #[.int .i64 0, .int .i64 0, .string ⟨#[]⟩, .slice none 0 0] 28))
  have HT0 : Hid (∀ W, But B w W → TokV (gb B W) tv toks) := Lib.hid (fun W hb => SlV.mono hT hb.gb)
  have hz0 := heap_alloc_new (w.setCell ⟨B, 1, none⟩ (.int .i64 ((p : Int) + 1))) (.cells #[.int .i64 0, .int .i64 0, .string ⟨#[]⟩, .slice none 0 0] 28)
  rw [show (w.setCell ⟨B, 1, none⟩ (.int .i64 ((p : Int) + 1))).heap.size = w.heap.size by simp [World.setCell]] at hz0
  have HZ0 := Lib.hid hz0
  obtain ⟨-, c1, -, f1, -, -⟩ := h.cells
  have a1 := cell_old hpl c1
  have hfr : ∀ o : Obj, (w.alloc o).frozen? ⟨B, 1, none⟩ = false := fun o => (h.alloc o).cells.2.2.2.1
  have n1 : ¬ w.heap.size = B := by omega
  have q0 : (s == [116, 114, 117, 101]) = false := beq_eq_false_iff_ne.2 (fun e => by subst e; revert hs; decide)
  have q1 : (s == [102, 97, 108, 115, 101]) = false := beq_eq_false_iff_ne.2 (fun e => by subst e; revert hs; decide)
  have q2 : (s == [105, 102]) = false := beq_eq_false_iff_ne.2 (fun e => by subst e; revert hs; decide)
  have q3 : (s == [108, 101, 110]) = false := beq_eq_false_iff_ne.2 (fun e => by subst e; revert hs; decide)
  have q4 : (s == [99, 97, 116]) = false := beq_eq_false_iff_ne.2 (fun e => by subst e; revert hs; decide)
  have q5 : (s == [99, 117, 116]) = false := beq_eq_false_iff_ne.2 (fun e => by subst e; revert hs; decide)
  have q6 : (s == [117, 112]) = false := beq_eq_false_iff_ne.2 (fun e => by subst e; revert hs; decide)
  have q7 : (s == [104, 97, 115]) = false := beq_eq_false_iff_ne.2 (fun e => by subst e; revert hs; decide)
  clear h hT hz0 c1 f1 hs
  unfold strV at *
  go_enter Tryz.func225, Tryz.ntmps225
  go_upto_region 2 with fail
  generalize (w.setCell ⟨B, 1, none⟩ (.int .i64 ((p : Int) + 1))).alloc (.cells #[.int .i64 0, .int .i64 0, .string ⟨#[]⟩, .slice none 0 0] 28) = W0 at *
  have hsz0 : w.heap.size < W0.heap.size := (Array.getElem?_eq_some_iff.1 HZ0.out).1
  clear a1 hfr
  have hz0 := HZ0.out
  obtain ⟨⟨g0, g1, g2, g3⟩, e0, e1, e2, e3⟩ := four_all hz0
  have HZF := Lib.hid hz0
  go_wp2
  refine bodyPost_ret (v := exV 4 0 s (.slice none 0 0)) ?_ rfl ?_
  · have hh := four_all (set4_heap HZF.out (.int .i64 4) (.int .i64 0) (.string ⟨s.toArray⟩) (.slice none 0 0))
    simp [results, Tryz.results225, go_sem, exV, strV, hh.1]
  · exact rres_ok HB0.out hpl (KV.nil _) HX0.out rfl _ _ _ _
set_option maxRecDepth 1000000 in
set_option maxHeartbeats 8000000 in
theorem word_true (B p : Nat) (toks : List Tok) (tv : Value) (w : World) (s : Bs) (h : XS w B tv p (-1)) (hT : TokV (gb B w) tv toks) (hl : toks.length ≤ 1000) (hpt : p < toks.length) (hs : s = wTrue) : Calls Tryz.prog 225 #[.pointer (some ⟨B, 0, none⟩), strV s] w (RRes B tv toks (.ok (.mk 3 1 [] []) (toks.drop (p + 1))) w) := by
  have hpl := h.cells.2.2.2.2.2
  have i1 : (p : Int) < 1000 := by omega
  have i0 : (0 : Int) ≤ (p : Int) := by omega
  have HX0 := Lib.hid ((h.setI ((p : Int) + 1) (p' := p + 1) (by omega)).alloc (.cells #[.int .i64 0, .int .i64 0, .string ⟨#[]⟩, .slice none 0 0] 28))
  have HB0 := Lib.hid (((But.refl B w).setPb 1 (.int .i64 ((p : Int) + 1))).alloc (.cells #[.int .i64 0, .int .i64 0, .string ⟨#[]⟩, .slice none 0 0] 28))
  have HT0 : Hid (∀ W, But B w W → TokV (gb B W) tv toks) := Lib.hid (fun W hb => SlV.mono hT hb.gb)
  have hz0 := heap_alloc_new (w.setCell ⟨B, 1, none⟩ (.int .i64 ((p : Int) + 1))) (.cells #[.int .i64 0, .int .i64 0, .string ⟨#[]⟩, .slice none 0 0] 28)
  rw [show (w.setCell ⟨B, 1, none⟩ (.int .i64 ((p : Int) + 1))).heap.size = w.heap.size by simp [World.setCell]] at hz0
  have HZ0 := Lib.hid hz0
  obtain ⟨-, c1, -, f1, -, -⟩ := h.cells
  have a1 := cell_old hpl c1
  have hfr : ∀ o : Obj, (w.alloc o).frozen? ⟨B, 1, none⟩ = false := fun o => (h.alloc o).cells.2.2.2.1
  have n1 : ¬ w.heap.size = B := by omega
  have q0 : (s == [116, 114, 117, 101]) = true := by rw [hs]; decide
  clear h hT hz0 c1 f1 hs
  unfold strV at *
  go_enter Tryz.func225, Tryz.ntmps225
  go_upto_region 2 with fail
  generalize (w.setCell ⟨B, 1, none⟩ (.int .i64 ((p : Int) + 1))).alloc (.cells #[.int .i64 0, .int .i64 0, .string ⟨#[]⟩, .slice none 0 0] 28) = W0 at *
  have hsz0 : w.heap.size < W0.heap.size := (Array.getElem?_eq_some_iff.1 HZ0.out).1
  clear a1 hfr
  have hz0 := HZ0.out
  obtain ⟨⟨g0, g1, g2, g3⟩, e0, e1, e2, e3⟩ := four_all hz0
  have HZF := Lib.hid hz0
  go_wp2
  refine bodyPost_ret (v := exV 3 1 [] (.slice none 0 0)) ?_ rfl ?_
  · have hh := four_all (set4_heap HZF.out (.int .i64 3) (.int .i64 1) (.string ⟨#[]⟩) (.slice none 0 0))
    simp [results, Tryz.results225, go_sem, exV, strV, hh.1]
  · exact rres_ok HB0.out hpl (KV.nil _) HX0.out rfl _ _ _ _
set_option maxRecDepth 1000000 in
set_option maxHeartbeats 8000000 in
theorem word_false (B p : Nat) (toks : List Tok) (tv : Value) (w : World) (s : Bs) (h : XS w B tv p (-1)) (hT : TokV (gb B w) tv toks) (hl : toks.length ≤ 1000) (hpt : p < toks.length) (hs : s = wFalse) : Calls Tryz.prog 225 #[.pointer (some ⟨B, 0, none⟩), strV s] w (RRes B tv toks (.ok (.mk 3 0 [] []) (toks.drop (p + 1))) w) := by
  have hpl := h.cells.2.2.2.2.2
  have i1 : (p : Int) < 1000 := by omega
  have i0 : (0 : Int) ≤ (p : Int) := by omega
  have HX0 := Lib.hid ((h.setI ((p : Int) + 1) (p' := p + 1) (by omega)).alloc (.cells #[.int .i64 0, .int .i64 0, .string ⟨#[]⟩, .slice none 0 0] 28))
  have HB0 := Lib.hid (((But.refl B w).setPb 1 (.int .i64 ((p : Int) + 1))).alloc (.cells #[.int .i64 0, .int .i64 0, .string ⟨#[]⟩, .slice none 0 0] 28))
  have HT0 : Hid (∀ W, But B w W → TokV (gb B W) tv toks) := Lib.hid (fun W hb => SlV.mono hT hb.gb)
  have hz0 := heap_alloc_new (w.setCell ⟨B, 1, none⟩ (.int .i64 ((p : Int) + 1))) (.cells #[.int .i64 0, .int .i64 0, .string ⟨#[]⟩, .slice none 0 0] 28)
  rw [show (w.setCell ⟨B, 1, none⟩ (.int .i64 ((p : Int) + 1))).heap.size = w.heap.size by simp [World.setCell]] at hz0
  have HZ0 := Lib.hid hz0
  obtain ⟨-, c1, -, f1, -, -⟩ := h.cells
  have a1 := cell_old hpl c1
  have hfr : ∀ o : Obj, (w.alloc o).frozen? ⟨B, 1, none⟩ = false := fun o => (h.alloc o).cells.2.2.2.1
  have n1 : ¬ w.heap.size = B := by omega
  have q0 : (s == [116, 114, 117, 101]) = false := beq_eq_false_iff_ne.2 (fun e => by subst e; revert hs; decide)
  have q1 : (s == [102, 97, 108, 115, 101]) = true := by rw [hs]; decide
  clear h hT hz0 c1 f1 hs
  unfold strV at *
  go_enter Tryz.func225, Tryz.ntmps225
  go_upto_region 2 with fail
  generalize (w.setCell ⟨B, 1, none⟩ (.int .i64 ((p : Int) + 1))).alloc (.cells #[.int .i64 0, .int .i64 0, .string ⟨#[]⟩, .slice none 0 0] 28) = W0 at *
  have hsz0 : w.heap.size < W0.heap.size := (Array.getElem?_eq_some_iff.1 HZ0.out).1
  clear a1 hfr
  have hz0 := HZ0.out
  obtain ⟨⟨g0, g1, g2, g3⟩, e0, e1, e2, e3⟩ := four_all hz0
  have HZF := Lib.hid hz0
  go_wp2
  refine bodyPost_ret (v := exV 3 0 [] (.slice none 0 0)) ?_ rfl ?_
  · have hh := four_all (set4_heap HZF.out (.int .i64 3) (.int .i64 0) (.string ⟨#[]⟩) (.slice none 0 0))
    simp [results, Tryz.results225, go_sem, exV, strV, hh.1]
  · exact rres_ok HB0.out hpl (KV.nil _) HX0.out rfl _ _ _ _
set_option maxRecDepth 1000000 in
set_option maxHeartbeats 8000000 in
theorem word_if (B p : Nat) (toks : List Tok) (tv : Value) (w : World) (s : Bs) (h : XS w B tv p (-1)) (hT : TokV (gb B w) tv toks) (hl : toks.length ≤ 1000) (hpt : p < toks.length) (hs : s = wIf) (x : PR)
    (hrec : ∀ W, XS W B tv (p + 1) (-1) → TokV (gb B W) tv toks → Calls Tryz.prog 227 #[.pointer (some ⟨B, 0, none⟩), .int .i64 18, .int .i64 3] W (RRes B tv toks x W)) : Calls Tryz.prog 225 #[.pointer (some ⟨B, 0, none⟩), strV s] w (RRes B tv toks x w) := by
  have hpl := h.cells.2.2.2.2.2
  have i1 : (p : Int) < 1000 := by omega
  have i0 : (0 : Int) ≤ (p : Int) := by omega
  have HX0 := Lib.hid ((h.setI ((p : Int) + 1) (p' := p + 1) (by omega)).alloc (.cells #[.int .i64 0, .int .i64 0, .string ⟨#[]⟩, .slice none 0 0] 28))
  have HB0 := Lib.hid (((But.refl B w).setPb 1 (.int .i64 ((p : Int) + 1))).alloc (.cells #[.int .i64 0, .int .i64 0, .string ⟨#[]⟩, .slice none 0 0] 28))
  have HT0 : Hid (∀ W, But B w W → TokV (gb B W) tv toks) := Lib.hid (fun W hb => SlV.mono hT hb.gb)
  have hz0 := heap_alloc_new (w.setCell ⟨B, 1, none⟩ (.int .i64 ((p : Int) + 1))) (.cells #[.int .i64 0, .int .i64 0, .string ⟨#[]⟩, .slice none 0 0] 28)
  rw [show (w.setCell ⟨B, 1, none⟩ (.int .i64 ((p : Int) + 1))).heap.size = w.heap.size by simp [World.setCell]] at hz0
  have HZ0 := Lib.hid hz0
  obtain ⟨-, c1, -, f1, -, -⟩ := h.cells
  have a1 := cell_old hpl c1
  have hfr : ∀ o : Obj, (w.alloc o).frozen? ⟨B, 1, none⟩ = false := fun o => (h.alloc o).cells.2.2.2.1
  have n1 : ¬ w.heap.size = B := by omega
  have q0 : (s == [116, 114, 117, 101]) = false := beq_eq_false_iff_ne.2 (fun e => by subst e; revert hs; decide)
  have q1 : (s == [102, 97, 108, 115, 101]) = false := beq_eq_false_iff_ne.2 (fun e => by subst e; revert hs; decide)
  have q2 : (s == [105, 102]) = true := by rw [hs]; decide
  have HR := Lib.hid hrec
  clear h hT hz0 c1 f1 hs hrec
  unfold strV at *
  go_enter Tryz.func225, Tryz.ntmps225
  go_upto_region 2 with fail
  generalize (w.setCell ⟨B, 1, none⟩ (.int .i64 ((p : Int) + 1))).alloc (.cells #[.int .i64 0, .int .i64 0, .string ⟨#[]⟩, .slice none 0 0] 28) = W0 at *
  have hsz0 : w.heap.size < W0.heap.size := (Array.getElem?_eq_some_iff.1 HZ0.out).1
  clear a1 hfr
  go_wp2_with fail
  refine (HR.out _ HX0.out (HT0.out _ HB0.out)).mono ?_
  have hz1 := HZ0.out
  have hsz1 := hsz0
  clear hsz0 HX0 HR HZ0
  generalize W0 = W1 at *
  cases x with
  | out => rintro e W2 ⟨-, h⟩; exact h.elim
  | bad q =>
    rintro e W2 ⟨hb2, ⟨v, rfl, o, n, s0, a, l, c, rfl⟩, p', hx2⟩
    have hz2 := (hb2.block _ hsz1 (by omega)).trans hz1
    obtain ⟨⟨c0, c1, c2, c3⟩, f0, f1, f2, f3⟩ := four_all hz2
    have HZ2 := Lib.hid hz2
    have HB2 := Lib.hid (HB0.out.trans hb2)
    have HX2 := Lib.hid hx2
    clear hz1 hz2 hb2 hx2
    unfold exV strV
    go_wp2
    refine bodyPost_ret (v := exV o n s0 (.slice a l c)) ?_ rfl ?_
    · have hh := four_all (set4_heap HZ2.out (.int .i64 o) (.int .i64 n) (.string ⟨s0.toArray⟩) (.slice a l c))
      simp [results, Tryz.results225, go_sem, exV, strV, hh.1]
    · exact rres_bad HB2.out hpl HX2.out _ _ _ _
  | ok ex r =>
    rintro e W2 ⟨hb2, ⟨v, rfl, kv, rfl, hK⟩, p', hd2, hx2⟩
    obtain ⟨ka, kc, rfl⟩ := hK.form
    have hz2 := (hb2.block _ hsz1 (by omega)).trans hz1
    obtain ⟨⟨c0, c1, c2, c3⟩, f0, f1, f2, f3⟩ := four_all hz2
    have HZ2 := Lib.hid hz2
    have HB2 := Lib.hid (HB0.out.trans hb2)
    have HX2 := Lib.hid hx2
    have HK2 := Lib.hid (KV.mono (h' := gp (fun b => w.heap.size < b) W2) (gp_le fun b hb hl => ⟨by omega, rfl⟩) hK)
    have HD := Lib.hid hd2
    clear hz1 hz2 hb2 hx2 hK hd2
    unfold exV strV
    go_wp2
    refine bodyPost_ret (v := exV ex.op ex.n ex.s (.slice ka ex.ks.length kc)) ?_ rfl ?_
    · have hh := four_all (set4_heap HZ2.out (.int .i64 ex.op) (.int .i64 ex.n) (.string ⟨ex.s.toArray⟩) (.slice ka ex.ks.length kc))
      simp [results, Tryz.results225, go_sem, exV, strV, hh.1]
    · rw [Ex.eta ex]
      exact rres_ok HB2.out hpl HK2.out HX2.out HD.out _ _ _ _
set_option maxRecDepth 1000000 in
set_option maxHeartbeats 8000000 in
theorem word_len (B p : Nat) (toks : List Tok) (tv : Value) (w : World) (s : Bs) (h : XS w B tv p (-1)) (hT : TokV (gb B w) tv toks) (hl : toks.length ≤ 1000) (hpt : p < toks.length) (hs : s = wLen) (x : PR)
    (hrec : ∀ W, XS W B tv (p + 1) (-1) → TokV (gb B W) tv toks → Calls Tryz.prog 227 #[.pointer (some ⟨B, 0, none⟩), .int .i64 19, .int .i64 1] W (RRes B tv toks x W)) : Calls Tryz.prog 225 #[.pointer (some ⟨B, 0, none⟩), strV s] w (RRes B tv toks x w) := by
  have hpl := h.cells.2.2.2.2.2
  have i1 : (p : Int) < 1000 := by omega
  have i0 : (0 : Int) ≤ (p : Int) := by omega
  have HX0 := Lib.hid ((h.setI ((p : Int) + 1) (p' := p + 1) (by omega)).alloc (.cells #[.int .i64 0, .int .i64 0, .string ⟨#[]⟩, .slice none 0 0] 28))
  have HB0 := Lib.hid (((But.refl B w).setPb 1 (.int .i64 ((p : Int) + 1))).alloc (.cells #[.int .i64 0, .int .i64 0, .string ⟨#[]⟩, .slice none 0 0] 28))
  have HT0 : Hid (∀ W, But B w W → TokV (gb B W) tv toks) := Lib.hid (fun W hb => SlV.mono hT hb.gb)
  have hz0 := heap_alloc_new (w.setCell ⟨B, 1, none⟩ (.int .i64 ((p : Int) + 1))) (.cells #[.int .i64 0, .int .i64 0, .string ⟨#[]⟩, .slice none 0 0] 28)
  rw [show (w.setCell ⟨B, 1, none⟩ (.int .i64 ((p : Int) + 1))).heap.size = w.heap.size by simp [World.setCell]] at hz0
  have HZ0 := Lib.hid hz0
  obtain ⟨-, c1, -, f1, -, -⟩ := h.cells
  have a1 := cell_old hpl c1
  have hfr : ∀ o : Obj, (w.alloc o).frozen? ⟨B, 1, none⟩ = false := fun o => (h.alloc o).cells.2.2.2.1
  have n1 : ¬ w.heap.size = B := by omega
  have q0 : (s == [116, 114, 117, 101]) = false := beq_eq_false_iff_ne.2 (fun e => by subst e; revert hs; decide)
  have q1 : (s == [102, 97, 108, 115, 101]) = false := beq_eq_false_iff_ne.2 (fun e => by subst e; revert hs; decide)
  have q2 : (s == [105, 102]) = false := beq_eq_false_iff_ne.2 (fun e => by subst e; revert hs; decide)
  have q3 : (s == [108, 101, 110]) = true := by rw [hs]; decide
  have HR := Lib.hid hrec
  clear h hT hz0 c1 f1 hs hrec
  unfold strV at *
  go_enter Tryz.func225, Tryz.ntmps225
  go_upto_region 2 with fail
  generalize (w.setCell ⟨B, 1, none⟩ (.int .i64 ((p : Int) + 1))).alloc (.cells #[.int .i64 0, .int .i64 0, .string ⟨#[]⟩, .slice none 0 0] 28) = W0 at *
  have hsz0 : w.heap.size < W0.heap.size := (Array.getElem?_eq_some_iff.1 HZ0.out).1
  clear a1 hfr
  go_wp2_with fail
  refine (HR.out _ HX0.out (HT0.out _ HB0.out)).mono ?_
  have hz1 := HZ0.out
  have hsz1 := hsz0
  clear hsz0 HX0 HR HZ0
  generalize W0 = W1 at *
  cases x with
  | out => rintro e W2 ⟨-, h⟩; exact h.elim
  | bad q =>
    rintro e W2 ⟨hb2, ⟨v, rfl, o, n, s0, a, l, c, rfl⟩, p', hx2⟩
    have hz2 := (hb2.block _ hsz1 (by omega)).trans hz1
    obtain ⟨⟨c0, c1, c2, c3⟩, f0, f1, f2, f3⟩ := four_all hz2
    have HZ2 := Lib.hid hz2
    have HB2 := Lib.hid (HB0.out.trans hb2)
    have HX2 := Lib.hid hx2
    clear hz1 hz2 hb2 hx2
    unfold exV strV
    go_wp2
    refine bodyPost_ret (v := exV o n s0 (.slice a l c)) ?_ rfl ?_
    · have hh := four_all (set4_heap HZ2.out (.int .i64 o) (.int .i64 n) (.string ⟨s0.toArray⟩) (.slice a l c))
      simp [results, Tryz.results225, go_sem, exV, strV, hh.1]
    · exact rres_bad HB2.out hpl HX2.out _ _ _ _
  | ok ex r =>
    rintro e W2 ⟨hb2, ⟨v, rfl, kv, rfl, hK⟩, p', hd2, hx2⟩
    obtain ⟨ka, kc, rfl⟩ := hK.form
    have hz2 := (hb2.block _ hsz1 (by omega)).trans hz1
    obtain ⟨⟨c0, c1, c2, c3⟩, f0, f1, f2, f3⟩ := four_all hz2
    have HZ2 := Lib.hid hz2
    have HB2 := Lib.hid (HB0.out.trans hb2)
    have HX2 := Lib.hid hx2
    have HK2 := Lib.hid (KV.mono (h' := gp (fun b => w.heap.size < b) W2) (gp_le fun b hb hl => ⟨by omega, rfl⟩) hK)
    have HD := Lib.hid hd2
    clear hz1 hz2 hb2 hx2 hK hd2
    unfold exV strV
    go_wp2
    refine bodyPost_ret (v := exV ex.op ex.n ex.s (.slice ka ex.ks.length kc)) ?_ rfl ?_
    · have hh := four_all (set4_heap HZ2.out (.int .i64 ex.op) (.int .i64 ex.n) (.string ⟨ex.s.toArray⟩) (.slice ka ex.ks.length kc))
      simp [results, Tryz.results225, go_sem, exV, strV, hh.1]
    · rw [Ex.eta ex]
      exact rres_ok HB2.out hpl HK2.out HX2.out HD.out _ _ _ _
set_option maxRecDepth 1000000 in
set_option maxHeartbeats 8000000 in
theorem word_cat (B p : Nat) (toks : List Tok) (tv : Value) (w : World) (s : Bs) (h : XS w B tv p (-1)) (hT : TokV (gb B w) tv toks) (hl : toks.length ≤ 1000) (hpt : p < toks.length) (hs : s = wCat) (x : PR)
    (hrec : ∀ W, XS W B tv (p + 1) (-1) → TokV (gb B W) tv toks → Calls Tryz.prog 227 #[.pointer (some ⟨B, 0, none⟩), .int .i64 20, .int .i64 2] W (RRes B tv toks x W)) : Calls Tryz.prog 225 #[.pointer (some ⟨B, 0, none⟩), strV s] w (RRes B tv toks x w) := by
  have hpl := h.cells.2.2.2.2.2
  have i1 : (p : Int) < 1000 := by omega
  have i0 : (0 : Int) ≤ (p : Int) := by omega
  have HX0 := Lib.hid ((h.setI ((p : Int) + 1) (p' := p + 1) (by omega)).alloc (.cells #[.int .i64 0, .int .i64 0, .string ⟨#[]⟩, .slice none 0 0] 28))
  have HB0 := Lib.hid (((But.refl B w).setPb 1 (.int .i64 ((p : Int) + 1))).alloc (.cells #[.int .i64 0, .int .i64 0, .string ⟨#[]⟩, .slice none 0 0] 28))
  have HT0 : Hid (∀ W, But B w W → TokV (gb B W) tv toks) := Lib.hid (fun W hb => SlV.mono hT hb.gb)
  have hz0 := heap_alloc_new (w.setCell ⟨B, 1, none⟩ (.int .i64 ((p : Int) + 1))) (.cells #[.int .i64 0, .int .i64 0, .string ⟨#[]⟩, .slice none 0 0] 28)
  rw [show (w.setCell ⟨B, 1, none⟩ (.int .i64 ((p : Int) + 1))).heap.size = w.heap.size by simp [World.setCell]] at hz0
  have HZ0 := Lib.hid hz0
  obtain ⟨-, c1, -, f1, -, -⟩ := h.cells
  have a1 := cell_old hpl c1
  have hfr : ∀ o : Obj, (w.alloc o).frozen? ⟨B, 1, none⟩ = false := fun o => (h.alloc o).cells.2.2.2.1
  have n1 : ¬ w.heap.size = B := by omega
  have q0 : (s == [116, 114, 117, 101]) = false := beq_eq_false_iff_ne.2 (fun e => by subst e; revert hs; decide)
  have q1 : (s == [102, 97, 108, 115, 101]) = false := beq_eq_false_iff_ne.2 (fun e => by subst e; revert hs; decide)
  have q2 : (s == [105, 102]) = false := beq_eq_false_iff_ne.2 (fun e => by subst e; revert hs; decide)
  have q3 : (s == [108, 101, 110]) = false := beq_eq_false_iff_ne.2 (fun e => by subst e; revert hs; decide)
  have q4 : (s == [99, 97, 116]) = true := by rw [hs]; decide
  have HR := Lib.hid hrec
  clear h hT hz0 c1 f1 hs hrec
  unfold strV at *
  go_enter Tryz.func225, Tryz.ntmps225
  go_upto_region 2 with fail
  generalize (w.setCell ⟨B, 1, none⟩ (.int .i64 ((p : Int) + 1))).alloc (.cells #[.int .i64 0, .int .i64 0, .string ⟨#[]⟩, .slice none 0 0] 28) = W0 at *
  have hsz0 : w.heap.size < W0.heap.size := (Array.getElem?_eq_some_iff.1 HZ0.out).1
  clear a1 hfr
  go_wp2_with fail
  refine (HR.out _ HX0.out (HT0.out _ HB0.out)).mono ?_
  have hz1 := HZ0.out
  have hsz1 := hsz0
  clear hsz0 HX0 HR HZ0
  generalize W0 = W1 at *
  cases x with
  | out => rintro e W2 ⟨-, h⟩; exact h.elim
  | bad q =>
    rintro e W2 ⟨hb2, ⟨v, rfl, o, n, s0, a, l, c, rfl⟩, p', hx2⟩
    have hz2 := (hb2.block _ hsz1 (by omega)).trans hz1
    obtain ⟨⟨c0, c1, c2, c3⟩, f0, f1, f2, f3⟩ := four_all hz2
    have HZ2 := Lib.hid hz2
    have HB2 := Lib.hid (HB0.out.trans hb2)
    have HX2 := Lib.hid hx2
    clear hz1 hz2 hb2 hx2
    unfold exV strV
    go_wp2
    refine bodyPost_ret (v := exV o n s0 (.slice a l c)) ?_ rfl ?_
    · have hh := four_all (set4_heap HZ2.out (.int .i64 o) (.int .i64 n) (.string ⟨s0.toArray⟩) (.slice a l c))
      simp [results, Tryz.results225, go_sem, exV, strV, hh.1]
    · exact rres_bad HB2.out hpl HX2.out _ _ _ _
  | ok ex r =>
    rintro e W2 ⟨hb2, ⟨v, rfl, kv, rfl, hK⟩, p', hd2, hx2⟩
    obtain ⟨ka, kc, rfl⟩ := hK.form
    have hz2 := (hb2.block _ hsz1 (by omega)).trans hz1
    obtain ⟨⟨c0, c1, c2, c3⟩, f0, f1, f2, f3⟩ := four_all hz2
    have HZ2 := Lib.hid hz2
    have HB2 := Lib.hid (HB0.out.trans hb2)
    have HX2 := Lib.hid hx2
    have HK2 := Lib.hid (KV.mono (h' := gp (fun b => w.heap.size < b) W2) (gp_le fun b hb hl => ⟨by omega, rfl⟩) hK)
    have HD := Lib.hid hd2
    clear hz1 hz2 hb2 hx2 hK hd2
    unfold exV strV
    go_wp2
    refine bodyPost_ret (v := exV ex.op ex.n ex.s (.slice ka ex.ks.length kc)) ?_ rfl ?_
    · have hh := four_all (set4_heap HZ2.out (.int .i64 ex.op) (.int .i64 ex.n) (.string ⟨ex.s.toArray⟩) (.slice ka ex.ks.length kc))
      simp [results, Tryz.results225, go_sem, exV, strV, hh.1]
    · rw [Ex.eta ex]
      exact rres_ok HB2.out hpl HK2.out HX2.out HD.out _ _ _ _
set_option maxRecDepth 1000000 in
set_option maxHeartbeats 8000000 in
theorem word_cut (B p : Nat) (toks : List Tok) (tv : Value) (w : World) (s : Bs) (h : XS w B tv p (-1)) (hT : TokV (gb B w) tv toks) (hl : toks.length ≤ 1000) (hpt : p < toks.length) (hs : s = wCut) (x : PR)
    (hrec : ∀ W, XS W B tv (p + 1) (-1) → TokV (gb B W) tv toks → Calls Tryz.prog 227 #[.pointer (some ⟨B, 0, none⟩), .int .i64 21, .int .i64 2] W (RRes B tv toks x W)) : Calls Tryz.prog 225 #[.pointer (some ⟨B, 0, none⟩), strV s] w (RRes B tv toks x w) := by
  have hpl := h.cells.2.2.2.2.2
  have i1 : (p : Int) < 1000 := by omega
  have i0 : (0 : Int) ≤ (p : Int) := by omega
  have HX0 := Lib.hid ((h.setI ((p : Int) + 1) (p' := p + 1) (by omega)).alloc (.cells #[.int .i64 0, .int .i64 0, .string ⟨#[]⟩, .slice none 0 0] 28))
  have HB0 := Lib.hid (((But.refl B w).setPb 1 (.int .i64 ((p : Int) + 1))).alloc (.cells #[.int .i64 0, .int .i64 0, .string ⟨#[]⟩, .slice none 0 0] 28))
  have HT0 : Hid (∀ W, But B w W → TokV (gb B W) tv toks) := Lib.hid (fun W hb => SlV.mono hT hb.gb)
  have hz0 := heap_alloc_new (w.setCell ⟨B, 1, none⟩ (.int .i64 ((p : Int) + 1))) (.cells #[.int .i64 0, .int .i64 0, .string ⟨#[]⟩, .slice none 0 0] 28)
  rw [show (w.setCell ⟨B, 1, none⟩ (.int .i64 ((p : Int) + 1))).heap.size = w.heap.size by simp [World.setCell]] at hz0
  have HZ0 := Lib.hid hz0
  obtain ⟨-, c1, -, f1, -, -⟩ := h.cells
  have a1 := cell_old hpl c1
  have hfr : ∀ o : Obj, (w.alloc o).frozen? ⟨B, 1, none⟩ = false := fun o => (h.alloc o).cells.2.2.2.1
  have n1 : ¬ w.heap.size = B := by omega
  have q0 : (s == [116, 114, 117, 101]) = false := beq_eq_false_iff_ne.2 (fun e => by subst e; revert hs; decide)
  have q1 : (s == [102, 97, 108, 115, 101]) = false := beq_eq_false_iff_ne.2 (fun e => by subst e; revert hs; decide)
  have q2 : (s == [105, 102]) = false := beq_eq_false_iff_ne.2 (fun e => by subst e; revert hs; decide)
  have q3 : (s == [108, 101, 110]) = false := beq_eq_false_iff_ne.2 (fun e => by subst e; revert hs; decide)
  have q4 : (s == [99, 97, 116]) = false := beq_eq_false_iff_ne.2 (fun e => by subst e; revert hs; decide)
  have q5 : (s == [99, 117, 116]) = true := by rw [hs]; decide
  have HR := Lib.hid hrec
  clear h hT hz0 c1 f1 hs hrec
  unfold strV at *
  go_enter Tryz.func225, Tryz.ntmps225
  go_upto_region 2 with fail
  generalize (w.setCell ⟨B, 1, none⟩ (.int .i64 ((p : Int) + 1))).alloc (.cells #[.int .i64 0, .int .i64 0, .string ⟨#[]⟩, .slice none 0 0] 28) = W0 at *
  have hsz0 : w.heap.size < W0.heap.size := (Array.getElem?_eq_some_iff.1 HZ0.out).1
  clear a1 hfr
  go_wp2_with fail
  refine (HR.out _ HX0.out (HT0.out _ HB0.out)).mono ?_
  have hz1 := HZ0.out
  have hsz1 := hsz0
  clear hsz0 HX0 HR HZ0
  generalize W0 = W1 at *
  cases x with
  | out => rintro e W2 ⟨-, h⟩; exact h.elim
  | bad q =>
    rintro e W2 ⟨hb2, ⟨v, rfl, o, n, s0, a, l, c, rfl⟩, p', hx2⟩
    have hz2 := (hb2.block _ hsz1 (by omega)).trans hz1
    obtain ⟨⟨c0, c1, c2, c3⟩, f0, f1, f2, f3⟩ := four_all hz2
    have HZ2 := Lib.hid hz2
    have HB2 := Lib.hid (HB0.out.trans hb2)
    have HX2 := Lib.hid hx2
    clear hz1 hz2 hb2 hx2
    unfold exV strV
    go_wp2
    refine bodyPost_ret (v := exV o n s0 (.slice a l c)) ?_ rfl ?_
    · have hh := four_all (set4_heap HZ2.out (.int .i64 o) (.int .i64 n) (.string ⟨s0.toArray⟩) (.slice a l c))
      simp [results, Tryz.results225, go_sem, exV, strV, hh.1]
    · exact rres_bad HB2.out hpl HX2.out _ _ _ _
  | ok ex r =>
    rintro e W2 ⟨hb2, ⟨v, rfl, kv, rfl, hK⟩, p', hd2, hx2⟩
    obtain ⟨ka, kc, rfl⟩ := hK.form
    have hz2 := (hb2.block _ hsz1 (by omega)).trans hz1
    obtain ⟨⟨c0, c1, c2, c3⟩, f0, f1, f2, f3⟩ := four_all hz2
    have HZ2 := Lib.hid hz2
    have HB2 := Lib.hid (HB0.out.trans hb2)
    have HX2 := Lib.hid hx2
    have HK2 := Lib.hid (KV.mono (h' := gp (fun b => w.heap.size < b) W2) (gp_le fun b hb hl => ⟨by omega, rfl⟩) hK)
    have HD := Lib.hid hd2
    clear hz1 hz2 hb2 hx2 hK hd2
    unfold exV strV
    go_wp2
    refine bodyPost_ret (v := exV ex.op ex.n ex.s (.slice ka ex.ks.length kc)) ?_ rfl ?_
    · have hh := four_all (set4_heap HZ2.out (.int .i64 ex.op) (.int .i64 ex.n) (.string ⟨ex.s.toArray⟩) (.slice ka ex.ks.length kc))
      simp [results, Tryz.results225, go_sem, exV, strV, hh.1]
    · rw [Ex.eta ex]
      exact rres_ok HB2.out hpl HK2.out HX2.out HD.out _ _ _ _
set_option maxRecDepth 1000000 in
set_option maxHeartbeats 8000000 in
theorem word_up (B p : Nat) (toks : List Tok) (tv : Value) (w : World) (s : Bs) (h : XS w B tv p (-1)) (hT : TokV (gb B w) tv toks) (hl : toks.length ≤ 1000) (hpt : p < toks.length) (hs : s = wUp) (x : PR)
    (hrec : ∀ W, XS W B tv (p + 1) (-1) → TokV (gb B W) tv toks → Calls Tryz.prog 227 #[.pointer (some ⟨B, 0, none⟩), .int .i64 23, .int .i64 1] W (RRes B tv toks x W)) : Calls Tryz.prog 225 #[.pointer (some ⟨B, 0, none⟩), strV s] w (RRes B tv toks x w) := by
  have hpl := h.cells.2.2.2.2.2
  have i1 : (p : Int) < 1000 := by omega
  have i0 : (0 : Int) ≤ (p : Int) := by omega
  have HX0 := Lib.hid ((h.setI ((p : Int) + 1) (p' := p + 1) (by omega)).alloc (.cells #[.int .i64 0, .int .i64 0, .string ⟨#[]⟩, .slice none 0 0] 28))
  have HB0 := Lib.hid (((But.refl B w).setPb 1 (.int .i64 ((p : Int) + 1))).alloc (.cells #[.int .i64 0, .int .i64 0, .string ⟨#[]⟩, .slice none 0 0] 28))
  have HT0 : Hid (∀ W, But B w W → TokV (gb B W) tv toks) := Lib.hid (fun W hb => SlV.mono hT hb.gb)
  have hz0 := heap_alloc_new (w.setCell ⟨B, 1, none⟩ (.int .i64 ((p : Int) + 1))) (.cells #[.int .i64 0, .int .i64 0, .string ⟨#[]⟩, .slice none 0 0] 28)
  rw [show (w.setCell ⟨B, 1, none⟩ (.int .i64 ((p : Int) + 1))).heap.size = w.heap.size by simp [World.setCell]] at hz0
  have HZ0 := Lib.hid hz0
  obtain ⟨-, c1, -, f1, -, -⟩ := h.cells
  have a1 := cell_old hpl c1
  have hfr : ∀ o : Obj, (w.alloc o).frozen? ⟨B, 1, none⟩ = false := fun o => (h.alloc o).cells.2.2.2.1
  have n1 : ¬ w.heap.size = B := by omega
  have q0 : (s == [116, 114, 117, 101]) = false := beq_eq_false_iff_ne.2 (fun e => by subst e; revert hs; decide)
  have q1 : (s == [102, 97, 108, 115, 101]) = false := beq_eq_false_iff_ne.2 (fun e => by subst e; revert hs; decide)
  have q2 : (s == [105, 102]) = false := beq_eq_false_iff_ne.2 (fun e => by subst e; revert hs; decide)
  have q3 : (s == [108, 101, 110]) = false := beq_eq_false_iff_ne.2 (fun e => by subst e; revert hs; decide)
  have q4 : (s == [99, 97, 116]) = false := beq_eq_false_iff_ne.2 (fun e => by subst e; revert hs; decide)
  have q5 : (s == [99, 117, 116]) = false := beq_eq_false_iff_ne.2 (fun e => by subst e; revert hs; decide)
  have q6 : (s == [117, 112]) = true := by rw [hs]; decide
  have HR := Lib.hid hrec
  clear h hT hz0 c1 f1 hs hrec
  unfold strV at *
  go_enter Tryz.func225, Tryz.ntmps225
  go_upto_region 2 with fail
  generalize (w.setCell ⟨B, 1, none⟩ (.int .i64 ((p : Int) + 1))).alloc (.cells #[.int .i64 0, .int .i64 0, .string ⟨#[]⟩, .slice none 0 0] 28) = W0 at *
  have hsz0 : w.heap.size < W0.heap.size := (Array.getElem?_eq_some_iff.1 HZ0.out).1
  clear a1 hfr
  go_wp2_with fail
  refine (HR.out _ HX0.out (HT0.out _ HB0.out)).mono ?_
  have hz1 := HZ0.out
  have hsz1 := hsz0
  clear hsz0 HX0 HR HZ0
  generalize W0 = W1 at *
  cases x with
  | out => rintro e W2 ⟨-, h⟩; exact h.elim
  | bad q =>
    rintro e W2 ⟨hb2, ⟨v, rfl, o, n, s0, a, l, c, rfl⟩, p', hx2⟩
    have hz2 := (hb2.block _ hsz1 (by omega)).trans hz1
    obtain ⟨⟨c0, c1, c2, c3⟩, f0, f1, f2, f3⟩ := four_all hz2
    have HZ2 := Lib.hid hz2
    have HB2 := Lib.hid (HB0.out.trans hb2)
    have HX2 := Lib.hid hx2
    clear hz1 hz2 hb2 hx2
    unfold exV strV
    go_wp2
    refine bodyPost_ret (v := exV o n s0 (.slice a l c)) ?_ rfl ?_
    · have hh := four_all (set4_heap HZ2.out (.int .i64 o) (.int .i64 n) (.string ⟨s0.toArray⟩) (.slice a l c))
      simp [results, Tryz.results225, go_sem, exV, strV, hh.1]
    · exact rres_bad HB2.out hpl HX2.out _ _ _ _
  | ok ex r =>
    rintro e W2 ⟨hb2, ⟨v, rfl, kv, rfl, hK⟩, p', hd2, hx2⟩
    obtain ⟨ka, kc, rfl⟩ := hK.form
    have hz2 := (hb2.block _ hsz1 (by omega)).trans hz1
    obtain ⟨⟨c0, c1, c2, c3⟩, f0, f1, f2, f3⟩ := four_all hz2
    have HZ2 := Lib.hid hz2
    have HB2 := Lib.hid (HB0.out.trans hb2)
    have HX2 := Lib.hid hx2
    have HK2 := Lib.hid (KV.mono (h' := gp (fun b => w.heap.size < b) W2) (gp_le fun b hb hl => ⟨by omega, rfl⟩) hK)
    have HD := Lib.hid hd2
    clear hz1 hz2 hb2 hx2 hK hd2
    unfold exV strV
    go_wp2
    refine bodyPost_ret (v := exV ex.op ex.n ex.s (.slice ka ex.ks.length kc)) ?_ rfl ?_
    · have hh := four_all (set4_heap HZ2.out (.int .i64 ex.op) (.int .i64 ex.n) (.string ⟨ex.s.toArray⟩) (.slice ka ex.ks.length kc))
      simp [results, Tryz.results225, go_sem, exV, strV, hh.1]
    · rw [Ex.eta ex]
      exact rres_ok HB2.out hpl HK2.out HX2.out HD.out _ _ _ _
set_option maxRecDepth 1000000 in
set_option maxHeartbeats 8000000 in
theorem word_has1 (B p : Nat) (toks : List Tok) (tv : Value) (w : World) (s : Bs) (h : XS w B tv p (-1)) (hT : TokV (gb B w) tv toks) (hl : toks.length ≤ 1000) (hpt : p < toks.length) (hs : s = wHas) (t : Tok) (ht : toks[p + 1]? = some t) (hsg : isSg [40] t = false) : Calls Tryz.prog 225 #[.pointer (some ⟨B, 0, none⟩), strV s] w (RRes B tv toks (.bad t.p) w) := by
  have HM := Lib.hid (fun W h hT => xmust_no [40] B (p + 1) toks t tv W h hT ht hl hsg)
  have hpl := h.cells.2.2.2.2.2
  have i1 : (p : Int) < 1000 := by omega
  have i0 : (0 : Int) ≤ (p : Int) := by omega
  have HX0 := Lib.hid ((h.setI ((p : Int) + 1) (p' := p + 1) (by omega)).alloc (.cells #[.int .i64 0, .int .i64 0, .string ⟨#[]⟩, .slice none 0 0] 28))
  have HB0 := Lib.hid (((But.refl B w).setPb 1 (.int .i64 ((p : Int) + 1))).alloc (.cells #[.int .i64 0, .int .i64 0, .string ⟨#[]⟩, .slice none 0 0] 28))
  have HT0 : Hid (∀ W, But B w W → TokV (gb B W) tv toks) := Lib.hid (fun W hb => SlV.mono hT hb.gb)
  have hz0 := heap_alloc_new (w.setCell ⟨B, 1, none⟩ (.int .i64 ((p : Int) + 1))) (.cells #[.int .i64 0, .int .i64 0, .string ⟨#[]⟩, .slice none 0 0] 28)
  rw [show (w.setCell ⟨B, 1, none⟩ (.int .i64 ((p : Int) + 1))).heap.size = w.heap.size by simp [World.setCell]] at hz0
  have HZ0 := Lib.hid hz0
  obtain ⟨-, c1, -, f1, -, -⟩ := h.cells
  have a1 := cell_old hpl c1
  have hfr : ∀ o : Obj, (w.alloc o).frozen? ⟨B, 1, none⟩ = false := fun o => (h.alloc o).cells.2.2.2.1
  have n1 : ¬ w.heap.size = B := by omega
  have q0 : (s == [116, 114, 117, 101]) = false := beq_eq_false_iff_ne.2 (fun e => by subst e; revert hs; decide)
  have q1 : (s == [102, 97, 108, 115, 101]) = false := beq_eq_false_iff_ne.2 (fun e => by subst e; revert hs; decide)
  have q2 : (s == [105, 102]) = false := beq_eq_false_iff_ne.2 (fun e => by subst e; revert hs; decide)
  have q3 : (s == [108, 101, 110]) = false := beq_eq_false_iff_ne.2 (fun e => by subst e; revert hs; decide)
  have q4 : (s == [99, 97, 116]) = false := beq_eq_false_iff_ne.2 (fun e => by subst e; revert hs; decide)
  have q5 : (s == [99, 117, 116]) = false := beq_eq_false_iff_ne.2 (fun e => by subst e; revert hs; decide)
  have q6 : (s == [117, 112]) = false := beq_eq_false_iff_ne.2 (fun e => by subst e; revert hs; decide)
  have q7 : (s == [104, 97, 115]) = true := by rw [hs]; decide
  clear h hT hz0 c1 f1 hs ht hsg
  unfold strV at *
  go_enter Tryz.func225, Tryz.ntmps225
  go_upto_region 2 with fail
  generalize (w.setCell ⟨B, 1, none⟩ (.int .i64 ((p : Int) + 1))).alloc (.cells #[.int .i64 0, .int .i64 0, .string ⟨#[]⟩, .slice none 0 0] 28) = W0 at *
  have hsz0 : w.heap.size < W0.heap.size := (Array.getElem?_eq_some_iff.1 HZ0.out).1
  clear a1 hfr
  go_wp2_with fail
  refine (HM.out _ HX0.out (HT0.out _ HB0.out)).mono ?_
  rintro e W1 ⟨rfl, hb, hx⟩
  have hz1 := (hb.block _ hsz0 (by omega)).trans HZ0.out
  have HB1 := Lib.hid (HB0.out.trans hb)
  have HX1 := Lib.hid hx
  obtain ⟨c0, c1, c2, f1, f2, -⟩ := hx.cells
  have i5 : (0 : Int) ≤ (t.p : Int) := by omega
  clear hb hx HZ0 HB0 HX0 HM hsz0
  obtain ⟨⟨g0, g1, g2, g3⟩, e0, e1, e2, e3⟩ := four_all hz1
  have HZF := Lib.hid hz1
  go_wp2
  refine bodyPost_ret (v := exV 0 0 [] (.slice none 0 0)) ?_ rfl ?_
  · have hh := four_all (set4_heap HZF.out (.int .i64 0) (.int .i64 0) (.string ⟨#[]⟩) (.slice none 0 0))
    simp [results, Tryz.results225, go_sem, exV, strV, hh.1]
  · exact rres_bad HB1.out hpl HX1.out _ _ _ _
set_option maxRecDepth 1000000 in
set_option maxHeartbeats 8000000 in
theorem word_has2a (B p : Nat) (toks : List Tok) (tv : Value) (w : World) (s : Bs) (h : XS w B tv p (-1)) (hT : TokV (gb B w) tv toks) (hl : toks.length ≤ 1000) (hpt : p < toks.length) (hs : s = wHas) (t0 t : Tok) (ht0 : toks[p + 1]? = some t0) (hs0 : isSg [40] t0 = true) (ht : toks[p + 1 + 1]? = some t) (hres : ∀ (s : Bs) (w : World), Calls Tryz.prog 163 #[.string ⟨s.toArray⟩] w fun e w' => e = .returned (.bool (word s)) ∧ Below w.heap.size w w') (hk : t.k ≠ 3) : Calls Tryz.prog 225 #[.pointer (some ⟨B, 0, none⟩), strV s] w (RRes B tv toks (.bad t.p) w) := by
  have HM := Lib.hid (fun W h hT => xmust_yes [40] B (p + 1) toks t0 tv W h hT ht0 hl hs0)
  have HK := Lib.hid (fun W h hT => xtok_any B (p + 1 + 1) (-1) toks t tv W h hT ht hl)
  have HRS := Lib.hid (hres t.s)
  unfold tokV strV at HK
  have K3 : (t.k != 3) = true := bne_iff_ne.2 hk
  have HW := Lib.hid (fun W h hT => xwrong_any B (p + 1 + 1) toks t tv W h hT ht hl)
  have hpl := h.cells.2.2.2.2.2
  have i1 : (p : Int) < 1000 := by omega
  have i0 : (0 : Int) ≤ (p : Int) := by omega
  have HX0 := Lib.hid ((h.setI ((p : Int) + 1) (p' := p + 1) (by omega)).alloc (.cells #[.int .i64 0, .int .i64 0, .string ⟨#[]⟩, .slice none 0 0] 28))
  have HB0 := Lib.hid (((But.refl B w).setPb 1 (.int .i64 ((p : Int) + 1))).alloc (.cells #[.int .i64 0, .int .i64 0, .string ⟨#[]⟩, .slice none 0 0] 28))
  have HT0 : Hid (∀ W, But B w W → TokV (gb B W) tv toks) := Lib.hid (fun W hb => SlV.mono hT hb.gb)
  have hz0 := heap_alloc_new (w.setCell ⟨B, 1, none⟩ (.int .i64 ((p : Int) + 1))) (.cells #[.int .i64 0, .int .i64 0, .string ⟨#[]⟩, .slice none 0 0] 28)
  rw [show (w.setCell ⟨B, 1, none⟩ (.int .i64 ((p : Int) + 1))).heap.size = w.heap.size by simp [World.setCell]] at hz0
  have HZ0 := Lib.hid hz0
  obtain ⟨-, c1, -, f1, -, -⟩ := h.cells
  have a1 := cell_old hpl c1
  have hfr : ∀ o : Obj, (w.alloc o).frozen? ⟨B, 1, none⟩ = false := fun o => (h.alloc o).cells.2.2.2.1
  have n1 : ¬ w.heap.size = B := by omega
  have q0 : (s == [116, 114, 117, 101]) = false := beq_eq_false_iff_ne.2 (fun e => by subst e; revert hs; decide)
  have q1 : (s == [102, 97, 108, 115, 101]) = false := beq_eq_false_iff_ne.2 (fun e => by subst e; revert hs; decide)
  have q2 : (s == [105, 102]) = false := beq_eq_false_iff_ne.2 (fun e => by subst e; revert hs; decide)
  have q3 : (s == [108, 101, 110]) = false := beq_eq_false_iff_ne.2 (fun e => by subst e; revert hs; decide)
  have q4 : (s == [99, 97, 116]) = false := beq_eq_false_iff_ne.2 (fun e => by subst e; revert hs; decide)
  have q5 : (s == [99, 117, 116]) = false := beq_eq_false_iff_ne.2 (fun e => by subst e; revert hs; decide)
  have q6 : (s == [117, 112]) = false := beq_eq_false_iff_ne.2 (fun e => by subst e; revert hs; decide)
  have q7 : (s == [104, 97, 115]) = true := by rw [hs]; decide
  clear h hT hz0 c1 f1 hs ht0 hs0 ht hk hres
  unfold strV at *
  go_enter Tryz.func225, Tryz.ntmps225
  go_upto_region 2 with fail
  generalize (w.setCell ⟨B, 1, none⟩ (.int .i64 ((p : Int) + 1))).alloc (.cells #[.int .i64 0, .int .i64 0, .string ⟨#[]⟩, .slice none 0 0] 28) = W0 at *
  have hsz0 : w.heap.size < W0.heap.size := (Array.getElem?_eq_some_iff.1 HZ0.out).1
  clear a1 hfr
  go_wp2_with fail
  refine (HM.out _ HX0.out (HT0.out _ HB0.out)).mono ?_
  rintro e W1 ⟨rfl, hb, hx⟩
  have hz1 := (hb.block _ hsz0 (by omega)).trans HZ0.out
  have hsz1 : w.heap.size < W1.heap.size := (Array.getElem?_eq_some_iff.1 hz1).1
  have HB1 := Lib.hid (HB0.out.trans hb)
  have HX1 := Lib.hid hx
  obtain ⟨c0, c1, c2, f1, f2, -⟩ := hx.cells
  clear hb hx HZ0 HB0 HX0 HM hsz0
  go_wp2_with fail
  refine (HK.out _ HX1.out (HT0.out _ HB1.out)).mono ?_
  rintro e W2 ⟨rfl, hb⟩
  have hz2 := (hb.block _ hsz1).trans hz1
  have hsz2 : w.heap.size < W2.heap.size := (Array.getElem?_eq_some_iff.1 hz2).1
  have HB3 := Lib.hid ((HB1.out.call hb).alloc (.cells #[.int .i64 t.k, .string ⟨t.s.toArray⟩, .int .i64 t.n, .int .i64 t.p] 61))
  have HX3 := Lib.hid ((HX1.out.keep hb).alloc (.cells #[.int .i64 t.k, .string ⟨t.s.toArray⟩, .int .i64 t.n, .int .i64 t.p] 61))
  have hz3 := (Lib.alloc_old W2 (.cells #[.int .i64 t.k, .string ⟨t.s.toArray⟩, .int .i64 t.n, .int .i64 t.p] 61) _ hsz2).trans hz2
  have ht3 := heap_alloc_new W2 (.cells #[.int .i64 t.k, .string ⟨t.s.toArray⟩, .int .i64 t.n, .int .i64 t.p] 61)
  clear hb c0 c1 c2 f1 f2 hz1 hz2 HB1 HX1 HK hsz1
  go_upto_region 22 with fail
  generalize W2.alloc (.cells #[.int .i64 t.k, .string ⟨t.s.toArray⟩, .int .i64 t.n, .int .i64 t.p] 61) = W3 at *
  have hsz3 : w.heap.size < W3.heap.size := (Array.getElem?_eq_some_iff.1 hz3).1
  have hszt : W2.heap.size < W3.heap.size := (Array.getElem?_eq_some_iff.1 ht3).1
  have hne2 : W2.heap.size ≠ w.heap.size := by omega
  obtain ⟨⟨d0, d1, d2, d3⟩, -⟩ := four_all ht3
  have HB4 := HB3
  have HX4 := HX3
  have hz4 := hz3
  have hsz4 := hsz3
  go_wp2_with fail
  refine (HW.out _ HX4.out (HT0.out _ HB4.out)).mono ?_
  rintro e W5 ⟨rfl, hb, hx⟩
  have hz5 := (hb.block _ hsz4 (by omega)).trans hz4
  have HB5 := Lib.hid (HB4.out.trans hb)
  have HX5 := Lib.hid hx
  clear hb hx
  unfold exV strV
  obtain ⟨⟨g0, g1, g2, g3⟩, e0, e1, e2, e3⟩ := four_all hz5
  have HZF := Lib.hid hz5
  go_wp2
  refine bodyPost_ret (v := exV 0 0 [] (.slice none 0 0)) ?_ rfl ?_
  · have hh := four_all (set4_heap HZF.out (.int .i64 0) (.int .i64 0) (.string ⟨#[]⟩) (.slice none 0 0))
    simp [results, Tryz.results225, go_sem, exV, strV, hh.1]
  · exact rres_bad HB5.out hpl HX5.out _ _ _ _
set_option maxRecDepth 1000000 in
set_option maxHeartbeats 8000000 in
theorem word_has2b (B p : Nat) (toks : List Tok) (tv : Value) (w : World) (s : Bs) (h : XS w B tv p (-1)) (hT : TokV (gb B w) tv toks) (hl : toks.length ≤ 1000) (hpt : p < toks.length) (hs : s = wHas) (t0 t : Tok) (ht0 : toks[p + 1]? = some t0) (hs0 : isSg [40] t0 = true) (ht : toks[p + 1 + 1]? = some t) (hres : ∀ (s : Bs) (w : World), Calls Tryz.prog 163 #[.string ⟨s.toArray⟩] w fun e w' => e = .returned (.bool (word s)) ∧ Below w.heap.size w w') (hk : t.k = 3 ∧ word t.s = true) : Calls Tryz.prog 225 #[.pointer (some ⟨B, 0, none⟩), strV s] w (RRes B tv toks (.bad t.p) w) := by
  have HM := Lib.hid (fun W h hT => xmust_yes [40] B (p + 1) toks t0 tv W h hT ht0 hl hs0)
  have HK := Lib.hid (fun W h hT => xtok_any B (p + 1 + 1) (-1) toks t tv W h hT ht hl)
  have HRS := Lib.hid (hres t.s)
  unfold tokV strV at HK
  have K3 : (t.k != 3) = false := by simp [hk.1]
  rw [hk.2] at HRS
  have HW := Lib.hid (fun W h hT => xwrong_any B (p + 1 + 1) toks t tv W h hT ht hl)
  have hpl := h.cells.2.2.2.2.2
  have i1 : (p : Int) < 1000 := by omega
  have i0 : (0 : Int) ≤ (p : Int) := by omega
  have HX0 := Lib.hid ((h.setI ((p : Int) + 1) (p' := p + 1) (by omega)).alloc (.cells #[.int .i64 0, .int .i64 0, .string ⟨#[]⟩, .slice none 0 0] 28))
  have HB0 := Lib.hid (((But.refl B w).setPb 1 (.int .i64 ((p : Int) + 1))).alloc (.cells #[.int .i64 0, .int .i64 0, .string ⟨#[]⟩, .slice none 0 0] 28))
  have HT0 : Hid (∀ W, But B w W → TokV (gb B W) tv toks) := Lib.hid (fun W hb => SlV.mono hT hb.gb)
  have hz0 := heap_alloc_new (w.setCell ⟨B, 1, none⟩ (.int .i64 ((p : Int) + 1))) (.cells #[.int .i64 0, .int .i64 0, .string ⟨#[]⟩, .slice none 0 0] 28)
  rw [show (w.setCell ⟨B, 1, none⟩ (.int .i64 ((p : Int) + 1))).heap.size = w.heap.size by simp [World.setCell]] at hz0
  have HZ0 := Lib.hid hz0
  obtain ⟨-, c1, -, f1, -, -⟩ := h.cells
  have a1 := cell_old hpl c1
  have hfr : ∀ o : Obj, (w.alloc o).frozen? ⟨B, 1, none⟩ = false := fun o => (h.alloc o).cells.2.2.2.1
  have n1 : ¬ w.heap.size = B := by omega
  have q0 : (s == [116, 114, 117, 101]) = false := beq_eq_false_iff_ne.2 (fun e => by subst e; revert hs; decide)
  have q1 : (s == [102, 97, 108, 115, 101]) = false := beq_eq_false_iff_ne.2 (fun e => by subst e; revert hs; decide)
  have q2 : (s == [105, 102]) = false := beq_eq_false_iff_ne.2 (fun e => by subst e; revert hs; decide)
  have q3 : (s == [108, 101, 110]) = false := beq_eq_false_iff_ne.2 (fun e => by subst e; revert hs; decide)
  have q4 : (s == [99, 97, 116]) = false := beq_eq_false_iff_ne.2 (fun e => by subst e; revert hs; decide)
  have q5 : (s == [99, 117, 116]) = false := beq_eq_false_iff_ne.2 (fun e => by subst e; revert hs; decide)
  have q6 : (s == [117, 112]) = false := beq_eq_false_iff_ne.2 (fun e => by subst e; revert hs; decide)
  have q7 : (s == [104, 97, 115]) = true := by rw [hs]; decide
  clear h hT hz0 c1 f1 hs ht0 hs0 ht hk hres
  unfold strV at *
  go_enter Tryz.func225, Tryz.ntmps225
  go_upto_region 2 with fail
  generalize (w.setCell ⟨B, 1, none⟩ (.int .i64 ((p : Int) + 1))).alloc (.cells #[.int .i64 0, .int .i64 0, .string ⟨#[]⟩, .slice none 0 0] 28) = W0 at *
  have hsz0 : w.heap.size < W0.heap.size := (Array.getElem?_eq_some_iff.1 HZ0.out).1
  clear a1 hfr
  go_wp2_with fail
  refine (HM.out _ HX0.out (HT0.out _ HB0.out)).mono ?_
  rintro e W1 ⟨rfl, hb, hx⟩
  have hz1 := (hb.block _ hsz0 (by omega)).trans HZ0.out
  have hsz1 : w.heap.size < W1.heap.size := (Array.getElem?_eq_some_iff.1 hz1).1
  have HB1 := Lib.hid (HB0.out.trans hb)
  have HX1 := Lib.hid hx
  obtain ⟨c0, c1, c2, f1, f2, -⟩ := hx.cells
  clear hb hx HZ0 HB0 HX0 HM hsz0
  go_wp2_with fail
  refine (HK.out _ HX1.out (HT0.out _ HB1.out)).mono ?_
  rintro e W2 ⟨rfl, hb⟩
  have hz2 := (hb.block _ hsz1).trans hz1
  have hsz2 : w.heap.size < W2.heap.size := (Array.getElem?_eq_some_iff.1 hz2).1
  have HB3 := Lib.hid ((HB1.out.call hb).alloc (.cells #[.int .i64 t.k, .string ⟨t.s.toArray⟩, .int .i64 t.n, .int .i64 t.p] 61))
  have HX3 := Lib.hid ((HX1.out.keep hb).alloc (.cells #[.int .i64 t.k, .string ⟨t.s.toArray⟩, .int .i64 t.n, .int .i64 t.p] 61))
  have hz3 := (Lib.alloc_old W2 (.cells #[.int .i64 t.k, .string ⟨t.s.toArray⟩, .int .i64 t.n, .int .i64 t.p] 61) _ hsz2).trans hz2
  have ht3 := heap_alloc_new W2 (.cells #[.int .i64 t.k, .string ⟨t.s.toArray⟩, .int .i64 t.n, .int .i64 t.p] 61)
  clear hb c0 c1 c2 f1 f2 hz1 hz2 HB1 HX1 HK hsz1
  go_upto_region 22 with fail
  generalize W2.alloc (.cells #[.int .i64 t.k, .string ⟨t.s.toArray⟩, .int .i64 t.n, .int .i64 t.p] 61) = W3 at *
  have hsz3 : w.heap.size < W3.heap.size := (Array.getElem?_eq_some_iff.1 hz3).1
  have hszt : W2.heap.size < W3.heap.size := (Array.getElem?_eq_some_iff.1 ht3).1
  have hne2 : W2.heap.size ≠ w.heap.size := by omega
  obtain ⟨⟨d0, d1, d2, d3⟩, -⟩ := four_all ht3
  go_wp2_with fail
  refine (HRS.out _).mono ?_
  rintro e W4 ⟨rfl, hb⟩
  have hz4 := (hb.block _ hsz3).trans hz3
  have hsz4 : w.heap.size < W4.heap.size := (Array.getElem?_eq_some_iff.1 hz4).1
  have HB4 := Lib.hid (HB3.out.call hb)
  have HX4 := Lib.hid (HX3.out.keep hb)
  clear hb hz3 ht3 hsz3 d0 d1 d2 d3 HB3 HX3 hszt
  go_wp2_with fail
  refine (HW.out _ HX4.out (HT0.out _ HB4.out)).mono ?_
  rintro e W5 ⟨rfl, hb, hx⟩
  have hz5 := (hb.block _ hsz4 (by omega)).trans hz4
  have HB5 := Lib.hid (HB4.out.trans hb)
  have HX5 := Lib.hid hx
  clear hb hx
  unfold exV strV
  obtain ⟨⟨g0, g1, g2, g3⟩, e0, e1, e2, e3⟩ := four_all hz5
  have HZF := Lib.hid hz5
  go_wp2
  refine bodyPost_ret (v := exV 0 0 [] (.slice none 0 0)) ?_ rfl ?_
  · have hh := four_all (set4_heap HZF.out (.int .i64 0) (.int .i64 0) (.string ⟨#[]⟩) (.slice none 0 0))
    simp [results, Tryz.results225, go_sem, exV, strV, hh.1]
  · exact rres_bad HB5.out hpl HX5.out _ _ _ _
set_option maxRecDepth 1000000 in
set_option maxHeartbeats 8000000 in
theorem word_has3 (B p : Nat) (toks : List Tok) (tv : Value) (w : World) (s : Bs) (h : XS w B tv p (-1)) (hT : TokV (gb B w) tv toks) (hl : toks.length ≤ 1000) (hpt : p < toks.length) (hs : s = wHas) (t0 t : Tok) (ht0 : toks[p + 1]? = some t0) (hs0 : isSg [40] t0 = true) (ht : toks[p + 1 + 1]? = some t) (hres : ∀ (s : Bs) (w : World), Calls Tryz.prog 163 #[.string ⟨s.toArray⟩] w fun e w' => e = .returned (.bool (word s)) ∧ Below w.heap.size w w') (hk : t.k = 3) (hw : word t.s = false) (t3 : Tok) (ht3 : toks[p + 1 + 1 + 1]? = some t3) (hs3 : isSg [41] t3 = false) : Calls Tryz.prog 225 #[.pointer (some ⟨B, 0, none⟩), strV s] w (RRes B tv toks (.bad t3.p) w) := by
  have HM := Lib.hid (fun W h hT => xmust_yes [40] B (p + 1) toks t0 tv W h hT ht0 hl hs0)
  have HK := Lib.hid (fun W h hT => xtok_any B (p + 1 + 1) (-1) toks t tv W h hT ht hl)
  have HRS := Lib.hid (hres t.s)
  unfold tokV strV at HK
  have K3 : (t.k != 3) = false := by simp [hk]
  rw [hw] at HRS
  have j1 : (p : Int) + 1 + 1 < 1000 := by have := (List.getElem?_eq_some_iff.1 ht).1; omega
  have HM3 := Lib.hid (fun W h hT => xmust_no [41] B (p + 1 + 1 + 1) toks t3 tv W h hT ht3 hl hs3)
  have hpl := h.cells.2.2.2.2.2
  have i1 : (p : Int) < 1000 := by omega
  have i0 : (0 : Int) ≤ (p : Int) := by omega
  have HX0 := Lib.hid ((h.setI ((p : Int) + 1) (p' := p + 1) (by omega)).alloc (.cells #[.int .i64 0, .int .i64 0, .string ⟨#[]⟩, .slice none 0 0] 28))
  have HB0 := Lib.hid (((But.refl B w).setPb 1 (.int .i64 ((p : Int) + 1))).alloc (.cells #[.int .i64 0, .int .i64 0, .string ⟨#[]⟩, .slice none 0 0] 28))
  have HT0 : Hid (∀ W, But B w W → TokV (gb B W) tv toks) := Lib.hid (fun W hb => SlV.mono hT hb.gb)
  have hz0 := heap_alloc_new (w.setCell ⟨B, 1, none⟩ (.int .i64 ((p : Int) + 1))) (.cells #[.int .i64 0, .int .i64 0, .string ⟨#[]⟩, .slice none 0 0] 28)
  rw [show (w.setCell ⟨B, 1, none⟩ (.int .i64 ((p : Int) + 1))).heap.size = w.heap.size by simp [World.setCell]] at hz0
  have HZ0 := Lib.hid hz0
  obtain ⟨-, c1, -, f1, -, -⟩ := h.cells
  have a1 := cell_old hpl c1
  have hfr : ∀ o : Obj, (w.alloc o).frozen? ⟨B, 1, none⟩ = false := fun o => (h.alloc o).cells.2.2.2.1
  have n1 : ¬ w.heap.size = B := by omega
  have q0 : (s == [116, 114, 117, 101]) = false := beq_eq_false_iff_ne.2 (fun e => by subst e; revert hs; decide)
  have q1 : (s == [102, 97, 108, 115, 101]) = false := beq_eq_false_iff_ne.2 (fun e => by subst e; revert hs; decide)
  have q2 : (s == [105, 102]) = false := beq_eq_false_iff_ne.2 (fun e => by subst e; revert hs; decide)
  have q3 : (s == [108, 101, 110]) = false := beq_eq_false_iff_ne.2 (fun e => by subst e; revert hs; decide)
  have q4 : (s == [99, 97, 116]) = false := beq_eq_false_iff_ne.2 (fun e => by subst e; revert hs; decide)
  have q5 : (s == [99, 117, 116]) = false := beq_eq_false_iff_ne.2 (fun e => by subst e; revert hs; decide)
  have q6 : (s == [117, 112]) = false := beq_eq_false_iff_ne.2 (fun e => by subst e; revert hs; decide)
  have q7 : (s == [104, 97, 115]) = true := by rw [hs]; decide
  clear h hT hz0 c1 f1 hs ht0 hs0 ht hk hw ht3 hs3 hres
  unfold strV at *
  go_enter Tryz.func225, Tryz.ntmps225
  go_upto_region 2 with fail
  generalize (w.setCell ⟨B, 1, none⟩ (.int .i64 ((p : Int) + 1))).alloc (.cells #[.int .i64 0, .int .i64 0, .string ⟨#[]⟩, .slice none 0 0] 28) = W0 at *
  have hsz0 : w.heap.size < W0.heap.size := (Array.getElem?_eq_some_iff.1 HZ0.out).1
  clear a1 hfr
  go_wp2_with fail
  refine (HM.out _ HX0.out (HT0.out _ HB0.out)).mono ?_
  rintro e W1 ⟨rfl, hb, hx⟩
  have hz1 := (hb.block _ hsz0 (by omega)).trans HZ0.out
  have hsz1 : w.heap.size < W1.heap.size := (Array.getElem?_eq_some_iff.1 hz1).1
  have HB1 := Lib.hid (HB0.out.trans hb)
  have HX1 := Lib.hid hx
  obtain ⟨c0, c1, c2, f1, f2, -⟩ := hx.cells
  clear hb hx HZ0 HB0 HX0 HM hsz0
  go_wp2_with fail
  refine (HK.out _ HX1.out (HT0.out _ HB1.out)).mono ?_
  rintro e W2 ⟨rfl, hb⟩
  have hz2 := (hb.block _ hsz1).trans hz1
  have hsz2 : w.heap.size < W2.heap.size := (Array.getElem?_eq_some_iff.1 hz2).1
  have HB3 := Lib.hid ((HB1.out.call hb).alloc (.cells #[.int .i64 t.k, .string ⟨t.s.toArray⟩, .int .i64 t.n, .int .i64 t.p] 61))
  have HX3 := Lib.hid ((HX1.out.keep hb).alloc (.cells #[.int .i64 t.k, .string ⟨t.s.toArray⟩, .int .i64 t.n, .int .i64 t.p] 61))
  have hz3 := (Lib.alloc_old W2 (.cells #[.int .i64 t.k, .string ⟨t.s.toArray⟩, .int .i64 t.n, .int .i64 t.p] 61) _ hsz2).trans hz2
  have ht3 := heap_alloc_new W2 (.cells #[.int .i64 t.k, .string ⟨t.s.toArray⟩, .int .i64 t.n, .int .i64 t.p] 61)
  clear hb c0 c1 c2 f1 f2 hz1 hz2 HB1 HX1 HK hsz1
  go_upto_region 22 with fail
  generalize W2.alloc (.cells #[.int .i64 t.k, .string ⟨t.s.toArray⟩, .int .i64 t.n, .int .i64 t.p] 61) = W3 at *
  have hsz3 : w.heap.size < W3.heap.size := (Array.getElem?_eq_some_iff.1 hz3).1
  have hszt : W2.heap.size < W3.heap.size := (Array.getElem?_eq_some_iff.1 ht3).1
  have hne2 : W2.heap.size ≠ w.heap.size := by omega
  obtain ⟨⟨d0, d1, d2, d3⟩, -⟩ := four_all ht3
  go_wp2_with fail
  refine (HRS.out _).mono ?_
  rintro e W4 ⟨rfl, hb⟩
  have hz4 := (hb.block _ hsz3).trans hz3
  have ht4 := (hb.block _ hszt).trans ht3
  have HB4 := Lib.hid (HB3.out.call hb)
  have HX4 := Lib.hid (HX3.out.keep hb)
  clear hb hz3 ht3 hsz3 d0 d1 d2 d3 HB3 HX3 hszt
  obtain ⟨c0, c1, c2, f1, f2, -⟩ := HX4.out.cells
  have HX5 := Lib.hid (HX4.out.setI ((p : Int) + 1 + 1 + 1) (p' := p + 1 + 1 + 1) (by omega))
  have HB5 := Lib.hid (HB4.out.setPb 1 (.int .i64 ((p : Int) + 1 + 1 + 1)))
  have hz5 := (Below.heap_setCell W4 ⟨B, 1, none⟩ (.int .i64 ((p : Int) + 1 + 1 + 1)) w.heap.size (fun e => n1 e)).trans hz4
  have ht5 := (Below.heap_setCell W4 ⟨B, 1, none⟩ (.int .i64 ((p : Int) + 1 + 1 + 1)) W2.heap.size (fun e => by have e : W2.heap.size = B := e; omega)).trans ht4
  clear hz4 ht4 HX4 HB4
  go_upto_region 25 with fail
  generalize W4.setCell ⟨B, 1, none⟩ (.int .i64 ((p : Int) + 1 + 1 + 1)) = W5 at *
  have hsz5 : w.heap.size < W5.heap.size := (Array.getElem?_eq_some_iff.1 hz5).1
  have hszt : W2.heap.size < W5.heap.size := (Array.getElem?_eq_some_iff.1 ht5).1
  clear c0 c1 c2 f1 f2
  go_wp2_with fail
  refine (HM3.out _ HX5.out (HT0.out _ HB5.out)).mono ?_
  rintro e W6 ⟨rfl, hb, hx⟩
  have hz6 := (hb.block _ hsz5 (by omega)).trans hz5
  have ht6 := (hb.block _ hszt (by omega)).trans ht5
  have HB6 := Lib.hid (HB5.out.trans hb)
  have HX6 := Lib.hid hx
  have HS6 := Lib.hid (Array.getElem?_eq_some_iff.1 hz6).1
  obtain ⟨⟨d0, d1, d2, d3⟩, -⟩ := four_all ht6
  obtain ⟨⟨g0, g1, g2, g3⟩, e0, e1, e2, e3⟩ := four_new hz6
  have HZ7 := Lib.hid ((Lib.alloc_old W6 (.cells #[.int .i64 4, .int .i64 0, .string ⟨t.s.toArray⟩, .slice none 0 0] 28) _ HS6.out).trans hz6)
  clear hb hx hz5 ht5 hz6 ht6 hsz5 hszt hsz2
  go_wp2
  refine bodyPost_ret (v := exV 22 0 [] (.slice (some ⟨W6.heap.size, 0, none⟩) 1 1)) ?_ rfl ?_
  · have hh := four_all (set4_heap HZ7.out (.int .i64 22) (.int .i64 0) (.string ⟨#[]⟩) (.slice (some ⟨W6.heap.size, 0, none⟩) 1 1))
    simp [results, Tryz.results225, go_sem, exV, strV, hh.1]
  · exact rres_bad (HB6.out.alloc _) hpl (HX6.out.alloc _) _ _ _ _
set_option maxRecDepth 1000000 in
set_option maxHeartbeats 8000000 in
theorem word_has4 (B p : Nat) (toks : List Tok) (tv : Value) (w : World) (s : Bs) (h : XS w B tv p (-1)) (hT : TokV (gb B w) tv toks) (hl : toks.length ≤ 1000) (hpt : p < toks.length) (hs : s = wHas) (t0 t : Tok) (ht0 : toks[p + 1]? = some t0) (hs0 : isSg [40] t0 = true) (ht : toks[p + 1 + 1]? = some t) (hres : ∀ (s : Bs) (w : World), Calls Tryz.prog 163 #[.string ⟨s.toArray⟩] w fun e w' => e = .returned (.bool (word s)) ∧ Below w.heap.size w w') (hk : t.k = 3) (hw : word t.s = false) (t3 : Tok) (ht3 : toks[p + 1 + 1 + 1]? = some t3) (hs3 : isSg [41] t3 = true) : Calls Tryz.prog 225 #[.pointer (some ⟨B, 0, none⟩), strV s] w (RRes B tv toks (.ok (.mk 22 0 [] [.mk 4 0 t.s []]) (toks.drop (p + 4))) w) := by
  have HM := Lib.hid (fun W h hT => xmust_yes [40] B (p + 1) toks t0 tv W h hT ht0 hl hs0)
  have HK := Lib.hid (fun W h hT => xtok_any B (p + 1 + 1) (-1) toks t tv W h hT ht hl)
  have HRS := Lib.hid (hres t.s)
  unfold tokV strV at HK
  have K3 : (t.k != 3) = false := by simp [hk]
  rw [hw] at HRS
  have j1 : (p : Int) + 1 + 1 < 1000 := by have := (List.getElem?_eq_some_iff.1 ht).1; omega
  have HM3 := Lib.hid (fun W h hT => xmust_yes [41] B (p + 1 + 1 + 1) toks t3 tv W h hT ht3 hl hs3)
  have hpl := h.cells.2.2.2.2.2
  have i1 : (p : Int) < 1000 := by omega
  have i0 : (0 : Int) ≤ (p : Int) := by omega
  have HX0 := Lib.hid ((h.setI ((p : Int) + 1) (p' := p + 1) (by omega)).alloc (.cells #[.int .i64 0, .int .i64 0, .string ⟨#[]⟩, .slice none 0 0] 28))
  have HB0 := Lib.hid (((But.refl B w).setPb 1 (.int .i64 ((p : Int) + 1))).alloc (.cells #[.int .i64 0, .int .i64 0, .string ⟨#[]⟩, .slice none 0 0] 28))
  have HT0 : Hid (∀ W, But B w W → TokV (gb B W) tv toks) := Lib.hid (fun W hb => SlV.mono hT hb.gb)
  have hz0 := heap_alloc_new (w.setCell ⟨B, 1, none⟩ (.int .i64 ((p : Int) + 1))) (.cells #[.int .i64 0, .int .i64 0, .string ⟨#[]⟩, .slice none 0 0] 28)
  rw [show (w.setCell ⟨B, 1, none⟩ (.int .i64 ((p : Int) + 1))).heap.size = w.heap.size by simp [World.setCell]] at hz0
  have HZ0 := Lib.hid hz0
  obtain ⟨-, c1, -, f1, -, -⟩ := h.cells
  have a1 := cell_old hpl c1
  have hfr : ∀ o : Obj, (w.alloc o).frozen? ⟨B, 1, none⟩ = false := fun o => (h.alloc o).cells.2.2.2.1
  have n1 : ¬ w.heap.size = B := by omega
  have q0 : (s == [116, 114, 117, 101]) = false := beq_eq_false_iff_ne.2 (fun e => by subst e; revert hs; decide)
  have q1 : (s == [102, 97, 108, 115, 101]) = false := beq_eq_false_iff_ne.2 (fun e => by subst e; revert hs; decide)
  have q2 : (s == [105, 102]) = false := beq_eq_false_iff_ne.2 (fun e => by subst e; revert hs; decide)
  have q3 : (s == [108, 101, 110]) = false := beq_eq_false_iff_ne.2 (fun e => by subst e; revert hs; decide)
  have q4 : (s == [99, 97, 116]) = false := beq_eq_false_iff_ne.2 (fun e => by subst e; revert hs; decide)
  have q5 : (s == [99, 117, 116]) = false := beq_eq_false_iff_ne.2 (fun e => by subst e; revert hs; decide)
  have q6 : (s == [117, 112]) = false := beq_eq_false_iff_ne.2 (fun e => by subst e; revert hs; decide)
  have q7 : (s == [104, 97, 115]) = true := by rw [hs]; decide
  clear h hT hz0 c1 f1 hs ht0 hs0 ht hk hw ht3 hs3 hres
  unfold strV at *
  go_enter Tryz.func225, Tryz.ntmps225
  go_upto_region 2 with fail
  generalize (w.setCell ⟨B, 1, none⟩ (.int .i64 ((p : Int) + 1))).alloc (.cells #[.int .i64 0, .int .i64 0, .string ⟨#[]⟩, .slice none 0 0] 28) = W0 at *
  have hsz0 : w.heap.size < W0.heap.size := (Array.getElem?_eq_some_iff.1 HZ0.out).1
  clear a1 hfr
  go_wp2_with fail
  refine (HM.out _ HX0.out (HT0.out _ HB0.out)).mono ?_
  rintro e W1 ⟨rfl, hb, hx⟩
  have hz1 := (hb.block _ hsz0 (by omega)).trans HZ0.out
  have hsz1 : w.heap.size < W1.heap.size := (Array.getElem?_eq_some_iff.1 hz1).1
  have HB1 := Lib.hid (HB0.out.trans hb)
  have HX1 := Lib.hid hx
  obtain ⟨c0, c1, c2, f1, f2, -⟩ := hx.cells
  clear hb hx HZ0 HB0 HX0 HM hsz0
  go_wp2_with fail
  refine (HK.out _ HX1.out (HT0.out _ HB1.out)).mono ?_
  rintro e W2 ⟨rfl, hb⟩
  have hz2 := (hb.block _ hsz1).trans hz1
  have hsz2 : w.heap.size < W2.heap.size := (Array.getElem?_eq_some_iff.1 hz2).1
  have HB3 := Lib.hid ((HB1.out.call hb).alloc (.cells #[.int .i64 t.k, .string ⟨t.s.toArray⟩, .int .i64 t.n, .int .i64 t.p] 61))
  have HX3 := Lib.hid ((HX1.out.keep hb).alloc (.cells #[.int .i64 t.k, .string ⟨t.s.toArray⟩, .int .i64 t.n, .int .i64 t.p] 61))
  have hz3 := (Lib.alloc_old W2 (.cells #[.int .i64 t.k, .string ⟨t.s.toArray⟩, .int .i64 t.n, .int .i64 t.p] 61) _ hsz2).trans hz2
  have ht3 := heap_alloc_new W2 (.cells #[.int .i64 t.k, .string ⟨t.s.toArray⟩, .int .i64 t.n, .int .i64 t.p] 61)
  clear hb c0 c1 c2 f1 f2 hz1 hz2 HB1 HX1 HK hsz1
  go_upto_region 22 with fail
  generalize W2.alloc (.cells #[.int .i64 t.k, .string ⟨t.s.toArray⟩, .int .i64 t.n, .int .i64 t.p] 61) = W3 at *
  have hsz3 : w.heap.size < W3.heap.size := (Array.getElem?_eq_some_iff.1 hz3).1
  have hszt : W2.heap.size < W3.heap.size := (Array.getElem?_eq_some_iff.1 ht3).1
  have hne2 : W2.heap.size ≠ w.heap.size := by omega
  obtain ⟨⟨d0, d1, d2, d3⟩, -⟩ := four_all ht3
  go_wp2_with fail
  refine (HRS.out _).mono ?_
  rintro e W4 ⟨rfl, hb⟩
  have hz4 := (hb.block _ hsz3).trans hz3
  have ht4 := (hb.block _ hszt).trans ht3
  have HB4 := Lib.hid (HB3.out.call hb)
  have HX4 := Lib.hid (HX3.out.keep hb)
  clear hb hz3 ht3 hsz3 d0 d1 d2 d3 HB3 HX3 hszt
  obtain ⟨c0, c1, c2, f1, f2, -⟩ := HX4.out.cells
  have HX5 := Lib.hid (HX4.out.setI ((p : Int) + 1 + 1 + 1) (p' := p + 1 + 1 + 1) (by omega))
  have HB5 := Lib.hid (HB4.out.setPb 1 (.int .i64 ((p : Int) + 1 + 1 + 1)))
  have hz5 := (Below.heap_setCell W4 ⟨B, 1, none⟩ (.int .i64 ((p : Int) + 1 + 1 + 1)) w.heap.size (fun e => n1 e)).trans hz4
  have ht5 := (Below.heap_setCell W4 ⟨B, 1, none⟩ (.int .i64 ((p : Int) + 1 + 1 + 1)) W2.heap.size (fun e => by have e : W2.heap.size = B := e; omega)).trans ht4
  clear hz4 ht4 HX4 HB4
  go_upto_region 25 with fail
  generalize W4.setCell ⟨B, 1, none⟩ (.int .i64 ((p : Int) + 1 + 1 + 1)) = W5 at *
  have hsz5 : w.heap.size < W5.heap.size := (Array.getElem?_eq_some_iff.1 hz5).1
  have hszt : W2.heap.size < W5.heap.size := (Array.getElem?_eq_some_iff.1 ht5).1
  clear c0 c1 c2 f1 f2
  go_wp2_with fail
  refine (HM3.out _ HX5.out (HT0.out _ HB5.out)).mono ?_
  rintro e W6 ⟨rfl, hb, hx⟩
  have hz6 := (hb.block _ hsz5 (by omega)).trans hz5
  have ht6 := (hb.block _ hszt (by omega)).trans ht5
  have HB6 := Lib.hid (HB5.out.trans hb)
  have HX6 := Lib.hid hx
  have HS6 := Lib.hid (Array.getElem?_eq_some_iff.1 hz6).1
  obtain ⟨⟨d0, d1, d2, d3⟩, -⟩ := four_all ht6
  obtain ⟨⟨g0, g1, g2, g3⟩, e0, e1, e2, e3⟩ := four_new hz6
  have HZ7 := Lib.hid ((Lib.alloc_old W6 (.cells #[.int .i64 4, .int .i64 0, .string ⟨t.s.toArray⟩, .slice none 0 0] 28) _ HS6.out).trans hz6)
  clear hb hx hz5 ht5 hz6 ht6 hsz5 hszt hsz2
  go_wp2
  refine bodyPost_ret (v := exV 22 0 [] (.slice (some ⟨W6.heap.size, 0, none⟩) 1 1)) ?_ rfl ?_
  · have hh := four_all (set4_heap HZ7.out (.int .i64 22) (.int .i64 0) (.string ⟨#[]⟩) (.slice (some ⟨W6.heap.size, 0, none⟩) 1 1))
    simp [results, Tryz.results225, go_sem, exV, strV, hh.1]
  · refine rres_ok (HB6.out.alloc _) hpl (KV.one (b := W6.heap.size) (a := .mk 4 0 t.s []) (u := .slice none 0 0) (T := 28) ?_ (KV.nil _)) (HX6.out.alloc _) rfl _ _ _ _
    unfold gp
    rw [if_pos (by have := HS6.out; omega)]
    exact heap_alloc_new W6 _
end Go.Proofs.YtoklhppalkgdeaaGreatDoor
