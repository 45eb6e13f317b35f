/- The walks of the document's unary, atom, word. No condition. -/
import Derived.Test.YtoklhppalkgdeaaGreatDoorQ0
set_option linter.unusedSimpArgs false
set_option linter.unusedVariables false
set_option linter.unusedSectionVars false
namespace Go.Proofs.YtoklhppalkgdeaaGreatDoor
open Go.RowKit Pal
set_option maxRecDepth 1000000 in
set_option maxHeartbeats 8000000 in
theorem unary_minus (B p : Nat) (toks : List Tok) (tv : Value) (w : World) (h : XS w B tv p (-1)) (hT : TokV (gb B w) tv toks) (hE : Ended (toks.drop p)) (hl : toks.length ≤ 1000) (x : PR) (hs : isSg [45] (hd (toks.drop p)) = true)
    (hrec : ∀ W, XS W B tv (p + 1) (-1) → TokV (gb B W) tv toks → Calls Tryz.prog 214 #[.pointer (some ⟨B, 0, none⟩)] W (RRes B tv toks x W)) :
    Calls Tryz.prog 214 #[.pointer (some ⟨B, 0, none⟩)] w (RRes B tv toks (x.then fun e r => .ok (.mk 5 0 [] [e]) r) w) := by
  have hpl := h.cells.2.2.2.2.2
  have hb0 := (Below.refl w.heap.size w).alloc (Nat.le_refl _) (.cells #[.int .i64 0, .int .i64 0, .string ⟨#[]⟩, .slice none 0 0] 28)
  have HX0 := Lib.hid (h.keep hb0)
  have HT0 : Hid (∀ W, But B w W → TokV (gb B W) tv toks) := Lib.hid (fun W hb => SlV.mono hT hb.gb)
  have HS := Lib.hid (fun W hx hT => xsign_yes [45] B p toks _ tv W hx hT hE.at.1 hl hs)
  have HR := Lib.hid hrec
  have HZ := Lib.hid (heap_alloc_new w (.cells #[.int .i64 0, .int .i64 0, .string ⟨#[]⟩, .slice none 0 0] 28))
  have HB := Lib.hid (But.below (pb := B) hb0)
  have hsz : w.heap.size < (w.alloc (.cells #[.int .i64 0, .int .i64 0, .string ⟨#[]⟩, .slice none 0 0] 28)).heap.size := by simp
  clear h hT hE hrec hs hb0
  unfold strV at HS
  go_enter Tryz.func214, Tryz.ntmps214
  go_upto_region 1 with fail
  generalize w.alloc (.cells #[.int .i64 0, .int .i64 0, .string ⟨#[]⟩, .slice none 0 0] 28) = W0 at *
  have HXv := HX0
  have HBv := HB
  have HZv := HZ
  have hszv := hsz
  go_wp2_with fail
  refine (HS.out _ HXv.out (HT0.out _ HBv.out)).mono ?_
  rintro e W1 ⟨rfl, hb, hx⟩
  have hz1 := (hb.block _ hszv (by omega)).trans HZv.out
  have hsz1 : w.heap.size < W1.heap.size := (Array.getElem?_eq_some_iff.1 hz1).1
  have HB1 := Lib.hid (HBv.out.trans hb)
  clear hb
  go_wp2_with fail
  refine (HR.out _ hx (HT0.out _ HB1.out)).mono ?_
  clear hx HR HS
  cases x with
  | out => rintro e W2 ⟨-, h⟩; exact h.elim
  | bad q =>
    rintro e W2 ⟨hb2, ⟨v, rfl, o, n, s, a, l, c, rfl⟩, p', hx2⟩
    have hz2 := (hb2.block _ hsz1 (by omega)).trans hz1
    have hsz2 : w.heap.size < W2.heap.size := (Array.getElem?_eq_some_iff.1 hz2).1
    have HB3 := Lib.hid ((HB1.out.trans hb2).alloc (.cells #[.int .i64 o, .int .i64 n, .string ⟨s.toArray⟩, .slice a l c] 28))
    have HX3 := Lib.hid (hx2.alloc (.cells #[.int .i64 o, .int .i64 n, .string ⟨s.toArray⟩, .slice a l c] 28))
    have hz3 := (Lib.alloc_old W2 (.cells #[.int .i64 o, .int .i64 n, .string ⟨s.toArray⟩, .slice a l c] 28) _ hsz2).trans hz2
    have hc3 := heap_alloc_new W2 (.cells #[.int .i64 o, .int .i64 n, .string ⟨s.toArray⟩, .slice a l c] 28)
    clear hz1 hz2 hb2 hx2 HB1
    unfold exV strV
    go_upto_region 8 with fail
    generalize W2.alloc (.cells #[.int .i64 o, .int .i64 n, .string ⟨s.toArray⟩, .slice a l c] 28) = W3 at *
    obtain ⟨⟨c0, c1, c2, c3⟩, -⟩ := four_all hc3
    have hz4 := (Lib.alloc_old W3 (.cells #[.int .i64 o, .int .i64 n, .string ⟨s.toArray⟩, .slice a l c] 28) _ (Array.getElem?_eq_some_iff.1 hz3).1).trans hz3
    obtain ⟨⟨g0, g1, g2, g3⟩, f0, f1, f2, f3⟩ := four_new hz3
    have HZ4 := Lib.hid hz4
    clear hz3 hc3 hz4
    go_wp2
    refine bodyPost_ret (v := exV 5 0 [] (.slice (some ⟨W3.heap.size, 0, none⟩) 1 1)) ?_ rfl ?_
    · have hh := four_all (set4_heap HZ4.out (.int .i64 5) (.int .i64 0) (.string ⟨#[]⟩) (.slice (some ⟨W3.heap.size, 0, none⟩) 1 1))
      simp [results, Tryz.results214, go_sem, exV, strV, hh.1]
    · exact rres_bad (HB3.out.alloc _) hpl (HX3.out.alloc _) _ _ _ _
  | ok ex r =>
    rintro e W2 ⟨hb2, ⟨v, rfl, kv, rfl, hK⟩, p', hd2, hx2⟩
    obtain ⟨ka, kc, rfl⟩ := hK.form
    have hz2 := (hb2.block _ hsz1 (by omega)).trans hz1
    have hsz2 : w.heap.size < W2.heap.size := (Array.getElem?_eq_some_iff.1 hz2).1
    have HB3 := Lib.hid ((HB1.out.trans hb2).alloc (.cells #[.int .i64 ex.op, .int .i64 ex.n, .string ⟨ex.s.toArray⟩, .slice ka ex.ks.length kc] 28))
    have HX3 := Lib.hid (hx2.alloc (.cells #[.int .i64 ex.op, .int .i64 ex.n, .string ⟨ex.s.toArray⟩, .slice ka ex.ks.length kc] 28))
    have HK3 : Hid (KV (gp (fun b => w.heap.size < b) (W2.alloc (.cells #[.int .i64 ex.op, .int .i64 ex.n, .string ⟨ex.s.toArray⟩, .slice ka ex.ks.length kc] 28))) (.slice ka ex.ks.length kc) ex.ks) :=
      Lib.hid (hK.mono (gp_le fun b hb hl => ⟨by omega, Lib.alloc_old W2 _ b hl⟩))
    have hz3 := (Lib.alloc_old W2 (.cells #[.int .i64 ex.op, .int .i64 ex.n, .string ⟨ex.s.toArray⟩, .slice ka ex.ks.length kc] 28) _ hsz2).trans hz2
    have hc3 := heap_alloc_new W2 (.cells #[.int .i64 ex.op, .int .i64 ex.n, .string ⟨ex.s.toArray⟩, .slice ka ex.ks.length kc] 28)
    have HD := Lib.hid hd2
    clear hz1 hz2 hb2 hx2 HB1 hK hd2
    unfold exV strV
    go_upto_region 8 with fail
    generalize W2.alloc (.cells #[.int .i64 ex.op, .int .i64 ex.n, .string ⟨ex.s.toArray⟩, .slice ka ex.ks.length kc] 28) = W3 at *
    obtain ⟨⟨c0, c1, c2, c3⟩, -⟩ := four_all hc3
    have HS3 := Lib.hid (Array.getElem?_eq_some_iff.1 hz3).1
    have hz4 := (Lib.alloc_old W3 (.cells #[.int .i64 ex.op, .int .i64 ex.n, .string ⟨ex.s.toArray⟩, .slice ka ex.ks.length kc] 28) _ HS3.out).trans hz3
    obtain ⟨⟨g0, g1, g2, g3⟩, f0, f1, f2, f3⟩ := four_new hz3
    have HZ4 := Lib.hid hz4
    clear hz3 hc3 hz4
    go_wp2
    refine bodyPost_ret (v := exV 5 0 [] (.slice (some ⟨W3.heap.size, 0, none⟩) 1 1)) ?_ rfl ?_
    · have hh := four_all (set4_heap HZ4.out (.int .i64 5) (.int .i64 0) (.string ⟨#[]⟩) (.slice (some ⟨W3.heap.size, 0, none⟩) 1 1))
      simp [results, Tryz.results214, go_sem, exV, strV, hh.1]
    · refine rres_ok (HB3.out.alloc _) hpl (KV.one (b := W3.heap.size) (a := ex) (u := .slice ka ex.ks.length kc) (T := 28) ?_ (HK3.out.mono (gp_le fun b hb hl => ⟨hb, Lib.alloc_old W3 _ b hl⟩))) (HX3.out.alloc _) HD.out _ _ _ _
      unfold gp
      rw [if_pos (by have := HS3.out; omega)]
      exact heap_alloc_new W3 _
set_option maxRecDepth 1000000 in
set_option maxHeartbeats 8000000 in
theorem unary_not (B p : Nat) (toks : List Tok) (tv : Value) (w : World) (h : XS w B tv p (-1)) (hT : TokV (gb B w) tv toks) (hE : Ended (toks.drop p)) (hl : toks.length ≤ 1000) (x : PR) (hs : isSg [33] (hd (toks.drop p)) = true) (hno : isSg [45] (hd (toks.drop p)) = false)
    (hrec : ∀ W, XS W B tv (p + 1) (-1) → TokV (gb B W) tv toks → Calls Tryz.prog 214 #[.pointer (some ⟨B, 0, none⟩)] W (RRes B tv toks x W)) :
    Calls Tryz.prog 214 #[.pointer (some ⟨B, 0, none⟩)] w (RRes B tv toks (x.then fun e r => .ok (.mk 6 0 [] [e]) r) w) := by
  have hpl := h.cells.2.2.2.2.2
  have hb0 := (Below.refl w.heap.size w).alloc (Nat.le_refl _) (.cells #[.int .i64 0, .int .i64 0, .string ⟨#[]⟩, .slice none 0 0] 28)
  have HX0 := Lib.hid (h.keep hb0)
  have HT0 : Hid (∀ W, But B w W → TokV (gb B W) tv toks) := Lib.hid (fun W hb => SlV.mono hT hb.gb)
  have HS := Lib.hid (fun W hx hT => xsign_yes [33] B p toks _ tv W hx hT hE.at.1 hl hs)
  have HN := Lib.hid (fun W hx hT => xsign_no [45] B p toks _ tv W hx hT hE.at.1 hl hno)
  have HR := Lib.hid hrec
  have HZ := Lib.hid (heap_alloc_new w (.cells #[.int .i64 0, .int .i64 0, .string ⟨#[]⟩, .slice none 0 0] 28))
  have HB := Lib.hid (But.below (pb := B) hb0)
  have hsz : w.heap.size < (w.alloc (.cells #[.int .i64 0, .int .i64 0, .string ⟨#[]⟩, .slice none 0 0] 28)).heap.size := by simp
  clear h hT hE hrec hs hb0 hno
  unfold strV at HS HN
  go_enter Tryz.func214, Tryz.ntmps214
  go_upto_region 1 with fail
  generalize w.alloc (.cells #[.int .i64 0, .int .i64 0, .string ⟨#[]⟩, .slice none 0 0] 28) = W0 at *
  go_wp2_with fail
  refine (HN.out _ HX0.out (HT0.out _ HB.out)).mono ?_
  rintro e V0 ⟨rfl, hbv⟩
  have HXv := Lib.hid (HX0.out.keep hbv)
  have HBv := Lib.hid (HB.out.call hbv)
  have HZv := Lib.hid ((hbv.block _ hsz).trans HZ.out)
  have hszv : w.heap.size < V0.heap.size := (Array.getElem?_eq_some_iff.1 HZv.out).1
  clear hbv hsz HX0 HB HZ
  go_wp2_with fail
  refine (HS.out _ HXv.out (HT0.out _ HBv.out)).mono ?_
  rintro e W1 ⟨rfl, hb, hx⟩
  have hz1 := (hb.block _ hszv (by omega)).trans HZv.out
  have hsz1 : w.heap.size < W1.heap.size := (Array.getElem?_eq_some_iff.1 hz1).1
  have HB1 := Lib.hid (HBv.out.trans hb)
  clear hb
  go_wp2_with fail
  refine (HR.out _ hx (HT0.out _ HB1.out)).mono ?_
  clear hx HR HS
  cases x with
  | out => rintro e W2 ⟨-, h⟩; exact h.elim
  | bad q =>
    rintro e W2 ⟨hb2, ⟨v, rfl, o, n, s, a, l, c, rfl⟩, p', hx2⟩
    have hz2 := (hb2.block _ hsz1 (by omega)).trans hz1
    have hsz2 : w.heap.size < W2.heap.size := (Array.getElem?_eq_some_iff.1 hz2).1
    have HB3 := Lib.hid ((HB1.out.trans hb2).alloc (.cells #[.int .i64 o, .int .i64 n, .string ⟨s.toArray⟩, .slice a l c] 28))
    have HX3 := Lib.hid (hx2.alloc (.cells #[.int .i64 o, .int .i64 n, .string ⟨s.toArray⟩, .slice a l c] 28))
    have hz3 := (Lib.alloc_old W2 (.cells #[.int .i64 o, .int .i64 n, .string ⟨s.toArray⟩, .slice a l c] 28) _ hsz2).trans hz2
    have hc3 := heap_alloc_new W2 (.cells #[.int .i64 o, .int .i64 n, .string ⟨s.toArray⟩, .slice a l c] 28)
    clear hz1 hz2 hb2 hx2 HB1
    unfold exV strV
    go_upto_region 8 with fail
    generalize W2.alloc (.cells #[.int .i64 o, .int .i64 n, .string ⟨s.toArray⟩, .slice a l c] 28) = W3 at *
    obtain ⟨⟨c0, c1, c2, c3⟩, -⟩ := four_all hc3
    have hz4 := (Lib.alloc_old W3 (.cells #[.int .i64 o, .int .i64 n, .string ⟨s.toArray⟩, .slice a l c] 28) _ (Array.getElem?_eq_some_iff.1 hz3).1).trans hz3
    obtain ⟨⟨g0, g1, g2, g3⟩, f0, f1, f2, f3⟩ := four_new hz3
    have HZ4 := Lib.hid hz4
    clear hz3 hc3 hz4
    go_wp2
    refine bodyPost_ret (v := exV 6 0 [] (.slice (some ⟨W3.heap.size, 0, none⟩) 1 1)) ?_ rfl ?_
    · have hh := four_all (set4_heap HZ4.out (.int .i64 6) (.int .i64 0) (.string ⟨#[]⟩) (.slice (some ⟨W3.heap.size, 0, none⟩) 1 1))
      simp [results, Tryz.results214, go_sem, exV, strV, hh.1]
    · exact rres_bad (HB3.out.alloc _) hpl (HX3.out.alloc _) _ _ _ _
  | ok ex r =>
    rintro e W2 ⟨hb2, ⟨v, rfl, kv, rfl, hK⟩, p', hd2, hx2⟩
    obtain ⟨ka, kc, rfl⟩ := hK.form
    have hz2 := (hb2.block _ hsz1 (by omega)).trans hz1
    have hsz2 : w.heap.size < W2.heap.size := (Array.getElem?_eq_some_iff.1 hz2).1
    have HB3 := Lib.hid ((HB1.out.trans hb2).alloc (.cells #[.int .i64 ex.op, .int .i64 ex.n, .string ⟨ex.s.toArray⟩, .slice ka ex.ks.length kc] 28))
    have HX3 := Lib.hid (hx2.alloc (.cells #[.int .i64 ex.op, .int .i64 ex.n, .string ⟨ex.s.toArray⟩, .slice ka ex.ks.length kc] 28))
    have HK3 : Hid (KV (gp (fun b => w.heap.size < b) (W2.alloc (.cells #[.int .i64 ex.op, .int .i64 ex.n, .string ⟨ex.s.toArray⟩, .slice ka ex.ks.length kc] 28))) (.slice ka ex.ks.length kc) ex.ks) :=
      Lib.hid (hK.mono (gp_le fun b hb hl => ⟨by omega, Lib.alloc_old W2 _ b hl⟩))
    have hz3 := (Lib.alloc_old W2 (.cells #[.int .i64 ex.op, .int .i64 ex.n, .string ⟨ex.s.toArray⟩, .slice ka ex.ks.length kc] 28) _ hsz2).trans hz2
    have hc3 := heap_alloc_new W2 (.cells #[.int .i64 ex.op, .int .i64 ex.n, .string ⟨ex.s.toArray⟩, .slice ka ex.ks.length kc] 28)
    have HD := Lib.hid hd2
    clear hz1 hz2 hb2 hx2 HB1 hK hd2
    unfold exV strV
    go_upto_region 8 with fail
    generalize W2.alloc (.cells #[.int .i64 ex.op, .int .i64 ex.n, .string ⟨ex.s.toArray⟩, .slice ka ex.ks.length kc] 28) = W3 at *
    obtain ⟨⟨c0, c1, c2, c3⟩, -⟩ := four_all hc3
    have HS3 := Lib.hid (Array.getElem?_eq_some_iff.1 hz3).1
    have hz4 := (Lib.alloc_old W3 (.cells #[.int .i64 ex.op, .int .i64 ex.n, .string ⟨ex.s.toArray⟩, .slice ka ex.ks.length kc] 28) _ HS3.out).trans hz3
    obtain ⟨⟨g0, g1, g2, g3⟩, f0, f1, f2, f3⟩ := four_new hz3
    have HZ4 := Lib.hid hz4
    clear hz3 hc3 hz4
    go_wp2
    refine bodyPost_ret (v := exV 6 0 [] (.slice (some ⟨W3.heap.size, 0, none⟩) 1 1)) ?_ rfl ?_
    · have hh := four_all (set4_heap HZ4.out (.int .i64 6) (.int .i64 0) (.string ⟨#[]⟩) (.slice (some ⟨W3.heap.size, 0, none⟩) 1 1))
      simp [results, Tryz.results214, go_sem, exV, strV, hh.1]
    · refine rres_ok (HB3.out.alloc _) hpl (KV.one (b := W3.heap.size) (a := ex) (u := .slice ka ex.ks.length kc) (T := 28) ?_ (HK3.out.mono (gp_le fun b hb hl => ⟨hb, Lib.alloc_old W3 _ b hl⟩))) (HX3.out.alloc _) HD.out _ _ _ _
      unfold gp
      rw [if_pos (by have := HS3.out; omega)]
      exact heap_alloc_new W3 _
set_option maxRecDepth 1000000 in
set_option maxHeartbeats 8000000 in
theorem atom_num (B p : Nat) (toks : List Tok) (tv : Value) (w : World) (h : XS w B tv p (-1)) (hT : TokV (gb B w) tv toks) (hE : Ended (toks.drop p)) (hl : toks.length ≤ 1000) (hk : (hd (toks.drop p)).k = 1) : Calls Tryz.prog 223 #[.pointer (some ⟨B, 0, none⟩)] w (RRes B tv toks (.ok (.mk 1 (hd (toks.drop p)).n [] []) (toks.drop p).tail) w) := by
  have K1 : ((hd (toks.drop p)).k == 1) = true := by simp [hk]
  clear hk
  have hpl := h.cells.2.2.2.2.2
  have hb0 := (Below.refl w.heap.size w).alloc (Nat.le_refl _) (.cells #[.int .i64 0, .int .i64 0, .string ⟨#[]⟩, .slice none 0 0] 28)
  have HX0 := Lib.hid (h.keep hb0)
  have HT0 : Hid (∀ W, But B w W → TokV (gb B W) tv toks) := Lib.hid (fun W hb => SlV.mono hT hb.gb)
  have HK := Lib.hid (xtok_any B p (-1) toks _ tv _ (h.keep hb0) (SlV.mono hT (But.below (pb := B) hb0).gb) hE.at.1 hl)
  have HZ := Lib.hid (heap_alloc_new w (.cells #[.int .i64 0, .int .i64 0, .string ⟨#[]⟩, .slice none 0 0] 28))
  have HB := Lib.hid (But.below (pb := B) hb0)
  have hsz : w.heap.size < (w.alloc (.cells #[.int .i64 0, .int .i64 0, .string ⟨#[]⟩, .slice none 0 0] 28)).heap.size := by simp
  have HTL := Lib.hid (drop_tail toks p)
  have hpt := hE.at.2
  have i1 : (p : Int) < 1000 := by omega
  have i0 : (0 : Int) ≤ (p : Int) := by omega
  generalize hd (toks.drop p) = t at *
  clear h hT hE hb0
  unfold tokV strV at *
  go_enter Tryz.func223, Tryz.ntmps223
  go_upto_region 1 with fail
  have cX := HX0.out.cells
  generalize w.alloc (.cells #[.int .i64 0, .int .i64 0, .string ⟨#[]⟩, .slice none 0 0] 28) = W0 at *
  obtain ⟨c0, c1, c2, f1, f2, hplW⟩ := cX
  go_wp2_with fail
  refine HK.out.mono ?_
  rintro e W1 ⟨rfl, hb⟩
  have HX1 := Lib.hid (HX0.out.keep hb)
  have HB1 := Lib.hid (HB.out.call hb)
  have hz1 := (hb.block _ hsz).trans HZ.out
  have hsz1 : w.heap.size < W1.heap.size := (Array.getElem?_eq_some_iff.1 hz1).1
  clear hb hsz HX0 HB HZ HK c0 c1 c2 f1 f2 hplW
  have HX2 := Lib.hid (HX1.out.alloc (.cells #[.int .i64 t.k, .string ⟨t.s.toArray⟩, .int .i64 t.n, .int .i64 t.p] 61))
  have HB2 := Lib.hid (HB1.out.alloc (.cells #[.int .i64 t.k, .string ⟨t.s.toArray⟩, .int .i64 t.n, .int .i64 t.p] 61))
  have HT2 := Lib.hid (HT0.out _ HB2.out)
  have hz2 := (Lib.alloc_old W1 (.cells #[.int .i64 t.k, .string ⟨t.s.toArray⟩, .int .i64 t.n, .int .i64 t.p] 61) _ hsz1).trans hz1
  have ht2 := heap_alloc_new W1 (.cells #[.int .i64 t.k, .string ⟨t.s.toArray⟩, .int .i64 t.n, .int .i64 t.p] 61)
  go_upto_region 4 with fail
  generalize W1.alloc (.cells #[.int .i64 t.k, .string ⟨t.s.toArray⟩, .int .i64 t.n, .int .i64 t.p] 61) = W2 at *
  have hsz2 : w.heap.size < W2.heap.size := (Array.getElem?_eq_some_iff.1 hz2).1
  clear hz1 HX1 HB1
  obtain ⟨⟨d0, d1, d2, d3⟩, -⟩ := four_all ht2
  obtain ⟨c0, c1, c2, f1, f2, hplW⟩ := HX2.out.cells
  obtain ⟨⟨g0, g1, g2, g3⟩, e0, e1, e2, e3⟩ := four_all hz2
  have n1 : ¬ w.heap.size = B := by omega
  have n3 : ¬ B = w.heap.size := by omega
  have n4 : ¬ W1.heap.size = B := by omega
  have n5 : ¬ B = W1.heap.size := by omega
  have HZ2 := Lib.hid hz2
  clear hz2 ht2
  go_wp2
  refine bodyPost_ret (v := exV 1 t.n [] (.slice none 0 0)) ?_ rfl ?_
  · have hh := four_all (set4_heap ((Below.heap_setCell W2 ⟨B, 1, none⟩ (.int .i64 ((p : Int) + 1)) w.heap.size (fun e => n1 e)).trans HZ2.out) (.int .i64 1) (.int .i64 t.n) (.string ⟨#[]⟩) (.slice none 0 0))
    simp [results, Tryz.results223, go_sem, exV, strV, hh.1]
  · exact rres_ok (HB2.out.setPb 1 _) hpl (KV.nil _) (HX2.out.setI _ (by omega)) HTL.out.symm _ _ _ _
set_option maxRecDepth 1000000 in
set_option maxHeartbeats 8000000 in
theorem atom_text (B p : Nat) (toks : List Tok) (tv : Value) (w : World) (h : XS w B tv p (-1)) (hT : TokV (gb B w) tv toks) (hE : Ended (toks.drop p)) (hl : toks.length ≤ 1000) (hk : (hd (toks.drop p)).k = 2) : Calls Tryz.prog 223 #[.pointer (some ⟨B, 0, none⟩)] w (RRes B tv toks (.ok (.mk 2 0 (hd (toks.drop p)).s []) (toks.drop p).tail) w) := by
  have K1 : ((hd (toks.drop p)).k == 1) = false := by simp [hk]
  have K2 : ((hd (toks.drop p)).k == 2) = true := by simp [hk]
  clear hk
  have hpl := h.cells.2.2.2.2.2
  have hb0 := (Below.refl w.heap.size w).alloc (Nat.le_refl _) (.cells #[.int .i64 0, .int .i64 0, .string ⟨#[]⟩, .slice none 0 0] 28)
  have HX0 := Lib.hid (h.keep hb0)
  have HT0 : Hid (∀ W, But B w W → TokV (gb B W) tv toks) := Lib.hid (fun W hb => SlV.mono hT hb.gb)
  have HK := Lib.hid (xtok_any B p (-1) toks _ tv _ (h.keep hb0) (SlV.mono hT (But.below (pb := B) hb0).gb) hE.at.1 hl)
  have HZ := Lib.hid (heap_alloc_new w (.cells #[.int .i64 0, .int .i64 0, .string ⟨#[]⟩, .slice none 0 0] 28))
  have HB := Lib.hid (But.below (pb := B) hb0)
  have hsz : w.heap.size < (w.alloc (.cells #[.int .i64 0, .int .i64 0, .string ⟨#[]⟩, .slice none 0 0] 28)).heap.size := by simp
  have HTL := Lib.hid (drop_tail toks p)
  have hpt := hE.at.2
  have i1 : (p : Int) < 1000 := by omega
  have i0 : (0 : Int) ≤ (p : Int) := by omega
  generalize hd (toks.drop p) = t at *
  clear h hT hE hb0
  unfold tokV strV at *
  go_enter Tryz.func223, Tryz.ntmps223
  go_upto_region 1 with fail
  have cX := HX0.out.cells
  generalize w.alloc (.cells #[.int .i64 0, .int .i64 0, .string ⟨#[]⟩, .slice none 0 0] 28) = W0 at *
  obtain ⟨c0, c1, c2, f1, f2, hplW⟩ := cX
  go_wp2_with fail
  refine HK.out.mono ?_
  rintro e W1 ⟨rfl, hb⟩
  have HX1 := Lib.hid (HX0.out.keep hb)
  have HB1 := Lib.hid (HB.out.call hb)
  have hz1 := (hb.block _ hsz).trans HZ.out
  have hsz1 : w.heap.size < W1.heap.size := (Array.getElem?_eq_some_iff.1 hz1).1
  clear hb hsz HX0 HB HZ HK c0 c1 c2 f1 f2 hplW
  have HX2 := Lib.hid (HX1.out.alloc (.cells #[.int .i64 t.k, .string ⟨t.s.toArray⟩, .int .i64 t.n, .int .i64 t.p] 61))
  have HB2 := Lib.hid (HB1.out.alloc (.cells #[.int .i64 t.k, .string ⟨t.s.toArray⟩, .int .i64 t.n, .int .i64 t.p] 61))
  have HT2 := Lib.hid (HT0.out _ HB2.out)
  have hz2 := (Lib.alloc_old W1 (.cells #[.int .i64 t.k, .string ⟨t.s.toArray⟩, .int .i64 t.n, .int .i64 t.p] 61) _ hsz1).trans hz1
  have ht2 := heap_alloc_new W1 (.cells #[.int .i64 t.k, .string ⟨t.s.toArray⟩, .int .i64 t.n, .int .i64 t.p] 61)
  go_upto_region 4 with fail
  generalize W1.alloc (.cells #[.int .i64 t.k, .string ⟨t.s.toArray⟩, .int .i64 t.n, .int .i64 t.p] 61) = W2 at *
  have hsz2 : w.heap.size < W2.heap.size := (Array.getElem?_eq_some_iff.1 hz2).1
  clear hz1 HX1 HB1
  obtain ⟨⟨d0, d1, d2, d3⟩, -⟩ := four_all ht2
  obtain ⟨c0, c1, c2, f1, f2, hplW⟩ := HX2.out.cells
  obtain ⟨⟨g0, g1, g2, g3⟩, e0, e1, e2, e3⟩ := four_all hz2
  have n1 : ¬ w.heap.size = B := by omega
  have n3 : ¬ B = w.heap.size := by omega
  have n4 : ¬ W1.heap.size = B := by omega
  have n5 : ¬ B = W1.heap.size := by omega
  have HZ2 := Lib.hid hz2
  clear hz2 ht2
  go_wp2
  refine bodyPost_ret (v := exV 2 0 t.s (.slice none 0 0)) ?_ rfl ?_
  · have hh := four_all (set4_heap ((Below.heap_setCell W2 ⟨B, 1, none⟩ (.int .i64 ((p : Int) + 1)) w.heap.size (fun e => n1 e)).trans HZ2.out) (.int .i64 2) (.int .i64 0) (.string ⟨t.s.toArray⟩) (.slice none 0 0))
    simp [results, Tryz.results223, go_sem, exV, strV, hh.1]
  · exact rres_ok (HB2.out.setPb 1 _) hpl (KV.nil _) (HX2.out.setI _ (by omega)) HTL.out.symm _ _ _ _
set_option maxRecDepth 1000000 in
set_option maxHeartbeats 8000000 in
theorem atom_name (B p : Nat) (toks : List Tok) (tv : Value) (w : World) (h : XS w B tv p (-1)) (hT : TokV (gb B w) tv toks) (hE : Ended (toks.drop p)) (hl : toks.length ≤ 1000) (hk : (hd (toks.drop p)).k = 3) (x : PR)
    (hrec : ∀ W, XS W B tv p (-1) → TokV (gb B W) tv toks → Calls Tryz.prog 225 #[.pointer (some ⟨B, 0, none⟩), strV (hd (toks.drop p)).s] W (RRes B tv toks x W)) : Calls Tryz.prog 223 #[.pointer (some ⟨B, 0, none⟩)] w (RRes B tv toks x w) := by
  have K1 : ((hd (toks.drop p)).k == 1) = false := by simp [hk]
  have K2 : ((hd (toks.drop p)).k == 2) = false := by simp [hk]
  have K3 : ((hd (toks.drop p)).k == 3) = true := by simp [hk]
  have HR := Lib.hid hrec
  clear hk hrec
  have hpl := h.cells.2.2.2.2.2
  have hb0 := (Below.refl w.heap.size w).alloc (Nat.le_refl _) (.cells #[.int .i64 0, .int .i64 0, .string ⟨#[]⟩, .slice none 0 0] 28)
  have HX0 := Lib.hid (h.keep hb0)
  have HT0 : Hid (∀ W, But B w W → TokV (gb B W) tv toks) := Lib.hid (fun W hb => SlV.mono hT hb.gb)
  have HK := Lib.hid (xtok_any B p (-1) toks _ tv _ (h.keep hb0) (SlV.mono hT (But.below (pb := B) hb0).gb) hE.at.1 hl)
  have HZ := Lib.hid (heap_alloc_new w (.cells #[.int .i64 0, .int .i64 0, .string ⟨#[]⟩, .slice none 0 0] 28))
  have HB := Lib.hid (But.below (pb := B) hb0)
  have hsz : w.heap.size < (w.alloc (.cells #[.int .i64 0, .int .i64 0, .string ⟨#[]⟩, .slice none 0 0] 28)).heap.size := by simp
  have HTL := Lib.hid (drop_tail toks p)
  have hpt := hE.at.2
  have i1 : (p : Int) < 1000 := by omega
  have i0 : (0 : Int) ≤ (p : Int) := by omega
  generalize hd (toks.drop p) = t at *
  clear h hT hE hb0
  unfold tokV strV at *
  go_enter Tryz.func223, Tryz.ntmps223
  go_upto_region 1 with fail
  have cX := HX0.out.cells
  generalize w.alloc (.cells #[.int .i64 0, .int .i64 0, .string ⟨#[]⟩, .slice none 0 0] 28) = W0 at *
  obtain ⟨c0, c1, c2, f1, f2, hplW⟩ := cX
  go_wp2_with fail
  refine HK.out.mono ?_
  rintro e W1 ⟨rfl, hb⟩
  have HX1 := Lib.hid (HX0.out.keep hb)
  have HB1 := Lib.hid (HB.out.call hb)
  have hz1 := (hb.block _ hsz).trans HZ.out
  have hsz1 : w.heap.size < W1.heap.size := (Array.getElem?_eq_some_iff.1 hz1).1
  clear hb hsz HX0 HB HZ HK c0 c1 c2 f1 f2 hplW
  have HX2 := Lib.hid (HX1.out.alloc (.cells #[.int .i64 t.k, .string ⟨t.s.toArray⟩, .int .i64 t.n, .int .i64 t.p] 61))
  have HB2 := Lib.hid (HB1.out.alloc (.cells #[.int .i64 t.k, .string ⟨t.s.toArray⟩, .int .i64 t.n, .int .i64 t.p] 61))
  have HT2 := Lib.hid (HT0.out _ HB2.out)
  have hz2 := (Lib.alloc_old W1 (.cells #[.int .i64 t.k, .string ⟨t.s.toArray⟩, .int .i64 t.n, .int .i64 t.p] 61) _ hsz1).trans hz1
  have ht2 := heap_alloc_new W1 (.cells #[.int .i64 t.k, .string ⟨t.s.toArray⟩, .int .i64 t.n, .int .i64 t.p] 61)
  go_upto_region 4 with fail
  generalize W1.alloc (.cells #[.int .i64 t.k, .string ⟨t.s.toArray⟩, .int .i64 t.n, .int .i64 t.p] 61) = W2 at *
  have hsz2 : w.heap.size < W2.heap.size := (Array.getElem?_eq_some_iff.1 hz2).1
  clear hz1 HX1 HB1
  obtain ⟨⟨d0, d1, d2, d3⟩, -⟩ := four_all ht2
  go_wp2_with fail
  refine (HR.out _ HX2.out HT2.out).mono ?_
  have HB1 := HB2
  have hz1 := hz2
  have hsz1 := hsz2
  clear hz2 ht2 hsz2 HB2 HX2 HT2 HR d0 d1 d2 d3
  generalize W2 = W1' at *
  cases x with
  | out => rintro e V2 ⟨-, h⟩; exact h.elim
  | bad q =>
    rintro e V2 ⟨hb2, ⟨v, rfl, o, n, s0, a, l, c, rfl⟩, p', hx2⟩
    have hz2 := (hb2.block _ hsz1 (by omega)).trans hz1
    obtain ⟨⟨c0, c1, c2, c3⟩, f0, f1, f2, f3⟩ := four_all hz2
    have HZ2 := Lib.hid hz2
    have HB2 := Lib.hid (HB1.out.trans hb2)
    have HX2 := Lib.hid hx2
    clear hz1 hz2 hb2 hx2
    unfold exV strV
    go_wp2
    refine bodyPost_ret (v := exV o n s0 (.slice a l c)) ?_ rfl ?_
    · have hh := four_all (set4_heap HZ2.out (.int .i64 o) (.int .i64 n) (.string ⟨s0.toArray⟩) (.slice a l c))
      simp [results, Tryz.results223, go_sem, exV, strV, hh.1]
    · exact rres_bad HB2.out hpl HX2.out _ _ _ _
  | ok ex r =>
    rintro e V2 ⟨hb2, ⟨v, rfl, kv, rfl, hK⟩, p', hd2, hx2⟩
    obtain ⟨ka, kc, rfl⟩ := hK.form
    have hz2 := (hb2.block _ hsz1 (by omega)).trans hz1
    obtain ⟨⟨c0, c1, c2, c3⟩, f0, f1, f2, f3⟩ := four_all hz2
    have HZ2 := Lib.hid hz2
    have HB2 := Lib.hid (HB1.out.trans hb2)
    have HX2 := Lib.hid hx2
    have HK2 := Lib.hid (KV.mono (h' := gp (fun b => w.heap.size < b) V2) (gp_le fun b hb hl => ⟨by omega, rfl⟩) hK)
    have HD := Lib.hid hd2
    clear hz1 hz2 hb2 hx2 hK hd2
    unfold exV strV
    go_wp2
    refine bodyPost_ret (v := exV ex.op ex.n ex.s (.slice ka ex.ks.length kc)) ?_ rfl ?_
    · have hh := four_all (set4_heap HZ2.out (.int .i64 ex.op) (.int .i64 ex.n) (.string ⟨ex.s.toArray⟩) (.slice ka ex.ks.length kc))
      simp [results, Tryz.results223, go_sem, exV, strV, hh.1]
    · rw [Ex.eta ex]
      exact rres_ok HB2.out hpl HK2.out HX2.out HD.out _ _ _ _
set_option maxRecDepth 1000000 in
set_option maxHeartbeats 8000000 in
theorem atom_bad (B p : Nat) (toks : List Tok) (tv : Value) (w : World) (h : XS w B tv p (-1)) (hT : TokV (gb B w) tv toks) (hE : Ended (toks.drop p)) (hl : toks.length ≤ 1000) (h1 : (hd (toks.drop p)).k ≠ 1) (h2 : (hd (toks.drop p)).k ≠ 2) (h3 : (hd (toks.drop p)).k ≠ 3) (hs : isSg [40] (hd (toks.drop p)) = false) : Calls Tryz.prog 223 #[.pointer (some ⟨B, 0, none⟩)] w (RRes B tv toks (.bad (hd (toks.drop p)).p) w) := by
  have K1 : ((hd (toks.drop p)).k == 1) = false := beq_eq_false_iff_ne.2 h1
  have K2 : ((hd (toks.drop p)).k == 2) = false := beq_eq_false_iff_ne.2 h2
  have K3 : ((hd (toks.drop p)).k == 3) = false := beq_eq_false_iff_ne.2 h3
  have HS := Lib.hid (fun W hx hT => xsign_no [40] B p toks _ tv W hx hT hE.at.1 hl hs)
  have HW := Lib.hid (fun W hx hT => xwrong_any B p toks _ tv W hx hT hE.at.1 hl)
  clear h1 h2 h3 hs
  have hpl := h.cells.2.2.2.2.2
  have hb0 := (Below.refl w.heap.size w).alloc (Nat.le_refl _) (.cells #[.int .i64 0, .int .i64 0, .string ⟨#[]⟩, .slice none 0 0] 28)
  have HX0 := Lib.hid (h.keep hb0)
  have HT0 : Hid (∀ W, But B w W → TokV (gb B W) tv toks) := Lib.hid (fun W hb => SlV.mono hT hb.gb)
  have HK := Lib.hid (xtok_any B p (-1) toks _ tv _ (h.keep hb0) (SlV.mono hT (But.below (pb := B) hb0).gb) hE.at.1 hl)
  have HZ := Lib.hid (heap_alloc_new w (.cells #[.int .i64 0, .int .i64 0, .string ⟨#[]⟩, .slice none 0 0] 28))
  have HB := Lib.hid (But.below (pb := B) hb0)
  have hsz : w.heap.size < (w.alloc (.cells #[.int .i64 0, .int .i64 0, .string ⟨#[]⟩, .slice none 0 0] 28)).heap.size := by simp
  have HTL := Lib.hid (drop_tail toks p)
  have hpt := hE.at.2
  have i1 : (p : Int) < 1000 := by omega
  have i0 : (0 : Int) ≤ (p : Int) := by omega
  generalize hd (toks.drop p) = t at *
  clear h hT hE hb0
  unfold tokV strV at *
  go_enter Tryz.func223, Tryz.ntmps223
  go_upto_region 1 with fail
  have cX := HX0.out.cells
  generalize w.alloc (.cells #[.int .i64 0, .int .i64 0, .string ⟨#[]⟩, .slice none 0 0] 28) = W0 at *
  obtain ⟨c0, c1, c2, f1, f2, hplW⟩ := cX
  go_wp2_with fail
  refine HK.out.mono ?_
  rintro e W1 ⟨rfl, hb⟩
  have HX1 := Lib.hid (HX0.out.keep hb)
  have HB1 := Lib.hid (HB.out.call hb)
  have hz1 := (hb.block _ hsz).trans HZ.out
  have hsz1 : w.heap.size < W1.heap.size := (Array.getElem?_eq_some_iff.1 hz1).1
  clear hb hsz HX0 HB HZ HK c0 c1 c2 f1 f2 hplW
  have HX2 := Lib.hid (HX1.out.alloc (.cells #[.int .i64 t.k, .string ⟨t.s.toArray⟩, .int .i64 t.n, .int .i64 t.p] 61))
  have HB2 := Lib.hid (HB1.out.alloc (.cells #[.int .i64 t.k, .string ⟨t.s.toArray⟩, .int .i64 t.n, .int .i64 t.p] 61))
  have HT2 := Lib.hid (HT0.out _ HB2.out)
  have hz2 := (Lib.alloc_old W1 (.cells #[.int .i64 t.k, .string ⟨t.s.toArray⟩, .int .i64 t.n, .int .i64 t.p] 61) _ hsz1).trans hz1
  have ht2 := heap_alloc_new W1 (.cells #[.int .i64 t.k, .string ⟨t.s.toArray⟩, .int .i64 t.n, .int .i64 t.p] 61)
  go_upto_region 4 with fail
  generalize W1.alloc (.cells #[.int .i64 t.k, .string ⟨t.s.toArray⟩, .int .i64 t.n, .int .i64 t.p] 61) = W2 at *
  have hsz2 : w.heap.size < W2.heap.size := (Array.getElem?_eq_some_iff.1 hz2).1
  clear hz1 HX1 HB1
  obtain ⟨⟨d0, d1, d2, d3⟩, -⟩ := four_all ht2
  go_wp2_with fail
  refine (HS.out _ HX2.out HT2.out).mono ?_
  rintro e W3 ⟨rfl, hb⟩
  have HX3 := Lib.hid (HX2.out.keep hb)
  have HB3 := Lib.hid (HB2.out.call hb)
  have hz3 := (hb.block _ hsz2).trans hz2
  have hsz3 : w.heap.size < W3.heap.size := (Array.getElem?_eq_some_iff.1 hz3).1
  clear hb hz2 ht2 hsz2 HB2 HX2 HT2 d0 d1 d2 d3
  go_wp2_with fail
  refine (HW.out _ HX3.out (HT0.out _ HB3.out)).mono ?_
  rintro e W4 ⟨rfl, hb, hx⟩
  have hz4 := (hb.block _ hsz3 (by omega)).trans hz3
  have HB4 := Lib.hid (HB3.out.trans hb)
  obtain ⟨⟨g0, g1, g2, g3⟩, e0, e1, e2, e3⟩ := four_all hz4
  have HZ4 := Lib.hid hz4
  have HX4 := Lib.hid hx
  clear hb hz3 hz4 hx
  unfold exV strV
  go_wp2
  refine bodyPost_ret (v := exV 0 0 [] (.slice none 0 0)) ?_ rfl ?_
  · have hh := four_all (set4_heap HZ4.out (.int .i64 0) (.int .i64 0) (.string ⟨#[]⟩) (.slice none 0 0))
    simp [results, Tryz.results223, go_sem, exV, strV, hh.1]
  · exact rres_bad HB4.out hpl HX4.out _ _ _ _
set_option maxRecDepth 1000000 in
set_option maxHeartbeats 8000000 in
theorem atom_paren (B p : Nat) (toks : List Tok) (tv : Value) (w : World) (h : XS w B tv p (-1)) (hT : TokV (gb B w) tv toks) (hE : Ended (toks.drop p)) (hl : toks.length ≤ 1000) (x : PR) (hs : isSg [40] (hd (toks.drop p)) = true) (hx : ∀ e r, x = .ok e r → Ended r)
    (hrec : ∀ W, XS W B tv (p + 1) (-1) → TokV (gb B W) tv toks → Calls Tryz.prog 34 #[.pointer (some ⟨B, 0, none⟩)] W (RRes B tv toks x W)) :
    Calls Tryz.prog 223 #[.pointer (some ⟨B, 0, none⟩)] w (RRes B tv toks (x.then fun e r => if isSg [41] (hd r) then .ok e r.tail else .bad (hd r).p) w) := by
  have hk := isSg_k hs
  have K1 : ((hd (toks.drop p)).k == 1) = false := by simp [hk]
  have K2 : ((hd (toks.drop p)).k == 2) = false := by simp [hk]
  have K3 : ((hd (toks.drop p)).k == 3) = false := by simp [hk]
  have HS := Lib.hid (fun W hx hT => xsign_yes [40] B p toks _ tv W hx hT hE.at.1 hl hs)
  have HR := Lib.hid hrec
  have HEN := Lib.hid hx
  have HMB := Lib.hid (fun p' q W h => xmust_bad [41] B p' q tv W h)
  have HMY := Lib.hid (fun p' t W h hT ht hs => xmust_yes [41] B p' toks t tv W h hT ht hl hs)
  have HMN := Lib.hid (fun p' t W h hT ht hs => xmust_no [41] B p' toks t tv W h hT ht hl hs)
  unfold strV at HMB HMY HMN
  clear hk hs hrec hx
  have hpl := h.cells.2.2.2.2.2
  have hb0 := (Below.refl w.heap.size w).alloc (Nat.le_refl _) (.cells #[.int .i64 0, .int .i64 0, .string ⟨#[]⟩, .slice none 0 0] 28)
  have HX0 := Lib.hid (h.keep hb0)
  have HT0 : Hid (∀ W, But B w W → TokV (gb B W) tv toks) := Lib.hid (fun W hb => SlV.mono hT hb.gb)
  have HK := Lib.hid (xtok_any B p (-1) toks _ tv _ (h.keep hb0) (SlV.mono hT (But.below (pb := B) hb0).gb) hE.at.1 hl)
  have HZ := Lib.hid (heap_alloc_new w (.cells #[.int .i64 0, .int .i64 0, .string ⟨#[]⟩, .slice none 0 0] 28))
  have HB := Lib.hid (But.below (pb := B) hb0)
  have hsz : w.heap.size < (w.alloc (.cells #[.int .i64 0, .int .i64 0, .string ⟨#[]⟩, .slice none 0 0] 28)).heap.size := by simp
  have HTL := Lib.hid (drop_tail toks p)
  have hpt := hE.at.2
  have i1 : (p : Int) < 1000 := by omega
  have i0 : (0 : Int) ≤ (p : Int) := by omega
  generalize hd (toks.drop p) = t at *
  clear h hT hE hb0
  unfold tokV strV at *
  go_enter Tryz.func223, Tryz.ntmps223
  go_upto_region 1 with fail
  have cX := HX0.out.cells
  generalize w.alloc (.cells #[.int .i64 0, .int .i64 0, .string ⟨#[]⟩, .slice none 0 0] 28) = W0 at *
  obtain ⟨c0, c1, c2, f1, f2, hplW⟩ := cX
  go_wp2_with fail
  refine HK.out.mono ?_
  rintro e W1 ⟨rfl, hb⟩
  have HX1 := Lib.hid (HX0.out.keep hb)
  have HB1 := Lib.hid (HB.out.call hb)
  have hz1 := (hb.block _ hsz).trans HZ.out
  have hsz1 : w.heap.size < W1.heap.size := (Array.getElem?_eq_some_iff.1 hz1).1
  clear hb hsz HX0 HB HZ HK c0 c1 c2 f1 f2 hplW
  have HX2 := Lib.hid (HX1.out.alloc (.cells #[.int .i64 t.k, .string ⟨t.s.toArray⟩, .int .i64 t.n, .int .i64 t.p] 61))
  have HB2 := Lib.hid (HB1.out.alloc (.cells #[.int .i64 t.k, .string ⟨t.s.toArray⟩, .int .i64 t.n, .int .i64 t.p] 61))
  have HT2 := Lib.hid (HT0.out _ HB2.out)
  have hz2 := (Lib.alloc_old W1 (.cells #[.int .i64 t.k, .string ⟨t.s.toArray⟩, .int .i64 t.n, .int .i64 t.p] 61) _ hsz1).trans hz1
  have ht2 := heap_alloc_new W1 (.cells #[.int .i64 t.k, .string ⟨t.s.toArray⟩, .int .i64 t.n, .int .i64 t.p] 61)
  go_upto_region 4 with fail
  generalize W1.alloc (.cells #[.int .i64 t.k, .string ⟨t.s.toArray⟩, .int .i64 t.n, .int .i64 t.p] 61) = W2 at *
  have hsz2 : w.heap.size < W2.heap.size := (Array.getElem?_eq_some_iff.1 hz2).1
  clear hz1 HX1 HB1
  obtain ⟨⟨d0, d1, d2, d3⟩, -⟩ := four_all ht2
  go_wp2_with fail
  refine (HS.out _ HX2.out HT2.out).mono ?_
  rintro e W3 ⟨rfl, hb, hx⟩
  have hz3 := (hb.block _ hsz2 (by omega)).trans hz2
  have hsz3 : w.heap.size < W3.heap.size := (Array.getElem?_eq_some_iff.1 hz3).1
  have HB3 := Lib.hid (HB2.out.trans hb)
  clear hb hz2 ht2 hsz2 HB2 HX2 HT2 d0 d1 d2 d3 HS
  go_wp2_with fail
  refine (HR.out _ hx (HT0.out _ HB3.out)).mono ?_
  clear hx HR
  cases x with
  | out => rintro e W4 ⟨-, h⟩; exact h.elim
  | bad q =>
    rintro e W4 ⟨hb4, ⟨v, rfl, o, n, s0, a, l, c, rfl⟩, p', hx4⟩
    have hz4 := (hb4.block _ hsz3 (by omega)).trans hz3
    have hsz4 : w.heap.size < W4.heap.size := (Array.getElem?_eq_some_iff.1 hz4).1
    have HB4 := Lib.hid (HB3.out.trans hb4)
    have HBV := Lib.hid (HB4.out.alloc (.cells #[.int .i64 o, .int .i64 n, .string ⟨s0.toArray⟩, .slice a l c] 28))
    have HXV := Lib.hid (hx4.alloc (.cells #[.int .i64 o, .int .i64 n, .string ⟨s0.toArray⟩, .slice a l c] 28))
    have hzV := (Lib.alloc_old W4 (.cells #[.int .i64 o, .int .i64 n, .string ⟨s0.toArray⟩, .slice a l c] 28) _ hsz4).trans hz4
    have hcV := heap_alloc_new W4 (.cells #[.int .i64 o, .int .i64 n, .string ⟨s0.toArray⟩, .slice a l c] 28)
    unfold exV strV
    go_upto_region 14 with fail
    generalize W4.alloc (.cells #[.int .i64 o, .int .i64 n, .string ⟨s0.toArray⟩, .slice a l c] 28) = V at *
    have hlV : W4.heap.size < V.heap.size := (Array.getElem?_eq_some_iff.1 hcV).1
    have hsV : w.heap.size < V.heap.size := (Array.getElem?_eq_some_iff.1 hzV).1
    clear hz3 hz4 hb4 hx4 HB3 HB4
    obtain ⟨⟨c0, c1, c2, c3⟩, -⟩ := four_all hcV
    go_wp2_with fail
    refine (HMB.out _ _ _ HXV.out).mono ?_
    rintro e V2 ⟨rfl, rfl⟩
    obtain ⟨⟨g0, g1, g2, g3⟩, e0, e1, e2, e3⟩ := four_all hzV
    have HZF := Lib.hid hzV
    go_wp2
    refine bodyPost_ret (v := exV o n s0 (.slice a l c)) ?_ rfl ?_
    · have hh := four_all (set4_heap HZF.out (.int .i64 o) (.int .i64 n) (.string ⟨s0.toArray⟩) (.slice a l c))
      simp [results, Tryz.results223, go_sem, exV, strV, hh.1]
    · exact rres_bad HBV.out hpl HXV.out _ _ _ _
  | ok ex r =>
    rintro e W4 ⟨hb4, ⟨v, rfl, kv, rfl, hK⟩, p', hd4, hx4⟩
    obtain ⟨ka, kc, rfl⟩ := hK.form
    have hz4 := (hb4.block _ hsz3 (by omega)).trans hz3
    have hsz4 : w.heap.size < W4.heap.size := (Array.getElem?_eq_some_iff.1 hz4).1
    have HB4 := Lib.hid (HB3.out.trans hb4)
    have hEr := HEN.out ex r rfl
    have hat : toks[p']? = some (hd r) := by rw [← hd4] at hEr ⊢; exact hEr.at.1
    have HKV : Hid (KV (gp (fun b => w.heap.size < b ∧ b ≠ W4.heap.size) (W4.alloc (.cells #[.int .i64 ex.op, .int .i64 ex.n, .string ⟨ex.s.toArray⟩, .slice ka ex.ks.length kc] 28))) (.slice ka ex.ks.length kc) ex.ks) := Lib.hid (hK.mono (gp_le fun b hb hl => ⟨⟨by omega, by omega⟩, Lib.alloc_old W4 _ b hl⟩))
    have HBV := Lib.hid (HB4.out.alloc (.cells #[.int .i64 ex.op, .int .i64 ex.n, .string ⟨ex.s.toArray⟩, .slice ka ex.ks.length kc] 28))
    have HXV := Lib.hid (hx4.alloc (.cells #[.int .i64 ex.op, .int .i64 ex.n, .string ⟨ex.s.toArray⟩, .slice ka ex.ks.length kc] 28))
    have hzV := (Lib.alloc_old W4 (.cells #[.int .i64 ex.op, .int .i64 ex.n, .string ⟨ex.s.toArray⟩, .slice ka ex.ks.length kc] 28) _ hsz4).trans hz4
    have hcV := heap_alloc_new W4 (.cells #[.int .i64 ex.op, .int .i64 ex.n, .string ⟨ex.s.toArray⟩, .slice ka ex.ks.length kc] 28)
    unfold exV strV
    go_upto_region 14 with fail
    generalize W4.alloc (.cells #[.int .i64 ex.op, .int .i64 ex.n, .string ⟨ex.s.toArray⟩, .slice ka ex.ks.length kc] 28) = V at *
    have hlV : W4.heap.size < V.heap.size := (Array.getElem?_eq_some_iff.1 hcV).1
    have hsV : w.heap.size < V.heap.size := (Array.getElem?_eq_some_iff.1 hzV).1
    have HD := Lib.hid hd4
    have hTV := HT0.out _ HBV.out
    clear hz3 hz4 hb4 hx4 HB3 HB4 hK hd4 hEr
    cases hsg : isSg [41] (hd r) with
    | false =>
      have HXX : Hid ((PR.ok ex r).then (fun e r => if isSg [41] (hd r) then PR.ok e r.tail else .bad (hd r).p) = .bad (hd r).p) := Lib.hid (by simp only [PR.then]; rw [if_neg (by simp [hsg])])
      go_wp2_with fail
      refine (HMN.out _ _ _ HXV.out hTV hat hsg).mono ?_
      rintro e V2 ⟨rfl, hb5, hx5⟩
      have hz5 := (hb5.block _ hsV (by omega)).trans hzV
      have hc5 := (hb5.block _ hlV (by omega)).trans hcV
      have HB5 := Lib.hid (HBV.out.trans hb5)
      have HX5 := Lib.hid hx5
      obtain ⟨⟨c0, c1, c2, c3⟩, -⟩ := four_all hc5
      clear hb5 hx5 hzV hcV hsg hat hTV
      obtain ⟨⟨g0, g1, g2, g3⟩, e0, e1, e2, e3⟩ := four_all hz5
      have HZF := Lib.hid hz5
      go_wp2
      refine bodyPost_ret (v := exV ex.op ex.n ex.s (.slice ka ex.ks.length kc)) ?_ rfl ?_
      · have hh := four_all (set4_heap HZF.out (.int .i64 ex.op) (.int .i64 ex.n) (.string ⟨ex.s.toArray⟩) (.slice ka ex.ks.length kc))
        simp [results, Tryz.results223, go_sem, exV, strV, hh.1]
      · rw [HXX.out]; exact rres_bad HB5.out hpl HX5.out _ _ _ _
    | true =>
      have HXX : Hid ((PR.ok ex r).then (fun e r => if isSg [41] (hd r) then PR.ok e r.tail else .bad (hd r).p) = .ok ex r.tail) := Lib.hid (by simp only [PR.then]; rw [if_pos hsg])
      go_wp2_with fail
      refine (HMY.out _ _ _ HXV.out hTV hat hsg).mono ?_
      rintro e V2 ⟨rfl, hb5, hx5⟩
      have hz5 := (hb5.block _ hsV (by omega)).trans hzV
      have hc5 := (hb5.block _ hlV (by omega)).trans hcV
      have HB5 := Lib.hid (HBV.out.trans hb5)
      have HX5 := Lib.hid hx5
      have HK5 : Hid (KV (gp (fun b => w.heap.size < b) V2) (.slice ka ex.ks.length kc) ex.ks) := Lib.hid (HKV.out.mono (gp_le fun b hb hl => ⟨hb.1, hb5.block _ hl (by omega)⟩))
      have HD5 : Hid (toks.drop (p' + 1) = r.tail) := Lib.hid (by rw [← drop_tail, HD.out])
      obtain ⟨⟨c0, c1, c2, c3⟩, -⟩ := four_all hc5
      clear hb5 hx5 hzV hcV hsg hat hTV
      obtain ⟨⟨g0, g1, g2, g3⟩, e0, e1, e2, e3⟩ := four_all hz5
      have HZF := Lib.hid hz5
      go_wp2
      refine bodyPost_ret (v := exV ex.op ex.n ex.s (.slice ka ex.ks.length kc)) ?_ rfl ?_
      · have hh := four_all (set4_heap HZF.out (.int .i64 ex.op) (.int .i64 ex.n) (.string ⟨ex.s.toArray⟩) (.slice ka ex.ks.length kc))
        simp [results, Tryz.results223, go_sem, exV, strV, hh.1]
      · rw [HXX.out, Ex.eta ex]
        exact rres_ok HB5.out hpl HK5.out HX5.out HD5.out _ _ _ _
end Go.Proofs.YtoklhppalkgdeaaGreatDoor
