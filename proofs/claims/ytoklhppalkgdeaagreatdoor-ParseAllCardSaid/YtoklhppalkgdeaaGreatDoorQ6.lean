/- The walks of the document's unary; the levels by induction; the walk of the document's Parse. No condition. -/
import Derived.Test.YtoklhppalkgdeaaGreatDoorQ5
import Derived.Test.YtoklhppalkgdeaaGreatDoorRN
set_option linter.unusedSimpArgs false
set_option linter.unusedVariables false
set_option linter.unusedSectionVars false
namespace Go.Proofs.YtoklhppalkgdeaaGreatDoor
open Go.RowKit Pal
set_option maxRecDepth 1000000 in
set_option maxHeartbeats 8000000 in
theorem unary_else (B p : Nat) (toks : List Tok) (tv : Value) (w : World) (h : XS w B tv p (-1)) (hT : TokV (gb B w) tv toks) (hE : Ended (toks.drop p)) (hl : toks.length ≤ 1000) (x : PR) (h1 : isSg [45] (hd (toks.drop p)) = false) (h2 : isSg [33] (hd (toks.drop p)) = false)
    (hrec : ∀ W, XS W B tv p (-1) → TokV (gb B W) tv toks → Calls Tryz.prog 223 #[.pointer (some ⟨B, 0, none⟩)] W (RRes B tv toks x W)) :
    Calls Tryz.prog 214 #[.pointer (some ⟨B, 0, none⟩)] w (RRes B tv toks x w) := by
  have hpl := h.cells.2.2.2.2.2
  have hb0 := (Below.refl w.heap.size w).alloc (Nat.le_refl _) (.cells #[.int .i64 0, .int .i64 0, .string ⟨#[]⟩, .slice none 0 0] 28)
  have HX0 := Lib.hid (h.keep hb0)
  have HT0 : Hid (∀ W, But B w W → TokV (gb B W) tv toks) := Lib.hid (fun W hb => SlV.mono hT hb.gb)
  have HN1 := Lib.hid (fun W hx hT => xsign_no [45] B p toks _ tv W hx hT hE.at.1 hl h1)
  have HN2 := Lib.hid (fun W hx hT => xsign_no [33] B p toks _ tv W hx hT hE.at.1 hl h2)
  have HR := Lib.hid hrec
  have HZ := Lib.hid (heap_alloc_new w (.cells #[.int .i64 0, .int .i64 0, .string ⟨#[]⟩, .slice none 0 0] 28))
  have HB := Lib.hid (But.below (pb := B) hb0)
  have hsz : w.heap.size < (w.alloc (.cells #[.int .i64 0, .int .i64 0, .string ⟨#[]⟩, .slice none 0 0] 28)).heap.size := by simp
  clear h hT hE hrec h1 h2 hb0
  unfold strV at HN1 HN2
  go_enter Tryz.func214, Tryz.ntmps214
  go_upto_region 1 with fail
  generalize w.alloc (.cells #[.int .i64 0, .int .i64 0, .string ⟨#[]⟩, .slice none 0 0] 28) = W0 at *
  go_wp2_with fail
  refine (HN1.out _ HX0.out (HT0.out _ HB.out)).mono ?_
  rintro e V1 ⟨rfl, hb⟩
  have HX1 := Lib.hid (HX0.out.keep hb)
  have HBv1 := Lib.hid (HB.out.call hb)
  have HZv1 := Lib.hid ((hb.block _ hsz).trans HZ.out)
  have hszv1 : w.heap.size < V1.heap.size := (Array.getElem?_eq_some_iff.1 HZv1.out).1
  clear hb
  go_wp2_with fail
  refine (HN2.out _ HX1.out (HT0.out _ HBv1.out)).mono ?_
  rintro e V2 ⟨rfl, hb⟩
  have HX2 := Lib.hid (HX1.out.keep hb)
  have HBv2 := Lib.hid (HBv1.out.call hb)
  have HZv2 := Lib.hid ((hb.block _ hszv1).trans HZv1.out)
  have hszv2 : w.heap.size < V2.heap.size := (Array.getElem?_eq_some_iff.1 HZv2.out).1
  clear hb
  go_wp2_with fail
  refine (HR.out _ HX2.out (HT0.out _ HBv2.out)).mono ?_
  have HB1 := HBv2
  have hz1 := HZv2.out
  have hsz1 := hszv2
  clear HX0 HX1 HX2 HB HBv1 HBv2 HZ HZv1 HZv2 hsz hszv1 hszv2 HR HN1 HN2
  generalize V2 = W1 at *
  cases x with
  | out => rintro e W2 ⟨-, h⟩; exact h.elim
  | bad q =>
    rintro e W2 ⟨hb2, ⟨v, rfl, o, n, s0, a, l, c, rfl⟩, p', hx2⟩
    have hz2 := (hb2.block _ hsz1 (by omega)).trans hz1
    obtain ⟨⟨c0, c1, c2, c3⟩, f0, f1, f2, f3⟩ := four_all hz2
    have HZ2 := Lib.hid hz2
    have HB2 := Lib.hid (HB1.out.trans hb2)
    have HX2 := Lib.hid hx2
    clear hz1 hz2 hb2 hx2
    unfold exV strV
    go_wp2
    refine bodyPost_ret (v := exV o n s0 (.slice a l c)) ?_ rfl ?_
    · have hh := four_all (set4_heap HZ2.out (.int .i64 o) (.int .i64 n) (.string ⟨s0.toArray⟩) (.slice a l c))
      simp [results, Tryz.results214, go_sem, exV, strV, hh.1]
    · exact rres_bad HB2.out hpl HX2.out _ _ _ _
  | ok ex r =>
    rintro e W2 ⟨hb2, ⟨v, rfl, kv, rfl, hK⟩, p', hd2, hx2⟩
    obtain ⟨ka, kc, rfl⟩ := hK.form
    have hz2 := (hb2.block _ hsz1 (by omega)).trans hz1
    obtain ⟨⟨c0, c1, c2, c3⟩, f0, f1, f2, f3⟩ := four_all hz2
    have HZ2 := Lib.hid hz2
    have HB2 := Lib.hid (HB1.out.trans hb2)
    have HX2 := Lib.hid hx2
    have HK2 := Lib.hid (KV.mono (h' := gp (fun b => w.heap.size < b) W2) (gp_le fun b hb hl => ⟨by omega, rfl⟩) hK)
    have HD := Lib.hid hd2
    clear hz1 hz2 hb2 hx2 hK hd2
    unfold exV strV
    go_wp2
    refine bodyPost_ret (v := exV ex.op ex.n ex.s (.slice ka ex.ks.length kc)) ?_ rfl ?_
    · have hh := four_all (set4_heap HZ2.out (.int .i64 ex.op) (.int .i64 ex.n) (.string ⟨ex.s.toArray⟩) (.slice ka ex.ks.length kc))
      simp [results, Tryz.results214, go_sem, exV, strV, hh.1]
    · rw [Ex.eta ex]
      exact rres_ok HB2.out hpl HK2.out HX2.out HD.out _ _ _ _
def UnOK (f : Nat) : Prop := ∀ (B p : Nat) (toks : List Tok) (tv : Value) (w : World), XS w B tv p (-1) → TokV (gb B w) tv toks → Ended (toks.drop p) → toks.length ≤ 1000 → parseJ f .one (toks.drop p) ≠ .out →
  Calls Tryz.prog 214 #[.pointer (some ⟨B, 0, none⟩)] w (RRes B tv toks (parseJ f .one (toks.drop p)) w)
theorem word_step (f B p : Nat) (toks : List Tok) (tv : Value) (w : World) (s : Bs) (h : XS w B tv p (-1)) (hT : TokV (gb B w) tv toks) (hE : Ended (toks.drop (p + 1))) (hl : toks.length ≤ 1000) (hpt : p < toks.length)
    (hne : namX f s (toks.drop (p + 1)) ≠ .out) (ih : ∀ g, g < f → LvOK g) : Calls Tryz.prog 225 #[.pointer (some ⟨B, 0, none⟩), strV s] w (RRes B tv toks (namX f s (toks.drop (p + 1))) w) := by
  unfold namX at hne ⊢
  by_cases hw : word s = false
  · rw [if_pos hw]
    exact word_name B p toks tv w s h hT hl hpt hw
  rw [if_neg hw] at hne ⊢
  by_cases h1 : s = wTrue
  · rw [if_pos h1]
    exact word_true B p toks tv w s h hT hl hpt h1
  rw [if_neg h1] at hne ⊢
  by_cases h2 : s = wFalse
  · rw [if_pos h2]
    exact word_false B p toks tv w s h hT hl hpt h2
  rw [if_neg h2] at hne ⊢
  have hc := calls6_of (by simpa using hw) h1 h2
  unfold calls6 at hc
  simp only [List.mem_cons, List.mem_nil_iff, or_false] at hc
  rcases hc with rfl | rfl | rfl | rfl | rfl | rfl
  · exact word_if B p toks tv w _ h hT hl hpt rfl _ (fun W hx hTW => args_step f B (p + 1) toks tv W hx hTW hE hl 18 3 (by decide) (by decide) _ rfl hne ih)
  · exact word_len B p toks tv w _ h hT hl hpt rfl _ (fun W hx hTW => args_step f B (p + 1) toks tv W hx hTW hE hl 19 1 (by decide) (by decide) _ rfl hne ih)
  · exact word_cat B p toks tv w _ h hT hl hpt rfl _ (fun W hx hTW => args_step f B (p + 1) toks tv W hx hTW hE hl 20 2 (by decide) (by decide) _ rfl hne ih)
  · exact word_cut B p toks tv w _ h hT hl hpt rfl _ (fun W hx hTW => args_step f B (p + 1) toks tv W hx hTW hE hl 21 2 (by decide) (by decide) _ rfl hne ih)
  · exact word_up B p toks tv w _ h hT hl hpt rfl _ (fun W hx hTW => args_step f B (p + 1) toks tv W hx hTW hE hl 23 1 (by decide) (by decide) _ rfl hne ih)
  · have hat := hE.at
    cases hs0 : isSg [40] (hd (toks.drop (p + 1))) with
    | false =>
      rw [if_neg (by simp)]
      exact word_has1 B p toks tv w _ h hT hl hpt rfl _ hat.1 hs0
    | true =>
      rw [hs0, if_pos rfl, drop_tail] at hne
      rw [if_pos rfl, drop_tail]
      have hE2 : Ended (toks.drop (p + 1 + 1)) := by rw [← drop_tail]; exact hE.tail (by have := isSg_k hs0; omega)
      have hat2 := hE2.at
      have hres := fun s w => refReserved_any s w
      show Calls _ _ _ _ (RRes B tv toks (parseJ f (.args 22 1 []) (toks.drop (p + 1 + 1))) w)
      change parseJ f (.args 22 1 []) (toks.drop (p + 1 + 1)) ≠ .out at hne
      cases f with
      | zero => exact absurd rfl hne
      | succ g =>
      rw [args_first] at hne ⊢
      unfold argX at hne ⊢
      rw [if_pos rfl] at hne ⊢
      by_cases hb : (hd (toks.drop (p + 1 + 1))).k ≠ 3 ∨ word (hd (toks.drop (p + 1 + 1))).s = true
      · rw [if_pos hb]
        by_cases hk : (hd (toks.drop (p + 1 + 1))).k = 3
        · exact word_has2b B p toks tv w _ h hT hl hpt rfl _ _ hat.1 hs0 hat2.1 hres ⟨hk, hb.resolve_left (by simp [hk])⟩
        · exact word_has2a B p toks tv w _ h hT hl hpt rfl _ _ hat.1 hs0 hat2.1 hres hk
      · rw [if_neg hb, drop_tail] at hne ⊢
        have hk : (hd (toks.drop (p + 1 + 1))).k = 3 := Classical.byContradiction fun h => hb (.inl h)
        have hw2 : word (hd (toks.drop (p + 1 + 1))).s = false := by
          cases hx : word (hd (toks.drop (p + 1 + 1))).s with
          | false => rfl
          | true => exact absurd (.inr hx) hb
        have hE3 : Ended (toks.drop (p + 1 + 1 + 1)) := by rw [← drop_tail]; exact hE2.tail (by omega)
        have hat3 := hE3.at
        cases g with
        | zero => exact absurd rfl hne
        | succ g =>
        rw [args_nil] at hne ⊢
        cases hs3 : isSg [41] (hd (toks.drop (p + 1 + 1 + 1))) with
        | false =>
          rw [if_neg (by simp)]
          exact word_has3 B p toks tv w _ h hT hl hpt rfl _ _ hat.1 hs0 hat2.1 hres hk hw2 _ hat3.1 hs3
        | true =>
          rw [if_pos rfl, drop_tail]
          exact word_has4 B p toks tv w _ h hT hl hpt rfl _ _ hat.1 hs0 hat2.1 hres hk hw2 _ hat3.1 hs3
theorem un_step (f : Nat) (ih : ∀ g, g ≤ f → LvOK g ∧ UnOK g) : UnOK (f + 1) := by
  intro B p toks tv w h hT hE hl hne
  have then_ne : ∀ {x : PR} {k : Ex → List Tok → PR}, x.then k ≠ .out → x ≠ .out := fun h e => by rw [e] at h; exact h rfl
  have htl : (toks.drop p).tail = toks.drop (p + 1) := drop_tail toks p
  cases h1 : isSg [45] (hd (toks.drop p)) with
  | true =>
    have hE1 : Ended (toks.drop (p + 1)) := by rw [← htl]; exact hE.tail (by have := isSg_k h1; omega)
    rw [oneS_minus h1, htl] at hne ⊢
    exact unary_minus B p toks tv w h hT hE hl _ h1 (fun W hpW hTW => (ih f (Nat.le_refl _)).2 B (p + 1) toks tv W hpW hTW hE1 hl (then_ne hne))
  | false =>
  cases h2 : isSg [33] (hd (toks.drop p)) with
  | true =>
    have hE1 : Ended (toks.drop (p + 1)) := by rw [← htl]; exact hE.tail (by have := isSg_k h2; omega)
    rw [oneS_not h1 h2, htl] at hne ⊢
    exact unary_not B p toks tv w h hT hE hl _ h2 h1 (fun W hpW hTW => (ih f (Nat.le_refl _)).2 B (p + 1) toks tv W hpW hTW hE1 hl (then_ne hne))
  | false =>
  refine unary_else B p toks tv w h hT hE hl _ h1 h2 (fun W hx hTW => ?_)
  cases h3 : isSg [40] (hd (toks.drop p)) with
  | true =>
    have hE1 : Ended (toks.drop (p + 1)) := by rw [← htl]; exact hE.tail (by have := isSg_k h3; omega)
    rw [oneS_paren h1 h2 h3, htl] at hne ⊢
    exact atom_paren B p toks tv W hx hTW hE hl _ h3 (fun e r h => (parseJ_left _ _ _ hE1 e r h).1) (fun W hpW hTW => (ih f (Nat.le_refl _)).1 0 B (p + 1) toks tv W (by omega) hpW hTW hE1 hl (then_ne hne))
  | false =>
  by_cases k1 : (hd (toks.drop p)).k = 1
  · rw [oneS_num h1 h2 h3 k1]
    exact atom_num B p toks tv W hx hTW hE hl k1
  by_cases k2 : (hd (toks.drop p)).k = 2
  · rw [oneS_text h1 h2 h3 k2]
    exact atom_text B p toks tv W hx hTW hE hl k2
  by_cases k3 : (hd (toks.drop p)).k = 3
  · have hE1 : Ended (toks.drop (p + 1)) := by rw [← htl]; exact hE.tail (by omega)
    rw [one_name_x k3, htl] at hne ⊢
    exact atom_name B p toks tv W hx hTW hE hl k3 _ (fun V hpV hTV => word_step f B p toks tv V _ hpV hTV hE1 hl hE.at.2 hne (fun g hg => (ih g (by omega)).1))
  · rw [oneS_bad h1 h2 h3 k1 k2 k3]
    exact atom_bad B p toks tv W hx hTW hE hl k1 k2 k3 h3
theorem lv_step (f : Nat) (ih : ∀ g, g ≤ f → LvOK g ∧ UnOK g) : LvOK (f + 1) := by
  intro n B p toks tv w hn h hT hE hl hne
  have ih1 : ∀ g, g ≤ f → LvOK g := fun g hg => (ih g hg).1
  match n, hn with
  | 0, _ => exact or_step f B p toks tv w h hT hE hl _ rfl hne ih1
  | 1, _ => exact and_step f B p toks tv w h hT hE hl _ rfl hne ih1
  | 2, _ => exact cmp_step f B p toks tv w h hT hE hl _ rfl hne ih1
  | 3, _ => exact sum_step f B p toks tv w h hT hE hl _ rfl hne ih1
  | 4, _ => exact product_step f B p toks tv w h hT hE hl _ rfl hne ih1
  | 5, _ =>
    have he : parseJ (f + 1) (.two 5) (toks.drop p) = parseJ f .one (toks.drop p) := by
      conv => lhs; unfold parseJ
      rw [if_pos (by omega)]
    rw [he] at hne ⊢
    exact (ih f (Nat.le_refl _)).2 B p toks tv w h hT hE hl hne
theorem lv_all : ∀ f, ∀ g, g ≤ f → LvOK g ∧ UnOK g := by
  intro f
  induction f with
  | zero =>
    intro g hg
    have : g = 0 := by omega
    subst this
    exact ⟨fun _ _ _ _ _ _ _ _ _ _ _ h => absurd rfl h, fun _ _ _ _ _ _ _ _ _ h => absurd rfl h⟩
  | succ f ih =>
    intro g hg
    by_cases h : g ≤ f
    · exact ih g h
    · have : g = f + 1 := by omega
      subst this
      exact ⟨lv_step f ih, un_step f ih⟩
theorem lvOK (f : Nat) : LvOK f := (lv_all f f (Nat.le_refl _)).1
end Go.Proofs.YtoklhppalkgdeaaGreatDoor
