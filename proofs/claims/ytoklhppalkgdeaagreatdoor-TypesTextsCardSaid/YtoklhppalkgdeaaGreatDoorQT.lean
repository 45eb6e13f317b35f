/- The walk of palaverlaw08.TypesTexts. Conditions: the tables hold what they are laid with; the arguments read as data. -/
import Derived.Test.YtoklhppalkgdeaaGreatDoorQC
import Derived.Test.YtoklhppalkgdeaaGreatDoorTY
import Derived.Test.YtoklhppalkgdeaaGreatDoorG9
import Derived.Test.YtoklhppalkgdeaaGreatDoorR1
import Derived.Deep.RegionHeld3
set_option linter.unusedSimpArgs false
set_option linter.unusedVariables false
set_option linter.unusedSectionVars false
namespace Go.Proofs.YtoklhppalkgdeaaGreatDoor
open Go.RowKit Pal
/-- What the document's parser hands back, at one expression or none. -/
theorem rparse_out {s : ByteArray} {w w' : World} {e : Ending} (h : parsePost s w e w') : Below w.heap.size w w' ∧ ((∃ ex a c, parseM s.data.toList = .ok ex ∧ e = .returned (.tuple #[exV ex.op ex.n ex.s (.slice a ex.ks.length c), .int .i64 0, .int .i64 0]) ∧ KV (gh w') (.slice a ex.ks.length c) ex.ks) ∨
    (∃ (p : Nat) (k : Int), k ≠ 0 ∧ e = .returned (.tuple #[.agg #[.int .i64 0, .int .i64 0, .string ⟨#[]⟩, .slice none 0 0], .int .i64 p, .int .i64 k]))) := by
  refine ⟨h.1, ?_⟩
  have h2 := h.2
  split at h2
  · rename_i p k hm
    refine .inr ⟨p, k, ?_, h2⟩
    unfold parseM at hm
    split at hm
    · simp only [Except.error.injEq, Prod.mk.injEq] at hm; omega
    · split at hm
      · simp only [Except.error.injEq, Prod.mk.injEq] at hm; omega
      · split at hm
        · simp only [Except.error.injEq, Prod.mk.injEq] at hm; omega
        · split at hm
          · cases hm
          · simp only [Except.error.injEq, Prod.mk.injEq] at hm; omega
  · rename_i ex hm
    obtain ⟨v, hv, kv, rfl, hk⟩ := h2
    obtain ⟨a, c, rfl⟩ := hk.form
    exact .inl ⟨ex, a, c, hm, hv, hk.mono (gp_gh _ _)⟩
def twoPost (t f : Int) (W : World) (r : Ending) (w' : World) : Prop := r = .returned (.tuple #[.int .i64 t, .int .i64 f]) ∧ Below W.heap.size W w'
set_option maxRecDepth 1000000 in
set_option maxHeartbeats 8000000 in
theorem typestexts_walk (s : ByteArray) (names : List Bs) (nv : Value) (types : List Int) (tv : Value) (w : World) (hL : Lay2 w) (hm : s.size ≤ 9223372036854775807)
    (hN : StrsV (gh w) nv names) (hNs : ∀ s ∈ names, s.length ≤ 9223372036854775807) (hNn : NilV nv) (hT : NumsV (gh w) tv types) (hTs : ∀ s ∈ types, I64 s) :
    Calls Tryz.prog 3 #[.string s, nv, tv] w (yesPost w) := by
  have HL := Lib.hid hL
  have HN := Lib.hid hN
  have HT := Lib.hid hT
  have HNN := Lib.hid hNn
  obtain ⟨na, nc, rfl⟩ := hN.form
  obtain ⟨ta, tc, rfl, htl⟩ := hT.form
  obtain ⟨fw, hfw⟩ : ∃ b, few8 names types = b := ⟨_, rfl⟩
  have HFW := Lib.hid (fun W => hfw ▸ few8_any names types na ta nc tc W hN.len htl)
  have HIV : Hid (fw = true → IntsV (gh w) (.slice ta types.length tc) types) := Lib.hid (fun h => HT.out.ints (few8_len (hfw.trans h)).2)
  have HCN := Lib.hid (fun (h : fw = true) W (hb : Below w.heap.size w W) => Texts_any names _ W (HN.out.mono (below_gh hb)) HNN.out (few8_len (hfw.trans h)).1)
  have HCT := Lib.hid (fun (h : fw = true) W (hb : Below w.heap.size w W) => Ints_any types _ W ((HIV.out h).mono (below_gh hb)) (few8_len (hfw.trans h)).2)
  have HAW := Lib.hid (fun W (hb : Below w.heap.size w W) => awake8 W (HL.out.below hb).lay)
  have HP := Lib.hid (fun W => refParse_any s W hm)
  clear hL hN hNs hNn hT hTs hfw htl
  by_cases hlen : 400 < s.size
  · go_enter Tryz.func3, Tryz.ntmps3
    go_wp2_with fail
    refine (HAW.out _ (Below.refl _ _)).mono ?_
    rintro r V ⟨rfl, hbv⟩
    have hbv := ((Below.refl _ _)).seq hbv
    go_wp2
    go_ret
    exact ⟨rfl, hbv⟩
  cases fw with
  | false =>
    go_enter Tryz.func3, Tryz.ntmps3
    go_wp2_with fail
    refine (HFW.out _).mono ?_
    rintro r W0 ⟨rfl, rfl⟩
    go_wp2_with fail
    refine (HAW.out _ (Below.refl _ _)).mono ?_
    rintro r V ⟨rfl, hbv⟩
    have hbv := ((Below.refl _ _)).seq hbv
    go_wp2
    go_ret
    exact ⟨rfl, hbv⟩
  | true =>
    have HCN2 := Lib.hid (HCN.out (by first | rfl | trivial))
    have HCT2 := Lib.hid (HCT.out (by first | rfl | trivial))
    have HIV2 := Lib.hid (HIV.out (by first | rfl | trivial))
    clear HCN HCT HIV
    go_enter Tryz.func3, Tryz.ntmps3
    go_wp2_with fail
    refine (HFW.out _).mono ?_
    rintro r W0 ⟨rfl, rfl⟩
    go_wp2_with fail
    refine (HP.out _).mono ?_
    rintro r W1 h
    obtain ⟨hb1, ho⟩ := rparse_out h
    have HBB := Lib.hid hb1
    rcases ho with ⟨X, a, c, hpm, rfl, hk⟩ | ⟨p, k, hk0, rfl⟩
    case inr =>
      have q0 : (k != 0) = true := bne_iff_ne.2 hk0
      have HB2 := Lib.hid (HBB.out.alloc HBB.out.size (.cells #[.int .i64 0, .int .i64 0, .string ⟨#[]⟩, .slice none 0 0] 28))
      clear h hb1 hk0 HBB
      go_upto_region 4 with fail
      generalize W1.alloc (.cells #[.int .i64 0, .int .i64 0, .string ⟨#[]⟩, .slice none 0 0] 28) = W2 at *
      go_wp2_with fail
      refine (HAW.out _ HB2.out).mono ?_
      rintro r V ⟨rfl, hbv⟩
      have hbv := (HB2.out).seq hbv
      go_wp2
      go_ret
      exact ⟨rfl, hbv⟩
    case inl =>
      have HFI := Lib.hid (parseM_fine hpm)
      obtain ⟨t, f, htf⟩ : ∃ t f, typeOf X names types = (t, f) := ⟨_, _, rfl⟩
      have HOF : Hid (∀ v nv tv W, Below w.heap.size w W → EV (gh W) v X → StrsV (gh W) nv names → IntsV (gh W) tv types → Calls Tryz.prog 12 #[v, nv, tv] W (twoPost t f W)) := Lib.hid (fun v nv tv W hb hE hN hT => by
        have h := typesOf_any X v nv tv names types W HFI.out (HL.out.below hb).lay hE hN hT
        rw [htf] at h
        exact h)
      have HRO : Hid (∀ v nv tv W, EV (gh W) v X → StrsV (gh W) nv names → IntsV (gh W) tv types → Calls Tryz.prog 15 #[v, nv, tv] W (twoPost t f W)) := Lib.hid (fun v nv tv W hE hN hT => by
        have h := refOf_any X names types v nv tv W HFI.out hE hN hT
        rw [htf] at h
        exact h)
      have K2 : Hid (Kept w (W1.alloc (.cells #[.int .i64 X.op, .int .i64 X.n, .string ⟨X.s.toArray⟩, .slice a X.ks.length c] 28)) [(W1.heap.size, (.cells #[.int .i64 X.op, .int .i64 X.n, .string ⟨X.s.toArray⟩, .slice a X.ks.length c] 28))]) := Lib.hid (Kept.new ⟨hb1, fun x hx => by cases hx⟩ (.cells #[.int .i64 X.op, .int .i64 X.n, .string ⟨X.s.toArray⟩, .slice a X.ks.length c] 28))
      have HK2 := Lib.hid (hk.keep ((Below.refl _ _).alloc (Nat.le_refl _) (.cells #[.int .i64 X.op, .int .i64 X.n, .string ⟨X.s.toArray⟩, .slice a X.ks.length c] 28)))
      clear h hb1 hk hpm htf HBB HFW
      unfold exV strV
      unfold twoPost at HOF HRO
      go_upto_region 4 with fail
      generalize W1.alloc (.cells #[.int .i64 X.op, .int .i64 X.n, .string ⟨X.s.toArray⟩, .slice a X.ks.length c] 28) = W2 at *
      generalize W1.heap.size = bx at *
      go_upto_region 6 with fail
      have KK := Lib.hid K2.out.drew
      have HK := Lib.hid (HK2.out.keep ((Below.refl _ _).drew))
      obtain ⟨⟨g0, g1, g2, g3⟩, -⟩ := four_all KK.out.at0
      clear K2 HK2
      go_region_held3 (fun w' => (w'.cell? ⟨bx, 0, none⟩ = some (.int .i64 X.op) ∧ w'.cell? ⟨bx, 1, none⟩ = some (.int .i64 X.n) ∧ w'.cell? ⟨bx, 2, none⟩ = some (.string ⟨X.s.toArray⟩) ∧ w'.cell? ⟨bx, 3, none⟩ = some (.slice a X.ks.length c))) (go_keep)
        ((first
          | (go_at_call 13; refine (HCN2.out _ KK.out.below).mono ?_; rintro r W5 ⟨hb, v5, rfl, hs5⟩; obtain ⟨sa, sc, rfl⟩ := hs5.form; have KK := Lib.hid (KK.out.call hb); have HK := Lib.hid (HK.out.keep hb); have HS5 := Lib.hid hs5; have hg := four_all KK.out.at0; obtain ⟨⟨g0, g1, g2, g3⟩, -⟩ := hg; clear hb hs5)
          | (go_at_call 14; refine (HCT2.out _ KK.out.below).mono ?_; rintro r W6 ⟨hb, v6, rfl, hs6⟩; obtain ⟨ia, ic, rfl, -⟩ := intsV_form hs6; have KK := Lib.hid (KK.out.call hb); have HK := Lib.hid (HK.out.keep hb); have HS5 := Lib.hid (HS5.out.mono (below_gh hb)); have HS6 := Lib.hid hs6; have hg := four_all KK.out.at0; obtain ⟨⟨g0, g1, g2, g3⟩, -⟩ := hg; clear hb hs6)
          | (go_at_call 12; refine (HOF.out _ _ _ _ KK.out.below ⟨_, rfl, HK.out⟩ HS5.out HS6.out).mono ?_; rintro r W7 ⟨rfl, hb⟩; have KK := Lib.hid (KK.out.call hb); have HK := Lib.hid (HK.out.keep hb); have hg := four_all KK.out.at0; obtain ⟨⟨g0, g1, g2, g3⟩, -⟩ := hg; clear hb)))
      all_goals
        go_wp2_with fail
        refine (HRO.out _ _ _ _ ⟨_, rfl, HK.out⟩ (HN.out.mono (below_gh KK.out.below)) (HIV2.out.mono (below_gh KK.out.below))).mono ?_
        rintro r W8 ⟨rfl, hb⟩
        have KL := Lib.hid (KK.out.call hb)
        have q1 : (t == t) = true := beq_self_eq_true t
        have q2 : (f == f) = true := beq_self_eq_true f
        clear hb g0 g1 g2 g3
        go_wp2_with fail
        refine (HAW.out _ KL.out.below).mono ?_
        rintro r V ⟨rfl, hbv⟩
        have hbv := (KL.out.below).seq hbv
        go_wp2
        go_ret
        exact ⟨rfl, hbv⟩
end Go.Proofs.YtoklhppalkgdeaaGreatDoor
