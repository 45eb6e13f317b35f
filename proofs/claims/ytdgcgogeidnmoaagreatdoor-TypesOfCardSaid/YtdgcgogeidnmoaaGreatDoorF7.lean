/- The walk of palaverlaw08.TypesOf. Conditions: the tables hold what they are laid with; the arguments read as data. -/
import Derived.Test.YtdgcgogeidnmoaaGreatDoorF2
import Derived.Test.YtdgcgogeidnmoaaGreatDoorG9
import Derived.Test.YtdgcgogeidnmoaaGreatDoorR1
set_option linter.unusedSimpArgs false
set_option linter.unusedVariables false
set_option linter.unusedSectionVars false
namespace Go.Proofs.YtdgcgogeidnmoaaGreatDoor
open Go.RowKit Pal
def twoPost (t f : Int) (W : World) (r : Ending) (w' : World) : Prop := r = .returned (.tuple #[.int .i64 t, .int .i64 f]) ∧ Below W.heap.size W w'
set_option maxRecDepth 1000000 in
set_option maxHeartbeats 8000000 in
theorem typesof_walk (e : Ex) (v : Value) (names : List Bs) (nv : Value) (types : List Int) (tv : Value) (w : World) (hL : Lay2 w) (hE : EV (gh w) v e) (hF0 : Fine0 e)
    (hN : StrsV (gh w) nv names) (hNs : ∀ s ∈ names, s.length ≤ 9223372036854775807) (hNn : NilV nv) (hT : NumsV (gh w) tv types) (hTs : ∀ s ∈ types, I64 s) :
    Calls Tryz.prog 3 #[v, nv, tv] w (yesPost w) := by
  have HL := Lib.hid hL
  have HE := Lib.hid hE
  have HN := Lib.hid hN
  have HT := Lib.hid hT
  have HNN := Lib.hid hNn
  obtain ⟨kv, rfl, hK⟩ := hE
  obtain ⟨a, cap, rfl⟩ := hK.form
  obtain ⟨na, nc, rfl⟩ := hN.form
  obtain ⟨ta, tc, rfl, htl⟩ := hT.form
  have K0 := Lib.hid ((Kept.start w).new (.cells #[.int .i64 e.op, .int .i64 e.n, .string ⟨e.s.toArray⟩, .slice a e.ks.length cap] 24))
  obtain ⟨te, hte⟩ : ∃ b, tiny e = b := ⟨_, rfl⟩
  obtain ⟨fw, hfw⟩ : ∃ b, few8 names types = b := ⟨_, rfl⟩
  obtain ⟨t, f, htf⟩ : ∃ t f, typeOf e names types = (t, f) := ⟨_, _, rfl⟩
  have HTE := Lib.hid (fun W (hb : Below w.heap.size w W) => hte ▸ Tiny_any e _ W hF0 (HE.out.keep hb))
  have HFW := Lib.hid (fun W => hfw ▸ few8_any names types na ta nc tc W hN.len htl)
  have HS : Hid (te = true → Slim e 0) := Lib.hid (fun h => tiny_slim (hte.trans h))
  have HF : Hid (te = true → Fine e) := Lib.hid (fun h => (HS.out h).fine hF0)
  have HIV : Hid (fw = true → IntsV (gh w) (.slice ta types.length tc) types) := Lib.hid (fun h => HT.out.ints (few8_len (hfw.trans h)).2)
  have HCP := Lib.hid (fun (h : te = true) W (hb : Below w.heap.size w W) => Expr_any e _ W (HS.out h) (HE.out.keep hb))
  have HCN := Lib.hid (fun (h : fw = true) W (hb : Below w.heap.size w W) => Texts_any names _ W (HN.out.mono (below_gh hb)) HNN.out (few8_len (hfw.trans h)).1)
  have HCT := Lib.hid (fun (h : fw = true) W (hb : Below w.heap.size w W) => Ints_any types _ W ((HIV.out h).mono (below_gh hb)) (few8_len (hfw.trans h)).2)
  have HOF : Hid (te = true → ∀ v nv tv W, Below w.heap.size w W → EV (gh W) v e → StrsV (gh W) nv names → IntsV (gh W) tv types → Calls Tryz.prog 22 #[v, nv, tv] W (twoPost t f W)) := Lib.hid (fun h v nv tv W hb hE hN hT => by
    have h := typesOf_any e v nv tv names types W (HF.out h) (HL.out.below hb).lay hE hN hT
    rw [htf] at h
    exact h)
  have HRO : Hid (te = true → fw = true → ∀ W, Below w.heap.size w W → Calls Tryz.prog 26 #[exV e.op e.n e.s (.slice a e.ks.length cap), .slice na names.length nc, .slice ta types.length tc] W (twoPost t f W)) := Lib.hid (fun h h2 W hb => by
    have h := refOf_any e names types _ _ _ W (HF.out h) (HE.out.keep hb) (HN.out.mono (below_gh hb)) ((HIV.out h2).mono (below_gh hb))
    rw [htf] at h
    exact h)
  have HAW := Lib.hid (fun W (hb : Below w.heap.size w W) => awake8 W (HL.out.below hb).lay)
  unfold exV strV at HTE HCP HRO
  unfold twoPost at HOF HRO
  clear hL hN hNs hNn hT hTs hK hte hfw htf hF0 htl HIV
  obtain ⟨⟨e0, e1, e2, e3⟩, -⟩ := four_all K0.out.at0
  unfold exV strV
  go_enter Tryz.func3, Tryz.ntmps3
  go_wp2_with fail
  refine (HTE.out _ K0.out.below).mono ?_
  generalize w.alloc (.cells #[.int .i64 e.op, .int .i64 e.n, .string ⟨e.s.toArray⟩, .slice a e.ks.length cap] 24) = W0 at *
  clear e0 e1 e2 e3
  rintro r W1 ⟨rfl, hb⟩
  have K1 := Lib.hid (K0.out.call hb)
  clear hb
  cases te with
  | false =>
    go_wp2_with fail
    refine (HAW.out _ K1.out.below).mono ?_
    rintro r V ⟨rfl, hbv⟩
    have hbv := K1.out.below.seq hbv
    go_wp2
    go_ret
    exact ⟨rfl, hbv⟩
  | true =>
    go_wp2_with fail
    refine (HFW.out _).mono ?_
    rintro r W2 ⟨rfl, rfl⟩
    cases fw with
    | false =>
      go_wp2_with fail
      refine (HAW.out _ K1.out.below).mono ?_
      rintro r V ⟨rfl, hbv⟩
      have hbv := K1.out.below.seq hbv
      go_wp2
      go_ret
      exact ⟨rfl, hbv⟩
    | true =>
      have HCP2 := Lib.hid (HCP.out (by first | rfl | trivial))
      have HCN2 := Lib.hid (HCN.out (by first | rfl | trivial))
      have HCT2 := Lib.hid (HCT.out (by first | rfl | trivial))
      have HOF2 := Lib.hid (HOF.out (by first | rfl | trivial))
      have HRO2 := Lib.hid (HRO.out (by first | rfl | trivial) (by first | rfl | trivial))
      clear HCP HCN HCT HOF HRO HTE HFW K0
      obtain ⟨⟨e0, e1, e2, e3⟩, -⟩ := four_all K1.out.at0
      go_wp2_with fail
      refine (HCP2.out _ K1.out.below).mono ?_
      rintro r W3 h
      obtain ⟨v3, hv3, kv3, hkv3, hk3⟩ := h.ev
      have hb := h.1
      obtain ⟨ka, kc, hkf⟩ := hk3.form
      subst hkf; subst hkv3; subst hv3
      have K3 := Lib.hid (K1.out.call hb)
      have HK3 := Lib.hid hk3
      clear h hb hk3 e0 e1 e2 e3
      unfold exV strV
      go_wp2_with fail
      refine (HCN2.out _ K3.out.below).mono ?_
      rintro r W4 ⟨hb, v4, rfl, hs4⟩
      obtain ⟨sa, sc, rfl⟩ := hs4.form
      have K4 := Lib.hid (K3.out.call hb)
      have HK4 := Lib.hid (HK3.out.keep hb)
      have HS4 := Lib.hid hs4
      clear hb hs4 HK3
      go_wp2_with fail
      refine (HCT2.out _ K4.out.below).mono ?_
      rintro r W5 ⟨hb, v5, rfl, hs5⟩
      obtain ⟨ia, ic, rfl, -⟩ := intsV_form hs5
      have K5 := Lib.hid (K4.out.call hb)
      have HK5 := Lib.hid (HK4.out.keep hb)
      have HS5 := Lib.hid (HS4.out.mono (below_gh hb))
      have HI5 := Lib.hid hs5
      clear hb hs5 HK4 HS4
      go_wp2_with fail
      refine (HOF2.out _ _ _ _ K5.out.below ⟨_, rfl, HK5.out⟩ HS5.out HI5.out).mono ?_
      rintro r W6 ⟨rfl, hb⟩
      have K6 := Lib.hid (K5.out.call hb)
      clear hb HK5 HS5 HI5
      obtain ⟨⟨e0, e1, e2, e3⟩, -⟩ := four_all K6.out.at0
      go_wp2_with fail
      refine (HRO2.out _ K6.out.below).mono ?_
      rintro r W7 ⟨rfl, hb⟩
      have K7 := Lib.hid (K6.out.call hb)
      clear hb e0 e1 e2 e3
      have q1 : (t == t) = true := beq_self_eq_true t
      have q2 : (f == f) = true := beq_self_eq_true f
      go_wp2_with fail
      refine (HAW.out _ K7.out.below).mono ?_
      rintro r V ⟨rfl, hbv⟩
      have hbv := K7.out.below.seq hbv
      go_wp2
      go_ret
      exact ⟨rfl, hbv⟩
end Go.Proofs.YtdgcgogeidnmoaaGreatDoor
