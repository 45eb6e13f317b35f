/- The walks of palaverref05.Fits, palaverlaw09.EvalTyped. Conditions: the tables hold what they are laid with; the arguments read as data. -/
import Derived.Test.YtdgcgogeidnmoaaGreatDoorTY
import Derived.Test.YtdgcgogeidnmoaaGreatDoorE15
import Derived.Test.YtdgcgogeidnmoaaGreatDoorR1
import Derived.Deep.RegionHeld3
set_option linter.unusedSimpArgs false
set_option linter.unusedVariables false
set_option linter.unusedSectionVars false
namespace Go.Proofs.YtdgcgogeidnmoaaGreatDoor
open Go.RowKit Pal
theorem okV_len' {v : Val} (h : okV v = true) : v.s.length ≤ 400 := by
  obtain ⟨k, n, s⟩ := v
  unfold okV at h
  simp only at h ⊢
  split at h
  · have := (of_decide_eq_true h).2; subst this; simp
  split at h
  · have := of_decide_eq_true h; subst this; simp
  split at h
  · have := (of_decide_eq_true h).2; subst this; simp
  split at h
  · rw [Bool.and_eq_true] at h; exact (textOk_iff h.2).1
  split at h
  · have := (of_decide_eq_true h).2.2; subst this; simp
  · cases h
set_option maxRecDepth 1000000 in
set_option maxHeartbeats 2000000 in
theorem fits_any (x : Val) (t : Int) (w : World) (hs : x.s.length ≤ 9223372036854775807) :
    Calls Tryz.prog 39 #[.agg #[.int .i64 x.k, .int .i64 x.n, .string ⟨x.s.toArray⟩], .int .i64 t] w fun e w' => e = .returned (.bool (fitsV x t)) ∧ Below w.heap.size w w' := by
  have K0 := Lib.hid ((Kept.start w).new (.cells #[.int .i64 x.k, .int .i64 x.n, .string ⟨x.s.toArray⟩] 47))
  have hc := fun W => refCheck_any x.k x.n x.s W hs
  unfold strV at hc
  obtain ⟨ok, hok⟩ : ∃ b, okV ⟨x.k, x.n, x.s⟩ = b := ⟨_, rfl⟩
  simp only [hok] at hc
  have HC := Lib.hid hc
  have HR : Hid (fitsV x t = (ok && (decide (x.k = 0) || decide (x.k = t)))) := Lib.hid (by unfold fitsV; rw [← hok])
  generalize fitsV x t = R at *
  obtain ⟨xk, hxk⟩ : ∃ k, x.k = k := ⟨_, rfl⟩
  obtain ⟨xn, hxn⟩ : ∃ k, x.n = k := ⟨_, rfl⟩
  obtain ⟨xs, hxs⟩ : ∃ s : ByteArray, (⟨x.s.toArray⟩ : ByteArray) = s := ⟨_, rfl⟩
  rw [hxk, hxn, hxs] at HC K0
  rw [hxk] at HR
  rw [hxk, hxn, hxs]
  clear hc hok hxk hxn hxs hs
  obtain ⟨x0, x1, x2⟩ := (three_all K0.out.at0).1
  go_enter Tryz.func39, Tryz.ntmps39
  go_wp2_with fail
  refine (HC.out _).mono ?_
  generalize w.alloc (.cells #[.int .i64 xk, .int .i64 xn, .string xs] 47) = W0 at *
  rintro r W1 ⟨rfl, hb⟩
  have K1 := Lib.hid (K0.out.call hb)
  clear hb x0 x1 x2 K0
  have hbF := K1.out.below
  cases ok with
  | false =>
    have HE : Hid (R = false) := Lib.hid (by rw [HR.out]; rfl)
    clear HR
    go_wp2
    go_ret
    exact ⟨by rw [HE.out]; rfl, hbF⟩
  | true =>
    obtain ⟨x0, x1, x2⟩ := (three_all K1.out.at0).1
    by_cases h0 : xk = 0
    · have HE : Hid (R = true) := Lib.hid (by rw [HR.out, decide_eq_true h0]; rfl)
      have q : (xk == 0) = true := by simp [h0]
      clear HR h0
      go_wp2
      go_ret
      exact ⟨by rw [HE.out]; rfl, hbF⟩
    · have q : (xk == 0) = false := beq_eq_false_iff_ne.2 h0
      by_cases ht : xk = t
      · have HE : Hid (R = true) := Lib.hid (by rw [HR.out, decide_eq_true ht, Bool.or_true]; rfl)
        have q2 : (xk == t) = true := by simp [ht]
        clear HR h0 ht
        go_wp2
        go_ret
        exact ⟨by rw [HE.out]; rfl, hbF⟩
      · have HE : Hid (R = false) := Lib.hid (by rw [HR.out, decide_eq_false h0, decide_eq_false ht]; rfl)
        have q2 : (xk == t) = false := beq_eq_false_iff_ne.2 ht
        clear HR h0 ht
        go_wp2
        go_ret
        exact ⟨by rw [HE.out]; rfl, hbF⟩
def evPost9 (k n : Int) (s : ByteArray) (W : World) (r : Ending) (w' : World) : Prop := r = .returned (.agg #[.int .i64 k, .int .i64 n, .string s]) ∧ Below W.heap.size W w'
def ofPost9 (t f : Int) (W : World) (r : Ending) (w' : World) : Prop := r = .returned (.tuple #[.int .i64 t, .int .i64 f]) ∧ Below W.heap.size W w'
set_option maxRecDepth 1000000 in
set_option maxHeartbeats 16000000 in
theorem evaltyped_walk (e : Ex) (v : Value) (names : List Bs) (nv : Value) (types : List Int) (tv : Value) (vals : List Val) (vv : Value) (w : World) (hL : Lay2 w) (hE : EV (gh w) v e) (hF0 : Fine0 e)
    (hN : StrsV (gh w) nv names) (hNs : ∀ s ∈ names, s.length ≤ 9223372036854775807) (hNn : NilV nv) (hT : NumsV (gh w) tv types) (hTs : ∀ s ∈ types, I64 s) (hA : ValsV (gh w) vv vals) (hAs : ∀ v ∈ vals, I64 v.k ∧ I64 v.n ∧ v.s.length ≤ 9223372036854775807) (hAn : NilV vv) :
    Calls Tryz.prog 10 #[v, nv, tv, vv] w (yesPost w) := by
  have HL := Lib.hid hL
  have HE := Lib.hid hE
  have HN := Lib.hid hN
  have HT := Lib.hid hT
  have HA := Lib.hid hA
  have HAS := Lib.hid hAs
  obtain ⟨kv, rfl, hK⟩ := hE
  obtain ⟨a, cap, rfl⟩ := hK.form
  obtain ⟨na, nc, rfl⟩ := hN.form
  obtain ⟨ta, tc, rfl, htl⟩ := hT.form
  obtain ⟨va, vc, rfl, hvl, hvc⟩ := hA.form
  have hnl := hN.len
  have hvl2 : vals.length ≤ 9223372036854775807 := by omega
  have K0 := Lib.hid ((Kept.start w).new (.cells #[.int .i64 e.op, .int .i64 e.n, .string ⟨e.s.toArray⟩, .slice a e.ks.length cap] 24))
  obtain ⟨te, hte⟩ : ∃ b, tiny e = b := ⟨_, rfl⟩
  obtain ⟨fw, hfw⟩ : ∃ b, few9 names vals = b := ⟨_, rfl⟩
  obtain ⟨t, f, htf⟩ : ∃ t f, typeOf e names types = (t, f) := ⟨_, _, rfl⟩
  obtain ⟨x, hx⟩ : ∃ v, evalM e names vals = v := ⟨_, rfl⟩
  obtain ⟨uk, huk⟩ : ∃ k, x.k = k := ⟨_, rfl⟩
  obtain ⟨un, hun⟩ : ∃ k, x.n = k := ⟨_, rfl⟩
  obtain ⟨us, hus⟩ : ∃ s : ByteArray, (⟨x.s.toArray⟩ : ByteArray) = s := ⟨_, rfl⟩
  have HU : Hid (valV x = .agg #[.int .i64 uk, .int .i64 un, .string us]) := Lib.hid (by unfold valV strV; rw [huk, hun, hus])
  have HTE := Lib.hid (fun W (hb : Below w.heap.size w W) => hte ▸ Tiny_any e _ W hF0 (HE.out.keep hb))
  have HS : Hid (te = true → Slim e 0) := Lib.hid (fun h => tiny_slim (hte.trans h))
  have HF : Hid (te = true → Fine e) := Lib.hid (fun h => (HS.out h).fine hF0)
  have HFW := Lib.hid (fun W (hb : Below w.heap.size w W) => hfw ▸ few9_any names vals _ _ W (HN.out.mono (below_gh hb)) (HA.out.mono (below_gh hb)))
  have HVF : Hid (fw = true → VFine vals) := Lib.hid (fun h => few9_fine (hfw.trans h) hAs)
  have HNL : Hid (fw = true → names.length ≤ 50) := Lib.hid (fun h => (few9_len (hfw.trans h)).1)
  have HCP := Lib.hid (fun (h : te = true) W (hb : Below w.heap.size w W) => Expr_any e _ W (HS.out h) (HE.out.keep hb))
  have HEV : Hid (te = true → fw = true → ∀ v W, Below w.heap.size w W → EV (gh W) v e → Calls Tryz.prog 36 #[v, .slice na names.length nc, .slice va vals.length vc] W (evPost9 uk un us W)) := Lib.hid (fun h h2 v W hb hE => by
    have h := Eval_any e names vals v _ _ W (HF.out h) (HVF.out h2) (HL.out.below hb).lay hE (HN.out.mono (below_gh hb)) (HA.out.mono (below_gh hb))
    rw [hx] at h
    unfold valPost at h
    rw [HU.out] at h
    exact h)
  have HOF : Hid (te = true → types.length ≤ 50 → ∀ W, Below w.heap.size w W → Calls Tryz.prog 26 #[exV e.op e.n e.s (.slice a e.ks.length cap), .slice na names.length nc, .slice ta types.length tc] W (ofPost9 t f W)) := Lib.hid (fun h h2 W hb => by
    have h := refOf_any e names types _ _ _ W (HF.out h) (HE.out.keep hb) (HN.out.mono (below_gh hb)) ((HT.out.ints h2).mono (below_gh hb))
    rw [htf] at h
    exact h)
  have HPL : Hid (te = true → fw = true → types.length = names.length → vals.length = names.length → (∀ (j : Nat) (v : Val) (t : Int), vals[j]? = some v → types[j]? = some t → fitsV v t = true) → f = 0 → okV x = true ∧ (uk = 0 ∨ uk = 4 ∨ uk = t)) := Lib.hid (fun h h2 h3 h4 h5 h6 => by
    have := typed_plain (HF.out h) h3 h4 h5 (fun v hv => (HVF.out h2 v hv).1) t (by rw [htf, h6])
    rw [hx, huk] at this
    exact this)
  have HCK : Hid (okV x = true → ∀ W, Calls Tryz.prog 40 #[.agg #[.int .i64 uk, .int .i64 un, .string us]] W fun r w' => r = .returned (.bool true) ∧ Below W.heap.size W w') := Lib.hid (fun h W => by
    have hl := okV_len' h
    have hc := refCheck_any x.k x.n x.s W (by omega)
    rw [show okV ⟨x.k, x.n, x.s⟩ = true from h] at hc
    unfold strV at hc
    rw [huk, hun, hus] at hc
    exact hc)
  have HAW := Lib.hid (fun W (hb : Below w.heap.size w W) => awake9 W (HL.out.below hb).lay)
  unfold exV strV at HTE HCP HOF
  unfold evPost9 at HEV
  unfold ofPost9 at HOF
  clear hL hN hNs hNn hT hTs hA hAs hAn hK hte hfw htf hx huk hun hus hF0 HU hvl hvc
  obtain ⟨⟨e0, e1, e2, e3⟩, -⟩ := four_all K0.out.at0
  unfold exV strV
  obtain ⟨nl, hnle⟩ : ∃ n, names.length = n := ⟨_, rfl⟩
  obtain ⟨tl, htle⟩ : ∃ n, types.length = n := ⟨_, rfl⟩
  obtain ⟨vl, hvle⟩ : ∃ n, vals.length = n := ⟨_, rfl⟩
  have HLE := Lib.hid (And.intro hnle (And.intro htle hvle))
  simp only [hnle, htle, hvle] at HEV HOF HPL HNL hnl htl hvl2 HFW ⊢
  clear hnle htle hvle
  go_enter Tryz.func10, Tryz.ntmps10
  go_wp2_with fail
  refine (HTE.out _ K0.out.below).mono ?_
  generalize w.alloc (.cells #[.int .i64 e.op, .int .i64 e.n, .string ⟨e.s.toArray⟩, .slice a e.ks.length cap] 24) = W0 at *
  clear e0 e1 e2 e3
  rintro r W1 ⟨rfl, hb⟩
  have K1 := Lib.hid (K0.out.call hb)
  clear hb
  cases te with
  | false =>
    go_wp2_with fail
    refine (HAW.out _ K1.out.below).mono ?_
    rintro r V ⟨rfl, hbv⟩
    have hbv := K1.out.below.seq hbv
    go_wp2
    go_ret
    exact ⟨rfl, hbv⟩
  | true =>
    go_wp2_with fail
    refine (HFW.out _ K1.out.below).mono ?_
    rintro r W3 ⟨rfl, rfl⟩
    cases fw with
    | false =>
      go_wp2_with fail
      refine (HAW.out _ K1.out.below).mono ?_
      rintro r V ⟨rfl, hbv⟩
      have hbv := K1.out.below.seq hbv
      go_wp2
      go_ret
      exact ⟨rfl, hbv⟩
    | true =>
      by_cases hl : tl = nl ∧ vl = nl
      · obtain ⟨rfl, rfl⟩ := hl
        have hn50 := HNL.out (by first | rfl | trivial)
        have HCP2 := Lib.hid (HCP.out (by first | rfl | trivial))
        have HEV2 := Lib.hid (HEV.out (by first | rfl | trivial) (by first | rfl | trivial))
        have HOF2 := Lib.hid (HOF.out (by first | rfl | trivial) hn50)
        have HPL2 := Lib.hid (HPL.out (by first | rfl | trivial) (by first | rfl | trivial) rfl rfl)
        have q1 : ((vl : Int) != (vl : Int)) = false := by simp
        clear HCP HEV HOF HPL HTE HFW HS HF HVF HNL K0
        go_wp2
        go_loopg [9] vl (fun g i wr => ∃ k : Nat, i = .int .i64 k ∧ k + g = vl ∧ Hid (Kept w wr ((w.heap.size, .cells #[.int .i64 e.op, .int .i64 e.n, .string ⟨e.s.toArray⟩, .slice a e.ks.length cap] 24) :: [])) ∧ Hid (∀ (j : Nat) (v : Val) (t : Int), j < k → vals[j]? = some v → types[j]? = some t → fitsV v t = true))
        case atStart => exact ⟨0, rfl, by omega, K1, Lib.hid (fun j v t hj => by omega)⟩
        case round =>
          obtain ⟨k, rfl, hg, KR, HFT⟩ := hrel
          by_cases hlt : k < vl
          · have hk1 : k < vals.length := by have := HLE.out; omega
            have hk2 : k < types.length := by have := HLE.out; omega
            obtain ⟨b1, o1, rfl, c0, c1, c2⟩ := (HA.out.mono (below_gh KR.out.below)).at (List.getElem?_eq_getElem hk1)
            obtain ⟨b2, o2, rfl, d0⟩ := intsV_at ((HT.out.ints (by have := HLE.out; omega)).mono (below_gh KR.out.below)) (List.getElem?_eq_getElem hk2)
            have hg1 := List.getElem?_eq_getElem hk1
            have hg2 := List.getElem?_eq_getElem hk2
            have hfx := (HAS.out _ (List.getElem_mem hk1)).2.2
            have HG := Lib.hid (And.intro hg1 hg2)
            unfold strV at c2
            generalize vals[k] = y at *
            generalize types[k] = yt at *
            have HFI := Lib.hid (fun W => fits_any y yt W hfx)
            have HFV : Hid (∀ b, fitsV y yt = b → b = true → ∀ (j : Nat) (v : Val) (t : Int), j < k + 1 → vals[j]? = some v → types[j]? = some t → fitsV v t = true) := Lib.hid (fun b hb h j v t hj h1 h2 => by
              by_cases hjk : j = k
              · subst hjk
                rw [HG.out.1] at h1
                rw [HG.out.2] at h2
                obtain rfl := Option.some.inj h1
                obtain rfl := Option.some.inj h2
                exact hb.trans h
              · exact HFT.out j v t (by omega) h1 h2)
            obtain ⟨bf, hbf⟩ : ∃ b, fitsV y yt = b := ⟨_, rfl⟩
            have HBF := Lib.hid hbf
            simp only [hbf] at HFI
            have KD := Lib.hid KR.out.drew
            have hcc : ∀ W, Below wr.heap.size wr W → W.cell? ⟨b1, o1 + k * 3, none⟩ = some (.int .i64 y.k) ∧ W.cell? ⟨b1, o1 + k * 3 + 1, none⟩ = some (.int .i64 y.n) ∧ W.cell? ⟨b1, o1 + k * 3 + 2, none⟩ = some (.string ⟨y.s.toArray⟩) ∧ W.cell? ⟨b2, o2 + k, none⟩ = some (.int .i64 yt) := fun W hb =>
              have l1 := World.block_lt_of_cell? wr _ c0
              have l2 := World.block_lt_of_cell? wr _ d0
              ⟨(hb.cell (p := ⟨b1, o1 + k * 3, none⟩) l1).trans c0, (hb.cell (p := ⟨b1, o1 + k * 3 + 1, none⟩) l1).trans c1, (hb.cell (p := ⟨b1, o1 + k * 3 + 2, none⟩) l1).trans c2, (hb.cell (p := ⟨b2, o2 + k, none⟩) l2).trans d0⟩
            have HCC := Lib.hid hcc
            have hbd : Below wr.heap.size wr wr.drew := (Below.refl _ _).drew
            clear hg1 hg2 hfx hbf hcc HFT
            go_wp2
            go_region_held3 (fun w' => (w'.cell? ⟨b1, o1 + k * 3, none⟩ = some (.int .i64 y.k) ∧ w'.cell? ⟨b1, o1 + k * 3 + 1, none⟩ = some (.int .i64 y.n) ∧ w'.cell? ⟨b1, o1 + k * 3 + 2, none⟩ = some (.string ⟨y.s.toArray⟩) ∧ w'.cell? ⟨b2, o2 + k, none⟩ = some (.int .i64 yt))) (go_keep)
              ((first
                | (go_at_call 39; refine (HFI.out _).mono ?_; rintro r W4 ⟨rfl, hb⟩; have K4 := Lib.hid (KD.out.call hb); have hg := HCC.out W4 (hbd.seq hb); obtain ⟨c0, c1, c2, d0⟩ := hg; clear hb)))
            all_goals
              cases bf with
              | true =>
                have HFT2 := Lib.hid (HFV.out _ HBF.out rfl)
                clear c0 c1 c2 d0
                go_wp2
                go_roundg (gk - 1)
                case rel => exact ⟨k + 1, by go_num, by omega, K4, HFT2⟩
                case measure => omega
              | false =>
                clear c0 c1 c2 d0
                go_wp2_with fail
                refine (HAW.out _ K4.out.below).mono ?_
                rintro r V ⟨rfl, hbv⟩
                have hbv := K4.out.below.seq hbv
                go_wp2
                try rw [Exit.noGoto_ret]
                go_ret
                exact ⟨rfl, hbv⟩
          · have HFA : Hid (∀ (j : Nat) (v : Val) (t : Int), vals[j]? = some v → types[j]? = some t → fitsV v t = true) := Lib.hid (fun j v t h1 h2 => HFT.out j v t (by have := (List.getElem?_eq_some_iff.1 h1).1; have := HLE.out; omega) h1 h2)
            have HPL3 := Lib.hid (HPL2.out HFA.out)
            obtain ⟨⟨e0, e1, e2, e3⟩, -⟩ := four_all KR.out.at0
            clear HFT HFA HPL2
            go_wp2_with fail
            refine (HOF2.out _ KR.out.below).mono ?_
            rintro r W4 ⟨rfl, hb⟩
            have K4 := Lib.hid (KR.out.call hb)
            clear hb e0 e1 e2 e3
            by_cases hf : f = 0
            · obtain ⟨hok, hkk⟩ := HPL3.out hf
              have HCK2 := Lib.hid (HCK.out hok)
              have qf : (f != 0) = false := by simp [hf]
              have hkk2 : (uk == 0) = true ∨ ((uk == 0) = false ∧ (uk == 4) = true) ∨ ((uk == 0) = false ∧ (uk == 4) = false ∧ (uk == t) = true) := by
                by_cases h0 : uk = 0
                · exact .inl (by simp [h0])
                by_cases h4 : uk = 4
                · exact .inr (.inl ⟨beq_eq_false_iff_ne.2 h0, by simp [h4]⟩)
                · exact .inr (.inr ⟨beq_eq_false_iff_ne.2 h0, beq_eq_false_iff_ne.2 h4, by simp; omega⟩)
              clear hf hok hkk HCK HPL3
              obtain ⟨⟨e0, e1, e2, e3⟩, -⟩ := four_all K4.out.at0
              go_wp2_with fail
              refine (HCP2.out _ K4.out.below).mono ?_
              rintro r W5 h
              obtain ⟨v5, hv5, kv5, hkv5, hk5⟩ := h.ev
              have hb := h.1
              obtain ⟨ka, kc, hkf⟩ := hk5.form
              subst hkf; subst hkv5; subst hv5
              have K5 := Lib.hid (K4.out.call hb)
              have HK5 := Lib.hid hk5
              clear h hb hk5 e0 e1 e2 e3
              unfold exV strV
              go_wp2_with fail
              refine (HEV2.out _ _ K5.out.below ⟨_, rfl, HK5.out⟩).mono ?_
              rintro r W6 ⟨rfl, hb⟩
              have K6 := Lib.hid (K5.out.call hb)
              have K7 := Lib.hid (K6.out.new (.cells #[.int .i64 uk, .int .i64 un, .string us] 47))
              clear hb
              go_upto_region 12 with fail
              generalize W6.alloc (.cells #[.int .i64 uk, .int .i64 un, .string us] 47) = W7 at *
              generalize W6.heap.size = bV at *
              obtain ⟨x0, x1, x2⟩ := (three_all K7.out.at0).1
              go_wp2_with fail
              refine (HCK2.out _).mono ?_
              rintro r W8 ⟨rfl, hb⟩
              have K8 := Lib.hid (K7.out.call hb)
              clear hb x0 x1 x2
              obtain ⟨x0, x1, x2⟩ := (three_all K8.out.at0).1
              rcases hkk2 with r1 | ⟨r1, r2⟩ | ⟨r1, r2, r3⟩
              all_goals
                go_wp2_with fail
                refine (HAW.out _ K8.out.below).mono ?_
                rintro r V ⟨rfl, hbv⟩
                have hbv := K8.out.below.seq hbv
                go_wp2
                go_ret
                exact ⟨rfl, hbv⟩
            · have qf : (f != 0) = true := bne_iff_ne.2 hf
              clear hf HPL3
              go_wp2_with fail
              refine (HAW.out _ K4.out.below).mono ?_
              rintro r V ⟨rfl, hbv⟩
              have hbv := K4.out.below.seq hbv
              go_wp2
              go_ret
              exact ⟨rfl, hbv⟩
      · have hq : ((tl : Int) != (nl : Int)) = true ∨ (((tl : Int) != (nl : Int)) = false ∧ ((vl : Int) != (nl : Int)) = true) := by
          by_cases h1 : tl = nl
          · exact .inr ⟨by simp [h1], bne_iff_ne.2 (fun h => hl ⟨h1, by omega⟩)⟩
          · exact .inl (bne_iff_ne.2 (by omega))
        clear hl
        rcases hq with r1 | ⟨r1, r2⟩
        all_goals
          go_wp2_with fail
          refine (HAW.out _ K1.out.below).mono ?_
          rintro r V ⟨rfl, hbv⟩
          have hbv := K1.out.below.seq hbv
          go_wp2
          go_ret
          exact ⟨rfl, hbv⟩
end Go.Proofs.YtdgcgogeidnmoaaGreatDoor
