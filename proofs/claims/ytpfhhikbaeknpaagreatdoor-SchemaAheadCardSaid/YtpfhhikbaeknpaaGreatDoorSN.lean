/- The walk of palaverlaw11.SchemaAhead. Conditions: the arguments lie as they are said to. -/
import Derived.Test.YtpfhhikbaeknpaaGreatDoorSM
import Derived.Test.YtpfhhikbaeknpaaGreatDoorSO
set_option linter.unusedSimpArgs false
set_option linter.unusedVariables false
set_option linter.unusedSectionVars false
namespace Go.Proofs.YtpfhhikbaeknpaaGreatDoor
open Go.RowKit Pal
attribute [local go_sem ↓] Go.wp_at_zero Go.wp_at_succ
theorem len_q {b : Nat} {F : Form} (w : World) (s : SchV (gh w) b F) : Calls Tryz.prog 17 #[.pointer (some ⟨b, 0, none⟩)] w fun e w' => e = .returned (.int .i64 F.l.length) ∧ w' = w := (len_any w s).mono fun _ _ ⟨h, k⟩ => ⟨h, k.symm⟩
theorem input_q {b : Nat} {F : Form} (i : Nat) (w : World) (s : SchV (gh w) b F) (hi : i < F.l.length) (hl : F.l.length ≤ 24) {v : Bool} (hv : hasF F.es i = !v) : Calls Tryz.prog 18 #[.pointer (some ⟨b, 0, none⟩), .int .i64 i] w fun e w' => e = .returned (.bool v) ∧ w' = w :=
  (input_in i w s hi hl).mono fun _ _ ⟨h, k⟩ => ⟨by rw [h, hv]; cases v <;> rfl, k.symm⟩
theorem fd0_short {f : Fd} (h : Fd0 f) (hs : f.n.length ≤ 1000 ∧ f.fo.length ≤ 1000 ∧ f.ru.length ≤ 1000 ∧ f.sh.length ≤ 1000) : Short f := ⟨by omega, by omega, by omega, by omega, h.t⟩
theorem few_short {l : List Fd} (h : fewF l = true) (h0 : ∀ f ∈ l, Fd0 f) : l.length ≤ 1000000 ∧ ∀ f ∈ l, Short f := by
  obtain ⟨h1, h2⟩ := fewF_yes h
  exact ⟨by omega, fun f hf => fd0_short (h0 f hf) (h2 f hf)⟩
set_option maxRecDepth 1000000 in
set_option maxHeartbeats 8000000 in
theorem ahead_walk (l : List Fd) (v : Value) (n : Int) (w : World) (hL : Lay2 w) (hF : FdsV (gh w) v l ∧ l.length ≤ 9223372036854775807) (h0 : ∀ f ∈ l, Fd0 f) (hn : -9223372036854775808 ≤ n ∧ n ≤ 9223372036854775807) :
    Calls Tryz.prog 5 #[v, .int .i64 n] w (yesPost w) := by
  obtain ⟨hF, hlen⟩ := hF
  obtain ⟨va, vc, rfl⟩ := hF.form
  have HL := Lib.hid hL.lay
  have HF := Lib.hid hF
  have HFEW := Lib.hid (fewF_any l (.slice va l.length vc) w hF hlen (fun f hf => ⟨(h0 f hf).n, (h0 f hf).fo, (h0 f hf).ru, (h0 f hf).sh⟩))
  have H0 := Lib.hid h0
  have HAW := Lib.hid (fun W (hb : Below w.heap.size w W) => awake11 W (HL.out.below hb))
  unfold yesPost at HAW ⊢
  obtain ⟨ll, hll⟩ : ∃ ll, l.length = ll := ⟨_, rfl⟩
  rw [hll] at HFEW HF ⊢
  have HLL := Lib.hid hll
  clear hL hF h0 hlen hll
  cases hfew : fewF l with
  | false =>
    rw [hfew] at HFEW
    clear hfew
    go_enter Tryz.func5, Tryz.ntmps5
    go_wp2_with fail
    refine HFEW.out.mono ?_
    rintro r W ⟨rfl, rfl⟩
    go_wp2_with fail
    refine (HAW.out _ (Below.refl _ _)).mono ?_
    rintro r W ⟨rfl, hb⟩
    go_wp2
    try rw [Exit.noGoto_ret]
    go_ret
    exact ⟨rfl, hb⟩
  | true =>
    rw [hfew] at HFEW
    obtain ⟨hs1, hs2⟩ := few_short hfew H0.out
    have HSH := Lib.hid hs2
    have HFI := Lib.hid (fields_any l (.slice va ll vc) w HF.out hs1)
    have HS1 := Lib.hid hs1
    unfold fdsPost at HFI
    clear hfew hs1 hs2
    go_enter Tryz.func5, Tryz.ntmps5
    go_wp2_with fail
    refine HFEW.out.mono ?_
    rintro r W ⟨rfl, rfl⟩
    go_wp2_with fail
    refine HFI.out.mono ?_
    rintro r W1 ⟨hb1, fv, rfl, hfv⟩
    obtain ⟨fa, fc, rfl⟩ := hfv.form
    have HB1 := Lib.hid hb1
    cases hm : newM l with
    | ok F =>
      have HNEW := Lib.hid (new_ok _ W1 HS1.out HSH.out (HL.out.below hb1) hfv hm)
      have HAH := Lib.hid (newM_ahead hm)
      have HFL := Lib.hid (newM_ok hm).2.2.2.1
      have HFN := Lib.hid (newM_len hm).2
      have HF24 : Hid (l.length ≤ 24) := Lib.hid (by have := (newM_ok hm).1; omega)
      clear hb1 hfv hm
      go_wp2_with fail
      refine HNEW.out.mono ?_
      rintro r W2 ⟨hb2, b, rfl, hs2⟩
      have HB2 := Lib.hid (HB1.out.seq hb2)
      have HSC := Lib.hid hs2
      clear hb2 hs2 HNEW

      obtain ⟨N, hN⟩ : ∃ N, l.length = N := ⟨_, rfl⟩
      rw [hN] at HAH HFN HF24
      have HFL2 : Hid (F.l.length = N) := Lib.hid (by rw [HFL.out]; exact hN)
      have hN24 := HF24.out
      have HOR := Lib.hid (order_of W2 HSC.out)
      unfold intsPost at HOR
      clear HFL hN
      go_wp2_with fail
      refine HOR.out.mono ?_
      rintro r W3 ⟨hb3, ov, rfl, hov⟩
      have HB3 := Lib.hid (HB2.out.seq hb3)
      have HSC3 := Lib.hid (HSC.out.mono (below_gh hb3))
      obtain ⟨oa, oc, rfl, hol⟩ := intsV_form hov
      have HOV := Lib.hid hov
      have hle := len_any W3 HSC3.out
      rw [HFL2.out] at hle
      have HLE := Lib.hid hle
      clear hb3 hov hle HOR HSC
      go_wp2_with fail
      refine HLE.out.mono ?_
      rintro r W4 ⟨rfl, rfl⟩
      obtain ⟨i0, hi, hz0, hz1, hz2⟩ := infoI1
      have hmk := run_made (P := Tryz.prog) Tryz.underlying32 hi hz0 hz1 hz2 rfl N (by omega) (by omega)
      have HR0 := Lib.hid (Row.made T0 1 W3 3 (.int .i64 0) N (by unfold maxLen; omega))
      have HE0 := Lib.hid (((Evo.refl T0 W3 (· ≠ 0)).alloc 1 (.cells (madeCells #[.int .i64 0] N) 3)))
      obtain ⟨O, hO⟩ : ∃ O, F.order = O := ⟨_, rfl⟩
      rw [hO] at HAH HOV hol ⊢
      have HOO := Lib.hid hO
      clear hi hz0 hz1 hz2 hO HLE
      go_wp2_with fail
      clear hmk
      go_loopg [10] O.length (fun gk i wr => ∃ (k : Nat) (t : Tag), i = .int .i64 k ∧ k + gk = O.length ∧ Hid (Row t 1 wr 3 1 (sl W3.heap.size N) N (tabI N (Graph.posf O k))) ∧ Hid (Evo T0 W3 t wr (· ≠ 0)))
      case atStart => exact ⟨0, _, rfl, by omega, Lib.hid (by rw [tabI_congr (g := fun _ => 0) (fun i _ => Graph.posf_zero O i), ← tabI_zero]; exact HR0.out), HE0⟩
      case round =>
        obtain ⟨k, t, rfl, hg, HR, HE⟩ := hrel
        have hle : (gh W3).le (gh wr) := by rw [← hz_T0]; exact (HE.out.hz (by simp)).trans (hz_gh _ _)
        by_cases hk : k < O.length
        · obtain ⟨m0, m1, m2⟩ := HAH.out.mem O[k] (List.getElem_mem hk)
          obtain ⟨xn, hxn⟩ := Int.eq_ofNat_of_zero_le m0
          have hxk : O[k]? = some (xn : Int) := by rw [List.getElem?_eq_getElem hk, hxn]
          rw [hxn] at m1 m2
          have hxN : xn < N := by have : (xn : Int) < (N : Int) := m1; omega
          obtain ⟨ob, oo, rfl, co⟩ := intsV_at (HOV.out.mono hle) hxk
          obtain ⟨g, cp, hge, _, _, ca, fa⟩ := HR.out.get (tabI_get (f := Graph.posf O k) hxN)
          unfold sl at hge
          simp only [Value.slice.injEq, Option.some.injEq, Addr.mk.injEq, and_true, true_and] at hge
          obtain ⟨rfl, -⟩ := hge
          have hp0 : Graph.posf O k xn = 0 := by have := Graph.posf_new HAH.out.nodup hxk (by omega : (0 : Int) ≤ (xn : Int)); simpa using this
          rw [hp0] at ca
          have hs3 := HSC3.out.mono hle
          have hlq := fun q => len_q (b := b) (F := F) (wr.drewN q) hs3
          simp only [HFL2.out] at hlq
          have HLQ := Lib.hid hlq
          have HIQ := Lib.hid (fun q => input_q (b := b) (F := F) xn (wr.drewN q) hs3 (by rw [HFL2.out]; exact hxN) (by rw [HFL2.out]; exact hN24) (v := false) (by rw [show ((xn : Nat) : Int) = Int.ofNat xn from rfl]; exact m2))
          have q1 : decide ((xn : Int) < 0) = false := decide_eq_false (by omega)
          have q2 : decide ((N : Int) ≤ (xn : Int)) = false := decide_eq_false (by omega)
          have q6 : decide (N ≤ xn) = false := decide_eq_false (by omega)
          have q3 : (0 : Int) ≤ (xn : Int) := by omega
          have q4 : (xn : Int) < (N : Int) := by omega
          have q5 : ¬ N ≤ xn := by omega
          have HXK := Lib.hid hxk
          have hg3 : W3.heap.size < wr.heap.size := by have := HE.out.size; have h2 := (HR.out.own.lt W3.heap.size rfl).2; omega
          clear hle m0 m1 m2 hxn hxk hp0 hs3 hlq
          go_wp2_with fail
          go_quiet ((first | (go_at_call 17; exact Calls.quiet_of_same (HLQ.out _)) | (go_at_call 18; exact Calls.quiet_of_same (HIQ.out _))))
          have HR2 := Lib.hid ((HR.out.keep ((Evo.refl t wr (fun _ => False)).drewN nq) (fun h => h)).set xn (.int .i64 ((k : Int) + 1)))
          have HE2 := Lib.hid ((HE.out.drewN nq).setCell ⟨W3.heap.size, xn, none⟩ (.int .i64 ((k : Int) + 1)) (by have := HR.out.tag W3.heap.size rfl; simp only; rw [this]; decide))
          have HRN : Hid (Row t 1 ((wr.drewN nq).setCell ⟨W3.heap.size, xn, none⟩ (.int .i64 ((k : Int) + 1))) 3 1 (sl W3.heap.size N) N (tabI N (Graph.posf O (k + 1)))) := Lib.hid (by
            have h := HR2.out
            rw [tabI_set, tabI_congr (g := Graph.posf O (k + 1)) (fun i _ => by have h := (Graph.posf_succ HAH.out.nodup HXK.out (by omega) i).symm; simpa using h)] at h
            exact h)
          clear q1 q2 q6 HR2
          go_wp2_with fail
          go_roundg (gk - 1)
          case rel => exact ⟨k + 1, t, by go_num, by omega, HRN, HE2⟩
          case measure => omega
        · obtain rfl : k = O.length := by omega
          have hs3 := HSC3.out.mono hle
          have HS5 := Lib.hid hs3
          have HRB : Hid (∀ i, i < N → wr.cell? ⟨W3.heap.size, i, none⟩ = some (.int .i64 (Graph.posf O O.length i))) := Lib.hid (by
            intro i hi
            obtain ⟨g, cp, hge, _, _, ca, fa⟩ := HR.out.get (tabI_get (f := Graph.posf O O.length) hi)
            unfold sl at hge
            simp only [Value.slice.injEq, Option.some.injEq, Addr.mk.injEq, and_true, true_and] at hge
            obtain ⟨rfl, -⟩ := hge
            exact ca)
          have HB5 := Lib.hid (HB3.out.trans ((HE.out.toBelow (by simp)).mono HB3.out.size))
          have hg3 : W3.heap.size < wr.heap.size := (HR.out.own.lt W3.heap.size rfl).2
          have HG3 := Lib.hid hg3
          obtain ⟨W5, hW5⟩ : ∃ X, X = wr := ⟨_, rfl⟩
          subst hW5
          clear hle hs3 HR HE hg3
          go_wp2_with fail
          go_loopg [11] N (fun gk i wr => ∃ k : Nat, i = .int .i64 k ∧ k + gk = N ∧ Hid (Below W5.heap.size W5 wr))
          case atStart => exact ⟨0, rfl, by omega, Lib.hid (Below.refl _ _)⟩
          case round =>
            obtain ⟨k, rfl, hg2, HBW⟩ := hrel
            obtain ⟨go2, hgo2⟩ : ∃ X, X = gk := ⟨_, rfl⟩
            subst hgo2
            have hsw := HS5.out.mono (below_gh HBW.out)
            have hlq := fun q => len_q (b := b) (F := F) (wr.drewN q) hsw
            simp only [HFL2.out] at hlq
            have HLQ := Lib.hid hlq
            have HLQ0 := Lib.hid (hlq 0)
            clear hlq
            by_cases hk : k < N
            · have hki : hasF F.es (k : Int) = true ↔ (k : Int) ∈ O := ⟨fun h => HAH.out.all k hk h, fun h => (HAH.out.mem _ h).2.2⟩
              have hpk := posf_all O k
              obtain ⟨z, hz⟩ : ∃ z, hasF F.es (k : Int) = z := ⟨_, rfl⟩
              obtain ⟨pk, hpk2⟩ : ∃ p, Graph.posf O O.length k = p := ⟨_, rfl⟩
              have HPB := Lib.hid (Graph.posf_bound O O.length k)
              rw [hpk2] at HPB
              have hzp : (pk == 0) = !z := by
                rw [← hpk2, hpk, ← hz]
                by_cases hm : (k : Int) ∈ O
                · rw [if_pos hm, hki.2 hm]
                  have : ¬ ((List.idxOf (k : Int) O : Int) + 1 = 0) := by omega
                  simpa using this
                · rw [if_neg hm]
                  have : hasF F.es (k : Int) = false := by
                    cases hq : hasF F.es (k : Int) with
                    | false => rfl
                    | true => exact absurd (hki.1 hq) hm
                  rw [this]; rfl
              have HIQ := Lib.hid (fun q => input_q (b := b) (F := F) k (wr.drewN q) hsw (by rw [HFL2.out]; exact hk) (by rw [HFL2.out]; exact hN24) (v := !z) (by rw [hz]; simp))
              have cp0 := (HBW.out.cell (p := ⟨W3.heap.size, k, none⟩) HG3.out).trans (HRB.out k hk)
              rw [hpk2] at cp0
              have HPK := Lib.hid hpk2
              obtain ⟨nd, hnd⟩ : ∃ nd, F.needs[k]? = some nd := ⟨_, List.getElem?_eq_getElem (by rw [HFN.out]; exact hk)⟩
              have HND := Lib.hid (fun q => needs_in (b := b) (F := F) k nd (wr.drewN q) hsw (by rw [HFL2.out]; exact hk) (by rw [HFL2.out]; exact hN24) hnd)
              unfold intsPost at HND
              have HDN : Hid (∀ d ∈ nd, 0 ≤ d ∧ d < (N : Int) ∧ Graph.posf O O.length d.toNat < pk) := Lib.hid (fun d hd => by
                have h := HAH.out.needs k d hk (by rw [hnd]; exact hd)
                rw [hpk2] at h
                exact h)
              have q3 : (0 : Int) ≤ (k : Int) := by omega
              have q4 : (k : Int) < (N : Int) := by omega
              have hlq1 := HLQ0.out
              have HLW := Lib.hid (len_q (b := b) (F := F) wr hsw)
              rw [HFL2.out] at HLW
              clear hki hpk hz hpk2 hsw hnd hlq1
              go_wp2_with fail
              refine HLW.out.mono ?_
              rintro r W6 ⟨rfl, rfl⟩
              go_wp2_with fail
              go_quiet ((go_at_call 18; exact Calls.quiet_of_same (HIQ.out _)))
              have HBQ := Lib.hid (Pal.below_drewN HBW.out nq)
              have HNDQ := Lib.hid (HND.out nq)
              clear cp0 hzp HLW HLQ HLQ0 HIQ HND q3 q4
              generalize W6.drewN nq = W7 at *
              go_wp2_with fail
              refine HNDQ.out.mono ?_
              rintro r W8 ⟨hb8, dv, rfl, hdv⟩
              obtain ⟨da, dc, rfl, hdl⟩ := intsV_form hdv
              have HDV := Lib.hid hdv
              have HB8 := Lib.hid (HBQ.out.seq hb8)
              clear hb8 hdv HNDQ HBQ
              go_wp2_with fail
              go_loopg [13] nd.length (fun gk i wr => ∃ j : Nat, i = .int .i64 j ∧ j + gk = nd.length ∧ Hid (Below W8.heap.size W8 wr))
              case atStart => exact ⟨0, rfl, by omega, Lib.hid (Below.refl _ _)⟩
              case round =>
                obtain ⟨j, rfl, hg3, HBX⟩ := hrel
                have HB9 := Lib.hid (HB8.out.seq HBX.out)
                by_cases hj : j < nd.length
                · obtain ⟨e0, e1, e2⟩ := HDN.out nd[j] (List.getElem_mem hj)
                  obtain ⟨dn, hdn⟩ := Int.eq_ofNat_of_zero_le e0
                  have hdk : nd[j]? = some (dn : Int) := by rw [List.getElem?_eq_getElem hj, hdn]
                  rw [hdn] at e1 e2
                  have hdN : dn < N := by have : (dn : Int) < (N : Int) := e1; omega
                  have e3 : Graph.posf O O.length dn < pk := by simpa using e2
                  obtain ⟨pd, hpd⟩ : ∃ p, Graph.posf O O.length dn = p := ⟨_, rfl⟩
                  rw [hpd] at e3
                  have HQB := Lib.hid (Graph.posf_bound O O.length dn)
                  rw [hpd] at HQB
                  obtain ⟨qb, qo, rfl, cd⟩ := intsV_at (HDV.out.mono (below_gh HBX.out)) hdk
                  have ck := (HB9.out.cell (p := ⟨W3.heap.size, k, none⟩) HG3.out).trans (HRB.out k hk)
                  have cdn := (HB9.out.cell (p := ⟨W3.heap.size, dn, none⟩) HG3.out).trans (HRB.out dn hdN)
                  rw [HPK.out] at ck
                  rw [hpd] at cdn
                  have hlq := fun q => len_q (b := b) (F := F) (wr.drewN q) (HS5.out.mono (below_gh (Pal.below_drewN HB9.out q)))
                  simp only [HFL2.out] at hlq
                  have HLQ := Lib.hid hlq
                  have q1 : decide ((dn : Int) < 0) = false := decide_eq_false (by omega)
                  have q2 : decide ((N : Int) ≤ (dn : Int)) = false := decide_eq_false (by omega)
                  have q6 : decide (N ≤ dn) = false := decide_eq_false (by omega)
                  have q7 : decide (pk ≤ pd) = false := decide_eq_false (by omega)
                  have q3 : (0 : Int) ≤ (dn : Int) := by omega
                  have q4 : (dn : Int) < (N : Int) := by omega
                  have q5 : (0 : Int) ≤ (k : Int) := by omega
                  have q8 : (k : Int) < (N : Int) := by omega
                  clear e0 e1 e2 e3 hdn hdk hpd hlq
                  go_wp2_with fail
                  go_quiet ((go_at_call 17; exact Calls.quiet_of_same (HLQ.out _)))
                  clear q1 q2 q6 q7
                  go_wp2_with fail
                  go_roundg (gk - 1)
                  case rel => exact ⟨j + 1, by go_num, by omega, Lib.hid (Pal.below_drewN HBX.out nq)⟩
                  case measure => omega
                · go_wp2_with fail
                  go_roundg (go2 - 1)
                  case rel => exact ⟨k + 1, by go_num, by omega, HB9⟩
                  case measure => omega
            · obtain rfl : k = N := by omega
              have HLW := Lib.hid (len_q (b := b) (F := F) wr hsw)
              rw [HFL2.out] at HLW
              have HBE := Lib.hid (HB5.out.seq HBW.out)
              have HAW2 := Lib.hid (HAW.out wr HBE.out)
              clear hsw
              go_wp2_with fail
              refine HLW.out.mono ?_
              rintro r W6 ⟨rfl, rfl⟩
              go_wp2_with fail
              refine HAW2.out.mono ?_
              rintro r W7 ⟨rfl, hb7⟩
              have HBF := Lib.hid (HBE.out.seq hb7)
              clear hb7
              go_wp2
              go_ret
              exact ⟨rfl, HBF.out⟩

    | error x =>
      obtain ⟨xi, xk⟩ := x
      have hxk : (xk != 0) = true := by have := newM_err_ne hm; simpa using this
      have HNEW := Lib.hid (new_bad _ W1 HS1.out HSH.out (HL.out.below hb1) hfv hm)
      have HFO := Lib.hid (fun W => form_any n W hn)
      unfold fdsPost at HFO
      obtain ⟨F, hm2⟩ := formM_ok n
      obtain ⟨hf5, hf4, hfs⟩ := formM_short n
      have HM2 := Lib.hid hm2
      have HF5 := Lib.hid hf5
      have HFS := Lib.hid hfs
      clear hb1 hfv hm hm2 hf5 hf4 hfs hn
      go_wp2_with fail
      refine HNEW.out.mono ?_
      rintro r W2 ⟨hb2, rfl⟩
      have HB2 := Lib.hid (HB1.out.seq hb2)
      clear hb2 HNEW
      go_wp2_with fail
      refine (HFO.out _).mono ?_
      rintro r W3 ⟨hb3, gv, rfl, hgv⟩
      have HB3 := Lib.hid (HB2.out.seq hb3)
      obtain ⟨ga, gc, rfl⟩ := hgv.form
      have HNEW2 := Lib.hid (new_ok _ W3 (by have := HF5.out; omega) HFS.out (HL.out.below HB3.out) hgv HM2.out)
      have HAH := Lib.hid (newM_ahead HM2.out)
      have HFL := Lib.hid (newM_ok HM2.out).2.2.2.1
      have HFN := Lib.hid (newM_len HM2.out).2
      have HF24 : Hid ((formM n).length ≤ 24) := Lib.hid (by have := HF5.out; omega)
      generalize formM n = l2 at *
      clear hb3 hgv hxk HB2
      go_wp2_with fail
      refine HNEW2.out.mono ?_
      rintro r W2 ⟨hb2, b, rfl, hs2⟩
      have HB2 := Lib.hid (HB3.out.seq hb2)
      have HSC := Lib.hid hs2
      clear hb2 hs2 HNEW2

      obtain ⟨N, hN⟩ : ∃ N, l2.length = N := ⟨_, rfl⟩
      rw [hN] at HAH HFN HF24
      have HFL2 : Hid (F.l.length = N) := Lib.hid (by rw [HFL.out]; exact hN)
      have hN24 := HF24.out
      have HOR := Lib.hid (order_of W2 HSC.out)
      unfold intsPost at HOR
      clear HFL hN
      go_wp2_with fail
      refine HOR.out.mono ?_
      rintro r W3 ⟨hb3, ov, rfl, hov⟩
      have HB3 := Lib.hid (HB2.out.seq hb3)
      have HSC3 := Lib.hid (HSC.out.mono (below_gh hb3))
      obtain ⟨oa, oc, rfl, hol⟩ := intsV_form hov
      have HOV := Lib.hid hov
      have hle := len_any W3 HSC3.out
      rw [HFL2.out] at hle
      have HLE := Lib.hid hle
      clear hb3 hov hle HOR HSC
      go_wp2_with fail
      refine HLE.out.mono ?_
      rintro r W4 ⟨rfl, rfl⟩
      obtain ⟨i0, hi, hz0, hz1, hz2⟩ := infoI1
      have hmk := run_made (P := Tryz.prog) Tryz.underlying32 hi hz0 hz1 hz2 rfl N (by omega) (by omega)
      have HR0 := Lib.hid (Row.made T0 1 W3 3 (.int .i64 0) N (by unfold maxLen; omega))
      have HE0 := Lib.hid (((Evo.refl T0 W3 (· ≠ 0)).alloc 1 (.cells (madeCells #[.int .i64 0] N) 3)))
      obtain ⟨O, hO⟩ : ∃ O, F.order = O := ⟨_, rfl⟩
      rw [hO] at HAH HOV hol ⊢
      have HOO := Lib.hid hO
      clear hi hz0 hz1 hz2 hO HLE
      go_wp2_with fail
      clear hmk
      go_loopg [10] O.length (fun gk i wr => ∃ (k : Nat) (t : Tag), i = .int .i64 k ∧ k + gk = O.length ∧ Hid (Row t 1 wr 3 1 (sl W3.heap.size N) N (tabI N (Graph.posf O k))) ∧ Hid (Evo T0 W3 t wr (· ≠ 0)))
      case atStart => exact ⟨0, _, rfl, by omega, Lib.hid (by rw [tabI_congr (g := fun _ => 0) (fun i _ => Graph.posf_zero O i), ← tabI_zero]; exact HR0.out), HE0⟩
      case round =>
        obtain ⟨k, t, rfl, hg, HR, HE⟩ := hrel
        have hle : (gh W3).le (gh wr) := by rw [← hz_T0]; exact (HE.out.hz (by simp)).trans (hz_gh _ _)
        by_cases hk : k < O.length
        · obtain ⟨m0, m1, m2⟩ := HAH.out.mem O[k] (List.getElem_mem hk)
          obtain ⟨xn, hxn⟩ := Int.eq_ofNat_of_zero_le m0
          have hxk : O[k]? = some (xn : Int) := by rw [List.getElem?_eq_getElem hk, hxn]
          rw [hxn] at m1 m2
          have hxN : xn < N := by have : (xn : Int) < (N : Int) := m1; omega
          obtain ⟨ob, oo, rfl, co⟩ := intsV_at (HOV.out.mono hle) hxk
          obtain ⟨g, cp, hge, _, _, ca, fa⟩ := HR.out.get (tabI_get (f := Graph.posf O k) hxN)
          unfold sl at hge
          simp only [Value.slice.injEq, Option.some.injEq, Addr.mk.injEq, and_true, true_and] at hge
          obtain ⟨rfl, -⟩ := hge
          have hp0 : Graph.posf O k xn = 0 := by have := Graph.posf_new HAH.out.nodup hxk (by omega : (0 : Int) ≤ (xn : Int)); simpa using this
          rw [hp0] at ca
          have hs3 := HSC3.out.mono hle
          have hlq := fun q => len_q (b := b) (F := F) (wr.drewN q) hs3
          simp only [HFL2.out] at hlq
          have HLQ := Lib.hid hlq
          have HIQ := Lib.hid (fun q => input_q (b := b) (F := F) xn (wr.drewN q) hs3 (by rw [HFL2.out]; exact hxN) (by rw [HFL2.out]; exact hN24) (v := false) (by rw [show ((xn : Nat) : Int) = Int.ofNat xn from rfl]; exact m2))
          have q1 : decide ((xn : Int) < 0) = false := decide_eq_false (by omega)
          have q2 : decide ((N : Int) ≤ (xn : Int)) = false := decide_eq_false (by omega)
          have q6 : decide (N ≤ xn) = false := decide_eq_false (by omega)
          have q3 : (0 : Int) ≤ (xn : Int) := by omega
          have q4 : (xn : Int) < (N : Int) := by omega
          have q5 : ¬ N ≤ xn := by omega
          have HXK := Lib.hid hxk
          have hg3 : W3.heap.size < wr.heap.size := by have := HE.out.size; have h2 := (HR.out.own.lt W3.heap.size rfl).2; omega
          clear hle m0 m1 m2 hxn hxk hp0 hs3 hlq
          go_wp2_with fail
          go_quiet ((first | (go_at_call 17; exact Calls.quiet_of_same (HLQ.out _)) | (go_at_call 18; exact Calls.quiet_of_same (HIQ.out _))))
          have HR2 := Lib.hid ((HR.out.keep ((Evo.refl t wr (fun _ => False)).drewN nq) (fun h => h)).set xn (.int .i64 ((k : Int) + 1)))
          have HE2 := Lib.hid ((HE.out.drewN nq).setCell ⟨W3.heap.size, xn, none⟩ (.int .i64 ((k : Int) + 1)) (by have := HR.out.tag W3.heap.size rfl; simp only; rw [this]; decide))
          have HRN : Hid (Row t 1 ((wr.drewN nq).setCell ⟨W3.heap.size, xn, none⟩ (.int .i64 ((k : Int) + 1))) 3 1 (sl W3.heap.size N) N (tabI N (Graph.posf O (k + 1)))) := Lib.hid (by
            have h := HR2.out
            rw [tabI_set, tabI_congr (g := Graph.posf O (k + 1)) (fun i _ => by have h := (Graph.posf_succ HAH.out.nodup HXK.out (by omega) i).symm; simpa using h)] at h
            exact h)
          clear q1 q2 q6 HR2
          go_wp2_with fail
          go_roundg (gk - 1)
          case rel => exact ⟨k + 1, t, by go_num, by omega, HRN, HE2⟩
          case measure => omega
        · obtain rfl : k = O.length := by omega
          have hs3 := HSC3.out.mono hle
          have HS5 := Lib.hid hs3
          have HRB : Hid (∀ i, i < N → wr.cell? ⟨W3.heap.size, i, none⟩ = some (.int .i64 (Graph.posf O O.length i))) := Lib.hid (by
            intro i hi
            obtain ⟨g, cp, hge, _, _, ca, fa⟩ := HR.out.get (tabI_get (f := Graph.posf O O.length) hi)
            unfold sl at hge
            simp only [Value.slice.injEq, Option.some.injEq, Addr.mk.injEq, and_true, true_and] at hge
            obtain ⟨rfl, -⟩ := hge
            exact ca)
          have HB5 := Lib.hid (HB3.out.trans ((HE.out.toBelow (by simp)).mono HB3.out.size))
          have hg3 : W3.heap.size < wr.heap.size := (HR.out.own.lt W3.heap.size rfl).2
          have HG3 := Lib.hid hg3
          obtain ⟨W5, hW5⟩ : ∃ X, X = wr := ⟨_, rfl⟩
          subst hW5
          clear hle hs3 HR HE hg3
          go_wp2_with fail
          go_loopg [11] N (fun gk i wr => ∃ k : Nat, i = .int .i64 k ∧ k + gk = N ∧ Hid (Below W5.heap.size W5 wr))
          case atStart => exact ⟨0, rfl, by omega, Lib.hid (Below.refl _ _)⟩
          case round =>
            obtain ⟨k, rfl, hg2, HBW⟩ := hrel
            obtain ⟨go2, hgo2⟩ : ∃ X, X = gk := ⟨_, rfl⟩
            subst hgo2
            have hsw := HS5.out.mono (below_gh HBW.out)
            have hlq := fun q => len_q (b := b) (F := F) (wr.drewN q) hsw
            simp only [HFL2.out] at hlq
            have HLQ := Lib.hid hlq
            have HLQ0 := Lib.hid (hlq 0)
            clear hlq
            by_cases hk : k < N
            · have hki : hasF F.es (k : Int) = true ↔ (k : Int) ∈ O := ⟨fun h => HAH.out.all k hk h, fun h => (HAH.out.mem _ h).2.2⟩
              have hpk := posf_all O k
              obtain ⟨z, hz⟩ : ∃ z, hasF F.es (k : Int) = z := ⟨_, rfl⟩
              obtain ⟨pk, hpk2⟩ : ∃ p, Graph.posf O O.length k = p := ⟨_, rfl⟩
              have HPB := Lib.hid (Graph.posf_bound O O.length k)
              rw [hpk2] at HPB
              have hzp : (pk == 0) = !z := by
                rw [← hpk2, hpk, ← hz]
                by_cases hm : (k : Int) ∈ O
                · rw [if_pos hm, hki.2 hm]
                  have : ¬ ((List.idxOf (k : Int) O : Int) + 1 = 0) := by omega
                  simpa using this
                · rw [if_neg hm]
                  have : hasF F.es (k : Int) = false := by
                    cases hq : hasF F.es (k : Int) with
                    | false => rfl
                    | true => exact absurd (hki.1 hq) hm
                  rw [this]; rfl
              have HIQ := Lib.hid (fun q => input_q (b := b) (F := F) k (wr.drewN q) hsw (by rw [HFL2.out]; exact hk) (by rw [HFL2.out]; exact hN24) (v := !z) (by rw [hz]; simp))
              have cp0 := (HBW.out.cell (p := ⟨W3.heap.size, k, none⟩) HG3.out).trans (HRB.out k hk)
              rw [hpk2] at cp0
              have HPK := Lib.hid hpk2
              obtain ⟨nd, hnd⟩ : ∃ nd, F.needs[k]? = some nd := ⟨_, List.getElem?_eq_getElem (by rw [HFN.out]; exact hk)⟩
              have HND := Lib.hid (fun q => needs_in (b := b) (F := F) k nd (wr.drewN q) hsw (by rw [HFL2.out]; exact hk) (by rw [HFL2.out]; exact hN24) hnd)
              unfold intsPost at HND
              have HDN : Hid (∀ d ∈ nd, 0 ≤ d ∧ d < (N : Int) ∧ Graph.posf O O.length d.toNat < pk) := Lib.hid (fun d hd => by
                have h := HAH.out.needs k d hk (by rw [hnd]; exact hd)
                rw [hpk2] at h
                exact h)
              have q3 : (0 : Int) ≤ (k : Int) := by omega
              have q4 : (k : Int) < (N : Int) := by omega
              have hlq1 := HLQ0.out
              have HLW := Lib.hid (len_q (b := b) (F := F) wr hsw)
              rw [HFL2.out] at HLW
              clear hki hpk hz hpk2 hsw hnd hlq1
              go_wp2_with fail
              refine HLW.out.mono ?_
              rintro r W6 ⟨rfl, rfl⟩
              go_wp2_with fail
              go_quiet ((go_at_call 18; exact Calls.quiet_of_same (HIQ.out _)))
              have HBQ := Lib.hid (Pal.below_drewN HBW.out nq)
              have HNDQ := Lib.hid (HND.out nq)
              clear cp0 hzp HLW HLQ HLQ0 HIQ HND q3 q4
              generalize W6.drewN nq = W7 at *
              go_wp2_with fail
              refine HNDQ.out.mono ?_
              rintro r W8 ⟨hb8, dv, rfl, hdv⟩
              obtain ⟨da, dc, rfl, hdl⟩ := intsV_form hdv
              have HDV := Lib.hid hdv
              have HB8 := Lib.hid (HBQ.out.seq hb8)
              clear hb8 hdv HNDQ HBQ
              go_wp2_with fail
              go_loopg [13] nd.length (fun gk i wr => ∃ j : Nat, i = .int .i64 j ∧ j + gk = nd.length ∧ Hid (Below W8.heap.size W8 wr))
              case atStart => exact ⟨0, rfl, by omega, Lib.hid (Below.refl _ _)⟩
              case round =>
                obtain ⟨j, rfl, hg3, HBX⟩ := hrel
                have HB9 := Lib.hid (HB8.out.seq HBX.out)
                by_cases hj : j < nd.length
                · obtain ⟨e0, e1, e2⟩ := HDN.out nd[j] (List.getElem_mem hj)
                  obtain ⟨dn, hdn⟩ := Int.eq_ofNat_of_zero_le e0
                  have hdk : nd[j]? = some (dn : Int) := by rw [List.getElem?_eq_getElem hj, hdn]
                  rw [hdn] at e1 e2
                  have hdN : dn < N := by have : (dn : Int) < (N : Int) := e1; omega
                  have e3 : Graph.posf O O.length dn < pk := by simpa using e2
                  obtain ⟨pd, hpd⟩ : ∃ p, Graph.posf O O.length dn = p := ⟨_, rfl⟩
                  rw [hpd] at e3
                  have HQB := Lib.hid (Graph.posf_bound O O.length dn)
                  rw [hpd] at HQB
                  obtain ⟨qb, qo, rfl, cd⟩ := intsV_at (HDV.out.mono (below_gh HBX.out)) hdk
                  have ck := (HB9.out.cell (p := ⟨W3.heap.size, k, none⟩) HG3.out).trans (HRB.out k hk)
                  have cdn := (HB9.out.cell (p := ⟨W3.heap.size, dn, none⟩) HG3.out).trans (HRB.out dn hdN)
                  rw [HPK.out] at ck
                  rw [hpd] at cdn
                  have hlq := fun q => len_q (b := b) (F := F) (wr.drewN q) (HS5.out.mono (below_gh (Pal.below_drewN HB9.out q)))
                  simp only [HFL2.out] at hlq
                  have HLQ := Lib.hid hlq
                  have q1 : decide ((dn : Int) < 0) = false := decide_eq_false (by omega)
                  have q2 : decide ((N : Int) ≤ (dn : Int)) = false := decide_eq_false (by omega)
                  have q6 : decide (N ≤ dn) = false := decide_eq_false (by omega)
                  have q7 : decide (pk ≤ pd) = false := decide_eq_false (by omega)
                  have q3 : (0 : Int) ≤ (dn : Int) := by omega
                  have q4 : (dn : Int) < (N : Int) := by omega
                  have q5 : (0 : Int) ≤ (k : Int) := by omega
                  have q8 : (k : Int) < (N : Int) := by omega
                  clear e0 e1 e2 e3 hdn hdk hpd hlq
                  go_wp2_with fail
                  go_quiet ((go_at_call 17; exact Calls.quiet_of_same (HLQ.out _)))
                  clear q1 q2 q6 q7
                  go_wp2_with fail
                  go_roundg (gk - 1)
                  case rel => exact ⟨j + 1, by go_num, by omega, Lib.hid (Pal.below_drewN HBX.out nq)⟩
                  case measure => omega
                · go_wp2_with fail
                  go_roundg (go2 - 1)
                  case rel => exact ⟨k + 1, by go_num, by omega, HB9⟩
                  case measure => omega
            · obtain rfl : k = N := by omega
              have HLW := Lib.hid (len_q (b := b) (F := F) wr hsw)
              rw [HFL2.out] at HLW
              have HBE := Lib.hid (HB5.out.seq HBW.out)
              have HAW2 := Lib.hid (HAW.out wr HBE.out)
              clear hsw
              go_wp2_with fail
              refine HLW.out.mono ?_
              rintro r W6 ⟨rfl, rfl⟩
              go_wp2_with fail
              refine HAW2.out.mono ?_
              rintro r W7 ⟨rfl, hb7⟩
              have HBF := Lib.hid (HBE.out.seq hb7)
              clear hb7
              go_wp2
              go_ret
              exact ⟨rfl, HBF.out⟩

end Go.Proofs.YtpfhhikbaeknpaaGreatDoor
