/- In an order everybody stands behind all whom they need, once; who is left over needs somebody who is: the law GraphAhead returns true and leaves its arguments as they were. No condition. -/
import Derived.Test.YtoaomedlgmnopaaW8
import Derived.Test.YtoaomedlgmnopaaM6
import Derived.Test.YtoaomedlgmnopaaO
namespace Go.Proofs.Ytoaomedlgmnopaa.GraphAhead
open Go.RowKit Pal Pal.Graph Go.ChangeShapes Go.WideShapes Go.ChangeAt

theorem few_short {n : Int} {xss : List (List Int)} (h : fewB n xss = true) : n ≤ 60 ∧ xss.length ≤ 80 ∧ ∀ (i : Nat) (xs : List Int), xss[i]? = some xs → xs.length ≤ 80 := by
  simp only [fewB, Bool.and_eq_true, List.all_eq_true, decide_eq_true_eq] at h
  exact ⟨h.1.1, h.1.2, fun i xs hi => h.2 xs (List.mem_of_getElem? hi)⟩
/-- Of the first k that i needs, is somebody left? -/
def heldK (N : Nat) (xs : List Int) (d : List Bool) (k : Nat) : Bool := ((xs.take k).filter fun x => decide (0 ≤ x) && decide (x < (N : Int))).any fun x => !isDone d x
theorem heldK_hit {N : Nat} {xs : List Int} {d : List Bool} {k : Nat} {x : Int} (hx : xs[k]? = some x) (h : 0 ≤ x ∧ x < (N : Int)) : heldK N xs d (k + 1) = (heldK N xs d k || !isDone d x) := by
  simp [heldK, List.take_add_one, hx, List.filter_append, h]
theorem heldK_miss {N : Nat} {xs : List Int} {d : List Bool} {k : Nat} {x : Int} (hx : xs[k]? = some x) (h : ¬ (0 ≤ x ∧ x < (N : Int))) : heldK N xs d (k + 1) = heldK N xs d k := by
  unfold heldK
  rw [List.take_add_one, hx, List.filter_append]
  have : (fun x => decide (0 ≤ x) && decide (x < (N : Int))) x = false := by simpa using h
  simp only [Option.toList_some, List.filter_cons, this]
  simp

set_option maxHeartbeats 4000000 in
set_option maxRecDepth 100000 in
theorem walk (n0 : Int) (v : Value) (xss : List (List Int)) (w : World) (hn0 : -9223372036854775808 ≤ n0 ∧ n0 ≤ 9223372036854775807) (hx : RowsV (gh w) v xss) : Calls Try.prog 4 #[.int .i64 n0, v] w (TrueBelow w) := by
  obtain ⟨i0, hi, hz0, hz1, hz2⟩ := info_parts3
  obtain ⟨i4, hi4, hy0, hy1, hy2⟩ := info_parts4
  obtain ⟨N, hN⟩ : ∃ N : Nat, n0 % 40 = (N : Int) := ⟨(n0 % 40).toNat, by have := Int.emod_nonneg n0 (show (40 : Int) ≠ 0 by omega); omega⟩
  have hN40 : N < 40 := by have := Int.emod_lt_of_pos n0 (show (0 : Int) < 40 by omega); omega
  have HN := Lib.hid hN
  clear hN
  obtain ⟨b, hbf⟩ : ∃ b, b = fewB N xss := ⟨_, rfl⟩
  have hmk := run_made (P := Try.prog) Try.underlying32 hi4 hy0 hy1 hy2 rfl N (by omega) (by omega)
  have hmk3 := run_made (P := Try.prog) Try.underlying26 hi hz0 hz1 hz2 rfl N (by omega) (by omega)
  cases b with
  | false =>
    have HB := Lib.hid hbf; clear hbf hmk hmk3
    go_enter Try.func4, Try.ntmps4
    go_wp2_with fail
    refine (place_any n0 40 _ hn0 (by omega)).mono ?_
    rintro e w1 ⟨rfl, rfl⟩
    rw [HN.out]
    go_wp2_with fail
    refine (few_any _ N v xss _ (GH.le.refl _) hx).mono ?_
    rintro e w1 ⟨rfl, rfl⟩
    rw [← HB.out]
    go_wp2_with fail
    refine (awake_any _).mono ?_
    rintro e w2 ⟨rfl, hbel⟩
    go_wp2
    go_ret
    exact ⟨rfl, hbel⟩
  | true =>
    have hfew := few_short hbf.symm
    have hF : 0 ≤ (N : Int) → (N : Int) ≤ 4096 → (N : Int) ≤ 100 ∧ ∀ (i : Nat) (xs : List Int), xss[i]? = some xs → xs.length ≤ 80 := fun _ _ => ⟨by omega, hfew.2.2⟩
    have HB := Lib.hid hbf; clear hbf hfew
    have HF := Lib.hid hF; clear hF
    go_enter Try.func4, Try.ntmps4
    go_wp2_with fail
    refine (place_any n0 40 _ hn0 (by omega)).mono ?_
    rintro e w1 ⟨rfl, rfl⟩
    rw [HN.out]
    go_wp2_with fail
    refine (few_any _ N v xss _ (GH.le.refl _) hx).mono ?_
    rintro e w0 ⟨rfl, rfl⟩
    rw [← HB.out]
    clear HN
    go_wp2_with fail
    refine (lists_any _ v xss _ (GH.le.refl _) hx).mono ?_
    rintro e w1 ⟨v1, rfl, hv1, hb1⟩
    have hx1 := hx.mono (below_gh hb1)
    go_wp2_with fail
    refine (porder_any _ N v1 xss _ (GH.le.refl _) hv1 HF.out).mono ?_
    rintro e w2 ⟨va, rfl, hva, hb2⟩
    have hx2 := hx1.mono (below_gh hb2)
    have bel2 := hb1.seq hb2
    clear hx hx1 hv1 hb1 hb2
    obtain ⟨OR, hOR⟩ : ∃ OR, OR = orderS N xss := ⟨_, rfl⟩
    rw [← hOR] at hva ⊢
    obtain ⟨A, ok⟩ := OR
    have HOR := Lib.hid hOR; clear hOR
    go_wp2_with fail
    refine (lists_any _ v xss _ (GH.le.refl _) hx2).mono ?_
    rintro e w3 ⟨v3, rfl, hv3, hb3⟩
    have hx3 := hx2.mono (below_gh hb3)
    have hva3 := hva.mono (below_gh hb3)
    have bel3 := bel2.seq hb3
    clear hx2 hva bel2 hb3
    go_wp2_with fail
    refine (pstuck_any _ N v3 xss _ (GH.le.refl _) hv3 HF.out).mono ?_
    rintro e w4 ⟨vs, rfl, hvs, hb4⟩
    have hx4 := hx3.mono (below_gh hb4)
    have hva4 := hva3.mono (below_gh hb4)
    have bel4 := bel3.seq hb4
    clear hx3 hva3 hv3 bel3 hb4
    have hss : stuckS N xss = left (st N xss N).2 N := by unfold stuckS; rw [if_pos (by omega)]; simp
    rw [hss] at hvs
    clear hss
    obtain ⟨d, hd⟩ : ∃ d, d = (st N xss N).2 := ⟨_, rfl⟩
    rw [← hd] at hvs
    obtain ⟨S, hS⟩ : ∃ S, S = left d N := ⟨_, rfl⟩
    rw [← hS] at hvs
    have hdl : d.length = N := by rw [hd]; simpa using st_len (n := (N : Int)) (xss := xss) N
    -- what is known of the order
    have hok : ok = true → A.length = N ∧ S = [] ∧ Ord N xss (A, d) := by
      intro h
      subst h
      have h0 := HOR.out
      unfold orderS at h0
      rw [if_pos (by omega)] at h0
      simp only [Int.toNat_natCast] at h0
      by_cases hlt : (st N xss N).1.length < N
      · rw [if_pos hlt] at h0; cases h0
      · rw [if_neg hlt] at h0
        simp only [Prod.mk.injEq, and_true] at h0
        have h1 := left_nil_iff.2 hlt
        have h2 := st_le1 N xss N
        simp only [Int.toNat_natCast] at h2
        refine ⟨by rw [h0]; omega, by rw [hS, hd]; exact h1, ?_⟩
        rw [h0, hd]; exact ord_st N xss N
    have hno : ok = false → A = [] ∧ S ≠ [] := by
      intro h
      subst h
      have h0 := HOR.out
      unfold orderS at h0
      rw [if_pos (by omega)] at h0
      simp only [Int.toNat_natCast] at h0
      by_cases hlt : (st N xss N).1.length < N
      · rw [if_pos hlt] at h0
        simp only [Prod.mk.injEq, and_true] at h0
        exact ⟨h0, fun h => by rw [hS, hd] at h; exact left_nil_iff.1 h hlt⟩
      · rw [if_neg hlt] at h0; cases h0
    have hheld : ∀ i, i < N → ∀ xs, xss[i]?.getD [] = xs → heldK N xs d xs.length = !(d.getD i false) := by
      intro i hi xs hxs
      rw [hd, ← left_held N xss hi, ← hd]
      unfold heldK lst
      rw [hxs, List.take_length]
    have hAnd : A.Nodup ∧ ∀ x ∈ A, 0 ≤ x ∧ x < (N : Int) := by
      cases hk : ok
      · rw [(hno hk).1]; exact ⟨List.nodup_nil, fun x hx => by cases hx⟩
      · have O := (hok hk).2.2
        exact ⟨O.nodup, fun x hx => let h := O.mem x hx; ⟨h.1, h.2.1⟩⟩
    have hSm : ∀ x ∈ S, 0 ≤ x ∧ x < (N : Int) := by rw [hS]; exact fun x hx => let h := Pal.Graph.mem_left.1 hx; ⟨h.1, h.2.1⟩
    have hmk2 : Pal.Graph.mark (List.replicate N false) S = d.map (!·) := by rw [hS]; exact Pal.Graph.mark_left hdl
    have HOK := Lib.hid hok; have HNO := Lib.hid hno; have HHELD := Lib.hid hheld; have HAND := Lib.hid hAnd; have HSM := Lib.hid hSm; have HMK := Lib.hid hmk2; have HDL := Lib.hid hdl
    clear hok hno hheld hAnd hSm hmk2 hdl hS hd
    obtain ⟨aa, ca, rfl, _, hla, hca⟩ := hva4
    obtain ⟨a5, cs, rfl, _, hls, hcs⟩ := hvs
    obtain ⟨al, cl, rfl, _, hll, hcl⟩ := hx4
    have hz : (if ok then A.length = N ∧ S.length = 0 else A.length = 0 ∧ 0 < S.length) := by
      cases hk : ok
      · obtain ⟨h1, h2⟩ := HNO.out hk
        exact ⟨by rw [h1]; rfl, List.length_pos_iff.2 h2⟩
      · obtain ⟨h1, h2, _⟩ := HOK.out hk
        exact ⟨h1, by rw [h2]; rfl⟩
    have HALL := Lib.hid hz
    have hR := Row.made T0 3 w4 3 (.int .i64 0) N (by unfold maxLen; omega)
    rw [tabI_zero] at hR
    have EV4 : Evo T0 w4 (T0.set w4.heap.size 3) (w4.alloc (.cells (madeCells #[.int .i64 0] N) 3)) (· ≠ 0) := (Evo.refl _ _ _).alloc 3 _
    cases ok with
    | false =>
      simp only [Bool.false_eq_true, if_false] at hz
      obtain ⟨hz1', hz2'⟩ := hz
      have hs0 : ((S.length : Int) == 0) = false := beq_eq_false_iff_ne.2 (by omega)
      go_wp2
      clear hmk3
      go_loopg [9] A.length (fun g i wr => ∃ k t, k + g = A.length ∧ i = .int .i64 (k : Nat) ∧ Row t 3 wr 3 1 (sl w4.heap.size N) N (tabI N (posf A k)) ∧ Evo T0 w4 t wr (· ≠ 0))
      case atStart => exact ⟨0, _, by omega, rfl, by rw [tabI_congr (g := fun _ => 0) (fun i _ => posf_zero A i)]; exact hR, EV4⟩
      case round =>
        clear hR EV4
        obtain ⟨k, t, hkg, rfl, hrow, hev⟩ := hrel
        obtain ⟨wo, rfl⟩ : ∃ wo : World, wo = wr := ⟨_, rfl⟩
        have hle : (gh w4).le (gh wo) := by
          have := hev.hz (by simp)
          rw [hz_T0] at this
          exact this.trans (hz_gh _ _)
        cases gk with
        | succ g1 => exact absurd hkg (by omega)
        | zero =>
          have hkl : k = A.length := by omega
          rw [hkl] at hrow
          clear hkl
          obtain rfl : k = 0 := by omega
          obtain ⟨wl, rfl⟩ : ∃ wl : World, wl = wo := ⟨_, rfl⟩
          have hR2 := Row.made t 2 wl 4 (.bool false) N (by unfold maxLen; omega)
          have E2 : Evo t wl (t.set wl.heap.size 2) (wl.alloc (.cells (madeCells #[.bool false] N) 4)) (fun _ => False) := (Evo.refl _ _ _).alloc 2 _
          have hrow2 := hrow.keep E2 id
          have hev2 := hev.trans (E2.mono fun _ h => h.elim)
          clear hrow hev E2
          go_wp2
          clear hmk
          go_loopg [11] S.length (fun g i wr => ∃ k t, k + g = S.length ∧ i = .int .i64 (k : Nat) ∧ Row t 3 wr 3 1 (sl w4.heap.size N) N (tabI N (posf A A.length)) ∧ Row t 2 wr 4 1 (sl wl.heap.size N) N ((Pal.Graph.mark (List.replicate N false) (S.take k)).map Value.bool) ∧ Evo T0 w4 t wr (· ≠ 0))
          case atStart => exact ⟨0, _, by omega, rfl, hrow2, by simpa [Pal.Graph.mark, sl] using hR2, hev2⟩
          case round =>
            clear hR2 hev2 hrow2
            obtain ⟨k2, t, hkg, rfl, hrow3, hrow, hev⟩ := hrel
            obtain ⟨wo, rfl⟩ : ∃ wo : World, wo = wr := ⟨_, rfl⟩
            have hle : (gh w4).le (gh wo) := by
              have := hev.hz (by simp)
              rw [hz_T0] at this
              exact this.trans (hz_gh _ _)
            cases gk with
            | succ g1 =>
              have hkl : k2 < S.length := by omega
              obtain ⟨x, hxk⟩ : ∃ x, S[k2]? = some x := ⟨_, List.getElem?_eq_getElem hkl⟩
              obtain ⟨bx, ox, rfl, hcell⟩ := hcs k2 x hxk
              have hcell := hle.at hcell
              obtain ⟨hx0, hxN⟩ := HSM.out x (List.mem_of_getElem? hxk)
              have htk : S.take (k2 + 1) = S.take k2 ++ [x] := by rw [List.take_add_one, hxk]; rfl
              have hlen : (Pal.Graph.mark (List.replicate N false) (S.take k2)).length = N := by rw [Pal.Graph.mark_len]; simp
              have hxl : x.toNat < (Pal.Graph.mark (List.replicate N false) (S.take k2)).length := by omega
              have hfz : wo.frozen? ⟨wl.heap.size, x.toNat, none⟩ = false ∧ ∃ d, wo.cell? ⟨wl.heap.size, x.toNat, none⟩ = some (.bool d) := by
                obtain ⟨g, cap, hgg, _, _, hc, hf⟩ := hrow.get (j := x.toNat) (x := .bool (Pal.Graph.mark (List.replicate N false) (S.take k2))[x.toNat]) (by rw [List.getElem?_map, List.getElem?_eq_getElem hxl]; rfl)
                simp only [sl, Value.slice.injEq, Option.some.injEq, Addr.mk.injEq, and_true, true_and] at hgg
                rw [← hgg.1] at hc hf
                exact ⟨hf, _, hc⟩
              obtain ⟨hfz, d2, hcd⟩ := hfz
              have R1 := hrow.set x.toNat (.bool true)
              rw [map_set_bool, ← Pal.Graph.mark_snoc, ← htk] at R1
              have EE : Evo t wo t (wo.setCell ⟨wl.heap.size, x.toNat, none⟩ (.bool true)) (· = 2) := (Evo.refl _ _ _).setCell _ _ (hrow.tag _ rfl)
              have R3 := hrow3.keep EE (by omega)
              have E1 := hev.trans (EE.mono (K' := (· ≠ 0)) (fun x hx => by omega))
              have HX := Lib.hid hxk
              have HL := Lib.hid hlen
              clear hrow hev hxk htk hle hlen hrow3 EE
              go_wp2
              go_roundg g1
              case measure => omega
              case rel => exact ⟨k2 + 1, t, by omega, by go_num, R3, R1, E1⟩
            | zero =>
              have hkl : k2 = S.length := by omega
              rw [hkl, List.take_length, HMK.out] at hrow
              clear hkl hle
              obtain rfl : k2 = S.length := by omega
              go_wp2
              go_loopg [12] N (fun g i wr => ∃ k t, k + g = N ∧ i = .int .i64 (k : Nat) ∧ Row t 3 wr 3 1 (sl w4.heap.size N) N (tabI N (posf A A.length)) ∧ Row t 2 wr 4 1 (sl wl.heap.size N) N ((d.map (!·)).map Value.bool) ∧ Evo T0 w4 t wr (· ≠ 0))
              case atStart => exact ⟨0, t, by omega, rfl, hrow3, hrow, hev⟩
              case round =>
                clear hrow3 hrow hev
                obtain ⟨i, t, hkg3, rfl, hrow3, hrow, hev⟩ := hrel
                obtain ⟨wo, rfl⟩ : ∃ wo : World, wo = wr := ⟨_, rfl⟩
                cases gk with
                | zero =>
                  have hb5 : Below w4.heap.size w4 wo := hev.toBelow (by simp)
                  have bel5 := bel4.seq hb5
                  clear hrow3 hrow hev hb5 bel4
                  have hiN : i = N := by omega
                  subst hiN
                  go_wp2_with fail
                  refine (awake_any _).mono ?_
                  rintro e w9 ⟨rfl, hb9⟩
                  go_wp2
                  go_ret
                  exact ⟨rfl, bel5.seq hb9⟩
                | succ g3 =>
                  have hiN : i < N := by omega
                  obtain ⟨xs, hxs⟩ : ∃ xs, xss[i]?.getD [] = xs := ⟨_, rfl⟩
                  obtain ⟨di, hdi⟩ : ∃ di, d[i]? = some di := ⟨_, List.getElem?_eq_getElem (by have := HDL.out; omega)⟩
                  have hgd : d.getD i false = di := by simp [hdi]
                  have hheld := HHELD.out i hiN xs hxs
                  rw [hgd] at hheld
                  have HH := Lib.hid hheld
                  have HXS := Lib.hid hxs
                  have HDI := Lib.hid hdi
                  clear hheld hxs hgd hdi
                  go_wp2
                  go_loopg [13, 14] xs.length (fun g hl k wr => ∃ j, j + g = xs.length ∧ k = .int .i64 (j : Nat) ∧ hl = .bool (heldK N xs d j) ∧ ∃ q, wr = wo.drewN q)
                  case atStart => exact ⟨0, by omega, rfl, rfl, 0, rfl⟩
                  case round =>
                    obtain ⟨j, hjg, rfl, rfl, q, rfl⟩ := hrel
                    obtain ⟨hk, hhk⟩ : ∃ hk, hk = heldK N xs d j := ⟨_, rfl⟩
                    rw [← hhk]
                    cases gk with
                    | zero =>
                      have hjl : j = xs.length := by omega
                      subst hjl
                      have hhk2 : hk = !di := by rw [hhk]; exact HH.out
                      have HHK := Lib.hid hhk
                      clear hhk
                      obtain ⟨g, cap, hg, _, _, hcl3, _⟩ := hrow.get (j := i) (x := .bool (!di)) (by simp [HDI.out])
                      simp only [sl, Value.slice.injEq, Option.some.injEq, Addr.mk.injEq, and_true, true_and] at hg
                      obtain ⟨rfl, rfl⟩ := hg
                      have R3 : Row t 3 (wo.drewN q) 3 1 (sl w4.heap.size N) N (tabI N (posf A A.length)) := hrow3.keep ((Evo.refl t wo (fun _ => False)).drewN q) id
                      have R2 : Row t 2 (wo.drewN q) 4 1 (sl wl.heap.size N) N ((d.map (!·)).map Value.bool) := hrow.keep ((Evo.refl t wo (fun _ => False)).drewN q) id
                      have EV := hev.drewN q
                      subst hhk2
                      by_cases hilt : i < xss.length
                      · obtain ⟨ys, hys⟩ : ∃ ys, xss[i]? = some ys := ⟨_, List.getElem?_eq_getElem hilt⟩
                        have hyx : ys = xs := by have := HXS.out; rw [hys] at this; exact this
                        subst hyx
                        obtain ⟨b1, o1, u, rfl, hcu, ra, rc, rfl, _, hrl, hrc⟩ := hcl i ys hys
                        have hle : (gh w4).le (gh wo) := by
                          have := hev.hz (by simp)
                          rw [hz_T0] at this
                          exact this.trans (hz_gh _ _)
                        have hcu := hle.at hcu
                        have HY := Lib.hid hys
                        clear hys hle hrc hrow3 hrow hev
                        cases di
                        all_goals
                          go_wp2
                          go_roundg g3
                          case measure => omega
                          case rel => exact ⟨i + 1, t, by omega, by go_num, R3, R2, EV⟩
                      · clear hrow3 hrow hev
                        cases di
                        all_goals
                          go_wp2
                          go_roundg g3
                          case measure => omega
                          case rel => exact ⟨i + 1, t, by omega, by go_num, R3, R2, EV⟩
                    | succ g4 =>
                      have hjl : j < xs.length := by omega
                      obtain ⟨x, hxj⟩ : ∃ x, xs[j]? = some x := ⟨_, List.getElem?_eq_getElem hjl⟩
                      have hilt : i < xss.length := by
                        apply Classical.byContradiction
                        intro hn
                        have := HXS.out
                        rw [List.getElem?_eq_none (Nat.le_of_not_lt hn)] at this
                        simp at this
                        rw [this] at hjl; simp at hjl
                      obtain ⟨ys, hys⟩ : ∃ ys, xss[i]? = some ys := ⟨_, List.getElem?_eq_getElem hilt⟩
                      have hyx : ys = xs := by have := HXS.out; rw [hys] at this; exact this
                      subst hyx
                      obtain ⟨b1, o1, u, rfl, hcu, ra, rc, rfl, _, hrl, hrc⟩ := hcl i ys hys
                      obtain ⟨b2, o2, rfl, hcx⟩ := hrc j x hxj
                      have hle : (gh w4).le (gh wo) := by
                        have := hev.hz (by simp)
                        rw [hz_T0] at this
                        exact this.trans (hz_gh _ _)
                      have hcu := hle.at hcu
                      have hcx := hle.at hcx
                      have HY := Lib.hid hys
                      clear hys hle hrc
                      by_cases hg : 0 ≤ x ∧ x < (N : Int)
                      · obtain ⟨hg0, hgN⟩ := hg
                        have hhit := heldK_hit (d := d) hxj ⟨hg0, hgN⟩
                        have hxl : x.toNat < N := by omega
                        obtain ⟨dx, hdx⟩ : ∃ dx, d[x.toNat]? = some dx := ⟨_, List.getElem?_eq_getElem (by have := HDL.out; omega)⟩
                        have hdd : isDone d x = dx := by simp [isDone, hdx]
                        rw [hdd, ← hhk] at hhit
                        obtain ⟨g, cap, hg, _, _, hcl3, _⟩ := hrow.get (j := x.toNat) (x := .bool (!dx)) (by simp [hdx])
                        simp only [sl, Value.slice.injEq, Option.some.injEq, Addr.mk.injEq, and_true, true_and] at hg
                        obtain ⟨rfl, rfl⟩ := hg
                        have HIT := Lib.hid hhit
                        have HX := Lib.hid hxj; have HDX := Lib.hid hdx; have HDD := Lib.hid hdd; have HHK := Lib.hid hhk
                        clear hhit hxj hdx hdd hhk
                        cases hk
                        all_goals cases dx
                        all_goals
                          go_wp2
                          go_quiet (fail)
                          go_wp2
                          go_roundg g4
                          case measure => omega
                          case rel => exact ⟨j + 1, by omega, by go_num, by rw [HIT.out]; rfl, by first | exact ⟨_, rfl⟩ | exact Q2 _ _ _⟩
                      · have hmiss := heldK_miss (d := d) hxj hg
                        rw [← hhk] at hmiss
                        have HMISS := Lib.hid hmiss
                        have HX := Lib.hid hxj; have HHK := Lib.hid hhk
                        clear hmiss hxj hhk
                        by_cases hg0 : 0 ≤ x
                        all_goals
                          have hg1 : x < 0 ∨ (N : Int) ≤ x := by omega
                          go_wp2
                          go_roundg g4
                          case measure => omega
                          case rel => exact ⟨j + 1, by omega, by go_num, by rw [HMISS.out], q, rfl⟩
    | true =>
      simp only [if_true] at hz
      obtain ⟨hz1', hz2'⟩ := hz
      go_wp2
      clear hmk3
      go_loopg [9] A.length (fun g i wr => ∃ k t, k + g = A.length ∧ i = .int .i64 (k : Nat) ∧ Row t 3 wr 3 1 (sl w4.heap.size N) N (tabI N (posf A k)) ∧ Evo T0 w4 t wr (· ≠ 0))
      case atStart => exact ⟨0, _, by omega, rfl, by rw [tabI_congr (g := fun _ => 0) (fun i _ => posf_zero A i)]; exact hR, EV4⟩
      case round =>
        clear hR EV4
        obtain ⟨k, t, hkg, rfl, hrow, hev⟩ := hrel
        obtain ⟨wo, rfl⟩ : ∃ wo : World, wo = wr := ⟨_, rfl⟩
        have hle : (gh w4).le (gh wo) := by
          have := hev.hz (by simp)
          rw [hz_T0] at this
          exact this.trans (hz_gh _ _)
        cases gk with
        | succ g1 =>
          have hkl : k < A.length := by omega
          obtain ⟨x, hxk⟩ : ∃ x, A[k]? = some x := ⟨_, List.getElem?_eq_getElem hkl⟩
          obtain ⟨bx, ox, rfl, hcell⟩ := hca k x hxk
          have hcell := hle.at hcell
          obtain ⟨hx0, hxN⟩ := HAND.out.2 x (List.mem_of_getElem? hxk)
          have hxl : x.toNat < N := by omega
          obtain ⟨g, cap, hg, _, _, hcw, hfw⟩ := hrow.get (tabI_get hxl)
          simp only [sl, Value.slice.injEq, Option.some.injEq, Addr.mk.injEq, and_true, true_and] at hg
          obtain ⟨rfl, rfl⟩ := hg
          rw [posf_new HAND.out.1 hxk hx0] at hcw
          have R1 := hrow.set x.toNat (.int .i64 ((k : Int) + 1))
          rw [tabI_set, ← tabI_congr (fun i _ => posf_succ HAND.out.1 hxk hx0 i)] at R1
          have E1 := hev.setCell ⟨w4.heap.size, x.toNat, none⟩ (.int .i64 ((k : Int) + 1)) (by rw [hrow.tag _ rfl]; simp)
          have HX := Lib.hid hxk
          clear hrow hev hxk hle
          go_wp2
          go_roundg g1
          case measure => omega
          case rel => exact ⟨k + 1, t, by omega, by go_num, R1, E1⟩
        | zero =>
          have hkl : k = A.length := by omega
          rw [hkl] at hrow
          clear hkl
          obtain rfl : N = k := by omega
          obtain ⟨wl, rfl⟩ : ∃ wl : World, wl = wo := ⟨_, rfl⟩
          have hR2 := Row.made t 2 wl 4 (.bool false) N (by unfold maxLen; omega)
          have E2 : Evo t wl (t.set wl.heap.size 2) (wl.alloc (.cells (madeCells #[.bool false] N) 4)) (fun _ => False) := (Evo.refl _ _ _).alloc 2 _
          have hrow2 := hrow.keep E2 id
          have hev2 := hev.trans (E2.mono fun _ h => h.elim)
          clear hrow hev E2
          go_wp2
          clear hmk
          go_loopg [11] S.length (fun g i wr => ∃ k t, k + g = S.length ∧ i = .int .i64 (k : Nat) ∧ Row t 3 wr 3 1 (sl w4.heap.size N) N (tabI N (posf A A.length)) ∧ Row t 2 wr 4 1 (sl wl.heap.size N) N ((Pal.Graph.mark (List.replicate N false) (S.take k)).map Value.bool) ∧ Evo T0 w4 t wr (· ≠ 0))
          case atStart => exact ⟨0, _, by omega, rfl, hrow2, by simpa [Pal.Graph.mark, sl] using hR2, hev2⟩
          case round =>
            clear hR2 hev2 hrow2
            obtain ⟨k2, t, hkg, rfl, hrow3, hrow, hev⟩ := hrel
            obtain ⟨wo, rfl⟩ : ∃ wo : World, wo = wr := ⟨_, rfl⟩
            have hle : (gh w4).le (gh wo) := by
              have := hev.hz (by simp)
              rw [hz_T0] at this
              exact this.trans (hz_gh _ _)
            cases gk with
            | succ g1 => exact absurd hkg (by omega)
            | zero =>
              have hkl : k2 = S.length := by omega
              rw [hkl, List.take_length, HMK.out] at hrow
              clear hkl hle
              obtain rfl : k2 = 0 := by omega
              go_wp2
              go_loopg [12] N (fun g i wr => ∃ k t, k + g = N ∧ i = .int .i64 (k : Nat) ∧ Row t 3 wr 3 1 (sl w4.heap.size N) N (tabI N (posf A A.length)) ∧ Row t 2 wr 4 1 (sl wl.heap.size N) N ((d.map (!·)).map Value.bool) ∧ Evo T0 w4 t wr (· ≠ 0))
              case atStart => exact ⟨0, t, by omega, rfl, hrow3, hrow, hev⟩
              case round =>
                clear hrow3 hrow hev
                obtain ⟨i, t, hkg3, rfl, hrow3, hrow, hev⟩ := hrel
                obtain ⟨wo, rfl⟩ : ∃ wo : World, wo = wr := ⟨_, rfl⟩
                cases gk with
                | zero =>
                  have hb5 : Below w4.heap.size w4 wo := hev.toBelow (by simp)
                  have bel5 := bel4.seq hb5
                  clear hrow3 hrow hev hb5 bel4
                  have hiN : i = N := by omega
                  subst hiN
                  go_wp2_with fail
                  refine (awake_any _).mono ?_
                  rintro e w9 ⟨rfl, hb9⟩
                  go_wp2
                  go_ret
                  exact ⟨rfl, bel5.seq hb9⟩
                | succ g3 =>
                  have hiN : i < N := by omega
                  obtain ⟨xs, hxs⟩ : ∃ xs, xss[i]?.getD [] = xs := ⟨_, rfl⟩
                  obtain ⟨di, hdi⟩ : ∃ di, d[i]? = some di := ⟨_, List.getElem?_eq_getElem (by have := HDL.out; omega)⟩
                  have hgd : d.getD i false = di := by simp [hdi]
                  have hheld := HHELD.out i hiN xs hxs
                  rw [hgd] at hheld
                  have HH := Lib.hid hheld
                  have HXS := Lib.hid hxs
                  have HDI := Lib.hid hdi
                  clear hheld hxs hgd hdi
                  go_wp2
                  go_loopg [13, 14] xs.length (fun g hl k wr => ∃ j, j + g = xs.length ∧ k = .int .i64 (j : Nat) ∧ hl = .bool (heldK N xs d j) ∧ ∃ q, wr = wo.drewN q)
                  case atStart => exact ⟨0, by omega, rfl, rfl, 0, rfl⟩
                  case round =>
                    obtain ⟨j, hjg, rfl, rfl, q, rfl⟩ := hrel
                    obtain ⟨hk, hhk⟩ : ∃ hk, hk = heldK N xs d j := ⟨_, rfl⟩
                    rw [← hhk]
                    cases gk with
                    | zero =>
                      have hjl : j = xs.length := by omega
                      subst hjl
                      have hhk2 : hk = !di := by rw [hhk]; exact HH.out
                      have HHK := Lib.hid hhk
                      clear hhk
                      obtain ⟨g, cap, hg, _, _, hcl3, _⟩ := hrow.get (j := i) (x := .bool (!di)) (by simp [HDI.out])
                      simp only [sl, Value.slice.injEq, Option.some.injEq, Addr.mk.injEq, and_true, true_and] at hg
                      obtain ⟨rfl, rfl⟩ := hg
                      have R3 : Row t 3 (wo.drewN q) 3 1 (sl w4.heap.size N) N (tabI N (posf A A.length)) := hrow3.keep ((Evo.refl t wo (fun _ => False)).drewN q) id
                      have R2 : Row t 2 (wo.drewN q) 4 1 (sl wl.heap.size N) N ((d.map (!·)).map Value.bool) := hrow.keep ((Evo.refl t wo (fun _ => False)).drewN q) id
                      have EV := hev.drewN q
                      subst hhk2
                      by_cases hilt : i < xss.length
                      · obtain ⟨ys, hys⟩ : ∃ ys, xss[i]? = some ys := ⟨_, List.getElem?_eq_getElem hilt⟩
                        have hyx : ys = xs := by have := HXS.out; rw [hys] at this; exact this
                        subst hyx
                        obtain ⟨b1, o1, u, rfl, hcu, ra, rc, rfl, _, hrl, hrc⟩ := hcl i ys hys
                        have hle : (gh w4).le (gh wo) := by
                          have := hev.hz (by simp)
                          rw [hz_T0] at this
                          exact this.trans (hz_gh _ _)
                        have hcu := hle.at hcu
                        have HY := Lib.hid hys
                        clear hys hle hrc hrow3 hrow hev
                        cases di
                        all_goals
                          go_wp2
                          go_roundg g3
                          case measure => omega
                          case rel => exact ⟨i + 1, t, by omega, by go_num, R3, R2, EV⟩
                      · clear hrow3 hrow hev
                        cases di
                        all_goals
                          go_wp2
                          go_roundg g3
                          case measure => omega
                          case rel => exact ⟨i + 1, t, by omega, by go_num, R3, R2, EV⟩
                    | succ g4 =>
                      have hjl : j < xs.length := by omega
                      obtain ⟨x, hxj⟩ : ∃ x, xs[j]? = some x := ⟨_, List.getElem?_eq_getElem hjl⟩
                      have hilt : i < xss.length := by
                        apply Classical.byContradiction
                        intro hn
                        have := HXS.out
                        rw [List.getElem?_eq_none (Nat.le_of_not_lt hn)] at this
                        simp at this
                        rw [this] at hjl; simp at hjl
                      obtain ⟨ys, hys⟩ : ∃ ys, xss[i]? = some ys := ⟨_, List.getElem?_eq_getElem hilt⟩
                      have hyx : ys = xs := by have := HXS.out; rw [hys] at this; exact this
                      subst hyx
                      obtain ⟨b1, o1, u, rfl, hcu, ra, rc, rfl, _, hrl, hrc⟩ := hcl i ys hys
                      obtain ⟨b2, o2, rfl, hcx⟩ := hrc j x hxj
                      have hle : (gh w4).le (gh wo) := by
                        have := hev.hz (by simp)
                        rw [hz_T0] at this
                        exact this.trans (hz_gh _ _)
                      have hcu := hle.at hcu
                      have hcx := hle.at hcx
                      have HY := Lib.hid hys
                      clear hys hle hrc
                      by_cases hg : 0 ≤ x ∧ x < (N : Int)
                      · obtain ⟨hg0, hgN⟩ := hg
                        have hhit := heldK_hit (d := d) hxj ⟨hg0, hgN⟩
                        have hxl : x.toNat < N := by omega
                        obtain ⟨dx, hdx⟩ : ∃ dx, d[x.toNat]? = some dx := ⟨_, List.getElem?_eq_getElem (by have := HDL.out; omega)⟩
                        have hdd : isDone d x = dx := by simp [isDone, hdx]
                        rw [hdd, ← hhk] at hhit
                        obtain ⟨g, cap, hg, _, _, hcl3, _⟩ := hrow.get (j := x.toNat) (x := .bool (!dx)) (by simp [hdx])
                        simp only [sl, Value.slice.injEq, Option.some.injEq, Addr.mk.injEq, and_true, true_and] at hg
                        obtain ⟨rfl, rfl⟩ := hg
                        have hord := HOK.out (by first | rfl | trivial)
                        have hiA : (i : Int) ∈ A := by
                          have hfl := left_held N xss hiN
                          have := hord.2.2.all i hiN
                          apply this
                          have hS0 := hord.2.1
                          simp only
                          cases hdi : d.getD i false
                          · exfalso
                            have := HDI.out
                            have hm : got (Pal.Graph.mark (List.replicate N false) S) i = true := by
                              rw [HMK.out]; simp [got, this]
                              simpa [this] using hdi
                            rw [hS0] at hm
                            simp [Pal.Graph.mark, got, hiN] at hm
                          · rfl
                        have hxlst : x ∈ lst N xss i := by
                          simp only [lst, List.mem_filter, Bool.and_eq_true, decide_eq_true_eq]
                          exact ⟨by rw [HXS.out]; exact List.mem_of_getElem? hxj, hg0, hgN⟩
                        have hpb := posf_before hord.2.2 hiA hxlst
                        obtain ⟨px, hpx⟩ : ∃ px, px = posf A A.length x.toNat := ⟨_, rfl⟩
                        obtain ⟨pi, hpi⟩ : ∃ pi, pi = posf A A.length i := ⟨_, rfl⟩
                        obtain ⟨g, cap, hg, _, _, hcp1, _⟩ := hrow3.get (tabI_get hxl)
                        simp only [sl, Value.slice.injEq, Option.some.injEq, Addr.mk.injEq, and_true, true_and] at hg
                        obtain ⟨rfl, rfl⟩ := hg
                        obtain ⟨g, cap, hg, _, _, hcp2, _⟩ := hrow3.get (tabI_get hiN)
                        simp only [sl, Value.slice.injEq, Option.some.injEq, Addr.mk.injEq, and_true, true_and] at hg
                        obtain ⟨rfl, rfl⟩ := hg
                        rw [← hpx] at hcp1 hpb
                        rw [← hpi] at hcp2 hpb
                        have HPX := Lib.hid hpx; have HPI := Lib.hid hpi
                        clear hpx hpi hord
                        have HIT := Lib.hid hhit
                        have HX := Lib.hid hxj; have HDX := Lib.hid hdx; have HDD := Lib.hid hdd; have HHK := Lib.hid hhk
                        clear hhit hxj hdx hdd hhk
                        cases hk
                        all_goals cases dx
                        all_goals
                          go_wp2
                          go_quiet (fail)
                          go_wp2
                          go_roundg g4
                          case measure => omega
                          case rel => exact ⟨j + 1, by omega, by go_num, by rw [HIT.out]; rfl, by first | exact ⟨_, rfl⟩ | exact Q2 _ _ _⟩
                      · have hmiss := heldK_miss (d := d) hxj hg
                        rw [← hhk] at hmiss
                        have HMISS := Lib.hid hmiss
                        have HX := Lib.hid hxj; have HHK := Lib.hid hhk
                        clear hmiss hxj hhk
                        by_cases hg0 : 0 ≤ x
                        all_goals
                          have hg1 : x < 0 ∨ (N : Int) ≤ x := by omega
                          go_wp2
                          go_roundg g4
                          case measure => omega
                          case rel => exact ⟨j + 1, by omega, by go_num, by rw [HMISS.out], q, rfl⟩

theorem lawwalk (n : Int) (v : Value) (xss : List (List Int)) (w : World) (hn : -9223372036854775808 ≤ n ∧ n ≤ 9223372036854775807) (hx : RowsV (gh w) v xss) : Calls Try.prog 4 #[.int .i64 n, v] w (TrueBelow w) := walk n v xss w hn hx

set_option maxRecDepth 100000 in
theorem GraphAhead_lifted (os : Os) (started : os.Started) (H : Type) (enc : TypeId × Value → H) :
    ReturnsInHanded {} Try.checked os 4 .any (Rows.graphAheadSpec.pre6 enc Try.prog Try.f4 Rows.graphAheadRow.domain false) (Rows.graphAheadSpec.post enc Try.prog Try.f4 false true false false) := by
  refine returnsInHanded_of_change_sized (C := Try.checked) (by kernel_rfl) started (by kernel_rfl) Try.func4
    (ChangeSpec.witness6 (enc := enc) (C := Try.checked) false ⟨#[], #[.int .i64 0, .slice none 0 0], []⟩ 8 (by kernel_rfl) (by kernel_rfl) (by kernel_rfl) (by kernel_rfl)) ?_
  intro W base args ds gs before hval0 hW hcnd hreach _
  have hval : ∀ (j : Nat) t v, Try.f4.params[j]? = some t → args[j]? = some v → Value.okWide Try.prog W .any base t v := hval0
  have hW' := hW
  obtain ⟨p, q, hA0, hV, rfl, hfz, hnd⟩ := hW
  have hA : DataW.TrodAll enc Try.prog W 0 (fun _ => true) true Try.f4.params.toList args.toList ds p := hA0
  rw [Try.params4] at hA hval
  obtain ⟨v0, vs0, d0, ds0, p0, q0, hargs, rfl, rfl, h0, r0⟩ := trodAll_cons hA
  obtain ⟨v1, vs1, d1, ds1, p1, q1, rfl, rfl, rfl, h1, r1⟩ := trodAll_cons r0
  obtain ⟨rfl, rfl, rfl⟩ := trodAll_nil r1
  obtain rfl : args = #[v0, v1] := by cases args; simp_all
  obtain ⟨rfl, rfl⟩ := trodVars_none hV
  obtain ⟨a0, rfl, rfl, rfl, w0⟩ := open_int Try.underlying3 (hval 0 3 v0 rfl rfl) h0
  obtain ⟨a1, len1, cap1, rfl⟩ := okWide_slice Try.underlying22 (hval 1 22 v1 rfl rfl)
  have k1 := h1
  have lt1 : ∀ x ∈ p1, x.block < W.heap.size := by obtain ⟨m, hm⟩ := k1; exact DataW.trod_lt m _ _ _ hm
  have wg1 : ∀ n ∈ d1.weights Try.prog 22, n ≤ reachBytes := fun n hn => by simpa using List.all_eq_true.1 hreach n (DataW.weights_mem_each (j := 1) (t := 22) (d := d1) (by rw [show Try.checked.prog = Try.prog from rfl, Try.params4]; rfl) rfl n hn)
  obtain ⟨x1, o1⟩ : ∃ xss, RowsV (gh W) (.slice a1 len1 cap1) xss := by obtain ⟨fuel, hf⟩ := h1; exact rowsV_open Try.underlying22 Try.underlying26 Try.underlying3 (by kernel_rfl) (by kernel_rfl) (by kernel_rfl) (by kernel_rfl) hf wg1
  clear hA0 hval0
  refine (lawwalk a0 _ x1 W (wf_i64 w0) o1).mono fun e W' ⟨he, bel⟩ => ?_
  subst he
  exact ⟨_, rfl, _, _, _, [], _, [], hW', trodAll_mk1 (shut_bool Try.underlying4 _), (trodAll_cons_mk (shut_int Try.underlying3 w0) (trodAll_cons_mk (Below.trod (by kernel_rfl) (by kernel_rfl) (of_decide_eq_true (by kernel_rfl)) k1 bel lt1) trodAll_mk0)), rfl, bel.frame _, fun h => by cases h⟩

theorem GraphAhead_over : Rows.graphAheadRow.holds Try.pinned (OpenSpec.ofChange Rows.graphAheadSpec) :=
  OpenClaim.holds_of_wide 4 Try.f4 rfl rfl rfl rfl rfl rfl rfl ⟨rfl, rfl, rfl, rfl, rfl⟩ rfl rfl rfl rfl rfl (by kernel_rfl) Try.func4 (by kernel_rfl)
    (of_decide_eq_true (by kernel_rfl)) (by unfold Func.isWrapper; first | (rw [if_pos (by decide +kernel)]; kernel_rfl) | (rw [if_neg (by decide +kernel)]; exact ⟨rfl, rfl⟩))
    (fun os started H enc _ => GraphAhead_lifted os started H enc)

theorem GraphAhead_holds : Rows.GraphAheadSaid := GraphAhead_over
#print axioms GraphAhead_holds

end Go.Proofs.Ytoaomedlgmnopaa.GraphAhead
