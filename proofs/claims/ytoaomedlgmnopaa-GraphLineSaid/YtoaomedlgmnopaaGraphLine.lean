/- A line of needs, written down in any order, is told from its end; turned into a ring it is stuck: the law GraphLine returns true and leaves its arguments as they were. No condition. -/
import Derived.Test.YtoaomedlgmnopaaGraphReaches
import Derived.Test.YtoaomedlgmnopaaW12
import Derived.Test.YtoaomedlgmnopaaM7
namespace Go.Proofs.Ytoaomedlgmnopaa.GraphLine
open Go.RowKit Pal Pal.Graph Go.ChangeShapes Go.WideShapes Go.ChangeAt Go.Proofs.Ytoaomedlgmnopaa.GraphReaches

/-- The needs as they are being written down: a row of the call's own whose slices nobody writes. -/
structure Nd (w : World) (gB K : Nat) (t : Tag) (wr : World) (us : List Value) (X : List (List Int)) : Prop where
  row : Row t 4 wr 26 1 (sl gB K) K us
  len : X.length = K
  iv : ∀ (j : Nat) (u : Value) (xs : List Int), us[j]? = some u → X[j]? = some xs → IntsV (vw (fun k => k != 4) t wr) u xs
  ev : Evo T0 w t wr (· ≠ 0)
theorem Nd.ulen {w : World} {gB K : Nat} {t : Tag} {wr : World} {us : List Value} {X : List (List Int)} (h : Nd w gB K t wr us X) : us.length = K := by have := h.row.len; omega
/-- One more need. -/
theorem Nd.put {w : World} {gB K : Nat} {t : Tag} {wr : World} {us : List Value} {X : List (List Int)} (h : Nd w gB K t wr us X) (p : Nat) (x : Int) (hp : p < K) :
    Nd w gB K (t.set wr.heap.size 9) ((wr.setCell ⟨gB, p, none⟩ (.slice (some ⟨wr.heap.size, 0, none⟩) 1 1)).alloc (.cells #[.int .i64 x] 3)).drew (us.set p (.slice (some ⟨wr.heap.size, 0, none⟩) 1 1)) (X.set p [x]) := by
  have e1 : Evo t wr t (wr.setCell ⟨gB, p, none⟩ (.slice (some ⟨wr.heap.size, 0, none⟩) 1 1)) (· = 4) := (Evo.refl _ _ _).setCell _ _ (h.row.tag _ rfl)
  have r1 := h.row.set p (.slice (some ⟨wr.heap.size, 0, none⟩) 1 1)
  have s1 : (wr.setCell ⟨gB, p, none⟩ (.slice (some ⟨wr.heap.size, 0, none⟩) 1 1)).heap.size = wr.heap.size := by simp
  have k1 : ∀ (j : Nat) (u : Value) (xs : List Int), us[j]? = some u → X[j]? = some xs → IntsV (vw (fun k => k != 4) t (wr.setCell ⟨gB, p, none⟩ (.slice (some ⟨wr.heap.size, 0, none⟩) 1 1))) u xs :=
    fun j u xs hu hx => (h.iv j u xs hu hx).mono (e1.vw (by intro k hk; simp at hk; exact hk))
  generalize wr.setCell ⟨gB, p, none⟩ (.slice (some ⟨wr.heap.size, 0, none⟩) 1 1) = w1 at *
  have e2 : Evo t w1 (t.set w1.heap.size 9) (w1.alloc (.cells #[.int .i64 x] 3)).drew (fun _ => False) := ((Evo.refl _ _ _).alloc 9 _).drew
  have i1 : IntsV (vw (fun k => k != 4) (t.set w1.heap.size 9) (w1.alloc (.cells #[.int .i64 x] 3)).drew) (.slice (some ⟨w1.heap.size, 0, none⟩) 1 1) [x] := by
    refine ⟨_, _, rfl, fun h => (by cases h), by simp, fun j y hy => ⟨w1.heap.size, 0, rfl, ?_⟩⟩
    match j, hy with
    | 0, hy =>
      simp at hy; subst hy
      have := heap_new (w := w1) (o := .cells #[.int .i64 x] 3) rfl
      simp only [GH.cell, vw, Tag.set_same]
      show (match (if (9 != 4) = true then (w1.alloc (.cells #[.int .i64 x] 3)).heap[w1.heap.size]? else none) with | some (.cells c _ _) => c[0 + 0]? | _ => none) = _
      rw [this]; rfl
  rw [s1] at e2 i1
  refine ⟨r1.keep e2 id, by simpa using h.len, fun j u xs hu hx => ?_, (h.ev.trans (e1.mono (K' := (· ≠ 0)) (fun x hx => by omega))).trans (e2.mono fun _ h => h.elim)⟩
  have hul := h.ulen
  have hxl := h.len
  by_cases e : j = p
  · subst e
    rw [List.getElem?_set_self (by omega)] at hu
    rw [List.getElem?_set_self (by omega)] at hx
    cases hu; cases hx
    exact i1
  · rw [List.getElem?_set_ne (by omega)] at hu hx
    exact (k1 j u xs hu hx).mono (e2.vw (fun _ _ => id))
theorem Nd.undrew {w : World} {gB K : Nat} {t : Tag} {wr : World} {us : List Value} {X : List (List Int)} (h : Nd w gB K t wr.drew us X) : Nd w gB K t wr us X :=
  ⟨⟨h.row.own, h.row.tag⟩, h.len, h.iv, ⟨h.ev.os, h.ev.tape, h.ev.output, h.ev.size, h.ev.tag, h.ev.block⟩⟩
theorem Nd.rows {w : World} {gB K : Nat} {t : Tag} {wr : World} {us : List Value} {X : List (List Int)} (h : Nd w gB K t wr us X) (hK : K ≤ 1000) : RowsV (gh wr) (sl gB K) X :=
  RowsV.ofRowAny h.row (by rw [h.ulen, h.len]) (by rw [h.len]; omega) (fun j u xs h1 h2 => (h.iv j u xs h1 h2).mono (vw_gh _ _ _))
theorem Nd.keep {w : World} {gB K : Nat} {t : Tag} {wr w' : World} {us : List Value} {X : List (List Int)} (h : Nd w gB K t wr us X) (hb : Below wr.heap.size wr w') : Nd w gB K (t.ext wr.heap.size 9) w' us X := by
  have e : Evo t wr (t.ext wr.heap.size 9) w' (fun _ => False) := Evo.below hb (Tag.ext_lt _ _ _)
  exact ⟨h.row.keep e id, h.len, fun j u xs h1 h2 => (h.iv j u xs h1 h2).mono (e.vw (fun _ _ => id)), h.ev.trans (e.mono fun _ h => h.elim)⟩
theorem nd_start (w : World) (q K : Nat) (hK : K ≤ 1000) : Nd w w.heap.size K (T0.set w.heap.size 4) ((w.drewN q).alloc (.cells (madeCells #[.slice none 0 0] K) 26)) (List.replicate K (.slice none 0 0)) (List.replicate K []) := by
  have r := Row.made T0 4 (w.drewN q) 26 (.slice none 0 0) K (by unfold maxLen; omega)
  refine ⟨r, by simp, fun j u xs hu hx => ?_, ((Evo.refl T0 w (· ≠ 0)).drewN q).alloc 4 _⟩
  rw [List.getElem?_replicate] at hu hx
  split at hu
  · rename_i hj
    rw [if_pos hj] at hx
    cases hu; cases hx
    exact ints_nil _
  · cases hu

set_option maxHeartbeats 4000000 in
set_option maxRecDepth 100000 in
theorem walk (n turn : Int) (w : World) (hn : -9223372036854775808 ≤ n ∧ n ≤ 9223372036854775807) (ht : -9223372036854775808 ≤ turn ∧ turn ≤ 9223372036854775807) : Calls Try.prog 7 #[.int .i64 n, .int .i64 turn] w (TrueBelow w) := by
  obtain ⟨i26, hi26, hx0, hx1, hx2⟩ := info_parts26
  obtain ⟨N, hN⟩ : ∃ N : Nat, n % 30 = (N : Int) := ⟨(n % 30).toNat, by have := Int.emod_nonneg n (show (30 : Int) ≠ 0 by omega); omega⟩
  have hN30 : N < 30 := by have := Int.emod_lt_of_pos n (show (0 : Int) < 30 by omega); omega
  obtain ⟨M, hM⟩ : ∃ M : Nat, turn % ((N : Int) + 1) = (M : Int) := ⟨(turn % ((N : Int) + 1)).toNat, by have := Int.emod_nonneg turn (show ((N : Int) + 1) ≠ 0 by omega); omega⟩
  have hMN : M ≤ N := by have := Int.emod_lt_of_pos turn (show (0 : Int) < (N : Int) + 1 by omega); omega
  have HN := Lib.hid hN; have HM := Lib.hid hM
  clear hN hM
  go_enter Try.func7, Try.ntmps7
  go_wp2_with fail
  refine (place_any n 30 _ hn (by omega)).mono ?_
  rintro e w0 ⟨rfl, rfl⟩
  rw [HN.out]
  go_wp2_with fail
  refine (place_any turn (2 + (N : Int) - 1) _ ht (by omega)).mono ?_
  rintro e w0 ⟨rfl, rfl⟩
  rw [show (2 + (N : Int) - 1) = (N : Int) + 1 by omega, HM.out]
  obtain ⟨K, hK⟩ : ∃ K : Nat, (K : Int) = 2 + (N : Int) := ⟨N + 2, by omega⟩
  rw [← hK]
  have hK2 : 2 ≤ K ∧ K < 32 ∧ M + 1 < K := by omega
  obtain ⟨hK2, hK32, hMK⟩ := hK2
  clear HN HM hK hMN hN30 hn ht
  have hmk := run_made (P := Try.prog) Try.underlying22 hi26 hx0 hx1 hx2 rfl K (by omega) (by omega)
  go_wp2
  go_loopg [6] (M + 1) (fun g u wr => ∃ b : Nat, g = b ∧ u = .int .i64 (b : Int) ∧ 1 ≤ b ∧ b < K ∧ ∃ q, wr = w0.drewN q)
  case atStart => exact ⟨M + 1, rfl, by go_num, by omega, hMK, 0, rfl⟩
  case round =>
    obtain ⟨b, rfl, rfl, hb1, hbK, q, rfl⟩ := hrel
    obtain ⟨B, rfl⟩ : ∃ B, B = gk := ⟨_, rfl⟩
    obtain ⟨gv, hgv⟩ : ∃ gv : Nat, gv = Nat.gcd B K := ⟨_, rfl⟩
    by_cases hgo : 1 < B ∧ gv ≠ 1
    · obtain ⟨hgo1, hgo2⟩ := hgo
      have HG := Lib.hid hgv
      have hne : ((gv : Int) != 1) = true := by rw [bne_iff_ne]; omega
      clear hgo2
      go_wp2_with fail
      refine (gcd_any B K _ (by omega) (by omega)).mono ?_
      rintro e w2 ⟨rfl, q2, rfl⟩
      rw [← HG.out]
      go_wp2
      go_roundg (B - 1)
      case measure => omega
      case rel => exact ⟨B - 1, rfl, by congr 1; omega, by omega, by omega, by first | exact ⟨_, rfl⟩ | exact Q2 _ _ _⟩
    · have hc : Nat.gcd B K = 1 := by
        by_cases h1 : 1 < B
        · rw [← hgv]; apply Classical.byContradiction; intro h; exact hgo ⟨h1, h⟩
        · have : B = 1 := by omega
          rw [this]; simp
      have HC := Lib.hid hc
      by_cases h1 : 1 < B
      · go_wp2_with fail
        refine (gcd_any B K _ (by omega) (by omega)).mono ?_
        rintro e w2 ⟨rfl, q2, rfl⟩
        rw [HC.out]

        have S0 := nd_start w0 (q + q2) K (by omega)
        go_wp2
        clear hmk
        go_loopg [8] (K - 1) (fun g u wr => ∃ i t us, i + g = K - 1 ∧ u = .int .i64 (i : Nat) ∧ Nd w0 w0.heap.size K t wr us (lineX K B i))
        case atStart => exact ⟨0, _, _, by omega, rfl, S0⟩
        case round =>
          clear S0
          obtain ⟨i, t, us, hig, rfl, P⟩ := hrel
          obtain ⟨wo, rfl⟩ : ∃ wo : World, wo = wr := ⟨_, rfl⟩
          match gk, hig with
          | 0, hig =>
            have hiK : i = K - 1 := by omega
            have hL : Line K B (lineX K B (K - 1)) := ⟨hK2, hK32, hbK, HC.out, fun j hj => lineX_get (by omega) HC.out (K - 1) (by omega) j hj⟩
            have hF : ∀ X : List (List Int), (∀ (j : Nat) (xs : List Int), X[j]? = some xs → xs.length ≤ 80) → 0 ≤ (K : Int) → (K : Int) ≤ 4096 → (K : Int) ≤ 100 ∧ ∀ (j : Nat) (xs : List Int), X[j]? = some xs → xs.length ≤ 80 := fun X h _ _ => ⟨by omega, h⟩
            have hshort : ∀ (X : List (List Int)) (g : Nat → List Int), (∀ j, j < K → X[pos K B j]? = some (g j)) → X.length = K → (∀ j, (g j).length ≤ 80) → ∀ (j : Nat) (xs : List Int), X[j]? = some xs → xs.length ≤ 80 := by
              intro X g h1 h2 h3 j xs hj
              have hjK : j < K := by have := (List.getElem?_eq_some_iff.1 hj).1; omega
              obtain ⟨m, hm, rfl⟩ := surj2 hK32 hbK HC.out hjK
              rw [h1 m hm] at hj
              cases hj; exact h3 m
            have hs1 := hshort (lineX K B (K - 1)) _ hL.get (lineX_len _ _ _) (fun j => by split <;> simp)
            subst hiK
            have hRows := P.rows (by omega)
            have HL := Lib.hid hL; have HSH := Lib.hid hshort; have HF := Lib.hid hF; have HS1 := Lib.hid hs1
            clear hL hshort hF hs1 hig
            go_wp2_with fail
            refine (porder_any _ K _ _ _ (GH.le.refl _) hRows (HF.out _ HS1.out)).mono ?_
            rintro e w1 ⟨vl, rfl, hvl, hb1'⟩
            rw [line_order HL.out] at hvl ⊢
            have P1 := P.keep hb1'
            have hlo : (lineOut K B K).length = K := by simp [lineOut]
            obtain ⟨LO, hLO⟩ : ∃ LO, LO = lineOut K B K := ⟨_, rfl⟩
            rw [← hLO] at hvl hlo ⊢
            have HLO := Lib.hid hLO
            clear hLO hRows P hb1'
            obtain ⟨av, cv, rfl, _, _, hcv⟩ := hvl
            go_wp2
            go_loopg [11] K (fun g u wr => ∃ m, m + g = K ∧ u = .int .i64 (m : Nat) ∧ ∃ q, wr = w1.drewN q)
            case atStart => exact ⟨0, by omega, rfl, 0, rfl⟩
            case round =>
              obtain ⟨m, hmg, rfl, q3, rfl⟩ := hrel
              match gk, hmg with
              | g3 + 1, hmg =>
                have hmK : m < K := by omega
                obtain ⟨p0, hp0⟩ : ∃ p0, p0 = pos K B (K - 1 - m) := ⟨_, rfl⟩
                have hlm : LO[m]? = some (p0 : Int) := by rw [HLO.out, hp0]; simp [lineOut, hmK]
                obtain ⟨b1, o1, rfl, hcell⟩ := hcv m _ hlm
                rw [gh_cell] at hcell
                have hmul0 : (K - 1 - m) * B ≤ 32 * 32 := Nat.mul_le_mul (by omega) (by omega)
                have hcast : ((K : Int) - 1 - (m : Int)) * (B : Int) = (((K - 1 - m) * B : Nat) : Int) := by
                  rw [Int.natCast_mul]; congr 1; omega
                have hm0 : 0 ≤ ((K : Int) - 1 - (m : Int)) * (B : Int) ∧ ((K : Int) - 1 - (m : Int)) * (B : Int) ≤ 1024 := by rw [hcast]; omega
                have hr0 : (((K : Int) - 1 - (m : Int)) * (B : Int)) % (K : Int) = (p0 : Int) := by rw [hcast, hp0]; unfold pos; exact (Int.natCast_emod _ _).symm
                obtain ⟨hm00, hm01⟩ := hm0
                have hKne : ((K : Int) == 0) = false := beq_eq_false_iff_ne.2 (by omega)
                have hpe : ((p0 : Int) != (p0 : Int)) = false := by simp
                have HP0 := Lib.hid hp0; have HLM := Lib.hid hlm
                clear hp0 hlm hcast hmul0
                go_wp2
                go_quiet (fail)
                go_wp2
                go_roundg g3
                case measure => omega
                case rel => exact ⟨m + 1, by omega, by go_num, by first | exact ⟨_, rfl⟩ | exact Q2 _ _ _⟩
              | 0, hmg =>
                have hmK : m = K := by omega
                obtain ⟨p0, hp0⟩ : ∃ p0, p0 = pos K B (K - 1) := ⟨_, rfl⟩
                have hp0K : p0 < K := by rw [hp0]; exact pos_lt (by omega) _
                have hmul0 : (K - 1) * B ≤ 32 * 32 := Nat.mul_le_mul (by omega) (by omega)
                have hcast : ((K : Int) - 1) * (B : Int) = (((K - 1) * B : Nat) : Int) := by
                  rw [Int.natCast_mul]; congr 1; omega
                have hm0 : 0 ≤ ((K : Int) - 1) * (B : Int) ∧ ((K : Int) - 1) * (B : Int) ≤ 1024 := by rw [hcast]; omega
                have hr0 : (((K : Int) - 1) * (B : Int)) % (K : Int) = (p0 : Int) := by rw [hcast, hp0]; unfold pos; exact (Int.natCast_emod _ _).symm
                obtain ⟨hm00, hm01⟩ := hm0
                have hKne : ((K : Int) == 0) = false := beq_eq_false_iff_ne.2 (by omega)
                have HP0 := Lib.hid hp0
                clear hp0 hcast hmul0 hcv
                have P2 := P1.keep (wr := w1) (w' := w1.drewN q3) (below_drewN (Below.refl _ _) q3)
                generalize w1.drewN q3 = w2 at *
                go_wp2_with fail
                have P3 := P2.keep (below_alloc w2 (.cells #[.int .i64 (p0 : Int)] 3))
                have hiv3 : IntsV (gh (w2.alloc (.cells #[.int .i64 (p0 : Int)] 3))) (.slice (some ⟨w2.heap.size, 0, none⟩) 1 1) [(p0 : Int)] := IntsV.ofBlock (e := 3) (fr := (0, 0)) (heap_new rfl) (by simp) _ rfl
                refine (preach_any _ K _ _ _ _ _ (HF.out _ HS1.out) (GH.le.refl _) (P3.rows (by omega)) hiv3).mono ?_
                rintro e w4 ⟨v4, ins4, rfl, hi4, hv4, hb4⟩
                have hi4 := hi4 (by omega) (by omega)
                rw [if_pos (by omega), Int.toNat_natCast] at hv4
                have hl4 : (picked ins4 K).length = K := line_reach_end HL.out (by rw [← HP0.out]; exact hi4)
                obtain ⟨a4, c4, rfl, _, _, _⟩ := hv4
                rw [hl4]
                have P4 := P3.keep hb4
                clear P1 P2 P3 hiv3 hi4 hl4 hb4
                go_wp2_with fail
                have P5 := P4.keep (below_alloc w4 (.cells #[.int .i64 0] 3))
                have hiv5 : IntsV (gh (w4.alloc (.cells #[.int .i64 0] 3))) (.slice (some ⟨w4.heap.size, 0, none⟩) 1 1) [0] := IntsV.ofBlock (e := 3) (fr := (0, 0)) (heap_new rfl) (by simp) _ rfl
                refine (preach_any _ K _ _ _ _ _ (HF.out _ HS1.out) (GH.le.refl _) (P5.rows (by omega)) hiv5).mono ?_
                rintro e w6 ⟨v6, ins6, rfl, hi6, hv6, hb6⟩
                have hi6 := hi6 (by omega) (by omega)
                rw [if_pos (by omega), Int.toNat_natCast] at hv6
                have hl6 : (picked ins6 K).length = 1 := line_reach_start HL.out hi6
                obtain ⟨a6, c6, rfl, _, _, _⟩ := hv6
                rw [hl6]
                have P6 := P5.keep hb6
                clear P4 P5 hiv5 hi6 hl6 hb6
                obtain ⟨u, hu⟩ : ∃ u, us[p0]? = some u := ⟨_, List.getElem?_eq_getElem (by have := P6.ulen; omega)⟩
                obtain ⟨g, cap, hg, _, _, hcw, hfw⟩ := P6.row.get hu
                simp only [sl, Value.slice.injEq, Option.some.injEq, Addr.mk.injEq, and_true, true_and] at hg
                obtain ⟨rfl, rfl⟩ := hg
                have P7 := (P6.put p0 0 hp0K).undrew
                have hRing : Ring K B ((lineX K B (K - 1)).set p0 [0]) := by
                  refine ⟨hK2, hK32, hbK, HC.out, fun j hj => ?_⟩
                  by_cases e : j = K - 1
                  · subst e
                    rw [← HP0.out, List.getElem?_set_self (by rw [lineX_len]; exact hp0K)]
                    have : (K - 1 + 1) % K = 0 := by rw [show K - 1 + 1 = K by omega]; exact Nat.mod_self K
                    rw [this]; simp [pos]
                  · have hne : p0 ≠ pos K B j := by rw [HP0.out]; exact fun h => e (pos_inj HC.out hj (by omega) h.symm)
                    rw [List.getElem?_set_ne hne, HL.out.get j hj, if_pos (by omega)]
                    have : (j + 1) % K = j + 1 := Nat.mod_eq_of_lt (by omega)
                    rw [this]
                have hs7 := HSH.out _ _ hRing.get (by rw [List.length_set, lineX_len]) (fun j => by simp)
                have HRG := Lib.hid hRing; have HS7 := Lib.hid hs7
                have HU := Lib.hid hu
                clear hu hRing hs7 P6
                go_wp2_with fail
                clear hcw hfw
                refine (porder_any _ K _ _ _ (GH.le.refl _) (P7.rows (by omega)) (HF.out _ HS7.out)).mono ?_
                rintro e w8 ⟨v8, rfl, hv8, hb8⟩
                rw [ring_order HRG.out] at hv8 ⊢
                have P8 := P7.keep hb8
                clear hv8 P7 hb8
                go_wp2_with fail
                refine (pstuck_any _ K _ _ _ (GH.le.refl _) (P8.rows (by omega)) (HF.out _ HS7.out)).mono ?_
                rintro e w9 ⟨v9, rfl, hv9, hb9⟩
                have hl9 := ring_stuck HRG.out
                obtain ⟨a9, c9, rfl, _, _, _⟩ := hv9
                rw [hl9]
                have P9 := P8.keep hb9
                have bel : Below w0.heap.size w0 w9 := P9.ev.toBelow (by simp)
                clear P8 hb9 hl9 P9
                go_wp2_with fail
                refine (awake_any _).mono ?_
                rintro e w10 ⟨rfl, hb10⟩
                go_wp2
                go_ret
                exact ⟨rfl, bel.seq hb10⟩
          | g1 + 1, hig =>
            have hlt : i + 1 < K := by omega
            obtain ⟨p0, hp0⟩ : ∃ p0, p0 = pos K B i := ⟨_, rfl⟩
            obtain ⟨p1, hp1⟩ : ∃ p1, p1 = pos K B (i + 1) := ⟨_, rfl⟩
            have hp0K : p0 < K := by rw [hp0]; exact pos_lt (by omega) _
            have hp1K : p1 < K := by rw [hp1]; exact pos_lt (by omega) _
            have hmul0 : i * B ≤ 32 * 32 := Nat.mul_le_mul (by omega) (by omega)
            have hmul1 : (i + 1) * B ≤ 32 * 32 := Nat.mul_le_mul (by omega) (by omega)
            have hm0 : 0 ≤ (i : Int) * (B : Int) ∧ (i : Int) * (B : Int) ≤ 1024 := by
              rw [← Int.natCast_mul]; omega
            have hm1 : 0 ≤ ((i : Int) + 1) * (B : Int) ∧ ((i : Int) + 1) * (B : Int) ≤ 1024 := by
              have : ((i : Int) + 1) * (B : Int) = (((i + 1) * B : Nat) : Int) := by simp
              rw [this]; omega
            have hr0 : ((i : Int) * (B : Int)) % (K : Int) = (p0 : Int) := by rw [hp0]; unfold pos; simp
            have hr1 : (((i : Int) + 1) * (B : Int)) % (K : Int) = (p1 : Int) := by rw [hp1]; unfold pos; simp
            obtain ⟨hm00, hm01⟩ := hm0
            obtain ⟨hm10, hm11⟩ := hm1
            have hKne : ((K : Int) == 0) = false := beq_eq_false_iff_ne.2 (by omega)
            have hus := P.ulen
            obtain ⟨u, hu⟩ : ∃ u, us[p0]? = some u := ⟨_, List.getElem?_eq_getElem (by omega)⟩
            obtain ⟨g, cap, hg, _, _, hcw, hfw⟩ := P.row.get hu
            simp only [sl, Value.slice.injEq, Option.some.injEq, Addr.mk.injEq, and_true, true_and] at hg
            obtain ⟨rfl, rfl⟩ := hg
            have HU := Lib.hid hu
            have HP0 := Lib.hid hp0; have HP1 := Lib.hid hp1
            clear hu hp0 hp1 hmul0 hmul1 hus
            go_wp2
            go_region
            have PN := P.put p0 (p1 : Int) hp0K
            clear P hcw hfw
            go_wp2
            go_roundg g1
            case measure => omega
            case rel => exact ⟨i + 1, _, _, by omega, by go_num, by simp only [lineX]; rw [← HP0.out, ← HP1.out]; exact PN⟩
      · have hB1 : B = 1 := by omega
        have hb1' : ¬ (1 : Int) < (B : Int) := by omega
        clear hB1
        have S0 := nd_start w0 q K (by omega)
        go_wp2
        clear hmk
        go_loopg [8] (K - 1) (fun g u wr => ∃ i t us, i + g = K - 1 ∧ u = .int .i64 (i : Nat) ∧ Nd w0 w0.heap.size K t wr us (lineX K B i))
        case atStart => exact ⟨0, _, _, by omega, rfl, S0⟩
        case round =>
          clear S0
          obtain ⟨i, t, us, hig, rfl, P⟩ := hrel
          obtain ⟨wo, rfl⟩ : ∃ wo : World, wo = wr := ⟨_, rfl⟩
          match gk, hig with
          | 0, hig =>
            have hiK : i = K - 1 := by omega
            have hL : Line K B (lineX K B (K - 1)) := ⟨hK2, hK32, hbK, HC.out, fun j hj => lineX_get (by omega) HC.out (K - 1) (by omega) j hj⟩
            have hF : ∀ X : List (List Int), (∀ (j : Nat) (xs : List Int), X[j]? = some xs → xs.length ≤ 80) → 0 ≤ (K : Int) → (K : Int) ≤ 4096 → (K : Int) ≤ 100 ∧ ∀ (j : Nat) (xs : List Int), X[j]? = some xs → xs.length ≤ 80 := fun X h _ _ => ⟨by omega, h⟩
            have hshort : ∀ (X : List (List Int)) (g : Nat → List Int), (∀ j, j < K → X[pos K B j]? = some (g j)) → X.length = K → (∀ j, (g j).length ≤ 80) → ∀ (j : Nat) (xs : List Int), X[j]? = some xs → xs.length ≤ 80 := by
              intro X g h1 h2 h3 j xs hj
              have hjK : j < K := by have := (List.getElem?_eq_some_iff.1 hj).1; omega
              obtain ⟨m, hm, rfl⟩ := surj2 hK32 hbK HC.out hjK
              rw [h1 m hm] at hj
              cases hj; exact h3 m
            have hs1 := hshort (lineX K B (K - 1)) _ hL.get (lineX_len _ _ _) (fun j => by split <;> simp)
            subst hiK
            have hRows := P.rows (by omega)
            have HL := Lib.hid hL; have HSH := Lib.hid hshort; have HF := Lib.hid hF; have HS1 := Lib.hid hs1
            clear hL hshort hF hs1 hig
            go_wp2_with fail
            refine (porder_any _ K _ _ _ (GH.le.refl _) hRows (HF.out _ HS1.out)).mono ?_
            rintro e w1 ⟨vl, rfl, hvl, hb1'⟩
            rw [line_order HL.out] at hvl ⊢
            have P1 := P.keep hb1'
            have hlo : (lineOut K B K).length = K := by simp [lineOut]
            obtain ⟨LO, hLO⟩ : ∃ LO, LO = lineOut K B K := ⟨_, rfl⟩
            rw [← hLO] at hvl hlo ⊢
            have HLO := Lib.hid hLO
            clear hLO hRows P hb1'
            obtain ⟨av, cv, rfl, _, _, hcv⟩ := hvl
            go_wp2
            go_loopg [11] K (fun g u wr => ∃ m, m + g = K ∧ u = .int .i64 (m : Nat) ∧ ∃ q, wr = w1.drewN q)
            case atStart => exact ⟨0, by omega, rfl, 0, rfl⟩
            case round =>
              obtain ⟨m, hmg, rfl, q3, rfl⟩ := hrel
              match gk, hmg with
              | g3 + 1, hmg =>
                have hmK : m < K := by omega
                obtain ⟨p0, hp0⟩ : ∃ p0, p0 = pos K B (K - 1 - m) := ⟨_, rfl⟩
                have hlm : LO[m]? = some (p0 : Int) := by rw [HLO.out, hp0]; simp [lineOut, hmK]
                obtain ⟨b1, o1, rfl, hcell⟩ := hcv m _ hlm
                rw [gh_cell] at hcell
                have hmul0 : (K - 1 - m) * B ≤ 32 * 32 := Nat.mul_le_mul (by omega) (by omega)
                have hcast : ((K : Int) - 1 - (m : Int)) * (B : Int) = (((K - 1 - m) * B : Nat) : Int) := by
                  rw [Int.natCast_mul]; congr 1; omega
                have hm0 : 0 ≤ ((K : Int) - 1 - (m : Int)) * (B : Int) ∧ ((K : Int) - 1 - (m : Int)) * (B : Int) ≤ 1024 := by rw [hcast]; omega
                have hr0 : (((K : Int) - 1 - (m : Int)) * (B : Int)) % (K : Int) = (p0 : Int) := by rw [hcast, hp0]; unfold pos; exact (Int.natCast_emod _ _).symm
                obtain ⟨hm00, hm01⟩ := hm0
                have hKne : ((K : Int) == 0) = false := beq_eq_false_iff_ne.2 (by omega)
                have hpe : ((p0 : Int) != (p0 : Int)) = false := by simp
                have HP0 := Lib.hid hp0; have HLM := Lib.hid hlm
                clear hp0 hlm hcast hmul0
                go_wp2
                go_quiet (fail)
                go_wp2
                go_roundg g3
                case measure => omega
                case rel => exact ⟨m + 1, by omega, by go_num, by first | exact ⟨_, rfl⟩ | exact Q2 _ _ _⟩
              | 0, hmg =>
                have hmK : m = K := by omega
                obtain ⟨p0, hp0⟩ : ∃ p0, p0 = pos K B (K - 1) := ⟨_, rfl⟩
                have hp0K : p0 < K := by rw [hp0]; exact pos_lt (by omega) _
                have hmul0 : (K - 1) * B ≤ 32 * 32 := Nat.mul_le_mul (by omega) (by omega)
                have hcast : ((K : Int) - 1) * (B : Int) = (((K - 1) * B : Nat) : Int) := by
                  rw [Int.natCast_mul]; congr 1; omega
                have hm0 : 0 ≤ ((K : Int) - 1) * (B : Int) ∧ ((K : Int) - 1) * (B : Int) ≤ 1024 := by rw [hcast]; omega
                have hr0 : (((K : Int) - 1) * (B : Int)) % (K : Int) = (p0 : Int) := by rw [hcast, hp0]; unfold pos; exact (Int.natCast_emod _ _).symm
                obtain ⟨hm00, hm01⟩ := hm0
                have hKne : ((K : Int) == 0) = false := beq_eq_false_iff_ne.2 (by omega)
                have HP0 := Lib.hid hp0
                clear hp0 hcast hmul0 hcv
                have P2 := P1.keep (wr := w1) (w' := w1.drewN q3) (below_drewN (Below.refl _ _) q3)
                generalize w1.drewN q3 = w2 at *
                go_wp2_with fail
                have P3 := P2.keep (below_alloc w2 (.cells #[.int .i64 (p0 : Int)] 3))
                have hiv3 : IntsV (gh (w2.alloc (.cells #[.int .i64 (p0 : Int)] 3))) (.slice (some ⟨w2.heap.size, 0, none⟩) 1 1) [(p0 : Int)] := IntsV.ofBlock (e := 3) (fr := (0, 0)) (heap_new rfl) (by simp) _ rfl
                refine (preach_any _ K _ _ _ _ _ (HF.out _ HS1.out) (GH.le.refl _) (P3.rows (by omega)) hiv3).mono ?_
                rintro e w4 ⟨v4, ins4, rfl, hi4, hv4, hb4⟩
                have hi4 := hi4 (by omega) (by omega)
                rw [if_pos (by omega), Int.toNat_natCast] at hv4
                have hl4 : (picked ins4 K).length = K := line_reach_end HL.out (by rw [← HP0.out]; exact hi4)
                obtain ⟨a4, c4, rfl, _, _, _⟩ := hv4
                rw [hl4]
                have P4 := P3.keep hb4
                clear P1 P2 P3 hiv3 hi4 hl4 hb4
                go_wp2_with fail
                have P5 := P4.keep (below_alloc w4 (.cells #[.int .i64 0] 3))
                have hiv5 : IntsV (gh (w4.alloc (.cells #[.int .i64 0] 3))) (.slice (some ⟨w4.heap.size, 0, none⟩) 1 1) [0] := IntsV.ofBlock (e := 3) (fr := (0, 0)) (heap_new rfl) (by simp) _ rfl
                refine (preach_any _ K _ _ _ _ _ (HF.out _ HS1.out) (GH.le.refl _) (P5.rows (by omega)) hiv5).mono ?_
                rintro e w6 ⟨v6, ins6, rfl, hi6, hv6, hb6⟩
                have hi6 := hi6 (by omega) (by omega)
                rw [if_pos (by omega), Int.toNat_natCast] at hv6
                have hl6 : (picked ins6 K).length = 1 := line_reach_start HL.out hi6
                obtain ⟨a6, c6, rfl, _, _, _⟩ := hv6
                rw [hl6]
                have P6 := P5.keep hb6
                clear P4 P5 hiv5 hi6 hl6 hb6
                obtain ⟨u, hu⟩ : ∃ u, us[p0]? = some u := ⟨_, List.getElem?_eq_getElem (by have := P6.ulen; omega)⟩
                obtain ⟨g, cap, hg, _, _, hcw, hfw⟩ := P6.row.get hu
                simp only [sl, Value.slice.injEq, Option.some.injEq, Addr.mk.injEq, and_true, true_and] at hg
                obtain ⟨rfl, rfl⟩ := hg
                have P7 := (P6.put p0 0 hp0K).undrew
                have hRing : Ring K B ((lineX K B (K - 1)).set p0 [0]) := by
                  refine ⟨hK2, hK32, hbK, HC.out, fun j hj => ?_⟩
                  by_cases e : j = K - 1
                  · subst e
                    rw [← HP0.out, List.getElem?_set_self (by rw [lineX_len]; exact hp0K)]
                    have : (K - 1 + 1) % K = 0 := by rw [show K - 1 + 1 = K by omega]; exact Nat.mod_self K
                    rw [this]; simp [pos]
                  · have hne : p0 ≠ pos K B j := by rw [HP0.out]; exact fun h => e (pos_inj HC.out hj (by omega) h.symm)
                    rw [List.getElem?_set_ne hne, HL.out.get j hj, if_pos (by omega)]
                    have : (j + 1) % K = j + 1 := Nat.mod_eq_of_lt (by omega)
                    rw [this]
                have hs7 := HSH.out _ _ hRing.get (by rw [List.length_set, lineX_len]) (fun j => by simp)
                have HRG := Lib.hid hRing; have HS7 := Lib.hid hs7
                have HU := Lib.hid hu
                clear hu hRing hs7 P6
                go_wp2_with fail
                clear hcw hfw
                refine (porder_any _ K _ _ _ (GH.le.refl _) (P7.rows (by omega)) (HF.out _ HS7.out)).mono ?_
                rintro e w8 ⟨v8, rfl, hv8, hb8⟩
                rw [ring_order HRG.out] at hv8 ⊢
                have P8 := P7.keep hb8
                clear hv8 P7 hb8
                go_wp2_with fail
                refine (pstuck_any _ K _ _ _ (GH.le.refl _) (P8.rows (by omega)) (HF.out _ HS7.out)).mono ?_
                rintro e w9 ⟨v9, rfl, hv9, hb9⟩
                have hl9 := ring_stuck HRG.out
                obtain ⟨a9, c9, rfl, _, _, _⟩ := hv9
                rw [hl9]
                have P9 := P8.keep hb9
                have bel : Below w0.heap.size w0 w9 := P9.ev.toBelow (by simp)
                clear P8 hb9 hl9 P9
                go_wp2_with fail
                refine (awake_any _).mono ?_
                rintro e w10 ⟨rfl, hb10⟩
                go_wp2
                go_ret
                exact ⟨rfl, bel.seq hb10⟩
          | g1 + 1, hig =>
            have hlt : i + 1 < K := by omega
            obtain ⟨p0, hp0⟩ : ∃ p0, p0 = pos K B i := ⟨_, rfl⟩
            obtain ⟨p1, hp1⟩ : ∃ p1, p1 = pos K B (i + 1) := ⟨_, rfl⟩
            have hp0K : p0 < K := by rw [hp0]; exact pos_lt (by omega) _
            have hp1K : p1 < K := by rw [hp1]; exact pos_lt (by omega) _
            have hmul0 : i * B ≤ 32 * 32 := Nat.mul_le_mul (by omega) (by omega)
            have hmul1 : (i + 1) * B ≤ 32 * 32 := Nat.mul_le_mul (by omega) (by omega)
            have hm0 : 0 ≤ (i : Int) * (B : Int) ∧ (i : Int) * (B : Int) ≤ 1024 := by
              rw [← Int.natCast_mul]; omega
            have hm1 : 0 ≤ ((i : Int) + 1) * (B : Int) ∧ ((i : Int) + 1) * (B : Int) ≤ 1024 := by
              have : ((i : Int) + 1) * (B : Int) = (((i + 1) * B : Nat) : Int) := by simp
              rw [this]; omega
            have hr0 : ((i : Int) * (B : Int)) % (K : Int) = (p0 : Int) := by rw [hp0]; unfold pos; simp
            have hr1 : (((i : Int) + 1) * (B : Int)) % (K : Int) = (p1 : Int) := by rw [hp1]; unfold pos; simp
            obtain ⟨hm00, hm01⟩ := hm0
            obtain ⟨hm10, hm11⟩ := hm1
            have hKne : ((K : Int) == 0) = false := beq_eq_false_iff_ne.2 (by omega)
            have hus := P.ulen
            obtain ⟨u, hu⟩ : ∃ u, us[p0]? = some u := ⟨_, List.getElem?_eq_getElem (by omega)⟩
            obtain ⟨g, cap, hg, _, _, hcw, hfw⟩ := P.row.get hu
            simp only [sl, Value.slice.injEq, Option.some.injEq, Addr.mk.injEq, and_true, true_and] at hg
            obtain ⟨rfl, rfl⟩ := hg
            have HU := Lib.hid hu
            have HP0 := Lib.hid hp0; have HP1 := Lib.hid hp1
            clear hu hp0 hp1 hmul0 hmul1 hus
            go_wp2
            go_region
            have PN := P.put p0 (p1 : Int) hp0K
            clear P hcw hfw
            go_wp2
            go_roundg g1
            case measure => omega
            case rel => exact ⟨i + 1, _, _, by omega, by go_num, by simp only [lineX]; rw [← HP0.out, ← HP1.out]; exact PN⟩

theorem lawwalk (n t : Int) (w : World) (hn : -9223372036854775808 ≤ n ∧ n ≤ 9223372036854775807) (ht : -9223372036854775808 ≤ t ∧ t ≤ 9223372036854775807) : Calls Try.prog 7 #[.int .i64 n, .int .i64 t] w (TrueBelow w) := walk n t w hn ht

set_option maxRecDepth 100000 in
theorem GraphLine_lifted (os : Os) (started : os.Started) (H : Type) (enc : TypeId × Value → H) :
    ReturnsInHanded {} Try.checked os 7 .any (Rows.graphLineSpec.pre6 enc Try.prog Try.f7 Rows.graphLineRow.domain false) (Rows.graphLineSpec.post enc Try.prog Try.f7 false true false false) := by
  refine returnsInHanded_of_change_sized (C := Try.checked) (by kernel_rfl) started (by kernel_rfl) Try.func7
    (ChangeSpec.witness6 (enc := enc) (C := Try.checked) false ⟨#[], #[.int .i64 0, .int .i64 0], []⟩ 8 (by kernel_rfl) (by kernel_rfl) (by kernel_rfl) (by kernel_rfl)) ?_
  intro W base args ds gs before hval0 hW hcnd hreach _
  have hval : ∀ (j : Nat) t v, Try.f7.params[j]? = some t → args[j]? = some v → Value.okWide Try.prog W .any base t v := hval0
  have hW' := hW
  obtain ⟨p, q, hA0, hV, rfl, hfz, hnd⟩ := hW
  have hA : DataW.TrodAll enc Try.prog W 0 (fun _ => true) true Try.f7.params.toList args.toList ds p := hA0
  rw [Try.params7] at hA hval
  obtain ⟨v0, vs0, d0, ds0, p0, q0, hargs, rfl, rfl, h0, r0⟩ := trodAll_cons hA
  obtain ⟨v1, vs1, d1, ds1, p1, q1, rfl, rfl, rfl, h1, r1⟩ := trodAll_cons r0
  obtain ⟨rfl, rfl, rfl⟩ := trodAll_nil r1
  obtain rfl : args = #[v0, v1] := by cases args; simp_all
  obtain ⟨rfl, rfl⟩ := trodVars_none hV
  obtain ⟨a0, rfl, rfl, rfl, w0⟩ := open_int Try.underlying3 (hval 0 3 v0 rfl rfl) h0
  obtain ⟨a1, rfl, rfl, rfl, w1⟩ := open_int Try.underlying3 (hval 1 3 v1 rfl rfl) h1
  clear hA0 hval0
  refine (lawwalk a0 a1 W (wf_i64 w0) (wf_i64 w1)).mono fun e W' ⟨he, bel⟩ => ?_
  subst he
  exact ⟨_, rfl, _, _, _, [], _, [], hW', trodAll_mk1 (shut_bool Try.underlying4 _), (trodAll_cons_mk (shut_int Try.underlying3 w0) (trodAll_cons_mk (shut_int Try.underlying3 w1) trodAll_mk0)), rfl, bel.frame _, fun h => by cases h⟩

theorem GraphLine_over : Rows.graphLineRow.holds Try.pinned (OpenSpec.ofChange Rows.graphLineSpec) :=
  OpenClaim.holds_of_wide 7 Try.f7 rfl rfl rfl rfl rfl rfl rfl ⟨rfl, rfl, rfl, rfl, rfl⟩ rfl rfl rfl rfl rfl (by kernel_rfl) Try.func7 (by kernel_rfl)
    (of_decide_eq_true (by kernel_rfl)) (by unfold Func.isWrapper; first | (rw [if_pos (by decide +kernel)]; kernel_rfl) | (rw [if_neg (by decide +kernel)]; exact ⟨rfl, rfl⟩))
    (fun os started H enc _ => GraphLine_lifted os started H enc)

theorem GraphLine_holds : Rows.GraphLineSaid := GraphLine_over
#print axioms GraphLine_holds

end Go.Proofs.Ytoaomedlgmnopaa.GraphLine
