/- Whoever needs one of two lists needs one of the one or one of the other; whoever was reached reaches nobody new: the law GraphBoth returns true and leaves its arguments as they were. No condition. -/
import Derived.Test.YtoaomedlgmnopaaGraphReaches
import Derived.Test.YtoaomedlgmnopaaM5
namespace Go.Proofs.Ytoaomedlgmnopaa.GraphBoth
open Go.RowKit Pal Pal.Graph Go.ChangeShapes Go.WideShapes Go.ChangeAt Go.Proofs.Ytoaomedlgmnopaa.GraphReaches

def mark (ins : List Bool) (us : List Int) : List Bool := us.foldl (fun s x => s.set x.toNat true) ins
theorem mark_len (ins : List Bool) (us : List Int) : (mark ins us).length = ins.length := by
  induction us generalizing ins with
  | nil => rfl
  | cons x us ih => simp only [mark, List.foldl_cons]; exact (ih _).trans (by simp)
theorem mark_snoc (ins : List Bool) (us : List Int) (x : Int) : mark ins (us ++ [x]) = (mark ins us).set x.toNat true := by simp [mark]
theorem got_mark {N : Nat} {ins : List Bool} (hl : ins.length = N) : ∀ (us : List Int), (∀ x ∈ us, 0 ≤ x ∧ x < (N : Int)) → ∀ i, i < N → (got (mark ins us) i = true ↔ got ins i = true ∨ (i : Int) ∈ us) := by
  intro us
  induction us generalizing ins with
  | nil => intro _ i _; simp [mark]
  | cons x us ih =>
    intro h i hi
    have hx := h x (by simp)
    have := ih (ins := ins.set x.toNat true) (by simpa using hl) (fun y hy => h y (by simp [hy])) i hi
    simp only [mark, List.foldl_cons] at this ⊢
    rw [this, got_set (by omega)]
    simp only [Bool.or_eq_true, decide_eq_true_eq, List.mem_cons]
    constructor
    · rintro ((h | h) | h)
      · right; left; omega
      · exact .inl h
      · exact .inr (.inr h)
    · rintro (h | h | h)
      · exact .inl (.inr h)
      · left; left; omega
      · exact .inr h

set_option maxHeartbeats 4000000 in
set_option maxRecDepth 100000 in
theorem walk (n0 : Int) (v va vb : Value) (xss : List (List Int)) (fa fb : List Int) (w : World) (hn0 : -9223372036854775808 ≤ n0 ∧ n0 ≤ 9223372036854775807) (hx : RowsV (gh w) v xss) (ha : IntsV (gh w) va fa) (hb : IntsV (gh w) vb fb) : Calls Try.prog 6 #[.int .i64 n0, v, va, vb] w (TrueBelow w) := by
  obtain ⟨i0, hi, hz0, hz1, hz2⟩ := info_parts3
  obtain ⟨i4, hi4, hy0, hy1, hy2⟩ := info_parts4
  obtain ⟨N, hN⟩ : ∃ N : Nat, n0 % 40 = (N : Int) := ⟨(n0 % 40).toNat, by have := Int.emod_nonneg n0 (show (40 : Int) ≠ 0 by omega); omega⟩
  have hN40 : N < 40 := by have := Int.emod_lt_of_pos n0 (show (0 : Int) < 40 by omega); omega
  have HN := Lib.hid hN
  clear hN
  obtain ⟨aa, ca, rfl, ha1, ha2, ha3⟩ := id ha
  obtain ⟨ab, cb, rfl, hb1, hb2, hb3⟩ := id hb
  obtain ⟨b, hbf⟩ : ∃ b, b = fewB N xss := ⟨_, rfl⟩
  have hmk := run_made (P := Try.prog) Try.underlying32 hi4 hy0 hy1 hy2 rfl N (by omega) (by omega)
  by_cases hesc : b = false ∨ 50 < fa.length ∨ 50 < fb.length
  · have HB := Lib.hid hbf; clear hbf
    have key : (b = false) ∨ (b = true ∧ 50 < fa.length) ∨ (b = true ∧ fa.length ≤ 50 ∧ 50 < fb.length) := by
      cases b
      · exact .inl rfl
      · by_cases h : 50 < fa.length
        · exact .inr (.inl ⟨rfl, h⟩)
        · refine .inr (.inr ⟨rfl, by omega, ?_⟩)
          rcases hesc with h | h | h
          · cases h
          · omega
          · exact h
    clear hesc hmk ha3 hb3 ha1 hb1
    rcases key with rfl | ⟨rfl, h1⟩ | ⟨rfl, h1, h2⟩
    all_goals
      go_enter Try.func6, Try.ntmps6
      go_wp2_with fail
      refine (place_any n0 40 _ hn0 (by omega)).mono ?_
      rintro e w1 ⟨rfl, rfl⟩
      rw [HN.out]
      go_wp2_with fail
      refine (few_any _ N v xss _ (GH.le.refl _) hx).mono ?_
      rintro e w1 ⟨rfl, rfl⟩
      rw [← HB.out]
      go_wp2_with fail
      refine (awake_any _).mono ?_
      rintro e w2 ⟨rfl, hbel⟩
      go_wp2
      go_ret
      exact ⟨rfl, hbel⟩
  · have hbt : b = true := by
      cases b
      · exact absurd (.inl rfl) hesc
      · rfl
    have hla : fa.length ≤ 50 := by apply Classical.byContradiction; intro h; exact hesc (.inr (.inl (by omega)))
    have hlb : fb.length ≤ 50 := by apply Classical.byContradiction; intro h; exact hesc (.inr (.inr (by omega)))
    subst hbt
    have hfew := few_short hbf.symm
    have hF : 0 ≤ (N : Int) → (N : Int) ≤ 4096 → (N : Int) ≤ 100 ∧ ∀ (i : Nat) (xs : List Int), xss[i]? = some xs → xs.length ≤ 80 := fun _ _ => ⟨by omega, hfew.2.2⟩
    have HB := Lib.hid hbf; clear hbf hesc hfew ha1 ha3 hb3
    have HF := Lib.hid hF; clear hF
    go_enter Try.func6, Try.ntmps6
    go_wp2_with fail
    refine (place_any n0 40 _ hn0 (by omega)).mono ?_
    rintro e w1 ⟨rfl, rfl⟩
    rw [HN.out]
    go_wp2_with fail
    refine (few_any _ N v xss _ (GH.le.refl _) hx).mono ?_
    rintro e w0 ⟨rfl, rfl⟩
    rw [← HB.out]
    clear HN
    -- x
    go_wp2_with fail
    refine (lists_any _ v xss _ (GH.le.refl _) hx).mono ?_
    rintro e w1 ⟨v1, rfl, hv1, hb1'⟩
    have hxA := hx.mono (below_gh hb1')
    have haA := ha.mono (below_gh hb1')
    have hbA := hb.mono (below_gh hb1')
    go_wp2_with fail
    refine (preach_any _ N v1 _ xss fa _ HF.out (GH.le.refl _) hv1 haA).mono ?_
    rintro e w2 ⟨vx, insa, rfl, hia, hvx, hb2'⟩
    have hia := hia (by omega) (by omega)
    rw [if_pos (by omega), Int.toNat_natCast] at hvx
    have hxB := hxA.mono (below_gh hb2')
    have haB := haA.mono (below_gh hb2')
    have hbB := hbA.mono (below_gh hb2')
    have bel := hb1'.seq hb2'
    have HIA := Lib.hid hia
    clear hx ha hb hv1 hb1' hxA haA hbA hb2' hia
    -- y
    go_wp2_with fail
    refine (lists_any _ v xss _ (GH.le.refl _) hxB).mono ?_
    rintro e w3 ⟨v3, rfl, hv3, hb3'⟩
    have hbC := hbB.mono (below_gh hb3')
    have haC := haB.mono (below_gh hb3')
    have hxC := hxB.mono (below_gh hb3')
    have hvxC := hvx.mono (below_gh hb3')
    go_wp2_with fail
    refine (preach_any _ N v3 _ xss fb _ HF.out (GH.le.refl _) hv3 hbC).mono ?_
    rintro e w4 ⟨vy, insb, rfl, hib, hvy, hb4'⟩
    have hib := hib (by omega) (by omega)
    rw [if_pos (by omega), Int.toNat_natCast] at hvy
    have hxD := hxC.mono (below_gh hb4')
    have haD := haC.mono (below_gh hb4')
    have hbD := hbC.mono (below_gh hb4')
    have hvxD := hvxC.mono (below_gh hb4')
    have bel4 := (bel.seq hb3').seq hb4'
    have HIB := Lib.hid hib
    clear hxB haB hbB hxC haC hbC hvxC hvx hv3 hb3' hb4' hib bel
    -- z
    go_wp2_with fail
    refine (lists_any _ v xss _ (GH.le.refl _) hxD).mono ?_
    rintro e w5 ⟨v5, rfl, hv5, hb5'⟩
    have haE := haD.mono (below_gh hb5')
    have hbE := hbD.mono (below_gh hb5')
    have hxE := hxD.mono (below_gh hb5')
    have hvxE := hvxD.mono (below_gh hb5')
    have hvyE := hvy.mono (below_gh hb5')
    have bel5 := bel4.seq hb5'
    clear haD hbD hxD hvxD hvy hb5' bel4
    go_wp2_with fail
    refine (ints_any _ _ fa _ (GH.le.refl _) haE).mono ?_
    rintro e w6 ⟨v6, rfl, ho, hb6'⟩
    obtain ⟨t6, hr6, ev6⟩ := Row.ofOwn T0 3 (· = 3) hb6' ho
    have hbF := hbE.mono (below_gh hb6')
    obtain ⟨ab', cb', hveq, hbn, _, hbc⟩ := hbF
    simp only [Value.slice.injEq, true_and] at hveq
    obtain ⟨rfl, rfl⟩ := hveq
    go_wp2_with (at_builtin; refine wpList_append_src rfl _ _ 26 rfl 3 i0 (.int .i64 0) 1 8 Try.underlying26 hi hz0 hz1 hz2 rfl (by decide) rfl hr6 ab fb.length cb (fb.map (Value.int .i64)) rfl ?c0 ?c1 ?c2 ?c3 ?c4 ?c5 ?_)
    case c0 => intro h; have := hbn h; rw [this.1]; exact ⟨rfl, this.2⟩
    case c1 => simp
    case c2 =>
      intro j u hj
      simp only [List.getElem?_map, Option.map_eq_some_iff] at hj
      obtain ⟨x, hx, rfl⟩ := hj
      obtain ⟨b, off, he, hcc⟩ := hbc j x hx
      exact ⟨_, he, by rw [addr_add, ← gh_cell]; exact hcc⟩
    case c3 => intro u hu; simp at hu; obtain ⟨x, _, rfl⟩ := hu; rfl
    case c4 => unfold maxLen; omega
    case c5 => omega
    intro v7 t7 w7 hr7 ev7
    rw [← List.map_append] at hr7
    have evz := ev6.trans ev7
    have hb57 : Below w5.heap.size w5 w7 := evz.toBelow (by omega)
    have hxG := hxE.mono (below_gh hb57)
    have hvxG := hvxE.mono (below_gh hb57)
    have hvyG := hvyE.mono (below_gh hb57)
    have hv5G := hv5.mono (below_gh hb57)
    have bel7 := bel5.seq hb57
    have hv7 := IntsV.ofRowAny hr7 (by simp; omega)
    clear hr7 ev7 evz hb57 hxE hvxE hvyE hv5 hr6 ev6 ho hb6' hbE haE hbc hbn bel5
    go_wp2_with fail
    refine (preach_any _ N v5 _ xss (fa ++ fb) _ HF.out (GH.le.refl _) hv5G hv7).mono ?_
    rintro e w8 ⟨vz, insz, rfl, hiz, hvz, hb8'⟩
    have hiz := hiz (by omega) (by omega)
    rw [if_pos (by omega), Int.toNat_natCast] at hvz
    have hxH := hxG.mono (below_gh hb8')
    have hvxH := hvxG.mono (below_gh hb8')
    have hvyH := hvyG.mono (below_gh hb8')
    have bel8 := bel7.seq hb8'
    have HIZ := Lib.hid hiz
    clear hxG hvxG hvyG hv5G hv7 hb8' bel7 hiz
    obtain ⟨ax, cx, rfl, _, hlx, hcx⟩ := hvxH
    obtain ⟨ay, cy, rfl, _, hly, hcy⟩ := hvyH
    obtain ⟨az, cz, rfl, hz1', hlz, hz3'⟩ := id hvz
    have hR := Row.made T0 1 w8 4 (.bool false) N (by unfold maxLen; omega)
    have EV8 : Evo T0 w8 (T0.set w8.heap.size 1) (w8.alloc (.cells (madeCells #[.bool false] N) 4)) (· ≠ 0) := (Evo.refl _ _ _).alloc 1 _
    have hpa : ∀ x ∈ picked insa N, 0 ≤ x ∧ x < (N : Int) := fun x hx => let h := mem_picked.1 hx; ⟨h.1, h.2.1⟩
    have hpb : ∀ x ∈ picked insb N, 0 ≤ x ∧ x < (N : Int) := fun x hx => let h := mem_picked.1 hx; ⟨h.1, h.2.1⟩
    obtain ⟨A, hA⟩ : ∃ A, A = picked insa N := ⟨_, rfl⟩
    obtain ⟨B, hB⟩ : ∃ B, B = picked insb N := ⟨_, rfl⟩
    rw [← hA] at hcx hlx hpa ⊢
    rw [← hB] at hcy hly hpb ⊢
    have HA := Lib.hid hA; clear hA
    have HBB := Lib.hid hB; clear hB
    go_wp2
    clear hmk
    go_loopg [13] 2 (fun g i wr => ∃ k : Nat, k + g = 2 ∧ i = .int .i64 (k : Nat) ∧ ∃ t ins, Row t 1 wr 4 1 (sl w8.heap.size N) N (ins.map Value.bool) ∧ Evo T0 w8 t wr (· ≠ 0) ∧ Hid (ins.length = N ∧ ∀ i, i < N → (got ins i = true ↔ (1 ≤ k ∧ (i : Int) ∈ A) ∨ (2 ≤ k ∧ (i : Int) ∈ B))))
    case atStart => exact ⟨0, by omega, rfl, _, List.replicate N false, by simpa [sl] using hR, EV8, by simp, fun i hi => by simp [got, hi]⟩
    case round =>
      clear hR EV8
      obtain ⟨k, hkg, rfl, t, ins, hrow, hev, HI⟩ := hrel
      obtain ⟨wo, rfl⟩ : ∃ wo : World, wo = wr := ⟨_, rfl⟩
      match gk, hkg with
      | 0, hkg =>
        have hk2 : k = 2 := by omega
        subst hk2
        have hfin : ins = insz := insOk_both HIA.out HIB.out HIZ.out HI.out.1 (fun i hi => by rw [HI.out.2 i hi, HA.out, HBB.out]; simp)
        subst hfin
        have HLEN := Lib.hid HI.out.1
        clear HI
        go_wp2
        go_loopg [16, 17] N (fun g u i wr => ∃ k t, k + g = N ∧ i = .int .i64 (k : Nat) ∧ Row t 8 wr 3 1 u (picked ins k).length ((picked ins k).map (Value.int .i64)) ∧ Row t 1 wr 4 1 (sl w8.heap.size N) N (ins.map Value.bool) ∧ Evo T0 w8 t wr (· ≠ 0))
        case atStart => exact ⟨0, t, by omega, rfl, Row.nil _ _ _ _ _, hrow, hev⟩
        case round =>
          clear hrow hev
          obtain ⟨k, t, hkg, rfl, hr, hr2, hev⟩ := hrel
          obtain ⟨la, lc, rfl⟩ := hr.form
          cases gk with
          | zero =>
            have hkN : k = N := by omega
            subst hkN
            have hple := picked_le ins k
            have hwant := IntsV.ofRowAny hr (by omega)
            have hb9 : Below w8.heap.size w8 wr := hev.toBelow (by simp)
            have hvz9 := hvz.mono (below_gh hb9)
            have hx9 := hxH.mono (below_gh hb9)
            have bel9 := bel8.seq hb9
            clear hr hr2 hev hb9 hxH hvz bel8
            go_wp2_with fail
            refine (same_ints _ _ _ (picked ins k) (picked ins k) _ (GH.le.refl _) hvz9 hwant).mono ?_
            rintro e w10 ⟨rfl, m, rfl⟩
            rw [decide_eq_true rfl]
            have hx10 := hx9.mono (h' := gh (wr.drewN m)) (fun _ _ h => h)
            have hvz10 := hvz9.mono (h' := gh (wr.drewN m)) (fun _ _ h => h)
            have bel10 := below_drewN bel9 m
            generalize wr.drewN m = w10 at *
            clear hx9 hvz9 bel9 hwant
            go_wp2_with fail
            refine (lists_any _ v xss _ (GH.le.refl _) hx10).mono ?_
            rintro e w11 ⟨v11, rfl, hv11, hb11⟩
            have hvz11 := hvz10.mono (below_gh hb11)
            have bel11 := bel10.seq hb11
            clear hx10 hvz10 hb11 bel10
            go_wp2_with fail
            refine (preach_any _ k v11 _ xss (picked ins k) _ HF.out (GH.le.refl _) hv11 hvz11).mono ?_
            rintro e w12 ⟨v12, ins2, rfl, hi2, hv12, hb12⟩
            have hi2 := hi2 (by omega) (by omega)
            rw [if_pos (by omega), Int.toNat_natCast, insOk_self HIZ.out hi2] at hv12
            have hvz12 := hvz11.mono (below_gh hb12)
            have bel12 := bel11.seq hb12
            clear hi2 hv11 hvz11 hb12 bel11
            go_wp2_with fail
            refine (same_ints _ _ _ (picked ins k) (picked ins k) _ (GH.le.refl _) hv12 hvz12).mono ?_
            rintro e w13 ⟨rfl, m2, rfl⟩
            rw [decide_eq_true rfl]
            go_wp2_with fail
            refine (awake_any _).mono ?_
            rintro e w14 ⟨rfl, hb14⟩
            go_wp2
            go_ret
            exact ⟨rfl, (below_drewN bel12 m2).seq hb14⟩
          | succ g1 =>
            have hkI : k < N := by omega
            obtain ⟨d, hdk⟩ : ∃ d, ins[k]? = some d := ⟨_, List.getElem?_eq_getElem (by have := HLEN.out; omega)⟩
            obtain ⟨g, cap, hg, _, _, hcell, hfr⟩ := hr2.get (j := k) (x := .bool d) (by simp [hdk])
            simp only [sl, Value.slice.injEq, Option.some.injEq, Addr.mk.injEq, and_true, true_and] at hg
            obtain ⟨rfl, rfl⟩ := hg
            have hls := picked_succ ins k
            have hgd : got ins k = d := by simp [got, hdk]
            rw [hgd] at hls
            have HD := Lib.hid hdk; clear hdk hgd
            have hll := picked_le ins k
            cases d
            · have HLS := Lib.hid hls; clear hls
              go_wp2
              go_roundg g1
              case measure => omega
              case rel =>
                refine ⟨k + 1, t, by omega, by go_num, ?_, hr2, hev⟩
                rw [HLS.out]; simpa using hr
            · have HLS := Lib.hid hls; clear hls
              go_wp2_with (at_builtin; refine wpList_append_one rfl _ _ 26 rfl 3 i0 (.int .i64 0) 1 8 Try.underlying26 hi hz0 hz1 hz2 rfl (by decide) rfl hr #[.int .i64 k] 3 (0,0) _ rfl (by simp) rfl ?c1 ?c2 ?c3 ?_)
              case c1 => rfl
              case c2 => unfold maxLen; omega
              case c3 => omega
              intro v' t' w' hr3 he
              have hev2 := hev.trans (he.mono (K' := (· ≠ 0)) (by intro x hx; omega))
              have hd2 := hr2.keep he (by simp)
              clear hev hr hr2 he
              go_wp2
              go_roundg g1
              case measure => omega
              case rel =>
                refine ⟨k + 1, t', by omega, by go_num, ?_, hd2, hev2⟩
                rw [HLS.out]; simpa using hr3
      | g1 + 1, hkg =>
        by_cases hk0 : k = 0
        · have hkz : k = 0 := by omega
          subst hkz
          go_wp2
          go_loopg [15] A.length (fun g i wr => ∃ j t, j + g = A.length ∧ i = .int .i64 (j : Nat) ∧ Row t 1 wr 4 1 (sl w8.heap.size N) N ((mark ins (A.take j)).map Value.bool) ∧ Evo T0 w8 t wr (· ≠ 0))
          case atStart => exact ⟨0, t, by omega, rfl, by simpa [mark] using hrow, hev⟩
          case round =>
            clear hrow hev
            obtain ⟨j, t, hjg, rfl, hrow, hev⟩ := hrel
            obtain ⟨wo, rfl⟩ : ∃ wo : World, wo = wr := ⟨_, rfl⟩
            cases gk with
            | zero =>
              have hjl : j = A.length := by omega
              subst hjl
              rw [List.take_length] at hrow
              have HN2 : Hid ((mark ins A).length = N ∧ ∀ i, i < N → (got (mark ins A) i = true ↔ (1 ≤ 0 + 1 ∧ (i : Int) ∈ A) ∨ (2 ≤ 0 + 1 ∧ (i : Int) ∈ B))) := by
                refine ⟨by rw [mark_len]; exact HI.out.1, fun i hi => ?_⟩
                rw [got_mark HI.out.1 A (by exact hpa) i hi, HI.out.2 i hi]
                simp
              go_wp2
              go_roundg g1
              case measure => omega
              case rel => exact ⟨0 + 1, by omega, by go_num, t, _, hrow, hev, HN2⟩
            | succ g2 =>
              have hjl : j < A.length := by omega
              obtain ⟨x, hxj⟩ : ∃ x, A[j]? = some x := ⟨_, List.getElem?_eq_getElem hjl⟩
              obtain ⟨bx, ox, rfl, hcell⟩ := hcx j x hxj
              have hle : (gh w8).le (gh wo) := by
                have := hev.hz (by simp)
                rw [hz_T0] at this
                exact this.trans (hz_gh _ _)
              have hcell := hle.at hcell
              obtain ⟨hx0, hxN⟩ := hpa x (List.mem_of_getElem? hxj)
              have htk : A.take (j + 1) = A.take j ++ [x] := by rw [List.take_add_one, hxj]; rfl
              have HTK := Lib.hid htk
              have hlen : (mark ins (A.take j)).length = N := by rw [mark_len]; exact HI.out.1
              have hxl : x.toNat < (mark ins (A.take j)).length := by omega
              have hfz : wo.frozen? ⟨w8.heap.size, x.toNat, none⟩ = false ∧ ∃ d, wo.cell? ⟨w8.heap.size, x.toNat, none⟩ = some (.bool d) := by
                obtain ⟨g, cap, hgg, _, _, hc, hf⟩ := hrow.get (j := x.toNat) (x := .bool (mark ins (A.take j))[x.toNat]) (by rw [List.getElem?_map, List.getElem?_eq_getElem hxl]; rfl)
                simp only [sl, Value.slice.injEq, Option.some.injEq, Addr.mk.injEq, and_true, true_and] at hgg
                rw [← hgg.1] at hc hf
                exact ⟨hf, _, hc⟩
              obtain ⟨hfz, d, hcd⟩ := hfz
              have R1 := hrow.set x.toNat (.bool true)
              rw [map_set_bool, ← mark_snoc, ← htk] at R1
              have E1 := hev.setCell ⟨w8.heap.size, x.toNat, none⟩ (.bool true) (by rw [hrow.tag _ rfl]; simp)
              have HX := Lib.hid hxj
              have HL := Lib.hid hlen
              clear hrow hev hxj htk hle hlen
              go_wp2
              go_roundg g2
              case measure => omega
              case rel => exact ⟨j + 1, t, by omega, by go_num, R1, E1⟩
        · have hkz : k = 1 := by omega
          subst hkz
          go_wp2
          go_loopg [15] B.length (fun g i wr => ∃ j t, j + g = B.length ∧ i = .int .i64 (j : Nat) ∧ Row t 1 wr 4 1 (sl w8.heap.size N) N ((mark ins (B.take j)).map Value.bool) ∧ Evo T0 w8 t wr (· ≠ 0))
          case atStart => exact ⟨0, t, by omega, rfl, by simpa [mark] using hrow, hev⟩
          case round =>
            clear hrow hev
            obtain ⟨j, t, hjg, rfl, hrow, hev⟩ := hrel
            obtain ⟨wo, rfl⟩ : ∃ wo : World, wo = wr := ⟨_, rfl⟩
            cases gk with
            | zero =>
              have hjl : j = B.length := by omega
              subst hjl
              rw [List.take_length] at hrow
              have HN2 : Hid ((mark ins B).length = N ∧ ∀ i, i < N → (got (mark ins B) i = true ↔ (1 ≤ 1 + 1 ∧ (i : Int) ∈ A) ∨ (2 ≤ 1 + 1 ∧ (i : Int) ∈ B))) := by
                refine ⟨by rw [mark_len]; exact HI.out.1, fun i hi => ?_⟩
                rw [got_mark HI.out.1 B (by exact hpb) i hi, HI.out.2 i hi]
                simp
              go_wp2
              go_roundg g1
              case measure => omega
              case rel => exact ⟨1 + 1, by omega, by go_num, t, _, hrow, hev, HN2⟩
            | succ g2 =>
              have hjl : j < B.length := by omega
              obtain ⟨x, hxj⟩ : ∃ x, B[j]? = some x := ⟨_, List.getElem?_eq_getElem hjl⟩
              obtain ⟨bx, ox, rfl, hcell⟩ := hcy j x hxj
              have hle : (gh w8).le (gh wo) := by
                have := hev.hz (by simp)
                rw [hz_T0] at this
                exact this.trans (hz_gh _ _)
              have hcell := hle.at hcell
              obtain ⟨hx0, hxN⟩ := hpb x (List.mem_of_getElem? hxj)
              have htk : B.take (j + 1) = B.take j ++ [x] := by rw [List.take_add_one, hxj]; rfl
              have HTK := Lib.hid htk
              have hlen : (mark ins (B.take j)).length = N := by rw [mark_len]; exact HI.out.1
              have hxl : x.toNat < (mark ins (B.take j)).length := by omega
              have hfz : wo.frozen? ⟨w8.heap.size, x.toNat, none⟩ = false ∧ ∃ d, wo.cell? ⟨w8.heap.size, x.toNat, none⟩ = some (.bool d) := by
                obtain ⟨g, cap, hgg, _, _, hc, hf⟩ := hrow.get (j := x.toNat) (x := .bool (mark ins (B.take j))[x.toNat]) (by rw [List.getElem?_map, List.getElem?_eq_getElem hxl]; rfl)
                simp only [sl, Value.slice.injEq, Option.some.injEq, Addr.mk.injEq, and_true, true_and] at hgg
                rw [← hgg.1] at hc hf
                exact ⟨hf, _, hc⟩
              obtain ⟨hfz, d, hcd⟩ := hfz
              have R1 := hrow.set x.toNat (.bool true)
              rw [map_set_bool, ← mark_snoc, ← htk] at R1
              have E1 := hev.setCell ⟨w8.heap.size, x.toNat, none⟩ (.bool true) (by rw [hrow.tag _ rfl]; simp)
              have HX := Lib.hid hxj
              have HL := Lib.hid hlen
              clear hrow hev hxj htk hle hlen
              go_wp2
              go_roundg g2
              case measure => omega
              case rel => exact ⟨j + 1, t, by omega, by go_num, R1, E1⟩
theorem lawwalk (n : Int) (v : Value) (xss : List (List Int)) (va : Value) (fa : List Int) (vb : Value) (fb : List Int) (w : World) (hn : -9223372036854775808 ≤ n ∧ n ≤ 9223372036854775807) (hx : RowsV (gh w) v xss) (ha : IntsV (gh w) va fa) (hb : IntsV (gh w) vb fb) : Calls Try.prog 6 #[.int .i64 n, v, va, vb] w (TrueBelow w) := walk n v va vb xss fa fb w hn hx ha hb

set_option maxRecDepth 100000 in
theorem GraphBoth_lifted (os : Os) (started : os.Started) (H : Type) (enc : TypeId × Value → H) :
    ReturnsInHanded {} Try.checked os 6 .any (Rows.graphBothSpec.pre6 enc Try.prog Try.f6 Rows.graphBothRow.domain false) (Rows.graphBothSpec.post enc Try.prog Try.f6 false true false false) := by
  refine returnsInHanded_of_change_sized (C := Try.checked) (by kernel_rfl) started (by kernel_rfl) Try.func6
    (ChangeSpec.witness6 (enc := enc) (C := Try.checked) false ⟨#[], #[.int .i64 0, .slice none 0 0, .slice none 0 0, .slice none 0 0], []⟩ 8 (by kernel_rfl) (by kernel_rfl) (by kernel_rfl) (by kernel_rfl)) ?_
  intro W base args ds gs before hval0 hW hcnd hreach _
  have hval : ∀ (j : Nat) t v, Try.f6.params[j]? = some t → args[j]? = some v → Value.okWide Try.prog W .any base t v := hval0
  have hW' := hW
  obtain ⟨p, q, hA0, hV, rfl, hfz, hnd⟩ := hW
  have hA : DataW.TrodAll enc Try.prog W 0 (fun _ => true) true Try.f6.params.toList args.toList ds p := hA0
  rw [Try.params6] at hA hval
  obtain ⟨v0, vs0, d0, ds0, p0, q0, hargs, rfl, rfl, h0, r0⟩ := trodAll_cons hA
  obtain ⟨v1, vs1, d1, ds1, p1, q1, rfl, rfl, rfl, h1, r1⟩ := trodAll_cons r0
  obtain ⟨v2, vs2, d2, ds2, p2, q2, rfl, rfl, rfl, h2, r2⟩ := trodAll_cons r1
  obtain ⟨v3, vs3, d3, ds3, p3, q3, rfl, rfl, rfl, h3, r3⟩ := trodAll_cons r2
  obtain ⟨rfl, rfl, rfl⟩ := trodAll_nil r3
  obtain rfl : args = #[v0, v1, v2, v3] := by cases args; simp_all
  obtain ⟨rfl, rfl⟩ := trodVars_none hV
  obtain ⟨a0, rfl, rfl, rfl, w0⟩ := open_int Try.underlying3 (hval 0 3 v0 rfl rfl) h0
  obtain ⟨a1, len1, cap1, rfl⟩ := okWide_slice Try.underlying22 (hval 1 22 v1 rfl rfl)
  have k1 := h1
  have lt1 : ∀ x ∈ p1, x.block < W.heap.size := by obtain ⟨m, hm⟩ := k1; exact DataW.trod_lt m _ _ _ hm
  have wg1 : ∀ n ∈ d1.weights Try.prog 22, n ≤ reachBytes := fun n hn => by simpa using List.all_eq_true.1 hreach n (DataW.weights_mem_each (j := 1) (t := 22) (d := d1) (by rw [show Try.checked.prog = Try.prog from rfl, Try.params6]; rfl) rfl n hn)
  obtain ⟨x1, o1⟩ : ∃ xss, RowsV (gh W) (.slice a1 len1 cap1) xss := by obtain ⟨fuel, hf⟩ := h1; exact rowsV_open Try.underlying22 Try.underlying26 Try.underlying3 (by kernel_rfl) (by kernel_rfl) (by kernel_rfl) (by kernel_rfl) hf wg1
  obtain ⟨a2, len2, cap2, rfl⟩ := okWide_slice Try.underlying26 (hval 2 26 v2 rfl rfl)
  have k2 := h2
  have lt2 : ∀ x ∈ p2, x.block < W.heap.size := by obtain ⟨m, hm⟩ := k2; exact DataW.trod_lt m _ _ _ hm
  have wg2 : ∀ n ∈ d2.weights Try.prog 26, n ≤ reachBytes := fun n hn => by simpa using List.all_eq_true.1 hreach n (DataW.weights_mem_each (j := 2) (t := 26) (d := d2) (by rw [show Try.checked.prog = Try.prog from rfl, Try.params6]; rfl) rfl n hn)
  obtain ⟨x2, o2, _⟩ : ∃ xs : List Int, IntsV (gh W) (.slice a2 len2 cap2) xs ∧ (∀ x ∈ xs, (Lit.int .i64 x).wf = true) := by obtain ⟨fuel, hf⟩ := h2; exact intsV_open Try.underlying26 Try.underlying3 (by kernel_rfl) (by kernel_rfl) hf wg2
  obtain ⟨a3, len3, cap3, rfl⟩ := okWide_slice Try.underlying26 (hval 3 26 v3 rfl rfl)
  have k3 := h3
  have lt3 : ∀ x ∈ p3, x.block < W.heap.size := by obtain ⟨m, hm⟩ := k3; exact DataW.trod_lt m _ _ _ hm
  have wg3 : ∀ n ∈ d3.weights Try.prog 26, n ≤ reachBytes := fun n hn => by simpa using List.all_eq_true.1 hreach n (DataW.weights_mem_each (j := 3) (t := 26) (d := d3) (by rw [show Try.checked.prog = Try.prog from rfl, Try.params6]; rfl) rfl n hn)
  obtain ⟨x3, o3, _⟩ : ∃ xs : List Int, IntsV (gh W) (.slice a3 len3 cap3) xs ∧ (∀ x ∈ xs, (Lit.int .i64 x).wf = true) := by obtain ⟨fuel, hf⟩ := h3; exact intsV_open Try.underlying26 Try.underlying3 (by kernel_rfl) (by kernel_rfl) hf wg3
  clear hA0 hval0
  refine (lawwalk a0 _ x1 _ x2 _ x3 W (wf_i64 w0) o1 o2 o3).mono fun e W' ⟨he, bel⟩ => ?_
  subst he
  exact ⟨_, rfl, _, _, _, [], _, [], hW', trodAll_mk1 (shut_bool Try.underlying4 _), (trodAll_cons_mk (shut_int Try.underlying3 w0) (trodAll_cons_mk (Below.trod (by kernel_rfl) (by kernel_rfl) (of_decide_eq_true (by kernel_rfl)) k1 bel lt1) (trodAll_cons_mk (Below.trod (by kernel_rfl) (by kernel_rfl) (of_decide_eq_true (by kernel_rfl)) k2 bel lt2) (trodAll_cons_mk (Below.trod (by kernel_rfl) (by kernel_rfl) (of_decide_eq_true (by kernel_rfl)) k3 bel lt3) trodAll_mk0)))), rfl, bel.frame _, fun h => by cases h⟩

theorem GraphBoth_over : Rows.graphBothRow.holds Try.pinned (OpenSpec.ofChange Rows.graphBothSpec) :=
  OpenClaim.holds_of_wide 6 Try.f6 rfl rfl rfl rfl rfl rfl rfl ⟨rfl, rfl, rfl, rfl, rfl⟩ rfl rfl rfl rfl rfl (by kernel_rfl) Try.func6 (by kernel_rfl)
    (of_decide_eq_true (by kernel_rfl)) (by unfold Func.isWrapper; first | (rw [if_pos (by decide +kernel)]; kernel_rfl) | (rw [if_neg (by decide +kernel)]; exact ⟨rfl, rfl⟩))
    (fun os started H enc _ => GraphBoth_lifted os started H enc)

theorem GraphBoth_holds : Rows.GraphBothSaid := GraphBoth_over
#print axioms GraphBoth_holds

end Go.Proofs.Ytoaomedlgmnopaa.GraphBoth
