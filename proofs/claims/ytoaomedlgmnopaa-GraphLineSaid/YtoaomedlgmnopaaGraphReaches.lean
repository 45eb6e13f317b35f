/- The program's Reach answers as the document's does, for any needs and any start: the law GraphReaches returns true and leaves its arguments as they were. No condition. -/
import Derived.Test.YtoaomedlgmnopaaW11
import Derived.Test.YtoaomedlgmnopaaO
namespace Go.Proofs.Ytoaomedlgmnopaa.GraphReaches
open Go.RowKit Pal Pal.Graph Go.ChangeShapes Go.WideShapes Go.ChangeAt

theorem few_short {n : Int} {xss : List (List Int)} (h : fewB n xss = true) : n ≤ 60 ∧ xss.length ≤ 80 ∧ ∀ (i : Nat) (xs : List Int), xss[i]? = some xs → xs.length ≤ 80 := by
  simp only [fewB, Bool.and_eq_true, List.all_eq_true, decide_eq_true_eq] at h
  exact ⟨h.1.1, h.1.2, fun i xs hi => h.2 xs (List.mem_of_getElem? hi)⟩
theorem preach_any (h : GH) (n : Int) (v vf : Value) (xss : List (List Int)) (fr : List Int) (w : World) (hF : 0 ≤ n → n ≤ 4096 → n ≤ 100 ∧ ∀ (i : Nat) (xs : List Int), xss[i]? = some xs → xs.length ≤ 80) (hw : h.le (gh w)) (hx : RowsV h v xss) (hf : IntsV h vf fr) :
    Calls Try.prog 17 #[.int .i64 n, v, vf] w (ReachPost n xss fr w) := by
  by_cases hn : 0 ≤ n ∧ n ≤ 4096
  · obtain ⟨N, rfl⟩ := Int.eq_ofNat_of_zero_le hn.1
    obtain ⟨h1, h2⟩ := hF hn.1 hn.2
    exact reach_yes h N v vf xss fr w (by omega) h2 hw hx hf
  · exact reach_no n v vf xss fr w hn
theorem rreach_any (h : GH) (n : Int) (v vf : Value) (xss : List (List Int)) (fr : List Int) (w : World) (hw : h.le (gh w)) (hx : RowsV h v xss) (hf : IntsV h vf fr) :
    Calls Try.prog 19 #[.int .i64 n, v, vf] w (ReachPost n xss fr w) := by
  by_cases hn : 0 ≤ n ∧ n ≤ 4096
  · obtain ⟨N, rfl⟩ := Int.eq_ofNat_of_zero_le hn.1
    exact rreach_yes h N v vf xss fr w (by omega) hw hx hf
  · exact rreach_no n v vf xss fr w hn

set_option maxHeartbeats 1000000 in
theorem walk (n : Int) (v vf : Value) (xss : List (List Int)) (fr : List Int) (w : World) (hx : RowsV (gh w) v xss) (hf : IntsV (gh w) vf fr) : Calls Try.prog 5 #[.int .i64 n, v, vf] w (TrueBelow w) := by
  obtain ⟨af, cf, rfl, hf1, hf2, hf3⟩ := hf
  by_cases hesc : (0 ≤ n ∧ fewB n xss = false) ∨ 80 < fr.length
  · obtain ⟨b, hb⟩ : ∃ b, b = fewB n xss := ⟨_, rfl⟩
    by_cases h0 : 0 ≤ n
    · go_enter Try.func5, Try.ntmps5
      go_wp2_with fail
      refine (few_any _ n v xss _ (GH.le.refl _) hx).mono ?_
      rintro e w1 ⟨rfl, rfl⟩
      rw [← hb]
      rw [← hb] at hesc
      clear hb
      cases b
      · go_wp2_with fail
        refine (awake_any _).mono ?_
        rintro e w2 ⟨rfl, hb⟩
        go_wp2
        go_ret
        exact ⟨rfl, hb⟩
      · have hlen : 80 < fr.length := by
          rcases hesc with ⟨_, h⟩ | h
          · cases h
          · exact h
        clear hesc
        go_wp2_with fail
        refine (awake_any _).mono ?_
        rintro e w2 ⟨rfl, hb⟩
        go_wp2
        go_ret
        exact ⟨rfl, hb⟩
    · have hlen : 80 < fr.length := by
        rcases hesc with ⟨h, _⟩ | h
        · exact absurd h h0
        · exact h
      clear hesc hb
      go_enter Try.func5, Try.ntmps5
      go_wp2_with fail
      refine (awake_any _).mono ?_
      rintro e w2 ⟨rfl, hb⟩
      go_wp2
      go_ret
      exact ⟨rfl, hb⟩
  · have hlen : fr.length ≤ 80 := by
      apply Classical.byContradiction; intro h; exact hesc (.inr (by omega))
    have hfe : 0 ≤ n → fewB n xss = true := by
      intro h0
      cases e : fewB n xss with
      | true => rfl
      | false => exact absurd (.inl ⟨h0, e⟩) hesc
    have hF : 0 ≤ n → n ≤ 4096 → n ≤ 100 ∧ ∀ (i : Nat) (xs : List Int), xss[i]? = some xs → xs.length ≤ 80 := by
      intro h0 _
      have := few_short (hfe h0)
      exact ⟨by omega, this.2.2⟩
    have hfv : IntsV (gh w) (.slice af fr.length cf) fr := ⟨af, cf, rfl, hf1, hf2, hf3⟩
    clear hesc hf1 hf3
    by_cases h0 : 0 ≤ n
    · have HFE := Lib.hid (hfe h0)
      clear hfe
      go_enter Try.func5, Try.ntmps5
      go_wp2_with fail
      refine (few_any _ n v xss _ (GH.le.refl _) hx).mono ?_
      rintro e w1 ⟨rfl, rfl⟩
      rw [HFE.out]
      go_wp2_with fail
      refine (lists_any _ v xss _ (GH.le.refl _) hx).mono ?_
      rintro e w2 ⟨v1, rfl, hv1, hb1⟩
      have hx1 := hx.mono (below_gh hb1)
      have hf1 := hfv.mono (below_gh hb1)
      go_wp2_with fail
      refine (ints_any _ _ fr _ (GH.le.refl _) hf1).mono ?_
      rintro e w3 ⟨v2, rfl, ho, hb2⟩
      have hv2 := IntsV.ofOwn ho hf2
      have hv12 := hv1.mono (below_gh hb2)
      have hx2 := hx1.mono (below_gh hb2)
      have hf3 := hf1.mono (below_gh hb2)
      have hb12 := hb1.seq hb2
      clear hx1 hf1 hv1 ho hb1 hb2
      go_wp2_with fail
      refine (preach_any _ n v1 v2 xss fr _ hF (GH.le.refl _) hv12 hv2).mono ?_
      rintro e w4 ⟨v4, ins1, rfl, hi1, hv4, hb4⟩
      have hx4 := hx2.mono (below_gh hb4)
      have hf4 := hf3.mono (below_gh hb4)
      have hb14 := hb12.seq hb4
      have HI1 := Lib.hid hi1
      clear hx2 hf3 hb12 hb4 hv12 hv2 hi1
      go_wp2_with fail
      refine (rreach_any _ n v _ xss fr _ (GH.le.refl _) hx4 hf4).mono ?_
      rintro e w5 ⟨v5, ins2, rfl, hi2, hv5, hb5⟩
      have hv45 := hv4.mono (below_gh hb5)
      have hb15 := hb14.seq hb5
      have heq : (if 0 ≤ n ∧ n ≤ 4096 then picked ins1 n.toNat else []) = (if 0 ≤ n ∧ n ≤ 4096 then picked ins2 n.toNat else []) := by
        by_cases hn : 0 ≤ n ∧ n ≤ 4096
        · rw [if_pos hn, if_pos hn, insOk_unique (HI1.out hn.1 hn.2) (hi2 hn.1 hn.2)]
        · rw [if_neg hn, if_neg hn]
      rw [← heq] at hv5
      generalize (if 0 ≤ n ∧ n ≤ 4096 then picked ins1 n.toNat else []) = R at hv45 hv5
      clear heq hi2 HI1 hv4 hx4 hf4 hb14 hb5 hF
      go_wp2_with fail
      refine (same_ints _ v4 v5 R R _ (GH.le.refl _) hv45 hv5).mono ?_
      rintro e w6 ⟨rfl, m, rfl⟩
      rw [decide_eq_true rfl]
      go_wp2_with fail
      refine (awake_any _).mono ?_
      rintro e w7 ⟨rfl, hb7⟩
      go_wp2
      go_ret
      exact ⟨rfl, (below_drewN hb15 m).seq hb7⟩
    · clear hfe
      go_enter Try.func5, Try.ntmps5
      go_wp2_with fail
      refine (lists_any _ v xss _ (GH.le.refl _) hx).mono ?_
      rintro e w2 ⟨v1, rfl, hv1, hb1⟩
      have hx1 := hx.mono (below_gh hb1)
      have hf1 := hfv.mono (below_gh hb1)
      go_wp2_with fail
      refine (ints_any _ _ fr _ (GH.le.refl _) hf1).mono ?_
      rintro e w3 ⟨v2, rfl, ho, hb2⟩
      have hv2 := IntsV.ofOwn ho hf2
      have hv12 := hv1.mono (below_gh hb2)
      have hx2 := hx1.mono (below_gh hb2)
      have hf3 := hf1.mono (below_gh hb2)
      have hb12 := hb1.seq hb2
      clear hx1 hf1 hv1 ho hb1 hb2
      go_wp2_with fail
      refine (preach_any _ n v1 v2 xss fr _ hF (GH.le.refl _) hv12 hv2).mono ?_
      rintro e w4 ⟨v4, ins1, rfl, hi1, hv4, hb4⟩
      have hx4 := hx2.mono (below_gh hb4)
      have hf4 := hf3.mono (below_gh hb4)
      have hb14 := hb12.seq hb4
      have HI1 := Lib.hid hi1
      clear hx2 hf3 hb12 hb4 hv12 hv2 hi1
      go_wp2_with fail
      refine (rreach_any _ n v _ xss fr _ (GH.le.refl _) hx4 hf4).mono ?_
      rintro e w5 ⟨v5, ins2, rfl, hi2, hv5, hb5⟩
      have hv45 := hv4.mono (below_gh hb5)
      have hb15 := hb14.seq hb5
      have heq : (if 0 ≤ n ∧ n ≤ 4096 then picked ins1 n.toNat else []) = (if 0 ≤ n ∧ n ≤ 4096 then picked ins2 n.toNat else []) := by
        by_cases hn : 0 ≤ n ∧ n ≤ 4096
        · rw [if_pos hn, if_pos hn, insOk_unique (HI1.out hn.1 hn.2) (hi2 hn.1 hn.2)]
        · rw [if_neg hn, if_neg hn]
      rw [← heq] at hv5
      generalize (if 0 ≤ n ∧ n ≤ 4096 then picked ins1 n.toNat else []) = R at hv45 hv5
      clear heq hi2 HI1 hv4 hx4 hf4 hb14 hb5 hF
      go_wp2_with fail
      refine (same_ints _ v4 v5 R R _ (GH.le.refl _) hv45 hv5).mono ?_
      rintro e w6 ⟨rfl, m, rfl⟩
      rw [decide_eq_true rfl]
      go_wp2_with fail
      refine (awake_any _).mono ?_
      rintro e w7 ⟨rfl, hb7⟩
      go_wp2
      go_ret
      exact ⟨rfl, (below_drewN hb15 m).seq hb7⟩
theorem lawwalk (n : Int) (v : Value) (xss : List (List Int)) (vf : Value) (fr : List Int) (w : World) (_ : -9223372036854775808 ≤ n ∧ n ≤ 9223372036854775807) (hx : RowsV (gh w) v xss) (hf : IntsV (gh w) vf fr) : Calls Try.prog 5 #[.int .i64 n, v, vf] w (TrueBelow w) := walk n v vf xss fr w hx hf

set_option maxRecDepth 100000 in
theorem GraphReaches_lifted (os : Os) (started : os.Started) (H : Type) (enc : TypeId × Value → H) :
    ReturnsInHanded {} Try.checked os 5 .any (Rows.graphReachesSpec.pre6 enc Try.prog Try.f5 Rows.graphReachesRow.domain false) (Rows.graphReachesSpec.post enc Try.prog Try.f5 false true false false) := by
  refine returnsInHanded_of_change_sized (C := Try.checked) (by kernel_rfl) started (by kernel_rfl) Try.func5
    (ChangeSpec.witness6 (enc := enc) (C := Try.checked) false ⟨#[], #[.int .i64 0, .slice none 0 0, .slice none 0 0], []⟩ 8 (by kernel_rfl) (by kernel_rfl) (by kernel_rfl) (by kernel_rfl)) ?_
  intro W base args ds gs before hval0 hW hcnd hreach _
  have hval : ∀ (j : Nat) t v, Try.f5.params[j]? = some t → args[j]? = some v → Value.okWide Try.prog W .any base t v := hval0
  have hW' := hW
  obtain ⟨p, q, hA0, hV, rfl, hfz, hnd⟩ := hW
  have hA : DataW.TrodAll enc Try.prog W 0 (fun _ => true) true Try.f5.params.toList args.toList ds p := hA0
  rw [Try.params5] at hA hval
  obtain ⟨v0, vs0, d0, ds0, p0, q0, hargs, rfl, rfl, h0, r0⟩ := trodAll_cons hA
  obtain ⟨v1, vs1, d1, ds1, p1, q1, rfl, rfl, rfl, h1, r1⟩ := trodAll_cons r0
  obtain ⟨v2, vs2, d2, ds2, p2, q2, rfl, rfl, rfl, h2, r2⟩ := trodAll_cons r1
  obtain ⟨rfl, rfl, rfl⟩ := trodAll_nil r2
  obtain rfl : args = #[v0, v1, v2] := by cases args; simp_all
  obtain ⟨rfl, rfl⟩ := trodVars_none hV
  obtain ⟨a0, rfl, rfl, rfl, w0⟩ := open_int Try.underlying3 (hval 0 3 v0 rfl rfl) h0
  obtain ⟨a1, len1, cap1, rfl⟩ := okWide_slice Try.underlying22 (hval 1 22 v1 rfl rfl)
  have k1 := h1
  have lt1 : ∀ x ∈ p1, x.block < W.heap.size := by obtain ⟨m, hm⟩ := k1; exact DataW.trod_lt m _ _ _ hm
  have wg1 : ∀ n ∈ d1.weights Try.prog 22, n ≤ reachBytes := fun n hn => by simpa using List.all_eq_true.1 hreach n (DataW.weights_mem_each (j := 1) (t := 22) (d := d1) (by rw [show Try.checked.prog = Try.prog from rfl, Try.params5]; rfl) rfl n hn)
  obtain ⟨x1, o1⟩ : ∃ xss, RowsV (gh W) (.slice a1 len1 cap1) xss := by obtain ⟨fuel, hf⟩ := h1; exact rowsV_open Try.underlying22 Try.underlying26 Try.underlying3 (by kernel_rfl) (by kernel_rfl) (by kernel_rfl) (by kernel_rfl) hf wg1
  obtain ⟨a2, len2, cap2, rfl⟩ := okWide_slice Try.underlying26 (hval 2 26 v2 rfl rfl)
  have k2 := h2
  have lt2 : ∀ x ∈ p2, x.block < W.heap.size := by obtain ⟨m, hm⟩ := k2; exact DataW.trod_lt m _ _ _ hm
  have wg2 : ∀ n ∈ d2.weights Try.prog 26, n ≤ reachBytes := fun n hn => by simpa using List.all_eq_true.1 hreach n (DataW.weights_mem_each (j := 2) (t := 26) (d := d2) (by rw [show Try.checked.prog = Try.prog from rfl, Try.params5]; rfl) rfl n hn)
  obtain ⟨x2, o2, _⟩ : ∃ xs : List Int, IntsV (gh W) (.slice a2 len2 cap2) xs ∧ (∀ x ∈ xs, (Lit.int .i64 x).wf = true) := by obtain ⟨fuel, hf⟩ := h2; exact intsV_open Try.underlying26 Try.underlying3 (by kernel_rfl) (by kernel_rfl) hf wg2
  clear hA0 hval0
  refine (lawwalk a0 _ x1 _ x2 W (wf_i64 w0) o1 o2).mono fun e W' ⟨he, bel⟩ => ?_
  subst he
  exact ⟨_, rfl, _, _, _, [], _, [], hW', trodAll_mk1 (shut_bool Try.underlying4 _), (trodAll_cons_mk (shut_int Try.underlying3 w0) (trodAll_cons_mk (Below.trod (by kernel_rfl) (by kernel_rfl) (of_decide_eq_true (by kernel_rfl)) k1 bel lt1) (trodAll_cons_mk (Below.trod (by kernel_rfl) (by kernel_rfl) (of_decide_eq_true (by kernel_rfl)) k2 bel lt2) trodAll_mk0))), rfl, bel.frame _, fun h => by cases h⟩

theorem GraphReaches_over : Rows.graphReachesRow.holds Try.pinned (OpenSpec.ofChange Rows.graphReachesSpec) :=
  OpenClaim.holds_of_wide 5 Try.f5 rfl rfl rfl rfl rfl rfl rfl ⟨rfl, rfl, rfl, rfl, rfl⟩ rfl rfl rfl rfl rfl (by kernel_rfl) Try.func5 (by kernel_rfl)
    (of_decide_eq_true (by kernel_rfl)) (by unfold Func.isWrapper; first | (rw [if_pos (by decide +kernel)]; kernel_rfl) | (rw [if_neg (by decide +kernel)]; exact ⟨rfl, rfl⟩))
    (fun os started H enc _ => GraphReaches_lifted os started H enc)

theorem GraphReaches_holds : Rows.GraphReachesSaid := GraphReaches_over
#print axioms GraphReaches_holds

end Go.Proofs.Ytoaomedlgmnopaa.GraphReaches
