/- The program's Order and Stuck answer as the document's do, for any needs: the law GraphOrders returns true and leaves its arguments as they were. No condition. -/
import Derived.Test.YtoaomedlgmnopaaW8
import Derived.Test.YtoaomedlgmnopaaO
namespace Go.Proofs.Ytoaomedlgmnopaa
open Go.RowKit Pal Pal.Graph Go.ChangeShapes Go.WideShapes Go.ChangeAt

theorem few_short {n : Int} {xss : List (List Int)} (h : fewB n xss = true) : n ≤ 60 ∧ xss.length ≤ 80 ∧ ∀ (i : Nat) (xs : List Int), xss[i]? = some xs → xs.length ≤ 80 := by
  simp only [fewB, Bool.and_eq_true, List.all_eq_true, decide_eq_true_eq] at h
  exact ⟨h.1.1, h.1.2, fun i xs hi => h.2 xs (List.mem_of_getElem? hi)⟩

set_option maxHeartbeats 1000000 in
theorem orders_walk (n : Int) (v : Value) (xss : List (List Int)) (w : World) (hx : RowsV (gh w) v xss) : Calls Try.prog 3 #[.int .i64 n, v] w (TrueBelow w) := by
  by_cases hesc : 0 ≤ n ∧ fewB n xss = false
  · obtain ⟨h0, hf⟩ := hesc
    have HF := Lib.hid hf; clear hf
    go_enter Try.func3, Try.ntmps3
    go_wp2_with fail
    refine (few_any _ n v xss _ (GH.le.refl _) hx).mono ?_
    rintro e w1 ⟨rfl, rfl⟩
    rw [HF.out]
    go_wp2_with fail
    refine (awake_any _).mono ?_
    rintro e w2 ⟨rfl, hb⟩
    go_wp2
    go_ret
    exact ⟨rfl, hb⟩
  · have hF : 0 ≤ n → n ≤ 4096 → n ≤ 100 ∧ ∀ (i : Nat) (xs : List Int), xss[i]? = some xs → xs.length ≤ 80 := by
      intro h0 _
      have hf : fewB n xss = true := by
        cases e : fewB n xss with
        | true => rfl
        | false => exact absurd ⟨h0, e⟩ hesc
      have := few_short hf
      exact ⟨by omega, this.2.2⟩
    by_cases h0 : 0 ≤ n
    · have hf : fewB n xss = true := by
        cases e : fewB n xss with
        | true => rfl
        | false => exact absurd ⟨h0, e⟩ hesc
      have HF := Lib.hid hf; clear hf
      clear hesc
      go_enter Try.func3, Try.ntmps3
      go_wp2_with fail
      refine (few_any _ n v xss _ (GH.le.refl _) hx).mono ?_
      rintro e w1 ⟨rfl, rfl⟩
      rw [HF.out]
      go_wp2_with fail
      refine (lists_any _ v xss _ (GH.le.refl _) hx).mono ?_
      rintro e w1 ⟨v1, rfl, hv1, hb1⟩
      have hx1 := hx.mono (below_gh hb1)
      obtain ⟨OR, hOR⟩ : ∃ OR, OR = orderS n xss := ⟨_, rfl⟩
      obtain ⟨SR, hSR⟩ : ∃ SR, SR = stuckS n xss := ⟨_, rfl⟩
      go_wp2_with fail
      refine (porder_any _ n v1 xss _ (GH.le.refl _) hv1 hF).mono ?_
      rintro e w2 ⟨v2, rfl, hv2, hb2⟩
      rw [← hOR] at hv2 ⊢
      have HOR := Lib.hid hOR; clear hOR
      have hx2 := hx1.mono (below_gh hb2)
      have hv12 := hv1.mono (below_gh hb2)
      go_wp2_with fail
      refine (rorder_any _ n v xss _ (GH.le.refl _) hx2).mono ?_
      rintro e w3 ⟨v3, rfl, hv3, hb3⟩
      rw [← HOR.out] at hv3 ⊢
      have hv23 := hv2.mono (below_gh hb3)
      have hx3 := hx2.mono (below_gh hb3)
      have hv13 := hv12.mono (below_gh hb3)
      have hb13 := (hb1.seq hb2).seq hb3
      obtain ⟨O1, O2⟩ := OR
      clear hb1 hb2 hb3 hx hx1 hx2 hv1 hv12 hv2
      go_wp2_with fail
      refine (same_ints _ v2 v3 O1 O1 _ (GH.le.refl _) hv23 hv3).mono ?_
      rintro e w4 ⟨rfl, m, rfl⟩
      rw [decide_eq_true rfl]
      go_wp2_with fail
      refine (pstuck_any (gh (w3.drewN m)) n v1 xss _ (GH.le.refl _) (hv13.mono (fun _ _ h => h)) hF).mono ?_
      rintro e w5 ⟨v5, rfl, hv5, hb5⟩
      rw [← hSR] at hv5
      have hb15 := (below_drewN hb13 m).seq hb5
      have hx5 := (hx3.mono (h' := gh (w3.drewN m)) (fun _ _ h => h)).mono (below_gh hb5)
      clear hx3 hv13 hb13 hv23 hv3 hb5 hF
      go_wp2_with fail
      refine (rstuck_any _ n v xss _ (GH.le.refl _) hx5).mono ?_
      rintro e w6 ⟨v6, rfl, hv6, hb6⟩
      rw [← hSR] at hv6
      have hv56 := hv5.mono (below_gh hb6)
      have hb16 := hb15.seq hb6
      clear hx5 hv5 hb15 hb6
      go_wp2_with fail
      refine (same_ints _ v5 v6 SR SR _ (GH.le.refl _) hv56 hv6).mono ?_
      rintro e w7 ⟨rfl, m7, rfl⟩
      rw [decide_eq_true rfl]
      go_wp2_with fail
      refine (awake_any _).mono ?_
      rintro e w8 ⟨rfl, hb8⟩
      go_wp2
      go_ret
      exact ⟨rfl, (below_drewN hb16 m7).seq hb8⟩
    · clear hesc
      go_enter Try.func3, Try.ntmps3
      go_wp2_with fail
      refine (lists_any _ v xss _ (GH.le.refl _) hx).mono ?_
      rintro e w1 ⟨v1, rfl, hv1, hb1⟩
      have hx1 := hx.mono (below_gh hb1)
      obtain ⟨OR, hOR⟩ : ∃ OR, OR = orderS n xss := ⟨_, rfl⟩
      obtain ⟨SR, hSR⟩ : ∃ SR, SR = stuckS n xss := ⟨_, rfl⟩
      go_wp2_with fail
      refine (porder_any _ n v1 xss _ (GH.le.refl _) hv1 hF).mono ?_
      rintro e w2 ⟨v2, rfl, hv2, hb2⟩
      rw [← hOR] at hv2 ⊢
      have HOR := Lib.hid hOR; clear hOR
      have hx2 := hx1.mono (below_gh hb2)
      have hv12 := hv1.mono (below_gh hb2)
      go_wp2_with fail
      refine (rorder_any _ n v xss _ (GH.le.refl _) hx2).mono ?_
      rintro e w3 ⟨v3, rfl, hv3, hb3⟩
      rw [← HOR.out] at hv3 ⊢
      have hv23 := hv2.mono (below_gh hb3)
      have hx3 := hx2.mono (below_gh hb3)
      have hv13 := hv12.mono (below_gh hb3)
      have hb13 := (hb1.seq hb2).seq hb3
      obtain ⟨O1, O2⟩ := OR
      clear hb1 hb2 hb3 hx hx1 hx2 hv1 hv12 hv2
      go_wp2_with fail
      refine (same_ints _ v2 v3 O1 O1 _ (GH.le.refl _) hv23 hv3).mono ?_
      rintro e w4 ⟨rfl, m, rfl⟩
      rw [decide_eq_true rfl]
      go_wp2_with fail
      refine (pstuck_any (gh (w3.drewN m)) n v1 xss _ (GH.le.refl _) (hv13.mono (fun _ _ h => h)) hF).mono ?_
      rintro e w5 ⟨v5, rfl, hv5, hb5⟩
      rw [← hSR] at hv5
      have hb15 := (below_drewN hb13 m).seq hb5
      have hx5 := (hx3.mono (h' := gh (w3.drewN m)) (fun _ _ h => h)).mono (below_gh hb5)
      clear hx3 hv13 hb13 hv23 hv3 hb5 hF
      go_wp2_with fail
      refine (rstuck_any _ n v xss _ (GH.le.refl _) hx5).mono ?_
      rintro e w6 ⟨v6, rfl, hv6, hb6⟩
      rw [← hSR] at hv6
      have hv56 := hv5.mono (below_gh hb6)
      have hb16 := hb15.seq hb6
      clear hx5 hv5 hb15 hb6
      go_wp2_with fail
      refine (same_ints _ v5 v6 SR SR _ (GH.le.refl _) hv56 hv6).mono ?_
      rintro e w7 ⟨rfl, m7, rfl⟩
      rw [decide_eq_true rfl]
      go_wp2_with fail
      refine (awake_any _).mono ?_
      rintro e w8 ⟨rfl, hb8⟩
      go_wp2
      go_ret
      exact ⟨rfl, (below_drewN hb16 m7).seq hb8⟩

theorem own : ownKnob Try.prog.godebug = none := by kernel_rfl
theorem laidOut : laidOutB Try.prog = true := by kernel_rfl

set_option maxRecDepth 100000 in
theorem GraphOrders_lifted (os : Os) (started : os.Started) (H : Type) (enc : TypeId × Value → H) :
    ReturnsInHanded {} Try.checked os 3 .any (Rows.graphOrdersSpec.pre6 enc Try.prog Try.f3 Rows.graphOrdersRow.domain false) (Rows.graphOrdersSpec.post enc Try.prog Try.f3 false true false false) := by
  refine returnsInHanded_of_change_sized (C := Try.checked) own started (by kernel_rfl) Try.func3
    (ChangeSpec.witness6 (enc := enc) (C := Try.checked) false ⟨#[], #[.int .i64 0, .slice none 0 0], []⟩ 8 (by kernel_rfl) (by kernel_rfl) (by kernel_rfl) (by kernel_rfl)) ?_
  intro W base args ds gs before hval0 hW hcnd hreach _
  have hval : ∀ (j : Nat) t v, Try.f3.params[j]? = some t → args[j]? = some v → Value.okWide Try.prog W .any base t v := hval0
  have hW' := hW
  obtain ⟨p, q, hA0, hV, rfl, hfz, hnd⟩ := hW
  have hA : DataW.TrodAll enc Try.prog W 0 (fun _ => true) true Try.f3.params.toList args.toList ds p := hA0
  rw [Try.params3] at hA hval
  obtain ⟨v0, vs0, d0, ds0, p0, q0, hargs, rfl, rfl, h0, r0⟩ := trodAll_cons hA
  obtain ⟨v1, vs1, d1, ds1, p1, q1, rfl, rfl, rfl, h1, r1⟩ := trodAll_cons r0
  obtain ⟨rfl, rfl, rfl⟩ := trodAll_nil r1
  obtain rfl : args = #[v0, v1] := by cases args; simp_all
  obtain ⟨rfl, rfl⟩ := trodVars_none hV
  obtain ⟨a0, rfl, rfl, rfl, w0⟩ := open_int Try.underlying3 (hval 0 3 v0 rfl rfl) h0
  obtain ⟨a1, len1, cap1, rfl⟩ := okWide_slice Try.underlying22 (hval 1 22 v1 rfl rfl)
  have k1 := h1
  have lt1 : ∀ x ∈ p1, x.block < W.heap.size := by obtain ⟨m, hm⟩ := k1; exact DataW.trod_lt m _ _ _ hm
  obtain ⟨x1, o1⟩ : ∃ xss, RowsV (gh W) (.slice a1 len1 cap1) xss := by
    obtain ⟨fuel, hf⟩ := h1
    refine rowsV_open Try.underlying22 Try.underlying26 Try.underlying3 (by kernel_rfl) (by kernel_rfl) (by kernel_rfl) (by kernel_rfl) hf (fun n hn => ?_)
    have := List.all_eq_true.1 hreach n (DataW.weights_mem_each (j := 1) (t := 22) (d := d1) (by rw [show Try.checked.prog = Try.prog from rfl, Try.params3]; rfl) rfl n hn)
    simpa using this
  clear hA0 hval0
  refine (orders_walk a0 _ x1 W o1).mono fun e W' ⟨he, bel⟩ => ?_
  subst he
  exact ⟨_, rfl, _, _, _, [], _, [], hW', trodAll_mk1 (shut_bool Try.underlying4 _), (trodAll_cons_mk (shut_int Try.underlying3 w0) (trodAll_cons_mk (Below.trod laidOut (by kernel_rfl) (of_decide_eq_true (by kernel_rfl)) k1 bel lt1) trodAll_mk0)), rfl, bel.frame _, fun h => by cases h⟩

theorem GraphOrders_over : Rows.graphOrdersRow.holds Try.pinned (OpenSpec.ofChange Rows.graphOrdersSpec) :=
  OpenClaim.holds_of_wide 3 Try.f3 rfl rfl rfl rfl rfl rfl rfl ⟨rfl, rfl, rfl, rfl, rfl⟩ rfl rfl rfl rfl rfl (by kernel_rfl) Try.func3 (by kernel_rfl)
    (of_decide_eq_true (by kernel_rfl)) (by unfold Func.isWrapper; first | (rw [if_pos (by decide +kernel)]; kernel_rfl) | (rw [if_neg (by decide +kernel)]; exact ⟨rfl, rfl⟩))
    (fun os started H enc _ => GraphOrders_lifted os started H enc)

theorem GraphOrders_holds : Rows.GraphOrdersSaid := GraphOrders_over
#print axioms GraphOrders_holds
end Go.Proofs.Ytoaomedlgmnopaa
