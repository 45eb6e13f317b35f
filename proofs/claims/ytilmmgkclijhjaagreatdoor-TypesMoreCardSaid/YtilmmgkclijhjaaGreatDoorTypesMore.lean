/- For every input the law TypesMore returns true and leaves its arguments as they were; the package-level variables that its row lists are tied to the text of the program (a tied card). Conditions: the row's own. -/
import Derived.Test.YtilmmgkclijhjaaGreatDoorQM
import Derived.Test.YtilmmgkclijhjaaGreatDoorR2
import Derived.Test.YtilmmgkclijhjaaGreatDoorR4
import Derived.Test.YtilmmgkclijhjaaGreatDoorR3
import Derived.Test.YtilmmgkclijhjaaGreatDoorR2
import Derived.Test.YtilmmgkclijhjaaGreatDoorR4
import Derived.Test.YtilmmgkclijhjaaGreatDoorTie
import Derived.Test.YtilmmgkclijhjaaGreatDoorCards
import Derived.ChangeMaps5
import Derived.ProofKit
import Derived.OpenShut
import Derived.LaidMore
import Derived.Lay
import Derived.SevenTiedAt
import Derived.Stop.Joined
set_option linter.unusedSimpArgs false
set_option linter.unusedVariables false
namespace Go.Proofs.YtilmmgkclijhjaaGreatDoor
open Go.RowKit Pal Go.ChangeShapes Go.WideShapes Go.ChangeAt
open Go
theorem TypesMore_lay {W : World} (h : laidMetH Tryz.prog Rows.typesMoreRow.laid W) : Lay2 W := by
  rw [MakeChecks.laidMetH_plain _ _ _ (by kernel_rfl)] at h
  exact lay2_of_reads (Go.Lib.laidMet.reads h (by simp [Rows.typesMoreRow])) (Go.Lib.laidMet.reads h (by simp [Rows.typesMoreRow])) (Go.Lib.laidMet.reads h (by simp [Rows.typesMoreRow])) (Go.Lib.laidMet.reads h (by simp [Rows.typesMoreRow]))
set_option maxRecDepth 1000000 in
theorem TypesMore_lifted (os : Os) (started : os.Started) (H : Type) (enc : TypeId × Value → H) :
    ReturnsInHanded {} Tryz.checked os 3 .any (fun w args => (Rows.typesMoreSpec.pre enc Tryz.prog Tryz.f3 Rows.typesMoreRow.domain false w args ∧ laidMetH Tryz.prog Rows.typesMoreRow.laid w) ∧ sizedMet enc Tryz.prog Tryz.f3 (OpenSpec.ofChange Rows.typesMoreSpec) false w args)
      (Rows.typesMoreSpec.post enc Tryz.prog Tryz.f3 false true false false) := by
  refine returnsInHanded_of_change_and (C := Tryz.checked) (X := fun w _ => laidMetH Tryz.prog Rows.typesMoreRow.laid w) (fun _ _ _ hh h => h.of_heap hh) Tryz.own started (by kernel_rfl) Tryz.func3
    (ChangeSpec.witness_shaped (enc := enc) (C := Tryz.checked) (os := os) (X := fun w _ => laidMetH Tryz.prog Rows.typesMoreRow.laid w) false (World.laidAll Tryz.prog os Rows.typesMoreRow.laid) #[.agg #[.int .i64 0, .int .i64 0, .string ByteArray.empty, .slice none 0 0], .slice none 0 0, .slice none 0 0, .string ByteArray.empty, .int .i64 0] 8 (World.laidAll_os _ _ _)
      (World.shaped_of_ZipB (by kernel_rfl) (by kernel_rfl)) (by kernel_rfl) (by kernel_rfl) (by kernel_rfl)
      (by rw [MakeChecks.laidMetH_plain _ _ _ (by kernel_rfl)]; exact laidMet_laidAll _ (by kernel_rfl) (by kernel_rfl))) ?_
  intro W base args ds gs before hval0 hW hcnd hreach hL _
  have hval : ∀ (j : Nat) t v, Tryz.f3.params[j]? = some t → args[j]? = some v → Value.okWide Tryz.prog W .any base t v := hval0
  have hW' := hW
  obtain ⟨p, q, hA0, hV, rfl, hfz, hnd⟩ := hW
  have hA : DataW.TrodAll enc Tryz.prog W 0 (fun _ => true) true Tryz.f3.params.toList args.toList ds p := hA0
  rw [Tryz.params3] at hA hval
  obtain ⟨v0, vs0, d0, ds0, p0, q0, hargs, rfl, rfl, h0, r0⟩ := trodAll_cons hA
  obtain ⟨v1, vs1, d1, ds1, p1, q1, rfl, rfl, rfl, h1, r1⟩ := trodAll_cons r0
  obtain ⟨v2, vs2, d2, ds2, p2, q2, rfl, rfl, rfl, h2, r2⟩ := trodAll_cons r1
  obtain ⟨v3, vs3, d3, ds3, p3, q3, rfl, rfl, rfl, h3, r3⟩ := trodAll_cons r2
  obtain ⟨v4, vs4, d4, ds4, p4, q4, rfl, rfl, rfl, h4, r4⟩ := trodAll_cons r3
  obtain ⟨rfl, rfl, rfl⟩ := trodAll_nil r4
  obtain rfl : args = #[v0, v1, v2, v3, v4] := by cases args; simp_all
  obtain ⟨rfl, rfl⟩ := trodVars_none hV
  have k0 := h0
  have lt0 : ∀ x ∈ p0, x.block < W.heap.size := by obtain ⟨m, hm⟩ := k0; exact DataW.trod_lt m _ _ _ hm
  obtain ⟨a0, x0, o0⟩ := ex_open (hval 0 24 v0 rfl rfl) h0
  have k1 := h1
  have lt1 : ∀ x ∈ p1, x.block < W.heap.size := by obtain ⟨m, hm⟩ := k1; exact DataW.trod_lt m _ _ _ hm
  obtain ⟨a1, x1, o1⟩ := strs_open (hval 1 25 v1 rfl rfl) h1
  have k2 := h2
  have lt2 : ∀ x ∈ p2, x.block < W.heap.size := by obtain ⟨m, hm⟩ := k2; exact DataW.trod_lt m _ _ _ hm
  obtain ⟨a2, x2, o2⟩ := ints_open (hval 2 26 v2 rfl rfl) h2
  obtain ⟨a3, rfl, rfl, rfl, w3⟩ := Go.ChangeMaps.open_string Tryz.underlying9 (hval 3 9 v3 rfl rfl) h3
  obtain ⟨a4, rfl, rfl, rfl, w4⟩ := open_int Tryz.underlying3 (hval 4 3 v4 rfl rfl) h4
  have hlay := TypesMore_lay hL
  clear hA0 hval0 hL
  refine (typesmore_walk a0 _ a1 _ a2 _ a3 a4 W hlay x0 o0 x1 o1 (strs_nil k1) x2 o2 (by have := w3; unfold maxLen at this; exact this) (wf_i64 w4)).mono fun e W' ⟨he, bel⟩ => ?_
  subst he
  exact ⟨_, rfl, _, _, _, [], _, [], hW', trodAll_mk1 (shut_bool Tryz.underlying4 _), (trodAll_cons_mk (Below.trod (by kernel_rfl) (by kernel_rfl) (of_decide_eq_true (by kernel_rfl)) k0 bel lt0) (trodAll_cons_mk (Below.trod (by kernel_rfl) (by kernel_rfl) (of_decide_eq_true (by kernel_rfl)) k1 bel lt1) (trodAll_cons_mk (Below.trod (by kernel_rfl) (by kernel_rfl) (of_decide_eq_true (by kernel_rfl)) k2 bel lt2) (trodAll_cons_mk (Go.ChangeMaps.shut_string Tryz.underlying9 w3) (trodAll_cons_mk (shut_int Tryz.underlying3 w4) trodAll_mk0))))), rfl, bel.frame _, fun h => by cases h⟩
set_option maxRecDepth 1000000 in
theorem TypesMore_f_wf : Rows.typesMoreRow.wf (OpenSpec.ofChange Rows.typesMoreSpec) = true := by kernel_rfl
set_option maxRecDepth 1000000 in
theorem TypesMore_f_tie : namedTie Tryz.prog Rows.typesMoreRow.named Rows.typesMoreSpec.vars = true := by kernel_rfl
set_option maxRecDepth 1000000 in
theorem TypesMore_f_place : (Rows.typesMoreRow.inPlace == Tryz.prog.inPlace 3) = true := by kernel_rfl
set_option maxRecDepth 1000000 in
theorem TypesMore_f_unf : (Rows.typesMoreRow.unfollowed == Tryz.prog.unfollowed 3) = true := by kernel_rfl
set_option maxRecDepth 1000000 in
theorem TypesMore_f_rec : (Rows.typesMoreRow.recurses == Tryz.prog.recurses 3) = true := by kernel_rfl
set_option maxRecDepth 1000000 in
theorem TypesMore_f_named : (Rows.typesMoreRow.named == Tryz.prog.varsNamed 3) = true := by kernel_rfl
set_option maxRecDepth 1000000 in
theorem TypesMore_f_loops : (Rows.typesMoreRow.loops == (Tryz.f3.params.toList ++ Rows.typesMoreSpec.plain.varTypes Tryz.prog).any (Tryz.prog.loopsFrom ·)) = true := by kernel_rfl
set_option maxRecDepth 1000000 in
theorem TypesMore_f_read : Rows.typesMoreSpec.vars.all (Tryz.prog.varReadable ·) = true := by kernel_rfl
set_option maxRecDepth 1000000 in
theorem TypesMore_f_pin : (Rows.typesMoreRow.pinned == Rows.typesMoreRow.pinnedBy) = true := by kernel_rfl
set_option maxRecDepth 1000000 in
theorem TypesMore_f_text : Rows.typesMoreRow.wfByText (OpenSpec.ofChange Rows.typesMoreSpec) = true := by kernel_rfl
set_option maxRecDepth 1000000 in
theorem TypesMore_f_goes : false = Rows.typesMoreRow.goesBy Tryz.prog := by kernel_rfl
set_option maxRecDepth 1000000 in
theorem TypesMore_closed : joinedFacts Tryz.prog 3 Tryz.f3 Rows.typesMoreSpec Rows.typesMoreRow = true := by
  unfold joinedFacts
  simp only [Bool.and_eq_true]
  exact ⟨⟨⟨⟨⟨⟨⟨⟨⟨⟨⟨⟨⟨⟨⟨⟨⟨⟨⟨⟨⟨⟨⟨⟨⟨⟨⟨⟨⟨⟨⟨TypesMore_f_wf, zf_laid⟩, zf_maps⟩, (by kernel_rfl)⟩, TypesMore_f_tie⟩, (by kernel_rfl)⟩, (by kernel_rfl)⟩, (by kernel_rfl)⟩, (by kernel_rfl)⟩, TypesMore_f_place⟩, TypesMore_f_unf⟩, TypesMore_f_rec⟩, TypesMore_f_named⟩, (by kernel_rfl)⟩, (by kernel_rfl)⟩, (by kernel_rfl)⟩, TypesMore_f_loops⟩, (by kernel_rfl)⟩, TypesMore_f_read⟩, (by kernel_rfl)⟩, (by kernel_rfl)⟩, (by kernel_rfl)⟩, zf_keys⟩, (by kernel_rfl)⟩, zf_heard⟩, zf_enter⟩, zf_lift⟩, (by kernel_rfl)⟩, (by kernel_rfl)⟩, TypesMore_f_pin⟩, (by kernel_rfl)⟩, (by kernel_rfl)⟩
theorem TypesMore_row : Rows.TypesMoreSaid :=
  OpenClaim.holds_of_wide 3 Tryz.f3 rfl rfl rfl rfl rfl rfl rfl ⟨rfl, rfl, rfl, rfl, rfl⟩ rfl rfl rfl rfl rfl (by kernel_rfl) Tryz.func3 TypesMore_closed
    (of_decide_eq_true (by kernel_rfl)) (by unfold Func.isWrapper; first | (rw [if_pos (by decide +kernel)]; kernel_rfl) | (rw [if_neg (by decide +kernel)]; exact ⟨rfl, rfl⟩))
    (fun os started H enc _ => TypesMore_lifted os started H enc)
theorem TypesMore_holds : Rows.TypesMoreCardSaid :=
  Claim7.holds_tied_plain_at .later [] [.data, .data, .data, .data, .sentinel, .sentinel, .pinned] true (true, "c5237ebe06d5681a3a36cfcc139ede28d1c17f0aab2e2801c6a8b12e249b14a1") true
    TypesMore_row (fun _ h => by cases h) TypesMore_f_text (fun _ h => by cases h) typesMore_row_tie rfl ⟨rfl, rfl⟩ (by kernel_rfl) rfl
    (fun f fn hf hfn => by
      obtain rfl : f = 3 := Option.some.inj ((show Tryz.prog.funcNamed "palaver/palaverlaw08.TypesMore" = some 3 by kernel_rfl).symm.trans hf) |>.symm
      obtain rfl : fn = Tryz.f3 := (Option.some.inj (Tryz.func3.symm.trans hfn)).symm
      exact ⟨by kernel_rfl, fun j t ht => by
        rw [Tryz.params3] at ht
        have hm : t ∈ [24, 25, 26, 9, 3] := by simpa using Array.mem_of_getElem? ht
        have hall : ([24, 25, 26, 9, 3].all fun u => !Tryz.prog.wantsStandIn u) = true := by kernel_rfl
        exact (show Tryz.prog.wantsStandIn t = false by simpa using List.all_eq_true.1 hall t hm)⟩)
    TypesMore_f_goes
#print axioms TypesMore_holds
end Go.Proofs.YtilmmgkclijhjaaGreatDoor
