/- For every input the law EvalTexts returns true and leaves its arguments as they were; the package-level variables that its row lists are tied to the text of the program (a tied card). Conditions: the row's own. -/
import Derived.Test.YtfjpdphphieaoaaGreatDoorQE
import Derived.Test.YtfjpdphphieaoaaGreatDoorR2
import Derived.Test.YtfjpdphphieaoaaGreatDoorR4
import Derived.Test.YtfjpdphphieaoaaGreatDoorTie
import Derived.Test.YtfjpdphphieaoaaGreatDoorCards
import Derived.ChangeMaps5
import Derived.ProofKit
import Derived.OpenShut
import Derived.LaidMore
import Derived.Lay
import Derived.SevenTiedAt
import Derived.Stop.Joined
set_option linter.unusedSimpArgs false
set_option linter.unusedVariables false
namespace Go.Proofs.YtfjpdphphieaoaaGreatDoor
open Go.RowKit Pal Go.ChangeShapes Go.WideShapes Go.ChangeAt
open Go
theorem Tryz.own : ownKnob Tryz.prog.godebug = none := by kernel_rfl
theorem EvalTexts_lay {W : World} (h : laidMetH Tryz.prog Rows.evalTextsRow.laid W) : Lay2 W := by
  rw [MakeChecks.laidMetH_plain _ _ _ (by kernel_rfl)] at h
  exact lay2_of_reads (Go.Lib.laidMet.reads h (by simp [Rows.evalTextsRow])) (Go.Lib.laidMet.reads h (by simp [Rows.evalTextsRow])) (Go.Lib.laidMet.reads h (by simp [Rows.evalTextsRow])) (Go.Lib.laidMet.reads h (by simp [Rows.evalTextsRow]))
set_option maxRecDepth 1000000 in
theorem EvalTexts_lifted (os : Os) (started : os.Started) (H : Type) (enc : TypeId × Value → H) :
    ReturnsInHanded {} Tryz.checked os 3 .any (fun w args => (Rows.evalTextsSpec.pre enc Tryz.prog Tryz.f3 Rows.evalTextsRow.domain false w args ∧ laidMetH Tryz.prog Rows.evalTextsRow.laid w) ∧ sizedMet enc Tryz.prog Tryz.f3 (OpenSpec.ofChange Rows.evalTextsSpec) false w args)
      (Rows.evalTextsSpec.post enc Tryz.prog Tryz.f3 false true false false) := by
  refine returnsInHanded_of_change_and (C := Tryz.checked) (X := fun w _ => laidMetH Tryz.prog Rows.evalTextsRow.laid w) (fun _ _ _ hh h => h.of_heap hh) Tryz.own started (by kernel_rfl) Tryz.func3
    (ChangeSpec.witness_shaped (enc := enc) (C := Tryz.checked) (os := os) (X := fun w _ => laidMetH Tryz.prog Rows.evalTextsRow.laid w) false (World.laidAll Tryz.prog os Rows.evalTextsRow.laid) #[.string ByteArray.empty, .slice none 0 0, .slice none 0 0] 8 (World.laidAll_os _ _ _)
      (World.shaped_of_ZipB (by kernel_rfl) (by kernel_rfl)) (by kernel_rfl) (by kernel_rfl) (by kernel_rfl)
      (by rw [MakeChecks.laidMetH_plain _ _ _ (by kernel_rfl)]; exact laidMet_laidAll _ (by kernel_rfl) (by kernel_rfl))) ?_
  intro W base args ds gs before hval0 hW hcnd hreach hL _
  have hval : ∀ (j : Nat) t v, Tryz.f3.params[j]? = some t → args[j]? = some v → Value.okWide Tryz.prog W .any base t v := hval0
  have hW' := hW
  obtain ⟨p, q, hA0, hV, rfl, hfz, hnd⟩ := hW
  have hA : DataW.TrodAll enc Tryz.prog W 0 (fun _ => true) true Tryz.f3.params.toList args.toList ds p := hA0
  rw [Tryz.params3] at hA hval
  obtain ⟨v0, vs0, d0, ds0, p0, q0, hargs, rfl, rfl, h0, r0⟩ := trodAll_cons hA
  obtain ⟨v1, vs1, d1, ds1, p1, q1, rfl, rfl, rfl, h1, r1⟩ := trodAll_cons r0
  obtain ⟨v2, vs2, d2, ds2, p2, q2, rfl, rfl, rfl, h2, r2⟩ := trodAll_cons r1
  obtain ⟨rfl, rfl, rfl⟩ := trodAll_nil r2
  obtain rfl : args = #[v0, v1, v2] := by cases args; simp_all
  obtain ⟨rfl, rfl⟩ := trodVars_none hV
  obtain ⟨a0, rfl, rfl, rfl, w0⟩ := Go.ChangeMaps.open_string Tryz.underlying9 (hval 0 9 v0 rfl rfl) h0
  have k1 := h1
  have lt1 : ∀ x ∈ p1, x.block < W.heap.size := by obtain ⟨m, hm⟩ := k1; exact DataW.trod_lt m _ _ _ hm
  obtain ⟨a1, x1, o1⟩ := strs_open (hval 1 22 v1 rfl rfl) h1
  have k2 := h2
  have lt2 : ∀ x ∈ p2, x.block < W.heap.size := by obtain ⟨m, hm⟩ := k2; exact DataW.trod_lt m _ _ _ hm
  obtain ⟨a2, x2, o2⟩ := vals_open (hval 2 23 v2 rfl rfl) h2
  have hlay := EvalTexts_lay hL
  clear hA0 hval0 hL
  refine (evaltexts_walk a0 a1 _ a2 _ W hlay (by have := w0; unfold maxLen at this; exact this) x1 o1 (strs_nil k1) x2 o2 (vals_nil k2)).mono fun e W' ⟨he, bel⟩ => ?_
  subst he
  exact ⟨_, rfl, _, _, _, [], _, [], hW', trodAll_mk1 (shut_bool Tryz.underlying4 _), (trodAll_cons_mk (Go.ChangeMaps.shut_string Tryz.underlying9 w0) (trodAll_cons_mk (Below.trod (by kernel_rfl) (by kernel_rfl) (of_decide_eq_true (by kernel_rfl)) k1 bel lt1) (trodAll_cons_mk (Below.trod (by kernel_rfl) (by kernel_rfl) (of_decide_eq_true (by kernel_rfl)) k2 bel lt2) trodAll_mk0))), rfl, bel.frame _, fun h => by cases h⟩
set_option maxRecDepth 1000000 in
theorem EvalTexts_f_wf : Rows.evalTextsRow.wf (OpenSpec.ofChange Rows.evalTextsSpec) = true := by kernel_rfl
set_option maxRecDepth 1000000 in
theorem EvalTexts_f_tie : namedTie Tryz.prog Rows.evalTextsRow.named Rows.evalTextsSpec.vars = true := by kernel_rfl
set_option maxRecDepth 1000000 in
theorem EvalTexts_f_place : (Rows.evalTextsRow.inPlace == Tryz.prog.inPlace 3) = true := by kernel_rfl
set_option maxRecDepth 1000000 in
theorem EvalTexts_f_unf : (Rows.evalTextsRow.unfollowed == Tryz.prog.unfollowed 3) = true := by kernel_rfl
set_option maxRecDepth 1000000 in
theorem EvalTexts_f_rec : (Rows.evalTextsRow.recurses == Tryz.prog.recurses 3) = true := by kernel_rfl
set_option maxRecDepth 1000000 in
theorem EvalTexts_f_named : (Rows.evalTextsRow.named == Tryz.prog.varsNamed 3) = true := by kernel_rfl
set_option maxRecDepth 1000000 in
theorem EvalTexts_f_loops : (Rows.evalTextsRow.loops == (Tryz.f3.params.toList ++ Rows.evalTextsSpec.plain.varTypes Tryz.prog).any (Tryz.prog.loopsFrom ·)) = true := by kernel_rfl
set_option maxRecDepth 1000000 in
theorem EvalTexts_f_read : Rows.evalTextsSpec.vars.all (Tryz.prog.varReadable ·) = true := by kernel_rfl
set_option maxRecDepth 1000000 in
theorem EvalTexts_f_pin : (Rows.evalTextsRow.pinned == Rows.evalTextsRow.pinnedBy) = true := by kernel_rfl
set_option maxRecDepth 1000000 in
theorem EvalTexts_f_text : Rows.evalTextsRow.wfByText (OpenSpec.ofChange Rows.evalTextsSpec) = true := by kernel_rfl
set_option maxRecDepth 1000000 in
theorem EvalTexts_f_goes : false = Rows.evalTextsRow.goesBy Tryz.prog := by kernel_rfl
set_option maxRecDepth 1000000 in
theorem EvalTexts_closed : joinedFacts Tryz.prog 3 Tryz.f3 Rows.evalTextsSpec Rows.evalTextsRow = true := by
  unfold joinedFacts
  simp only [Bool.and_eq_true]
  exact ⟨⟨⟨⟨⟨⟨⟨⟨⟨⟨⟨⟨⟨⟨⟨⟨⟨⟨⟨⟨⟨⟨⟨⟨⟨⟨⟨⟨⟨⟨⟨EvalTexts_f_wf, zf_laid⟩, zf_maps⟩, (by kernel_rfl)⟩, EvalTexts_f_tie⟩, (by kernel_rfl)⟩, (by kernel_rfl)⟩, (by kernel_rfl)⟩, (by kernel_rfl)⟩, EvalTexts_f_place⟩, EvalTexts_f_unf⟩, EvalTexts_f_rec⟩, EvalTexts_f_named⟩, (by kernel_rfl)⟩, (by kernel_rfl)⟩, (by kernel_rfl)⟩, EvalTexts_f_loops⟩, (by kernel_rfl)⟩, EvalTexts_f_read⟩, (by kernel_rfl)⟩, (by kernel_rfl)⟩, (by kernel_rfl)⟩, zf_keys⟩, (by kernel_rfl)⟩, zf_heard⟩, zf_enter⟩, zf_lift⟩, (by kernel_rfl)⟩, (by kernel_rfl)⟩, EvalTexts_f_pin⟩, (by kernel_rfl)⟩, (by kernel_rfl)⟩
theorem EvalTexts_row : Rows.EvalTextsSaid :=
  OpenClaim.holds_of_wide 3 Tryz.f3 rfl rfl rfl rfl rfl rfl rfl ⟨rfl, rfl, rfl, rfl, rfl⟩ rfl rfl rfl rfl rfl (by kernel_rfl) Tryz.func3 EvalTexts_closed
    (of_decide_eq_true (by kernel_rfl)) (by unfold Func.isWrapper; first | (rw [if_pos (by decide +kernel)]; kernel_rfl) | (rw [if_neg (by decide +kernel)]; exact ⟨rfl, rfl⟩))
    (fun os started H enc _ => EvalTexts_lifted os started H enc)
theorem EvalTexts_holds : Rows.EvalTextsCardSaid :=
  Claim7.holds_tied_plain_at .later [] [.data, .data, .data, .data, .sentinel, .sentinel, .pinned] true (true, "dc61f6bbbc5cc770ab7c361bf8de2a28be832e111238d49d3c94649ba285837d") true
    EvalTexts_row (fun _ h => by cases h) EvalTexts_f_text (fun _ h => by cases h) evalTexts_row_tie rfl ⟨rfl, rfl⟩ (by kernel_rfl) rfl
    (fun f fn hf hfn => by
      obtain rfl : f = 3 := Option.some.inj ((show Tryz.prog.funcNamed "palaver/palaverlaw09.EvalTexts" = some 3 by kernel_rfl).symm.trans hf) |>.symm
      obtain rfl : fn = Tryz.f3 := (Option.some.inj (Tryz.func3.symm.trans hfn)).symm
      exact ⟨by kernel_rfl, fun j t ht => by
        rw [Tryz.params3] at ht
        have hm : t ∈ [9, 22, 23] := by simpa using Array.mem_of_getElem? ht
        have hall : ([9, 22, 23].all fun u => !Tryz.prog.wantsStandIn u) = true := by kernel_rfl
        exact (show Tryz.prog.wantsStandIn t = false by simpa using List.all_eq_true.1 hall t hm)⟩)
    EvalTexts_f_goes
#print axioms EvalTexts_holds
end Go.Proofs.YtfjpdphphieaoaaGreatDoor
