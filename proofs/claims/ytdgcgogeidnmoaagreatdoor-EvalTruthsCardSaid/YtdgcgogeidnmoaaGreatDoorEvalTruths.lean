/- For every input the law EvalTruths returns true and leaves its arguments as they were; the package-level variables that its row lists are tied to the text of the program (a tied card). Conditions: the row's own. -/
import Derived.Test.YtdgcgogeidnmoaaGreatDoorE21
import Derived.Test.YtdgcgogeidnmoaaGreatDoorR2
import Derived.Test.YtdgcgogeidnmoaaGreatDoorR1
import Derived.Test.YtdgcgogeidnmoaaGreatDoorTie
import Derived.Test.YtdgcgogeidnmoaaGreatDoorCards
import Derived.ChangeMaps5
import Derived.ProofKit
import Derived.OpenShut
import Derived.LaidMore
import Derived.Lay
import Derived.SevenTiedAt
import Derived.Stop.Joined
set_option linter.unusedSimpArgs false
set_option linter.unusedVariables false
namespace Go.Proofs.YtdgcgogeidnmoaaGreatDoor
open Go.RowKit Pal Go.ChangeShapes Go.WideShapes Go.ChangeAt
open Go
theorem EvalTruths_lay {W : World} (h : laidMetH Tryz.prog Rows.evalTruthsRow.laid W) : Lay2 W := by
  rw [MakeChecks.laidMetH_plain _ _ _ (by kernel_rfl)] at h
  exact lay2_of_reads (Go.Lib.laidMet.reads h (by simp [Rows.evalTruthsRow])) (Go.Lib.laidMet.reads h (by simp [Rows.evalTruthsRow])) (Go.Lib.laidMet.reads h (by simp [Rows.evalTruthsRow])) (Go.Lib.laidMet.reads h (by simp [Rows.evalTruthsRow]))
set_option maxRecDepth 1000000 in
theorem EvalTruths_lifted (os : Os) (started : os.Started) (H : Type) (enc : TypeId × Value → H) :
    ReturnsInHanded {} Tryz.checked os 17 .any (fun w args => (Rows.evalTruthsSpec.pre enc Tryz.prog Tryz.f17 Rows.evalTruthsRow.domain false w args ∧ laidMetH Tryz.prog Rows.evalTruthsRow.laid w) ∧ sizedMet enc Tryz.prog Tryz.f17 (OpenSpec.ofChange Rows.evalTruthsSpec) false w args)
      (Rows.evalTruthsSpec.post enc Tryz.prog Tryz.f17 false true false false) := by
  refine returnsInHanded_of_change_and (C := Tryz.checked) (X := fun w _ => laidMetH Tryz.prog Rows.evalTruthsRow.laid w) (fun _ _ _ hh h => h.of_heap hh) Tryz.own started (by kernel_rfl) Tryz.func17
    (ChangeSpec.witness_shaped (enc := enc) (C := Tryz.checked) (os := os) (X := fun w _ => laidMetH Tryz.prog Rows.evalTruthsRow.laid w) false (World.laidAll Tryz.prog os Rows.evalTruthsRow.laid) #[.int .i64 0, .int .i64 0] 8 (World.laidAll_os _ _ _)
      (World.shaped_of_ZipB (by kernel_rfl) (by kernel_rfl)) (by kernel_rfl) (by kernel_rfl) (by kernel_rfl)
      (by rw [MakeChecks.laidMetH_plain _ _ _ (by kernel_rfl)]; exact laidMet_laidAll _ (by kernel_rfl) (by kernel_rfl))) ?_
  intro W base args ds gs before hval0 hW hcnd hreach hL _
  have hval : ∀ (j : Nat) t v, Tryz.f17.params[j]? = some t → args[j]? = some v → Value.okWide Tryz.prog W .any base t v := hval0
  have hW' := hW
  obtain ⟨p, q, hA0, hV, rfl, hfz, hnd⟩ := hW
  have hA : DataW.TrodAll enc Tryz.prog W 0 (fun _ => true) true Tryz.f17.params.toList args.toList ds p := hA0
  rw [Tryz.params17] at hA hval
  obtain ⟨v0, vs0, d0, ds0, p0, q0, hargs, rfl, rfl, h0, r0⟩ := trodAll_cons hA
  obtain ⟨v1, vs1, d1, ds1, p1, q1, rfl, rfl, rfl, h1, r1⟩ := trodAll_cons r0
  obtain ⟨rfl, rfl, rfl⟩ := trodAll_nil r1
  obtain rfl : args = #[v0, v1] := by cases args; simp_all
  obtain ⟨rfl, rfl⟩ := trodVars_none hV
  obtain ⟨a0, rfl, rfl, rfl, w0⟩ := open_int Tryz.underlying3 (hval 0 3 v0 rfl rfl) h0
  obtain ⟨a1, rfl, rfl, rfl, w1⟩ := open_int Tryz.underlying3 (hval 1 3 v1 rfl rfl) h1
  have hlay := EvalTruths_lay hL
  clear hA0 hval0 hL
  refine (eval_truths_walk a0 a1 W hlay (wf_i64 w0) (wf_i64 w1)).mono fun e W' ⟨he, bel⟩ => ?_
  subst he
  exact ⟨_, rfl, _, _, _, [], _, [], hW', trodAll_mk1 (shut_bool Tryz.underlying4 _), (trodAll_cons_mk (shut_int Tryz.underlying3 w0) (trodAll_cons_mk (shut_int Tryz.underlying3 w1) trodAll_mk0)), rfl, bel.frame _, fun h => by cases h⟩
set_option maxRecDepth 1000000 in
theorem EvalTruths_f_wf : Rows.evalTruthsRow.wf (OpenSpec.ofChange Rows.evalTruthsSpec) = true := by kernel_rfl
set_option maxRecDepth 1000000 in
theorem EvalTruths_f_tie : namedTie Tryz.prog Rows.evalTruthsRow.named Rows.evalTruthsSpec.vars = true := by kernel_rfl
set_option maxRecDepth 1000000 in
theorem EvalTruths_f_place : (Rows.evalTruthsRow.inPlace == Tryz.prog.inPlace 17) = true := by kernel_rfl
set_option maxRecDepth 1000000 in
theorem EvalTruths_f_unf : (Rows.evalTruthsRow.unfollowed == Tryz.prog.unfollowed 17) = true := by kernel_rfl
set_option maxRecDepth 1000000 in
theorem EvalTruths_f_rec : (Rows.evalTruthsRow.recurses == Tryz.prog.recurses 17) = true := by kernel_rfl
set_option maxRecDepth 1000000 in
theorem EvalTruths_f_named : (Rows.evalTruthsRow.named == Tryz.prog.varsNamed 17) = true := by kernel_rfl
set_option maxRecDepth 1000000 in
theorem EvalTruths_f_loops : (Rows.evalTruthsRow.loops == (Tryz.f17.params.toList ++ Rows.evalTruthsSpec.plain.varTypes Tryz.prog).any (Tryz.prog.loopsFrom ·)) = true := by kernel_rfl
set_option maxRecDepth 1000000 in
theorem EvalTruths_f_read : Rows.evalTruthsSpec.vars.all (Tryz.prog.varReadable ·) = true := by kernel_rfl
set_option maxRecDepth 1000000 in
theorem EvalTruths_f_pin : (Rows.evalTruthsRow.pinned == Rows.evalTruthsRow.pinnedBy) = true := by kernel_rfl
set_option maxRecDepth 1000000 in
theorem EvalTruths_f_text : Rows.evalTruthsRow.wfByText (OpenSpec.ofChange Rows.evalTruthsSpec) = true := by kernel_rfl
set_option maxRecDepth 1000000 in
theorem EvalTruths_f_goes : false = Rows.evalTruthsRow.goesBy Tryz.prog := by kernel_rfl
set_option maxRecDepth 1000000 in
theorem EvalTruths_closed : joinedFacts Tryz.prog 17 Tryz.f17 Rows.evalTruthsSpec Rows.evalTruthsRow = true := by
  unfold joinedFacts
  simp only [Bool.and_eq_true]
  exact ⟨⟨⟨⟨⟨⟨⟨⟨⟨⟨⟨⟨⟨⟨⟨⟨⟨⟨⟨⟨⟨⟨⟨⟨⟨⟨⟨⟨⟨⟨⟨EvalTruths_f_wf, zf_laid⟩, zf_maps⟩, (by kernel_rfl)⟩, EvalTruths_f_tie⟩, (by kernel_rfl)⟩, (by kernel_rfl)⟩, (by kernel_rfl)⟩, (by kernel_rfl)⟩, EvalTruths_f_place⟩, EvalTruths_f_unf⟩, EvalTruths_f_rec⟩, EvalTruths_f_named⟩, (by kernel_rfl)⟩, (by kernel_rfl)⟩, (by kernel_rfl)⟩, EvalTruths_f_loops⟩, (by kernel_rfl)⟩, EvalTruths_f_read⟩, (by kernel_rfl)⟩, (by kernel_rfl)⟩, (by kernel_rfl)⟩, zf_keys⟩, (by kernel_rfl)⟩, zf_heard⟩, zf_enter⟩, zf_lift⟩, (by kernel_rfl)⟩, (by kernel_rfl)⟩, EvalTruths_f_pin⟩, (by kernel_rfl)⟩, (by kernel_rfl)⟩
theorem EvalTruths_row : Rows.EvalTruthsSaid :=
  OpenClaim.holds_of_wide 17 Tryz.f17 rfl rfl rfl rfl rfl rfl rfl ⟨rfl, rfl, rfl, rfl, rfl⟩ rfl rfl rfl rfl rfl (by kernel_rfl) Tryz.func17 EvalTruths_closed
    (of_decide_eq_true (by kernel_rfl)) (by unfold Func.isWrapper; first | (rw [if_pos (by decide +kernel)]; kernel_rfl) | (rw [if_neg (by decide +kernel)]; exact ⟨rfl, rfl⟩))
    (fun os started H enc _ => EvalTruths_lifted os started H enc)
theorem EvalTruths_holds : Rows.EvalTruthsCardSaid :=
  Claim7.holds_tied_plain_at .later [] [.data, .data, .data, .data, .sentinel, .sentinel, .pinned] true (true, "b73eb926ec280bbb226f98bb6f60ef1faacfc7ff99817bf54b86fce97a9212d9") true
    EvalTruths_row (fun _ h => by cases h) EvalTruths_f_text (fun _ h => by cases h) evalTruths_row_tie rfl ⟨rfl, rfl⟩ (by kernel_rfl) rfl
    (fun f fn hf hfn => by
      obtain rfl : f = 17 := Option.some.inj ((show Tryz.prog.funcNamed "palaver/palaverlaw09.EvalTruths" = some 17 by kernel_rfl).symm.trans hf) |>.symm
      obtain rfl : fn = Tryz.f17 := (Option.some.inj (Tryz.func17.symm.trans hfn)).symm
      exact ⟨by kernel_rfl, fun j t ht => by
        rw [Tryz.params17] at ht
        have hm : t ∈ [3, 3] := by simpa using Array.mem_of_getElem? ht
        have hall : ([3, 3].all fun u => !Tryz.prog.wantsStandIn u) = true := by kernel_rfl
        exact (show Tryz.prog.wantsStandIn t = false by simpa using List.all_eq_true.1 hall t hm)⟩)
    EvalTruths_f_goes
#print axioms EvalTruths_holds
end Go.Proofs.YtdgcgogeidnmoaaGreatDoor
