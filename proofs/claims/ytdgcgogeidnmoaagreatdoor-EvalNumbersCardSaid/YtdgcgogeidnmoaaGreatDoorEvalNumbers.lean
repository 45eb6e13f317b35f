/- For every input the law EvalNumbers returns true and leaves its arguments as they were; the package-level variables that its row lists are tied to the text of the program (a tied card). Conditions: the row's own. -/
import Derived.Test.YtdgcgogeidnmoaaGreatDoorE19
import Derived.Test.YtdgcgogeidnmoaaGreatDoorR2
import Derived.Test.YtdgcgogeidnmoaaGreatDoorR1
import Derived.Test.YtdgcgogeidnmoaaGreatDoorTie
import Derived.Test.YtdgcgogeidnmoaaGreatDoorCards
import Derived.ChangeMaps5
import Derived.ProofKit
import Derived.OpenShut
import Derived.LaidMore
import Derived.Lay
import Derived.SevenTiedAt
import Derived.Stop.Joined
set_option linter.unusedSimpArgs false
set_option linter.unusedVariables false
namespace Go.Proofs.YtdgcgogeidnmoaaGreatDoor
open Go.RowKit Pal Go.ChangeShapes Go.WideShapes Go.ChangeAt
open Go
theorem EvalNumbers_lay {W : World} (h : laidMetH Tryz.prog Rows.evalNumbersRow.laid W) : Lay2 W := by
  rw [MakeChecks.laidMetH_plain _ _ _ (by kernel_rfl)] at h
  exact lay2_of_reads (Go.Lib.laidMet.reads h (by simp [Rows.evalNumbersRow])) (Go.Lib.laidMet.reads h (by simp [Rows.evalNumbersRow])) (Go.Lib.laidMet.reads h (by simp [Rows.evalNumbersRow])) (Go.Lib.laidMet.reads h (by simp [Rows.evalNumbersRow]))
set_option maxRecDepth 1000000 in
theorem EvalNumbers_lifted (os : Os) (started : os.Started) (H : Type) (enc : TypeId × Value → H) :
    ReturnsInHanded {} Tryz.checked os 11 .any (fun w args => (Rows.evalNumbersSpec.pre enc Tryz.prog Tryz.f11 Rows.evalNumbersRow.domain false w args ∧ laidMetH Tryz.prog Rows.evalNumbersRow.laid w) ∧ sizedMet enc Tryz.prog Tryz.f11 (OpenSpec.ofChange Rows.evalNumbersSpec) false w args)
      (Rows.evalNumbersSpec.post enc Tryz.prog Tryz.f11 false true false false) := by
  refine returnsInHanded_of_change_and (C := Tryz.checked) (X := fun w _ => laidMetH Tryz.prog Rows.evalNumbersRow.laid w) (fun _ _ _ hh h => h.of_heap hh) Tryz.own started (by kernel_rfl) Tryz.func11
    (ChangeSpec.witness_shaped (enc := enc) (C := Tryz.checked) (os := os) (X := fun w _ => laidMetH Tryz.prog Rows.evalNumbersRow.laid w) false (World.laidAll Tryz.prog os Rows.evalNumbersRow.laid) #[.int .i64 0, .int .i64 0] 8 (World.laidAll_os _ _ _)
      (World.shaped_of_ZipB (by kernel_rfl) (by kernel_rfl)) (by kernel_rfl) (by kernel_rfl) (by kernel_rfl)
      (by rw [MakeChecks.laidMetH_plain _ _ _ (by kernel_rfl)]; exact laidMet_laidAll _ (by kernel_rfl) (by kernel_rfl))) ?_
  intro W base args ds gs before hval0 hW hcnd hreach hL _
  have hval : ∀ (j : Nat) t v, Tryz.f11.params[j]? = some t → args[j]? = some v → Value.okWide Tryz.prog W .any base t v := hval0
  have hW' := hW
  obtain ⟨p, q, hA0, hV, rfl, hfz, hnd⟩ := hW
  have hA : DataW.TrodAll enc Tryz.prog W 0 (fun _ => true) true Tryz.f11.params.toList args.toList ds p := hA0
  rw [Tryz.params11] at hA hval
  obtain ⟨v0, vs0, d0, ds0, p0, q0, hargs, rfl, rfl, h0, r0⟩ := trodAll_cons hA
  obtain ⟨v1, vs1, d1, ds1, p1, q1, rfl, rfl, rfl, h1, r1⟩ := trodAll_cons r0
  obtain ⟨rfl, rfl, rfl⟩ := trodAll_nil r1
  obtain rfl : args = #[v0, v1] := by cases args; simp_all
  obtain ⟨rfl, rfl⟩ := trodVars_none hV
  obtain ⟨a0, rfl, rfl, rfl, w0⟩ := open_int Tryz.underlying2 (hval 0 2 v0 rfl rfl) h0
  obtain ⟨a1, rfl, rfl, rfl, w1⟩ := open_int Tryz.underlying2 (hval 1 2 v1 rfl rfl) h1
  have hlay := EvalNumbers_lay hL
  clear hA0 hval0 hL
  refine (numbers_walk a0 a1 W hlay (wf_i64 w0) (wf_i64 w1)).mono fun e W' ⟨he, bel⟩ => ?_
  subst he
  exact ⟨_, rfl, _, _, _, [], _, [], hW', trodAll_mk1 (shut_bool Tryz.underlying4 _), (trodAll_cons_mk (shut_int Tryz.underlying2 w0) (trodAll_cons_mk (shut_int Tryz.underlying2 w1) trodAll_mk0)), rfl, bel.frame _, fun h => by cases h⟩
set_option maxRecDepth 1000000 in
theorem EvalNumbers_f_wf : Rows.evalNumbersRow.wf (OpenSpec.ofChange Rows.evalNumbersSpec) = true := by kernel_rfl
set_option maxRecDepth 1000000 in
theorem EvalNumbers_f_tie : namedTie Tryz.prog Rows.evalNumbersRow.named Rows.evalNumbersSpec.vars = true := by kernel_rfl
set_option maxRecDepth 1000000 in
theorem EvalNumbers_f_place : (Rows.evalNumbersRow.inPlace == Tryz.prog.inPlace 11) = true := by kernel_rfl
set_option maxRecDepth 1000000 in
theorem EvalNumbers_f_unf : (Rows.evalNumbersRow.unfollowed == Tryz.prog.unfollowed 11) = true := by kernel_rfl
set_option maxRecDepth 1000000 in
theorem EvalNumbers_f_rec : (Rows.evalNumbersRow.recurses == Tryz.prog.recurses 11) = true := by kernel_rfl
set_option maxRecDepth 1000000 in
theorem EvalNumbers_f_named : (Rows.evalNumbersRow.named == Tryz.prog.varsNamed 11) = true := by kernel_rfl
set_option maxRecDepth 1000000 in
theorem EvalNumbers_f_loops : (Rows.evalNumbersRow.loops == (Tryz.f11.params.toList ++ Rows.evalNumbersSpec.plain.varTypes Tryz.prog).any (Tryz.prog.loopsFrom ·)) = true := by kernel_rfl
set_option maxRecDepth 1000000 in
theorem EvalNumbers_f_read : Rows.evalNumbersSpec.vars.all (Tryz.prog.varReadable ·) = true := by kernel_rfl
set_option maxRecDepth 1000000 in
theorem EvalNumbers_f_pin : (Rows.evalNumbersRow.pinned == Rows.evalNumbersRow.pinnedBy) = true := by kernel_rfl
set_option maxRecDepth 1000000 in
theorem EvalNumbers_f_text : Rows.evalNumbersRow.wfByText (OpenSpec.ofChange Rows.evalNumbersSpec) = true := by kernel_rfl
set_option maxRecDepth 1000000 in
theorem EvalNumbers_f_goes : false = Rows.evalNumbersRow.goesBy Tryz.prog := by kernel_rfl
set_option maxRecDepth 1000000 in
theorem EvalNumbers_closed : joinedFacts Tryz.prog 11 Tryz.f11 Rows.evalNumbersSpec Rows.evalNumbersRow = true := by
  unfold joinedFacts
  simp only [Bool.and_eq_true]
  exact ⟨⟨⟨⟨⟨⟨⟨⟨⟨⟨⟨⟨⟨⟨⟨⟨⟨⟨⟨⟨⟨⟨⟨⟨⟨⟨⟨⟨⟨⟨⟨EvalNumbers_f_wf, zf_laid⟩, zf_maps⟩, (by kernel_rfl)⟩, EvalNumbers_f_tie⟩, (by kernel_rfl)⟩, (by kernel_rfl)⟩, (by kernel_rfl)⟩, (by kernel_rfl)⟩, EvalNumbers_f_place⟩, EvalNumbers_f_unf⟩, EvalNumbers_f_rec⟩, EvalNumbers_f_named⟩, (by kernel_rfl)⟩, (by kernel_rfl)⟩, (by kernel_rfl)⟩, EvalNumbers_f_loops⟩, (by kernel_rfl)⟩, EvalNumbers_f_read⟩, (by kernel_rfl)⟩, (by kernel_rfl)⟩, (by kernel_rfl)⟩, zf_keys⟩, (by kernel_rfl)⟩, zf_heard⟩, zf_enter⟩, zf_lift⟩, (by kernel_rfl)⟩, (by kernel_rfl)⟩, EvalNumbers_f_pin⟩, (by kernel_rfl)⟩, (by kernel_rfl)⟩
theorem EvalNumbers_row : Rows.EvalNumbersSaid :=
  OpenClaim.holds_of_wide 11 Tryz.f11 rfl rfl rfl rfl rfl rfl rfl ⟨rfl, rfl, rfl, rfl, rfl⟩ rfl rfl rfl rfl rfl (by kernel_rfl) Tryz.func11 EvalNumbers_closed
    (of_decide_eq_true (by kernel_rfl)) (by unfold Func.isWrapper; first | (rw [if_pos (by decide +kernel)]; kernel_rfl) | (rw [if_neg (by decide +kernel)]; exact ⟨rfl, rfl⟩))
    (fun os started H enc _ => EvalNumbers_lifted os started H enc)
theorem EvalNumbers_holds : Rows.EvalNumbersCardSaid :=
  Claim7.holds_tied_plain_at .later [] [.data, .data, .data, .data, .sentinel, .sentinel, .pinned] true (true, "b73eb926ec280bbb226f98bb6f60ef1faacfc7ff99817bf54b86fce97a9212d9") true
    EvalNumbers_row (fun _ h => by cases h) EvalNumbers_f_text (fun _ h => by cases h) evalNumbers_row_tie rfl ⟨rfl, rfl⟩ (by kernel_rfl) rfl
    (fun f fn hf hfn => by
      obtain rfl : f = 11 := Option.some.inj ((show Tryz.prog.funcNamed "palaver/palaverlaw09.EvalNumbers" = some 11 by kernel_rfl).symm.trans hf) |>.symm
      obtain rfl : fn = Tryz.f11 := (Option.some.inj (Tryz.func11.symm.trans hfn)).symm
      exact ⟨by kernel_rfl, fun j t ht => by
        rw [Tryz.params11] at ht
        have hm : t ∈ [2, 2] := by simpa using Array.mem_of_getElem? ht
        have hall : ([2, 2].all fun u => !Tryz.prog.wantsStandIn u) = true := by kernel_rfl
        exact (show Tryz.prog.wantsStandIn t = false by simpa using List.all_eq_true.1 hall t hm)⟩)
    EvalNumbers_f_goes
#print axioms EvalNumbers_holds
end Go.Proofs.YtdgcgogeidnmoaaGreatDoor
