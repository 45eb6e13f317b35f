/- For every input the law EvalProducts returns true and leaves its arguments as they were; the package-level variables that its row lists are tied to the text of the program (a tied card). Conditions: the row's own. -/
import Derived.Test.YtdgcgogeidnmoaaGreatDoorE16
import Derived.Test.YtdgcgogeidnmoaaGreatDoorR2
import Derived.Test.YtdgcgogeidnmoaaGreatDoorR1
import Derived.Test.YtdgcgogeidnmoaaGreatDoorTie
import Derived.Test.YtdgcgogeidnmoaaGreatDoorCards
import Derived.ChangeMaps5
import Derived.ProofKit
import Derived.OpenShut
import Derived.LaidMore
import Derived.Lay
import Derived.SevenTiedAt
import Derived.Stop.Joined
set_option linter.unusedSimpArgs false
set_option linter.unusedVariables false
namespace Go.Proofs.YtdgcgogeidnmoaaGreatDoor
open Go.RowKit Pal Go.ChangeShapes Go.WideShapes Go.ChangeAt
open Go
theorem EvalProducts_lay {W : World} (h : laidMetH Tryz.prog Rows.evalProductsRow.laid W) : Lay2 W := by
  rw [MakeChecks.laidMetH_plain _ _ _ (by kernel_rfl)] at h
  exact lay2_of_reads (Go.Lib.laidMet.reads h (by simp [Rows.evalProductsRow])) (Go.Lib.laidMet.reads h (by simp [Rows.evalProductsRow])) (Go.Lib.laidMet.reads h (by simp [Rows.evalProductsRow])) (Go.Lib.laidMet.reads h (by simp [Rows.evalProductsRow]))
set_option maxRecDepth 1000000 in
theorem EvalProducts_lifted (os : Os) (started : os.Started) (H : Type) (enc : TypeId × Value → H) :
    ReturnsInHanded {} Tryz.checked os 12 .any (fun w args => (Rows.evalProductsSpec.pre enc Tryz.prog Tryz.f12 Rows.evalProductsRow.domain false w args ∧ laidMetH Tryz.prog Rows.evalProductsRow.laid w) ∧ sizedMet enc Tryz.prog Tryz.f12 (OpenSpec.ofChange Rows.evalProductsSpec) false w args)
      (Rows.evalProductsSpec.post enc Tryz.prog Tryz.f12 false true false false) := by
  refine returnsInHanded_of_change_and (C := Tryz.checked) (X := fun w _ => laidMetH Tryz.prog Rows.evalProductsRow.laid w) (fun _ _ _ hh h => h.of_heap hh) Tryz.own started (by kernel_rfl) Tryz.func12
    (ChangeSpec.witness_shaped (enc := enc) (C := Tryz.checked) (os := os) (X := fun w _ => laidMetH Tryz.prog Rows.evalProductsRow.laid w) false (World.laidAll Tryz.prog os Rows.evalProductsRow.laid) #[.int .i64 0, .int .i64 0] 8 (World.laidAll_os _ _ _)
      (World.shaped_of_ZipB (by kernel_rfl) (by kernel_rfl)) (by kernel_rfl) (by kernel_rfl) (by kernel_rfl)
      (by rw [MakeChecks.laidMetH_plain _ _ _ (by kernel_rfl)]; exact laidMet_laidAll _ (by kernel_rfl) (by kernel_rfl))) ?_
  intro W base args ds gs before hval0 hW hcnd hreach hL _
  have hval : ∀ (j : Nat) t v, Tryz.f12.params[j]? = some t → args[j]? = some v → Value.okWide Tryz.prog W .any base t v := hval0
  have hW' := hW
  obtain ⟨p, q, hA0, hV, rfl, hfz, hnd⟩ := hW
  have hA : DataW.TrodAll enc Tryz.prog W 0 (fun _ => true) true Tryz.f12.params.toList args.toList ds p := hA0
  rw [Tryz.params12] at hA hval
  obtain ⟨v0, vs0, d0, ds0, p0, q0, hargs, rfl, rfl, h0, r0⟩ := trodAll_cons hA
  obtain ⟨v1, vs1, d1, ds1, p1, q1, rfl, rfl, rfl, h1, r1⟩ := trodAll_cons r0
  obtain ⟨rfl, rfl, rfl⟩ := trodAll_nil r1
  obtain rfl : args = #[v0, v1] := by cases args; simp_all
  obtain ⟨rfl, rfl⟩ := trodVars_none hV
  obtain ⟨a0, rfl, rfl, rfl, w0⟩ := open_int Tryz.underlying2 (hval 0 2 v0 rfl rfl) h0
  obtain ⟨a1, rfl, rfl, rfl, w1⟩ := open_int Tryz.underlying2 (hval 1 2 v1 rfl rfl) h1
  have hlay := EvalProducts_lay hL
  clear hA0 hval0 hL
  refine (products_walk a0 a1 W hlay (wf_i64 w0) (wf_i64 w1)).mono fun e W' ⟨he, bel⟩ => ?_
  subst he
  exact ⟨_, rfl, _, _, _, [], _, [], hW', trodAll_mk1 (shut_bool Tryz.underlying4 _), (trodAll_cons_mk (shut_int Tryz.underlying2 w0) (trodAll_cons_mk (shut_int Tryz.underlying2 w1) trodAll_mk0)), rfl, bel.frame _, fun h => by cases h⟩
set_option maxRecDepth 1000000 in
theorem EvalProducts_f_wf : Rows.evalProductsRow.wf (OpenSpec.ofChange Rows.evalProductsSpec) = true := by kernel_rfl
set_option maxRecDepth 1000000 in
theorem EvalProducts_f_tie : namedTie Tryz.prog Rows.evalProductsRow.named Rows.evalProductsSpec.vars = true := by kernel_rfl
set_option maxRecDepth 1000000 in
theorem EvalProducts_f_place : (Rows.evalProductsRow.inPlace == Tryz.prog.inPlace 12) = true := by kernel_rfl
set_option maxRecDepth 1000000 in
theorem EvalProducts_f_unf : (Rows.evalProductsRow.unfollowed == Tryz.prog.unfollowed 12) = true := by kernel_rfl
set_option maxRecDepth 1000000 in
theorem EvalProducts_f_rec : (Rows.evalProductsRow.recurses == Tryz.prog.recurses 12) = true := by kernel_rfl
set_option maxRecDepth 1000000 in
theorem EvalProducts_f_named : (Rows.evalProductsRow.named == Tryz.prog.varsNamed 12) = true := by kernel_rfl
set_option maxRecDepth 1000000 in
theorem EvalProducts_f_loops : (Rows.evalProductsRow.loops == (Tryz.f12.params.toList ++ Rows.evalProductsSpec.plain.varTypes Tryz.prog).any (Tryz.prog.loopsFrom ·)) = true := by kernel_rfl
set_option maxRecDepth 1000000 in
theorem EvalProducts_f_read : Rows.evalProductsSpec.vars.all (Tryz.prog.varReadable ·) = true := by kernel_rfl
set_option maxRecDepth 1000000 in
theorem EvalProducts_f_pin : (Rows.evalProductsRow.pinned == Rows.evalProductsRow.pinnedBy) = true := by kernel_rfl
set_option maxRecDepth 1000000 in
theorem EvalProducts_f_text : Rows.evalProductsRow.wfByText (OpenSpec.ofChange Rows.evalProductsSpec) = true := by kernel_rfl
set_option maxRecDepth 1000000 in
theorem EvalProducts_f_goes : false = Rows.evalProductsRow.goesBy Tryz.prog := by kernel_rfl
set_option maxRecDepth 1000000 in
theorem EvalProducts_closed : joinedFacts Tryz.prog 12 Tryz.f12 Rows.evalProductsSpec Rows.evalProductsRow = true := by
  unfold joinedFacts
  simp only [Bool.and_eq_true]
  exact ⟨⟨⟨⟨⟨⟨⟨⟨⟨⟨⟨⟨⟨⟨⟨⟨⟨⟨⟨⟨⟨⟨⟨⟨⟨⟨⟨⟨⟨⟨⟨EvalProducts_f_wf, zf_laid⟩, zf_maps⟩, (by kernel_rfl)⟩, EvalProducts_f_tie⟩, (by kernel_rfl)⟩, (by kernel_rfl)⟩, (by kernel_rfl)⟩, (by kernel_rfl)⟩, EvalProducts_f_place⟩, EvalProducts_f_unf⟩, EvalProducts_f_rec⟩, EvalProducts_f_named⟩, (by kernel_rfl)⟩, (by kernel_rfl)⟩, (by kernel_rfl)⟩, EvalProducts_f_loops⟩, (by kernel_rfl)⟩, EvalProducts_f_read⟩, (by kernel_rfl)⟩, (by kernel_rfl)⟩, (by kernel_rfl)⟩, zf_keys⟩, (by kernel_rfl)⟩, zf_heard⟩, zf_enter⟩, zf_lift⟩, (by kernel_rfl)⟩, (by kernel_rfl)⟩, EvalProducts_f_pin⟩, (by kernel_rfl)⟩, (by kernel_rfl)⟩
theorem EvalProducts_row : Rows.EvalProductsSaid :=
  OpenClaim.holds_of_wide 12 Tryz.f12 rfl rfl rfl rfl rfl rfl rfl ⟨rfl, rfl, rfl, rfl, rfl⟩ rfl rfl rfl rfl rfl (by kernel_rfl) Tryz.func12 EvalProducts_closed
    (of_decide_eq_true (by kernel_rfl)) (by unfold Func.isWrapper; first | (rw [if_pos (by decide +kernel)]; kernel_rfl) | (rw [if_neg (by decide +kernel)]; exact ⟨rfl, rfl⟩))
    (fun os started H enc _ => EvalProducts_lifted os started H enc)
theorem EvalProducts_holds : Rows.EvalProductsCardSaid :=
  Claim7.holds_tied_plain_at .later [] [.data, .data, .data, .data, .sentinel, .sentinel, .pinned] true (true, "b73eb926ec280bbb226f98bb6f60ef1faacfc7ff99817bf54b86fce97a9212d9") true
    EvalProducts_row (fun _ h => by cases h) EvalProducts_f_text (fun _ h => by cases h) evalProducts_row_tie rfl ⟨rfl, rfl⟩ (by kernel_rfl) rfl
    (fun f fn hf hfn => by
      obtain rfl : f = 12 := Option.some.inj ((show Tryz.prog.funcNamed "palaver/palaverlaw09.EvalProducts" = some 12 by kernel_rfl).symm.trans hf) |>.symm
      obtain rfl : fn = Tryz.f12 := (Option.some.inj (Tryz.func12.symm.trans hfn)).symm
      exact ⟨by kernel_rfl, fun j t ht => by
        rw [Tryz.params12] at ht
        have hm : t ∈ [2, 2] := by simpa using Array.mem_of_getElem? ht
        have hall : ([2, 2].all fun u => !Tryz.prog.wantsStandIn u) = true := by kernel_rfl
        exact (show Tryz.prog.wantsStandIn t = false by simpa using List.all_eq_true.1 hall t hm)⟩)
    EvalProducts_f_goes
#print axioms EvalProducts_holds
end Go.Proofs.YtdgcgogeidnmoaaGreatDoor
