/- For every input the law EvalWords returns true and leaves its arguments as they were; the package-level variables that its row lists are tied to the text of the program (a tied card). Conditions: the row's own. -/
import Derived.Test.YtdgcgogeidnmoaaGreatDoorE27
import Derived.Test.YtdgcgogeidnmoaaGreatDoorR2
import Derived.Test.YtdgcgogeidnmoaaGreatDoorR1
import Derived.Test.YtdgcgogeidnmoaaGreatDoorTie
import Derived.Test.YtdgcgogeidnmoaaGreatDoorCards
import Derived.ChangeMaps5
import Derived.ProofKit
import Derived.OpenShut
import Derived.LaidMore
import Derived.Lay
import Derived.SevenTiedAt
import Derived.Stop.Joined
set_option linter.unusedSimpArgs false
set_option linter.unusedVariables false
namespace Go.Proofs.YtdgcgogeidnmoaaGreatDoor
open Go.RowKit Pal Go.ChangeShapes Go.WideShapes Go.ChangeAt
open Go
theorem EvalWords_lay {W : World} (h : laidMetH Tryz.prog Rows.evalWordsRow.laid W) : Lay2 W := by
  rw [MakeChecks.laidMetH_plain _ _ _ (by kernel_rfl)] at h
  exact lay2_of_reads (Go.Lib.laidMet.reads h (by simp [Rows.evalWordsRow])) (Go.Lib.laidMet.reads h (by simp [Rows.evalWordsRow])) (Go.Lib.laidMet.reads h (by simp [Rows.evalWordsRow])) (Go.Lib.laidMet.reads h (by simp [Rows.evalWordsRow]))
set_option maxRecDepth 1000000 in
theorem EvalWords_lifted (os : Os) (started : os.Started) (H : Type) (enc : TypeId × Value → H) :
    ReturnsInHanded {} Tryz.checked os 15 .any (fun w args => (Rows.evalWordsSpec.pre enc Tryz.prog Tryz.f15 Rows.evalWordsRow.domain false w args ∧ laidMetH Tryz.prog Rows.evalWordsRow.laid w) ∧ sizedMet enc Tryz.prog Tryz.f15 (OpenSpec.ofChange Rows.evalWordsSpec) false w args)
      (Rows.evalWordsSpec.post enc Tryz.prog Tryz.f15 false true false false) := by
  refine returnsInHanded_of_change_and (C := Tryz.checked) (X := fun w _ => laidMetH Tryz.prog Rows.evalWordsRow.laid w) (fun _ _ _ hh h => h.of_heap hh) Tryz.own started (by kernel_rfl) Tryz.func15
    (ChangeSpec.witness_shaped (enc := enc) (C := Tryz.checked) (os := os) (X := fun w _ => laidMetH Tryz.prog Rows.evalWordsRow.laid w) false (World.laidAll Tryz.prog os Rows.evalWordsRow.laid) #[.string ByteArray.empty, .string ByteArray.empty, .int .i64 0] 8 (World.laidAll_os _ _ _)
      (World.shaped_of_ZipB (by kernel_rfl) (by kernel_rfl)) (by kernel_rfl) (by kernel_rfl) (by kernel_rfl)
      (by rw [MakeChecks.laidMetH_plain _ _ _ (by kernel_rfl)]; exact laidMet_laidAll _ (by kernel_rfl) (by kernel_rfl))) ?_
  intro W base args ds gs before hval0 hW hcnd hreach hL _
  have hval : ∀ (j : Nat) t v, Tryz.f15.params[j]? = some t → args[j]? = some v → Value.okWide Tryz.prog W .any base t v := hval0
  have hW' := hW
  obtain ⟨p, q, hA0, hV, rfl, hfz, hnd⟩ := hW
  have hA : DataW.TrodAll enc Tryz.prog W 0 (fun _ => true) true Tryz.f15.params.toList args.toList ds p := hA0
  rw [Tryz.params15] at hA hval
  obtain ⟨v0, vs0, d0, ds0, p0, q0, hargs, rfl, rfl, h0, r0⟩ := trodAll_cons hA
  obtain ⟨v1, vs1, d1, ds1, p1, q1, rfl, rfl, rfl, h1, r1⟩ := trodAll_cons r0
  obtain ⟨v2, vs2, d2, ds2, p2, q2, rfl, rfl, rfl, h2, r2⟩ := trodAll_cons r1
  obtain ⟨rfl, rfl, rfl⟩ := trodAll_nil r2
  obtain rfl : args = #[v0, v1, v2] := by cases args; simp_all
  obtain ⟨rfl, rfl⟩ := trodVars_none hV
  obtain ⟨a0, rfl, rfl, rfl, w0⟩ := Go.ChangeMaps.open_string Tryz.underlying9 (hval 0 9 v0 rfl rfl) h0
  obtain ⟨a1, rfl, rfl, rfl, w1⟩ := Go.ChangeMaps.open_string Tryz.underlying9 (hval 1 9 v1 rfl rfl) h1
  obtain ⟨a2, rfl, rfl, rfl, w2⟩ := open_int Tryz.underlying3 (hval 2 3 v2 rfl rfl) h2
  have hlay := EvalWords_lay hL
  clear hA0 hval0 hL
  refine (words_walk a0 a1 a2 W hlay (by have := w0; unfold maxLen at this; exact this) (by have := w1; unfold maxLen at this; exact this) (wf_i64 w2)).mono fun e W' ⟨he, bel⟩ => ?_
  subst he
  exact ⟨_, rfl, _, _, _, [], _, [], hW', trodAll_mk1 (shut_bool Tryz.underlying4 _), (trodAll_cons_mk (Go.ChangeMaps.shut_string Tryz.underlying9 w0) (trodAll_cons_mk (Go.ChangeMaps.shut_string Tryz.underlying9 w1) (trodAll_cons_mk (shut_int Tryz.underlying3 w2) trodAll_mk0))), rfl, bel.frame _, fun h => by cases h⟩
set_option maxRecDepth 1000000 in
theorem EvalWords_f_wf : Rows.evalWordsRow.wf (OpenSpec.ofChange Rows.evalWordsSpec) = true := by kernel_rfl
set_option maxRecDepth 1000000 in
theorem EvalWords_f_tie : namedTie Tryz.prog Rows.evalWordsRow.named Rows.evalWordsSpec.vars = true := by kernel_rfl
set_option maxRecDepth 1000000 in
theorem EvalWords_f_place : (Rows.evalWordsRow.inPlace == Tryz.prog.inPlace 15) = true := by kernel_rfl
set_option maxRecDepth 1000000 in
theorem EvalWords_f_unf : (Rows.evalWordsRow.unfollowed == Tryz.prog.unfollowed 15) = true := by kernel_rfl
set_option maxRecDepth 1000000 in
theorem EvalWords_f_rec : (Rows.evalWordsRow.recurses == Tryz.prog.recurses 15) = true := by kernel_rfl
set_option maxRecDepth 1000000 in
theorem EvalWords_f_named : (Rows.evalWordsRow.named == Tryz.prog.varsNamed 15) = true := by kernel_rfl
set_option maxRecDepth 1000000 in
theorem EvalWords_f_loops : (Rows.evalWordsRow.loops == (Tryz.f15.params.toList ++ Rows.evalWordsSpec.plain.varTypes Tryz.prog).any (Tryz.prog.loopsFrom ·)) = true := by kernel_rfl
set_option maxRecDepth 1000000 in
theorem EvalWords_f_read : Rows.evalWordsSpec.vars.all (Tryz.prog.varReadable ·) = true := by kernel_rfl
set_option maxRecDepth 1000000 in
theorem EvalWords_f_pin : (Rows.evalWordsRow.pinned == Rows.evalWordsRow.pinnedBy) = true := by kernel_rfl
set_option maxRecDepth 1000000 in
theorem EvalWords_f_text : Rows.evalWordsRow.wfByText (OpenSpec.ofChange Rows.evalWordsSpec) = true := by kernel_rfl
set_option maxRecDepth 1000000 in
theorem EvalWords_f_goes : false = Rows.evalWordsRow.goesBy Tryz.prog := by kernel_rfl
set_option maxRecDepth 1000000 in
theorem EvalWords_closed : joinedFacts Tryz.prog 15 Tryz.f15 Rows.evalWordsSpec Rows.evalWordsRow = true := by
  unfold joinedFacts
  simp only [Bool.and_eq_true]
  exact ⟨⟨⟨⟨⟨⟨⟨⟨⟨⟨⟨⟨⟨⟨⟨⟨⟨⟨⟨⟨⟨⟨⟨⟨⟨⟨⟨⟨⟨⟨⟨EvalWords_f_wf, zf_laid⟩, zf_maps⟩, (by kernel_rfl)⟩, EvalWords_f_tie⟩, (by kernel_rfl)⟩, (by kernel_rfl)⟩, (by kernel_rfl)⟩, (by kernel_rfl)⟩, EvalWords_f_place⟩, EvalWords_f_unf⟩, EvalWords_f_rec⟩, EvalWords_f_named⟩, (by kernel_rfl)⟩, (by kernel_rfl)⟩, (by kernel_rfl)⟩, EvalWords_f_loops⟩, (by kernel_rfl)⟩, EvalWords_f_read⟩, (by kernel_rfl)⟩, (by kernel_rfl)⟩, (by kernel_rfl)⟩, zf_keys⟩, (by kernel_rfl)⟩, zf_heard⟩, zf_enter⟩, zf_lift⟩, (by kernel_rfl)⟩, (by kernel_rfl)⟩, EvalWords_f_pin⟩, (by kernel_rfl)⟩, (by kernel_rfl)⟩
theorem EvalWords_row : Rows.EvalWordsSaid :=
  OpenClaim.holds_of_wide 15 Tryz.f15 rfl rfl rfl rfl rfl rfl rfl ⟨rfl, rfl, rfl, rfl, rfl⟩ rfl rfl rfl rfl rfl (by kernel_rfl) Tryz.func15 EvalWords_closed
    (of_decide_eq_true (by kernel_rfl)) (by unfold Func.isWrapper; first | (rw [if_pos (by decide +kernel)]; kernel_rfl) | (rw [if_neg (by decide +kernel)]; exact ⟨rfl, rfl⟩))
    (fun os started H enc _ => EvalWords_lifted os started H enc)
theorem EvalWords_holds : Rows.EvalWordsCardSaid :=
  Claim7.holds_tied_plain_at .later [] [.data, .data, .data, .data, .sentinel, .sentinel, .pinned] true (true, "b73eb926ec280bbb226f98bb6f60ef1faacfc7ff99817bf54b86fce97a9212d9") true
    EvalWords_row (fun _ h => by cases h) EvalWords_f_text (fun _ h => by cases h) evalWords_row_tie rfl ⟨rfl, rfl⟩ (by kernel_rfl) rfl
    (fun f fn hf hfn => by
      obtain rfl : f = 15 := Option.some.inj ((show Tryz.prog.funcNamed "palaver/palaverlaw09.EvalWords" = some 15 by kernel_rfl).symm.trans hf) |>.symm
      obtain rfl : fn = Tryz.f15 := (Option.some.inj (Tryz.func15.symm.trans hfn)).symm
      exact ⟨by kernel_rfl, fun j t ht => by
        rw [Tryz.params15] at ht
        have hm : t ∈ [9, 9, 3] := by simpa using Array.mem_of_getElem? ht
        have hall : ([9, 9, 3].all fun u => !Tryz.prog.wantsStandIn u) = true := by kernel_rfl
        exact (show Tryz.prog.wantsStandIn t = false by simpa using List.all_eq_true.1 hall t hm)⟩)
    EvalWords_f_goes
#print axioms EvalWords_holds
end Go.Proofs.YtdgcgogeidnmoaaGreatDoor
