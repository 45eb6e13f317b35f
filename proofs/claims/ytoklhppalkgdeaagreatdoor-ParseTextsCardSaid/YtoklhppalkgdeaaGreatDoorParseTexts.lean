/- For every input the law ParseTexts returns true and leaves its arguments as they were; the package-level variables that its row lists are tied to the text of the program (a tied card). Conditions: the row's own. -/
import Derived.Test.YtoklhppalkgdeaaGreatDoorPT
import Derived.Test.YtoklhppalkgdeaaGreatDoorR2
import Derived.Test.YtoklhppalkgdeaaGreatDoorR2
import Derived.Test.YtoklhppalkgdeaaGreatDoorR3
import Derived.Test.YtoklhppalkgdeaaGreatDoorTie
import Derived.Test.YtoklhppalkgdeaaGreatDoorCards
import Derived.ChangeMaps5
import Derived.ProofKit
import Derived.OpenShut
import Derived.LaidMore
import Derived.Lay
import Derived.SevenTiedAt
import Derived.Stop.Joined
set_option linter.unusedSimpArgs false
set_option linter.unusedVariables false
namespace Go.Proofs.YtoklhppalkgdeaaGreatDoor
open Go.RowKit Pal Go.ChangeShapes Go.WideShapes Go.ChangeAt
open Go
theorem ParseTexts_lay {W : World} (h : laidMetH Tryz.prog Rows.parseTextsRow.laid W) : Lay2 W := by
  rw [MakeChecks.laidMetH_plain _ _ _ (by kernel_rfl)] at h
  exact lay2_of_reads (Go.Lib.laidMet.reads h (by simp [Rows.parseTextsRow])) (Go.Lib.laidMet.reads h (by simp [Rows.parseTextsRow])) (Go.Lib.laidMet.reads h (by simp [Rows.parseTextsRow])) (Go.Lib.laidMet.reads h (by simp [Rows.parseTextsRow]))
set_option maxRecDepth 1000000 in
theorem ParseTexts_lifted (os : Os) (started : os.Started) (H : Type) (enc : TypeId × Value → H) :
    ReturnsInHanded {} Tryz.checked os 8 .any (fun w args => (Rows.parseTextsSpec.pre enc Tryz.prog Tryz.f8 Rows.parseTextsRow.domain false w args ∧ laidMetH Tryz.prog Rows.parseTextsRow.laid w) ∧ sizedMet enc Tryz.prog Tryz.f8 (OpenSpec.ofChange Rows.parseTextsSpec) false w args)
      (Rows.parseTextsSpec.post enc Tryz.prog Tryz.f8 false true false false) := by
  refine returnsInHanded_of_change_and (C := Tryz.checked) (X := fun w _ => laidMetH Tryz.prog Rows.parseTextsRow.laid w) (fun _ _ _ hh h => h.of_heap hh) Tryz.own started (by kernel_rfl) Tryz.func8
    (ChangeSpec.witness_shaped (enc := enc) (C := Tryz.checked) (os := os) (X := fun w _ => laidMetH Tryz.prog Rows.parseTextsRow.laid w) false (World.laidAll Tryz.prog os Rows.parseTextsRow.laid) #[.agg #[.int .i64 0, .int .i64 0, .string ByteArray.empty, .slice none 0 0]] 8 (World.laidAll_os _ _ _)
      (World.shaped_of_ZipB (by kernel_rfl) (by kernel_rfl)) (by kernel_rfl) (by kernel_rfl) (by kernel_rfl)
      (by rw [MakeChecks.laidMetH_plain _ _ _ (by kernel_rfl)]; exact laidMet_laidAll _ (by kernel_rfl) (by kernel_rfl))) ?_
  intro W base args ds gs before hval0 hW hcnd hreach hL _
  have hval : ∀ (j : Nat) t v, Tryz.f8.params[j]? = some t → args[j]? = some v → Value.okWide Tryz.prog W .any base t v := hval0
  have hW' := hW
  obtain ⟨p, q, hA0, hV, rfl, hfz, hnd⟩ := hW
  have hA : DataW.TrodAll enc Tryz.prog W 0 (fun _ => true) true Tryz.f8.params.toList args.toList ds p := hA0
  rw [Tryz.params8] at hA hval
  obtain ⟨v0, vs0, d0, ds0, p0, q0, hargs, rfl, rfl, h0, r0⟩ := trodAll_cons hA
  obtain ⟨rfl, rfl, rfl⟩ := trodAll_nil r0
  obtain rfl : args = #[v0] := by cases args; simp_all
  obtain ⟨rfl, rfl⟩ := trodVars_none hV
  have k0 := h0
  have lt0 : ∀ x ∈ p0, x.block < W.heap.size := by obtain ⟨m, hm⟩ := k0; exact DataW.trod_lt m _ _ _ hm
  obtain ⟨a0, x0, o0⟩ := ex_open (hval 0 28 v0 rfl rfl) h0
  have hlay := ParseTexts_lay hL
  clear hA0 hval0 hL
  refine (parsetexts_walk a0 _ W hlay x0 o0).mono fun e W' ⟨he, bel⟩ => ?_
  subst he
  exact ⟨_, rfl, _, _, _, [], _, [], hW', trodAll_mk1 (shut_bool Tryz.underlying4 _), (trodAll_cons_mk (Below.trod (by kernel_rfl) (by kernel_rfl) (of_decide_eq_true (by kernel_rfl)) k0 bel lt0) trodAll_mk0), rfl, bel.frame _, fun h => by cases h⟩
set_option maxRecDepth 1000000 in
theorem ParseTexts_f_wf : Rows.parseTextsRow.wf (OpenSpec.ofChange Rows.parseTextsSpec) = true := by kernel_rfl
set_option maxRecDepth 1000000 in
theorem ParseTexts_f_tie : namedTie Tryz.prog Rows.parseTextsRow.named Rows.parseTextsSpec.vars = true := by kernel_rfl
set_option maxRecDepth 1000000 in
theorem ParseTexts_f_place : (Rows.parseTextsRow.inPlace == Tryz.prog.inPlace 8) = true := by kernel_rfl
set_option maxRecDepth 1000000 in
theorem ParseTexts_f_unf : (Rows.parseTextsRow.unfollowed == Tryz.prog.unfollowed 8) = true := by kernel_rfl
set_option maxRecDepth 1000000 in
theorem ParseTexts_f_rec : (Rows.parseTextsRow.recurses == Tryz.prog.recurses 8) = true := by kernel_rfl
set_option maxRecDepth 1000000 in
theorem ParseTexts_f_named : (Rows.parseTextsRow.named == Tryz.prog.varsNamed 8) = true := by kernel_rfl
set_option maxRecDepth 1000000 in
theorem ParseTexts_f_loops : (Rows.parseTextsRow.loops == (Tryz.f8.params.toList ++ Rows.parseTextsSpec.plain.varTypes Tryz.prog).any (Tryz.prog.loopsFrom ·)) = true := by kernel_rfl
set_option maxRecDepth 1000000 in
theorem ParseTexts_f_read : Rows.parseTextsSpec.vars.all (Tryz.prog.varReadable ·) = true := by kernel_rfl
set_option maxRecDepth 1000000 in
theorem ParseTexts_f_pin : (Rows.parseTextsRow.pinned == Rows.parseTextsRow.pinnedBy) = true := by kernel_rfl
set_option maxRecDepth 1000000 in
theorem ParseTexts_f_text : Rows.parseTextsRow.wfByText (OpenSpec.ofChange Rows.parseTextsSpec) = true := by kernel_rfl
set_option maxRecDepth 1000000 in
theorem ParseTexts_f_goes : false = Rows.parseTextsRow.goesBy Tryz.prog := by kernel_rfl
set_option maxRecDepth 1000000 in
theorem ParseTexts_closed : joinedFacts Tryz.prog 8 Tryz.f8 Rows.parseTextsSpec Rows.parseTextsRow = true := by
  unfold joinedFacts
  simp only [Bool.and_eq_true]
  exact ⟨⟨⟨⟨⟨⟨⟨⟨⟨⟨⟨⟨⟨⟨⟨⟨⟨⟨⟨⟨⟨⟨⟨⟨⟨⟨⟨⟨⟨⟨⟨ParseTexts_f_wf, zf_laid⟩, zf_maps⟩, (by kernel_rfl)⟩, ParseTexts_f_tie⟩, (by kernel_rfl)⟩, (by kernel_rfl)⟩, (by kernel_rfl)⟩, (by kernel_rfl)⟩, ParseTexts_f_place⟩, ParseTexts_f_unf⟩, ParseTexts_f_rec⟩, ParseTexts_f_named⟩, (by kernel_rfl)⟩, (by kernel_rfl)⟩, (by kernel_rfl)⟩, ParseTexts_f_loops⟩, (by kernel_rfl)⟩, ParseTexts_f_read⟩, (by kernel_rfl)⟩, (by kernel_rfl)⟩, (by kernel_rfl)⟩, zf_keys⟩, (by kernel_rfl)⟩, zf_heard⟩, zf_enter⟩, zf_lift⟩, (by kernel_rfl)⟩, (by kernel_rfl)⟩, ParseTexts_f_pin⟩, (by kernel_rfl)⟩, (by kernel_rfl)⟩
theorem ParseTexts_row : Rows.ParseTextsSaid :=
  OpenClaim.holds_of_wide 8 Tryz.f8 rfl rfl rfl rfl rfl rfl rfl ⟨rfl, rfl, rfl, rfl, rfl⟩ rfl rfl rfl rfl rfl (by kernel_rfl) Tryz.func8 ParseTexts_closed
    (of_decide_eq_true (by kernel_rfl)) (by unfold Func.isWrapper; first | (rw [if_pos (by decide +kernel)]; kernel_rfl) | (rw [if_neg (by decide +kernel)]; exact ⟨rfl, rfl⟩))
    (fun os started H enc _ => ParseTexts_lifted os started H enc)
theorem ParseTexts_holds : Rows.ParseTextsCardSaid :=
  Claim7.holds_tied_plain_at .later [] [.data, .data, .data, .data, .sentinel, .sentinel, .pinned] true (true, "f730b664b5d8861bb87ae47ef1b4ce5be88e278e64cea61b92dbb0dae49efb77") true
    ParseTexts_row (fun _ h => by cases h) ParseTexts_f_text (fun _ h => by cases h) parseTexts_row_tie rfl ⟨rfl, rfl⟩ (by kernel_rfl) rfl
    (fun f fn hf hfn => by
      obtain rfl : f = 8 := Option.some.inj ((show Tryz.prog.funcNamed "palaver/palaverlaw07.ParseTexts" = some 8 by kernel_rfl).symm.trans hf) |>.symm
      obtain rfl : fn = Tryz.f8 := (Option.some.inj (Tryz.func8.symm.trans hfn)).symm
      exact ⟨by kernel_rfl, fun j t ht => by
        rw [Tryz.params8] at ht
        have hm : t ∈ [28] := by simpa using Array.mem_of_getElem? ht
        have hall : ([28].all fun u => !Tryz.prog.wantsStandIn u) = true := by kernel_rfl
        exact (show Tryz.prog.wantsStandIn t = false by simpa using List.all_eq_true.1 hall t hm)⟩)
    ParseTexts_f_goes
#print axioms ParseTexts_holds
end Go.Proofs.YtoklhppalkgdeaaGreatDoor
