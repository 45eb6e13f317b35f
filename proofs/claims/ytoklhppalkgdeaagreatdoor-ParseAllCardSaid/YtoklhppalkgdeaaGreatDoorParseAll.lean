/- For every input the law ParseAll returns true and leaves its arguments as they were; the package-level variables that its row lists are tied to the text of the program (a tied card). Conditions: the row's own. -/
import Derived.Test.YtoklhppalkgdeaaGreatDoorQ9
import Derived.Test.YtoklhppalkgdeaaGreatDoorR2
import Derived.Test.YtoklhppalkgdeaaGreatDoorR1
import Derived.Test.YtoklhppalkgdeaaGreatDoorTie
import Derived.Test.YtoklhppalkgdeaaGreatDoorCards
import Derived.ChangeMaps5
import Derived.ProofKit
import Derived.OpenShut
import Derived.LaidMore
import Derived.Lay
import Derived.SevenTiedAt
import Derived.Stop.Joined
set_option linter.unusedSimpArgs false
set_option linter.unusedVariables false
namespace Go.Proofs.YtoklhppalkgdeaaGreatDoor
open Go.RowKit Pal Go.ChangeShapes Go.WideShapes Go.ChangeAt
open Go
theorem ParseAll_lay {W : World} (h : laidMetH Tryz.prog Rows.parseAllRow.laid W) : Lay2 W := by
  rw [MakeChecks.laidMetH_plain _ _ _ (by kernel_rfl)] at h
  exact lay2_of_reads (Go.Lib.laidMet.reads h (by simp [Rows.parseAllRow])) (Go.Lib.laidMet.reads h (by simp [Rows.parseAllRow])) (Go.Lib.laidMet.reads h (by simp [Rows.parseAllRow])) (Go.Lib.laidMet.reads h (by simp [Rows.parseAllRow]))
set_option maxRecDepth 1000000 in
theorem ParseAll_lifted (os : Os) (started : os.Started) (H : Type) (enc : TypeId × Value → H) :
    ReturnsInHanded {} Tryz.checked os 5 .any (fun w args => (Rows.parseAllSpec.pre enc Tryz.prog Tryz.f5 Rows.parseAllRow.domain false w args ∧ laidMetH Tryz.prog Rows.parseAllRow.laid w) ∧ sizedMet enc Tryz.prog Tryz.f5 (OpenSpec.ofChange Rows.parseAllSpec) false w args)
      (Rows.parseAllSpec.post enc Tryz.prog Tryz.f5 false true false false) := by
  refine returnsInHanded_of_change_and (C := Tryz.checked) (X := fun w _ => laidMetH Tryz.prog Rows.parseAllRow.laid w) (fun _ _ _ hh h => h.of_heap hh) Tryz.own started (by kernel_rfl) Tryz.func5
    (ChangeSpec.witness_shaped (enc := enc) (C := Tryz.checked) (os := os) (X := fun w _ => laidMetH Tryz.prog Rows.parseAllRow.laid w) false (World.laidAll Tryz.prog os Rows.parseAllRow.laid) #[.string ByteArray.empty] 8 (World.laidAll_os _ _ _)
      (World.shaped_of_ZipB (by kernel_rfl) (by kernel_rfl)) (by kernel_rfl) (by kernel_rfl) (by kernel_rfl)
      (by rw [MakeChecks.laidMetH_plain _ _ _ (by kernel_rfl)]; exact laidMet_laidAll _ (by kernel_rfl) (by kernel_rfl))) ?_
  intro W base args ds gs before hval0 hW hcnd hreach hL _
  have hval : ∀ (j : Nat) t v, Tryz.f5.params[j]? = some t → args[j]? = some v → Value.okWide Tryz.prog W .any base t v := hval0
  have hW' := hW
  obtain ⟨p, q, hA0, hV, rfl, hfz, hnd⟩ := hW
  have hA : DataW.TrodAll enc Tryz.prog W 0 (fun _ => true) true Tryz.f5.params.toList args.toList ds p := hA0
  rw [Tryz.params5] at hA hval
  obtain ⟨v0, vs0, d0, ds0, p0, q0, hargs, rfl, rfl, h0, r0⟩ := trodAll_cons hA
  obtain ⟨rfl, rfl, rfl⟩ := trodAll_nil r0
  obtain rfl : args = #[v0] := by cases args; simp_all
  obtain ⟨rfl, rfl⟩ := trodVars_none hV
  obtain ⟨a0, rfl, rfl, rfl, w0⟩ := Go.ChangeMaps.open_string Tryz.underlying9 (hval 0 9 v0 rfl rfl) h0
  have hlay := ParseAll_lay hL
  clear hA0 hval0 hL
  refine (parseall_walk a0 W hlay (by have := w0; unfold maxLen at this; exact this)).mono fun e W' ⟨he, bel⟩ => ?_
  subst he
  exact ⟨_, rfl, _, _, _, [], _, [], hW', trodAll_mk1 (shut_bool Tryz.underlying4 _), (trodAll_cons_mk (Go.ChangeMaps.shut_string Tryz.underlying9 w0) trodAll_mk0), rfl, bel.frame _, fun h => by cases h⟩
set_option maxRecDepth 1000000 in
theorem ParseAll_f_wf : Rows.parseAllRow.wf (OpenSpec.ofChange Rows.parseAllSpec) = true := by kernel_rfl
set_option maxRecDepth 1000000 in
theorem ParseAll_f_tie : namedTie Tryz.prog Rows.parseAllRow.named Rows.parseAllSpec.vars = true := by kernel_rfl
set_option maxRecDepth 1000000 in
theorem ParseAll_f_place : (Rows.parseAllRow.inPlace == Tryz.prog.inPlace 5) = true := by kernel_rfl
set_option maxRecDepth 1000000 in
theorem ParseAll_f_unf : (Rows.parseAllRow.unfollowed == Tryz.prog.unfollowed 5) = true := by kernel_rfl
set_option maxRecDepth 1000000 in
theorem ParseAll_f_rec : (Rows.parseAllRow.recurses == Tryz.prog.recurses 5) = true := by kernel_rfl
set_option maxRecDepth 1000000 in
theorem ParseAll_f_named : (Rows.parseAllRow.named == Tryz.prog.varsNamed 5) = true := by kernel_rfl
set_option maxRecDepth 1000000 in
theorem ParseAll_f_loops : (Rows.parseAllRow.loops == (Tryz.f5.params.toList ++ Rows.parseAllSpec.plain.varTypes Tryz.prog).any (Tryz.prog.loopsFrom ·)) = true := by kernel_rfl
set_option maxRecDepth 1000000 in
theorem ParseAll_f_read : Rows.parseAllSpec.vars.all (Tryz.prog.varReadable ·) = true := by kernel_rfl
set_option maxRecDepth 1000000 in
theorem ParseAll_f_pin : (Rows.parseAllRow.pinned == Rows.parseAllRow.pinnedBy) = true := by kernel_rfl
set_option maxRecDepth 1000000 in
theorem ParseAll_f_text : Rows.parseAllRow.wfByText (OpenSpec.ofChange Rows.parseAllSpec) = true := by kernel_rfl
set_option maxRecDepth 1000000 in
theorem ParseAll_f_goes : false = Rows.parseAllRow.goesBy Tryz.prog := by kernel_rfl
set_option maxRecDepth 1000000 in
theorem ParseAll_closed : joinedFacts Tryz.prog 5 Tryz.f5 Rows.parseAllSpec Rows.parseAllRow = true := by
  unfold joinedFacts
  simp only [Bool.and_eq_true]
  exact ⟨⟨⟨⟨⟨⟨⟨⟨⟨⟨⟨⟨⟨⟨⟨⟨⟨⟨⟨⟨⟨⟨⟨⟨⟨⟨⟨⟨⟨⟨⟨ParseAll_f_wf, zf_laid⟩, zf_maps⟩, (by kernel_rfl)⟩, ParseAll_f_tie⟩, (by kernel_rfl)⟩, (by kernel_rfl)⟩, (by kernel_rfl)⟩, (by kernel_rfl)⟩, ParseAll_f_place⟩, ParseAll_f_unf⟩, ParseAll_f_rec⟩, ParseAll_f_named⟩, (by kernel_rfl)⟩, (by kernel_rfl)⟩, (by kernel_rfl)⟩, ParseAll_f_loops⟩, (by kernel_rfl)⟩, ParseAll_f_read⟩, (by kernel_rfl)⟩, (by kernel_rfl)⟩, (by kernel_rfl)⟩, zf_keys⟩, (by kernel_rfl)⟩, zf_heard⟩, zf_enter⟩, zf_lift⟩, (by kernel_rfl)⟩, (by kernel_rfl)⟩, ParseAll_f_pin⟩, (by kernel_rfl)⟩, (by kernel_rfl)⟩
theorem ParseAll_row : Rows.ParseAllSaid :=
  OpenClaim.holds_of_wide 5 Tryz.f5 rfl rfl rfl rfl rfl rfl rfl ⟨rfl, rfl, rfl, rfl, rfl⟩ rfl rfl rfl rfl rfl (by kernel_rfl) Tryz.func5 ParseAll_closed
    (of_decide_eq_true (by kernel_rfl)) (by unfold Func.isWrapper; first | (rw [if_pos (by decide +kernel)]; kernel_rfl) | (rw [if_neg (by decide +kernel)]; exact ⟨rfl, rfl⟩))
    (fun os started H enc _ => ParseAll_lifted os started H enc)
theorem ParseAll_holds : Rows.ParseAllCardSaid :=
  Claim7.holds_tied_plain_at .later [] [.data, .data, .data, .data, .sentinel, .sentinel, .pinned] true (true, "f730b664b5d8861bb87ae47ef1b4ce5be88e278e64cea61b92dbb0dae49efb77") true
    ParseAll_row (fun _ h => by cases h) ParseAll_f_text (fun _ h => by cases h) parseAll_row_tie rfl ⟨rfl, rfl⟩ (by kernel_rfl) rfl
    (fun f fn hf hfn => by
      obtain rfl : f = 5 := Option.some.inj ((show Tryz.prog.funcNamed "palaver/palaverlaw07.ParseAll" = some 5 by kernel_rfl).symm.trans hf) |>.symm
      obtain rfl : fn = Tryz.f5 := (Option.some.inj (Tryz.func5.symm.trans hfn)).symm
      exact ⟨by kernel_rfl, fun j t ht => by
        rw [Tryz.params5] at ht
        have hm : t ∈ [9] := by simpa using Array.mem_of_getElem? ht
        have hall : ([9].all fun u => !Tryz.prog.wantsStandIn u) = true := by kernel_rfl
        exact (show Tryz.prog.wantsStandIn t = false by simpa using List.all_eq_true.1 hall t hm)⟩)
    ParseAll_f_goes
#print axioms ParseAll_holds
end Go.Proofs.YtoklhppalkgdeaaGreatDoor
