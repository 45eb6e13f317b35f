/- For every input the law TypesTexts returns true and leaves its arguments as they were; the package-level variables that its row lists are tied to the text of the program (a tied card). Conditions: the row's own. -/
import Derived.Test.YtoklhppalkgdeaaGreatDoorQT
import Derived.Test.YtoklhppalkgdeaaGreatDoorR2
import Derived.Test.YtoklhppalkgdeaaGreatDoorR4
import Derived.Test.YtoklhppalkgdeaaGreatDoorTie
import Derived.Test.YtoklhppalkgdeaaGreatDoorCards
import Derived.ChangeMaps5
import Derived.ProofKit
import Derived.OpenShut
import Derived.LaidMore
import Derived.Lay
import Derived.SevenTiedAt
import Derived.Stop.Joined
set_option linter.unusedSimpArgs false
set_option linter.unusedVariables false
namespace Go.Proofs.YtoklhppalkgdeaaGreatDoor
open Go.RowKit Pal Go.ChangeShapes Go.WideShapes Go.ChangeAt
open Go
theorem TypesTexts_lay {W : World} (h : laidMetH Tryz.prog Rows.typesTextsRow.laid W) : Lay2 W := by
  rw [MakeChecks.laidMetH_plain _ _ _ (by kernel_rfl)] at h
  exact lay2_of_reads (Go.Lib.laidMet.reads h (by simp [Rows.typesTextsRow])) (Go.Lib.laidMet.reads h (by simp [Rows.typesTextsRow])) (Go.Lib.laidMet.reads h (by simp [Rows.typesTextsRow])) (Go.Lib.laidMet.reads h (by simp [Rows.typesTextsRow]))
set_option maxRecDepth 1000000 in
theorem TypesTexts_lifted (os : Os) (started : os.Started) (H : Type) (enc : TypeId × Value → H) :
    ReturnsInHanded {} Tryz.checked os 3 .any (fun w args => (Rows.typesTextsSpec.pre enc Tryz.prog Tryz.f3 Rows.typesTextsRow.domain false w args ∧ laidMetH Tryz.prog Rows.typesTextsRow.laid w) ∧ sizedMet enc Tryz.prog Tryz.f3 (OpenSpec.ofChange Rows.typesTextsSpec) false w args)
      (Rows.typesTextsSpec.post enc Tryz.prog Tryz.f3 false true false false) := by
  refine returnsInHanded_of_change_and (C := Tryz.checked) (X := fun w _ => laidMetH Tryz.prog Rows.typesTextsRow.laid w) (fun _ _ _ hh h => h.of_heap hh) Tryz.own started (by kernel_rfl) Tryz.func3
    (ChangeSpec.witness_shaped (enc := enc) (C := Tryz.checked) (os := os) (X := fun w _ => laidMetH Tryz.prog Rows.typesTextsRow.laid w) false (World.laidAll Tryz.prog os Rows.typesTextsRow.laid) #[.string ByteArray.empty, .slice none 0 0, .slice none 0 0] 8 (World.laidAll_os _ _ _)
      (World.shaped_of_ZipB (by kernel_rfl) (by kernel_rfl)) (by kernel_rfl) (by kernel_rfl) (by kernel_rfl)
      (by rw [MakeChecks.laidMetH_plain _ _ _ (by kernel_rfl)]; exact laidMet_laidAll _ (by kernel_rfl) (by kernel_rfl))) ?_
  intro W base args ds gs before hval0 hW hcnd hreach hL _
  have hval : ∀ (j : Nat) t v, Tryz.f3.params[j]? = some t → args[j]? = some v → Value.okWide Tryz.prog W .any base t v := hval0
  have hW' := hW
  obtain ⟨p, q, hA0, hV, rfl, hfz, hnd⟩ := hW
  have hA : DataW.TrodAll enc Tryz.prog W 0 (fun _ => true) true Tryz.f3.params.toList args.toList ds p := hA0
  rw [Tryz.params3] at hA hval
  obtain ⟨v0, vs0, d0, ds0, p0, q0, hargs, rfl, rfl, h0, r0⟩ := trodAll_cons hA
  obtain ⟨v1, vs1, d1, ds1, p1, q1, rfl, rfl, rfl, h1, r1⟩ := trodAll_cons r0
  obtain ⟨v2, vs2, d2, ds2, p2, q2, rfl, rfl, rfl, h2, r2⟩ := trodAll_cons r1
  obtain ⟨rfl, rfl, rfl⟩ := trodAll_nil r2
  obtain rfl : args = #[v0, v1, v2] := by cases args; simp_all
  obtain ⟨rfl, rfl⟩ := trodVars_none hV
  obtain ⟨a0, rfl, rfl, rfl, w0⟩ := Go.ChangeMaps.open_string Tryz.underlying9 (hval 0 9 v0 rfl rfl) h0
  have k1 := h1
  have lt1 : ∀ x ∈ p1, x.block < W.heap.size := by obtain ⟨m, hm⟩ := k1; exact DataW.trod_lt m _ _ _ hm
  obtain ⟨a1, x1, o1⟩ := strs_open (hval 1 22 v1 rfl rfl) h1
  have k2 := h2
  have lt2 : ∀ x ∈ p2, x.block < W.heap.size := by obtain ⟨m, hm⟩ := k2; exact DataW.trod_lt m _ _ _ hm
  obtain ⟨a2, x2, o2⟩ := ints_open (hval 2 23 v2 rfl rfl) h2
  have hlay := TypesTexts_lay hL
  clear hA0 hval0 hL
  refine (typestexts_walk a0 a1 _ a2 _ W hlay (by have := w0; unfold maxLen at this; exact this) x1 o1 (strs_nil k1) x2 o2).mono fun e W' ⟨he, bel⟩ => ?_
  subst he
  exact ⟨_, rfl, _, _, _, [], _, [], hW', trodAll_mk1 (shut_bool Tryz.underlying4 _), (trodAll_cons_mk (Go.ChangeMaps.shut_string Tryz.underlying9 w0) (trodAll_cons_mk (Below.trod (by kernel_rfl) (by kernel_rfl) (of_decide_eq_true (by kernel_rfl)) k1 bel lt1) (trodAll_cons_mk (Below.trod (by kernel_rfl) (by kernel_rfl) (of_decide_eq_true (by kernel_rfl)) k2 bel lt2) trodAll_mk0))), rfl, bel.frame _, fun h => by cases h⟩
set_option maxRecDepth 1000000 in
theorem TypesTexts_f_wf : Rows.typesTextsRow.wf (OpenSpec.ofChange Rows.typesTextsSpec) = true := by kernel_rfl
set_option maxRecDepth 1000000 in
theorem TypesTexts_f_tie : namedTie Tryz.prog Rows.typesTextsRow.named Rows.typesTextsSpec.vars = true := by kernel_rfl
set_option maxRecDepth 1000000 in
theorem TypesTexts_f_place : (Rows.typesTextsRow.inPlace == Tryz.prog.inPlace 3) = true := by kernel_rfl
set_option maxRecDepth 1000000 in
theorem TypesTexts_f_unf : (Rows.typesTextsRow.unfollowed == Tryz.prog.unfollowed 3) = true := by kernel_rfl
set_option maxRecDepth 1000000 in
theorem TypesTexts_f_rec : (Rows.typesTextsRow.recurses == Tryz.prog.recurses 3) = true := by kernel_rfl
set_option maxRecDepth 1000000 in
theorem TypesTexts_f_named : (Rows.typesTextsRow.named == Tryz.prog.varsNamed 3) = true := by kernel_rfl
set_option maxRecDepth 1000000 in
theorem TypesTexts_f_loops : (Rows.typesTextsRow.loops == (Tryz.f3.params.toList ++ Rows.typesTextsSpec.plain.varTypes Tryz.prog).any (Tryz.prog.loopsFrom ·)) = true := by kernel_rfl
set_option maxRecDepth 1000000 in
theorem TypesTexts_f_read : Rows.typesTextsSpec.vars.all (Tryz.prog.varReadable ·) = true := by kernel_rfl
set_option maxRecDepth 1000000 in
theorem TypesTexts_f_pin : (Rows.typesTextsRow.pinned == Rows.typesTextsRow.pinnedBy) = true := by kernel_rfl
set_option maxRecDepth 1000000 in
theorem TypesTexts_f_text : Rows.typesTextsRow.wfByText (OpenSpec.ofChange Rows.typesTextsSpec) = true := by kernel_rfl
set_option maxRecDepth 1000000 in
theorem TypesTexts_f_goes : false = Rows.typesTextsRow.goesBy Tryz.prog := by kernel_rfl
set_option maxRecDepth 1000000 in
theorem TypesTexts_closed : joinedFacts Tryz.prog 3 Tryz.f3 Rows.typesTextsSpec Rows.typesTextsRow = true := by
  unfold joinedFacts
  simp only [Bool.and_eq_true]
  exact ⟨⟨⟨⟨⟨⟨⟨⟨⟨⟨⟨⟨⟨⟨⟨⟨⟨⟨⟨⟨⟨⟨⟨⟨⟨⟨⟨⟨⟨⟨⟨TypesTexts_f_wf, zf_laid⟩, zf_maps⟩, (by kernel_rfl)⟩, TypesTexts_f_tie⟩, (by kernel_rfl)⟩, (by kernel_rfl)⟩, (by kernel_rfl)⟩, (by kernel_rfl)⟩, TypesTexts_f_place⟩, TypesTexts_f_unf⟩, TypesTexts_f_rec⟩, TypesTexts_f_named⟩, (by kernel_rfl)⟩, (by kernel_rfl)⟩, (by kernel_rfl)⟩, TypesTexts_f_loops⟩, (by kernel_rfl)⟩, TypesTexts_f_read⟩, (by kernel_rfl)⟩, (by kernel_rfl)⟩, (by kernel_rfl)⟩, zf_keys⟩, (by kernel_rfl)⟩, zf_heard⟩, zf_enter⟩, zf_lift⟩, (by kernel_rfl)⟩, (by kernel_rfl)⟩, TypesTexts_f_pin⟩, (by kernel_rfl)⟩, (by kernel_rfl)⟩
theorem TypesTexts_row : Rows.TypesTextsSaid :=
  OpenClaim.holds_of_wide 3 Tryz.f3 rfl rfl rfl rfl rfl rfl rfl ⟨rfl, rfl, rfl, rfl, rfl⟩ rfl rfl rfl rfl rfl (by kernel_rfl) Tryz.func3 TypesTexts_closed
    (of_decide_eq_true (by kernel_rfl)) (by unfold Func.isWrapper; first | (rw [if_pos (by decide +kernel)]; kernel_rfl) | (rw [if_neg (by decide +kernel)]; exact ⟨rfl, rfl⟩))
    (fun os started H enc _ => TypesTexts_lifted os started H enc)
theorem TypesTexts_holds : Rows.TypesTextsCardSaid :=
  Claim7.holds_tied_plain_at .later [] [.data, .data, .data, .data, .sentinel, .sentinel, .pinned] true (true, "f730b664b5d8861bb87ae47ef1b4ce5be88e278e64cea61b92dbb0dae49efb77") true
    TypesTexts_row (fun _ h => by cases h) TypesTexts_f_text (fun _ h => by cases h) typesTexts_row_tie rfl ⟨rfl, rfl⟩ (by kernel_rfl) rfl
    (fun f fn hf hfn => by
      obtain rfl : f = 3 := Option.some.inj ((show Tryz.prog.funcNamed "palaver/palaverlaw08.TypesTexts" = some 3 by kernel_rfl).symm.trans hf) |>.symm
      obtain rfl : fn = Tryz.f3 := (Option.some.inj (Tryz.func3.symm.trans hfn)).symm
      exact ⟨by kernel_rfl, fun j t ht => by
        rw [Tryz.params3] at ht
        have hm : t ∈ [9, 22, 23] := by simpa using Array.mem_of_getElem? ht
        have hall : ([9, 22, 23].all fun u => !Tryz.prog.wantsStandIn u) = true := by kernel_rfl
        exact (show Tryz.prog.wantsStandIn t = false by simpa using List.all_eq_true.1 hall t hm)⟩)
    TypesTexts_f_goes
#print axioms TypesTexts_holds
end Go.Proofs.YtoklhppalkgdeaaGreatDoor
