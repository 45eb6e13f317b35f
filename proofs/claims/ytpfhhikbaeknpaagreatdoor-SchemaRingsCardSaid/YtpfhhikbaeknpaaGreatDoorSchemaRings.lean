/- For every input the law SchemaRings returns true and leaves its arguments as they were; the package-level variables that its row lists are tied to the text of the program (a tied card). Conditions: the row's own. -/
import Derived.Test.YtpfhhikbaeknpaaGreatDoorSU
import Derived.Test.YtpfhhikbaeknpaaGreatDoorR2
import Derived.Test.YtpfhhikbaeknpaaGreatDoorR1
import Derived.Test.YtpfhhikbaeknpaaGreatDoorTie
import Derived.Test.YtpfhhikbaeknpaaGreatDoorCards
import Derived.ChangeMaps5
import Derived.ProofKit
import Derived.OpenShut
import Derived.LaidMore
import Derived.Lay
import Derived.SevenTiedAt
import Derived.Stop.Joined
set_option linter.unusedSimpArgs false
set_option linter.unusedVariables false
namespace Go.Proofs.YtpfhhikbaeknpaaGreatDoor
open Go.RowKit Pal Go.ChangeShapes Go.WideShapes Go.ChangeAt
open Go
theorem SchemaRings_lay {W : World} (h : laidMetH Tryz.prog Rows.schemaRingsRow.laid W) : Lay2 W := by
  rw [MakeChecks.laidMetH_plain _ _ _ (by kernel_rfl)] at h
  exact lay2_of_reads (Go.Lib.laidMet.reads h (by simp [Rows.schemaRingsRow])) (Go.Lib.laidMet.reads h (by simp [Rows.schemaRingsRow])) (Go.Lib.laidMet.reads h (by simp [Rows.schemaRingsRow])) (Go.Lib.laidMet.reads h (by simp [Rows.schemaRingsRow]))
set_option maxRecDepth 1000000 in
theorem SchemaRings_lifted (os : Os) (started : os.Started) (H : Type) (enc : TypeId × Value → H) :
    ReturnsInHanded {} Tryz.checked os 3 .any (fun w args => (Rows.schemaRingsSpec.pre enc Tryz.prog Tryz.f3 Rows.schemaRingsRow.domain false w args ∧ laidMetH Tryz.prog Rows.schemaRingsRow.laid w) ∧ sizedMet enc Tryz.prog Tryz.f3 (OpenSpec.ofChange Rows.schemaRingsSpec) false w args)
      (Rows.schemaRingsSpec.post enc Tryz.prog Tryz.f3 false true false false) := by
  refine returnsInHanded_of_change_and (C := Tryz.checked) (X := fun w _ => laidMetH Tryz.prog Rows.schemaRingsRow.laid w) (fun _ _ _ hh h => h.of_heap hh) Tryz.own started (by kernel_rfl) Tryz.func3
    (ChangeSpec.witness_shaped (enc := enc) (C := Tryz.checked) (os := os) (X := fun w _ => laidMetH Tryz.prog Rows.schemaRingsRow.laid w) false (World.laidAll Tryz.prog os Rows.schemaRingsRow.laid) #[.int .i64 0, .int .i64 0, .bool false] 8 (World.laidAll_os _ _ _)
      (World.shaped_of_ZipB (by kernel_rfl) (by kernel_rfl)) (by kernel_rfl) (by kernel_rfl) (by kernel_rfl)
      (by rw [MakeChecks.laidMetH_plain _ _ _ (by kernel_rfl)]; exact laidMet_laidAll _ (by kernel_rfl) (by kernel_rfl))) ?_
  intro W base args ds gs before hval0 hW hcnd hreach hL _
  have hval : ∀ (j : Nat) t v, Tryz.f3.params[j]? = some t → args[j]? = some v → Value.okWide Tryz.prog W .any base t v := hval0
  have hW' := hW
  obtain ⟨p, q, hA0, hV, rfl, hfz, hnd⟩ := hW
  have hA : DataW.TrodAll enc Tryz.prog W 0 (fun _ => true) true Tryz.f3.params.toList args.toList ds p := hA0
  rw [Tryz.params3] at hA hval
  obtain ⟨v0, vs0, d0, ds0, p0, q0, hargs, rfl, rfl, h0, r0⟩ := trodAll_cons hA
  obtain ⟨v1, vs1, d1, ds1, p1, q1, rfl, rfl, rfl, h1, r1⟩ := trodAll_cons r0
  obtain ⟨v2, vs2, d2, ds2, p2, q2, rfl, rfl, rfl, h2, r2⟩ := trodAll_cons r1
  obtain ⟨rfl, rfl, rfl⟩ := trodAll_nil r2
  obtain rfl : args = #[v0, v1, v2] := by cases args; simp_all
  obtain ⟨rfl, rfl⟩ := trodVars_none hV
  obtain ⟨a0, rfl, rfl, rfl, w0⟩ := open_int Tryz.underlying3 (hval 0 3 v0 rfl rfl) h0
  obtain ⟨a1, rfl, rfl, rfl, w1⟩ := open_int Tryz.underlying3 (hval 1 3 v1 rfl rfl) h1
  obtain ⟨a2, rfl⟩ := okWide_bool Tryz.underlying4 (hval 2 4 v2 rfl rfl)
  obtain ⟨rfl, rfl⟩ : d2 = .lit (.bool a2) ∧ p2 = [] := by
    obtain ⟨fuel, hf⟩ := h2
    cases fuel with
    | zero => simp [DataW.trod] at hf
    | succ m => simp [DataW.trod, Value.cells, Tryz.underlying4] at hf; first | exact hf | exact ⟨hf.1.symm, hf.2⟩ | exact ⟨hf.1, hf.2.symm⟩ | exact ⟨hf.1.symm, hf.2.symm⟩
  have hlay := SchemaRings_lay hL
  clear hA0 hval0 hL
  refine (rings_walk a0 a1 a2 W hlay (wf_i64 w0) (wf_i64 w1)).mono fun e W' ⟨he, bel⟩ => ?_
  subst he
  exact ⟨_, rfl, _, _, _, [], _, [], hW', trodAll_mk1 (shut_bool Tryz.underlying4 _), (trodAll_cons_mk (shut_int Tryz.underlying3 w0) (trodAll_cons_mk (shut_int Tryz.underlying3 w1) (trodAll_cons_mk (shut_bool Tryz.underlying4 a2) trodAll_mk0))), rfl, bel.frame _, fun h => by cases h⟩
set_option maxRecDepth 1000000 in
theorem SchemaRings_f_wf : Rows.schemaRingsRow.wf (OpenSpec.ofChange Rows.schemaRingsSpec) = true := by kernel_rfl
set_option maxRecDepth 1000000 in
theorem SchemaRings_f_tie : namedTie Tryz.prog Rows.schemaRingsRow.named Rows.schemaRingsSpec.vars = true := by kernel_rfl
set_option maxRecDepth 1000000 in
theorem SchemaRings_f_place : (Rows.schemaRingsRow.inPlace == Tryz.prog.inPlace 3) = true := by kernel_rfl
set_option maxRecDepth 1000000 in
theorem SchemaRings_f_unf : (Rows.schemaRingsRow.unfollowed == Tryz.prog.unfollowed 3) = true := by kernel_rfl
set_option maxRecDepth 1000000 in
theorem SchemaRings_f_rec : (Rows.schemaRingsRow.recurses == Tryz.prog.recurses 3) = true := by kernel_rfl
set_option maxRecDepth 1000000 in
theorem SchemaRings_f_named : (Rows.schemaRingsRow.named == Tryz.prog.varsNamed 3) = true := by kernel_rfl
set_option maxRecDepth 1000000 in
theorem SchemaRings_f_loops : (Rows.schemaRingsRow.loops == (Tryz.f3.params.toList ++ Rows.schemaRingsSpec.plain.varTypes Tryz.prog).any (Tryz.prog.loopsFrom ·)) = true := by kernel_rfl
set_option maxRecDepth 1000000 in
theorem SchemaRings_f_read : Rows.schemaRingsSpec.vars.all (Tryz.prog.varReadable ·) = true := by kernel_rfl
set_option maxRecDepth 1000000 in
theorem SchemaRings_f_pin : (Rows.schemaRingsRow.pinned == Rows.schemaRingsRow.pinnedBy) = true := by kernel_rfl
set_option maxRecDepth 1000000 in
theorem SchemaRings_f_text : Rows.schemaRingsRow.wfByText (OpenSpec.ofChange Rows.schemaRingsSpec) = true := by kernel_rfl
set_option maxRecDepth 1000000 in
theorem SchemaRings_f_goes : false = Rows.schemaRingsRow.goesBy Tryz.prog := by kernel_rfl
set_option maxRecDepth 1000000 in
theorem SchemaRings_closed : joinedFacts Tryz.prog 3 Tryz.f3 Rows.schemaRingsSpec Rows.schemaRingsRow = true := by
  unfold joinedFacts
  simp only [Bool.and_eq_true]
  exact ⟨⟨⟨⟨⟨⟨⟨⟨⟨⟨⟨⟨⟨⟨⟨⟨⟨⟨⟨⟨⟨⟨⟨⟨⟨⟨⟨⟨⟨⟨⟨SchemaRings_f_wf, zf_laid⟩, zf_maps⟩, (by kernel_rfl)⟩, SchemaRings_f_tie⟩, (by kernel_rfl)⟩, (by kernel_rfl)⟩, (by kernel_rfl)⟩, (by kernel_rfl)⟩, SchemaRings_f_place⟩, SchemaRings_f_unf⟩, SchemaRings_f_rec⟩, SchemaRings_f_named⟩, (by kernel_rfl)⟩, (by kernel_rfl)⟩, (by kernel_rfl)⟩, SchemaRings_f_loops⟩, (by kernel_rfl)⟩, SchemaRings_f_read⟩, (by kernel_rfl)⟩, (by kernel_rfl)⟩, (by kernel_rfl)⟩, zf_keys⟩, (by kernel_rfl)⟩, zf_heard⟩, zf_enter⟩, zf_lift⟩, (by kernel_rfl)⟩, (by kernel_rfl)⟩, SchemaRings_f_pin⟩, (by kernel_rfl)⟩, (by kernel_rfl)⟩
theorem SchemaRings_row : Rows.SchemaRingsSaid :=
  OpenClaim.holds_of_wide 3 Tryz.f3 rfl rfl rfl rfl rfl rfl rfl ⟨rfl, rfl, rfl, rfl, rfl⟩ rfl rfl rfl rfl rfl (by kernel_rfl) Tryz.func3 SchemaRings_closed
    (of_decide_eq_true (by kernel_rfl)) (by unfold Func.isWrapper; first | (rw [if_pos (by decide +kernel)]; kernel_rfl) | (rw [if_neg (by decide +kernel)]; exact ⟨rfl, rfl⟩))
    (fun os started H enc _ => SchemaRings_lifted os started H enc)
theorem SchemaRings_holds : Rows.SchemaRingsCardSaid :=
  Claim7.holds_tied_plain_at .later [] [.data, .data, .data, .data, .sentinel, .sentinel, .pinned] true (true, "64651976b4b1362d9987b28889d977338d9d605105d9f177b3ee9c2b7dd28d8a") true
    SchemaRings_row (fun _ h => by cases h) SchemaRings_f_text (fun _ h => by cases h) schemaRings_row_tie rfl ⟨rfl, rfl⟩ (by kernel_rfl) rfl
    (fun f fn hf hfn => by
      obtain rfl : f = 3 := Option.some.inj ((show Tryz.prog.funcNamed "palaver/palaverlaw11.SchemaRings" = some 3 by kernel_rfl).symm.trans hf) |>.symm
      obtain rfl : fn = Tryz.f3 := (Option.some.inj (Tryz.func3.symm.trans hfn)).symm
      exact ⟨by kernel_rfl, fun j t ht => by
        rw [Tryz.params3] at ht
        have hm : t ∈ [3, 3, 4] := by simpa using Array.mem_of_getElem? ht
        have hall : ([3, 3, 4].all fun u => !Tryz.prog.wantsStandIn u) = true := by kernel_rfl
        exact (show Tryz.prog.wantsStandIn t = false by simpa using List.all_eq_true.1 hall t hm)⟩)
    SchemaRings_f_goes
#print axioms SchemaRings_holds
end Go.Proofs.YtpfhhikbaeknpaaGreatDoor
