/- For every input the law SchemaFinds returns true and leaves its arguments as they were; the package-level variables that its row lists are tied to the text of the program (a tied card). Conditions: the row's own. -/
import Derived.Test.YtpfhhikbaeknpaaGreatDoorKR2
import Derived.Test.YtpfhhikbaeknpaaGreatDoorKR4
import Derived.Test.YtpfhhikbaeknpaaGreatDoorTie
import Derived.Test.YtpfhhikbaeknpaaGreatDoorCards
import Derived.ChangeMaps5
import Derived.ProofKit
import Derived.OpenShut
import Derived.LaidMore
import Derived.Lay
import Derived.SevenTiedAt
import Derived.Stop.Joined
set_option linter.unusedSimpArgs false
set_option linter.unusedVariables false
namespace Go.Proofs.YtpfhhikbaeknpaaGreatDoor
open Go.RowKit Pal Go.ChangeShapes Go.WideShapes Go.ChangeAt
open Go
theorem SchemaFinds_lay {W : World} (h : laidMetH Tryz.prog Rows.schemaFindsRow.laid W) : Lay2 W := by
  rw [MakeChecks.laidMetH_plain _ _ _ (by kernel_rfl)] at h
  exact lay2_of_reads (Go.Lib.laidMet.reads h (by simp [Rows.schemaFindsRow])) (Go.Lib.laidMet.reads h (by simp [Rows.schemaFindsRow])) (Go.Lib.laidMet.reads h (by simp [Rows.schemaFindsRow])) (Go.Lib.laidMet.reads h (by simp [Rows.schemaFindsRow]))
set_option maxRecDepth 1000000 in
theorem SchemaFinds_lifted (os : Os) (started : os.Started) (H : Type) (enc : TypeId × Value → H) :
    ReturnsInHanded {} Tryz.checked os 6 .any (fun w args => (Rows.schemaFindsSpec.pre enc Tryz.prog Tryz.f6 Rows.schemaFindsRow.domain false w args ∧ laidMetH Tryz.prog Rows.schemaFindsRow.laid w) ∧ sizedMet enc Tryz.prog Tryz.f6 (OpenSpec.ofChange Rows.schemaFindsSpec) false w args)
      (Rows.schemaFindsSpec.post enc Tryz.prog Tryz.f6 false true false false) := by
  refine returnsInHanded_of_change_and (C := Tryz.checked) (X := fun w _ => laidMetH Tryz.prog Rows.schemaFindsRow.laid w) (fun _ _ _ hh h => h.of_heap hh) Tryz.own started (by kernel_rfl) Tryz.func6
    (ChangeSpec.witness_shaped (enc := enc) (C := Tryz.checked) (os := os) (X := fun w _ => laidMetH Tryz.prog Rows.schemaFindsRow.laid w) false (World.laidAll Tryz.prog os Rows.schemaFindsRow.laid) #[.slice none 0 0, .string ByteArray.empty] 8 (World.laidAll_os _ _ _)
      (World.shaped_of_ZipB (by kernel_rfl) (by kernel_rfl)) (by kernel_rfl) (by kernel_rfl) (by kernel_rfl)
      (by rw [MakeChecks.laidMetH_plain _ _ _ (by kernel_rfl)]; exact laidMet_laidAll _ (by kernel_rfl) (by kernel_rfl))) ?_
  intro W base args ds gs before hval0 hW hcnd hreach hL _
  have hval : ∀ (j : Nat) t v, Tryz.f6.params[j]? = some t → args[j]? = some v → Value.okWide Tryz.prog W .any base t v := hval0
  have hW' := hW
  obtain ⟨p, q, hA0, hV, rfl, hfz, hnd⟩ := hW
  have hA : DataW.TrodAll enc Tryz.prog W 0 (fun _ => true) true Tryz.f6.params.toList args.toList ds p := hA0
  rw [Tryz.params6] at hA hval
  obtain ⟨v0, vs0, d0, ds0, p0, q0, hargs, rfl, rfl, h0, r0⟩ := trodAll_cons hA
  obtain ⟨v1, vs1, d1, ds1, p1, q1, rfl, rfl, rfl, h1, r1⟩ := trodAll_cons r0
  obtain ⟨rfl, rfl, rfl⟩ := trodAll_nil r1
  obtain rfl : args = #[v0, v1] := by cases args; simp_all
  obtain ⟨rfl, rfl⟩ := trodVars_none hV
  have k0 := h0
  have lt0 : ∀ x ∈ p0, x.block < W.heap.size := by obtain ⟨m, hm⟩ := k0; exact DataW.trod_lt m _ _ _ hm
  obtain ⟨a0, x0, o0⟩ := fds_open (hval 0 25 v0 rfl rfl) h0
  obtain ⟨a1, rfl, rfl, rfl, w1⟩ := Go.ChangeMaps.open_string Tryz.underlying9 (hval 1 9 v1 rfl rfl) h1
  have hlay := SchemaFinds_lay hL
  clear hA0 hval0 hL
  refine (finds_walk a0 _ a1.data.toList W hlay x0 o0 (by have := w1; unfold maxLen at this; rw [Array.length_toList]; exact this)).mono fun e W' ⟨he, bel⟩ => ?_
  subst he
  exact ⟨_, rfl, _, _, _, [], _, [], hW', trodAll_mk1 (shut_bool Tryz.underlying4 _), (trodAll_cons_mk (Below.trod (by kernel_rfl) (by kernel_rfl) (of_decide_eq_true (by kernel_rfl)) k0 bel lt0) (trodAll_cons_mk (Go.ChangeMaps.shut_string Tryz.underlying9 w1) trodAll_mk0)), rfl, bel.frame _, fun h => by cases h⟩
set_option maxRecDepth 1000000 in
theorem SchemaFinds_f_wf : Rows.schemaFindsRow.wf (OpenSpec.ofChange Rows.schemaFindsSpec) = true := by kernel_rfl
set_option maxRecDepth 1000000 in
theorem SchemaFinds_f_tie : namedTie Tryz.prog Rows.schemaFindsRow.named Rows.schemaFindsSpec.vars = true := by kernel_rfl
set_option maxRecDepth 1000000 in
theorem SchemaFinds_f_place : (Rows.schemaFindsRow.inPlace == Tryz.prog.inPlace 6) = true := by kernel_rfl
set_option maxRecDepth 1000000 in
theorem SchemaFinds_f_unf : (Rows.schemaFindsRow.unfollowed == Tryz.prog.unfollowed 6) = true := by kernel_rfl
set_option maxRecDepth 1000000 in
theorem SchemaFinds_f_rec : (Rows.schemaFindsRow.recurses == Tryz.prog.recurses 6) = true := by kernel_rfl
set_option maxRecDepth 1000000 in
theorem SchemaFinds_f_named : (Rows.schemaFindsRow.named == Tryz.prog.varsNamed 6) = true := by kernel_rfl
set_option maxRecDepth 1000000 in
theorem SchemaFinds_f_loops : (Rows.schemaFindsRow.loops == (Tryz.f6.params.toList ++ Rows.schemaFindsSpec.plain.varTypes Tryz.prog).any (Tryz.prog.loopsFrom ·)) = true := by kernel_rfl
set_option maxRecDepth 1000000 in
theorem SchemaFinds_f_read : Rows.schemaFindsSpec.vars.all (Tryz.prog.varReadable ·) = true := by kernel_rfl
set_option maxRecDepth 1000000 in
theorem SchemaFinds_f_pin : (Rows.schemaFindsRow.pinned == Rows.schemaFindsRow.pinnedBy) = true := by kernel_rfl
set_option maxRecDepth 1000000 in
theorem SchemaFinds_f_text : Rows.schemaFindsRow.wfByText (OpenSpec.ofChange Rows.schemaFindsSpec) = true := by kernel_rfl
set_option maxRecDepth 1000000 in
theorem SchemaFinds_f_goes : false = Rows.schemaFindsRow.goesBy Tryz.prog := by kernel_rfl
set_option maxRecDepth 1000000 in
theorem SchemaFinds_closed : joinedFacts Tryz.prog 6 Tryz.f6 Rows.schemaFindsSpec Rows.schemaFindsRow = true := by
  unfold joinedFacts
  simp only [Bool.and_eq_true]
  exact ⟨⟨⟨⟨⟨⟨⟨⟨⟨⟨⟨⟨⟨⟨⟨⟨⟨⟨⟨⟨⟨⟨⟨⟨⟨⟨⟨⟨⟨⟨⟨SchemaFinds_f_wf, zf_laid⟩, zf_maps⟩, (by kernel_rfl)⟩, SchemaFinds_f_tie⟩, (by kernel_rfl)⟩, (by kernel_rfl)⟩, (by kernel_rfl)⟩, (by kernel_rfl)⟩, SchemaFinds_f_place⟩, SchemaFinds_f_unf⟩, SchemaFinds_f_rec⟩, SchemaFinds_f_named⟩, (by kernel_rfl)⟩, (by kernel_rfl)⟩, (by kernel_rfl)⟩, SchemaFinds_f_loops⟩, (by kernel_rfl)⟩, SchemaFinds_f_read⟩, (by kernel_rfl)⟩, (by kernel_rfl)⟩, (by kernel_rfl)⟩, zf_keys⟩, (by kernel_rfl)⟩, zf_heard⟩, zf_enter⟩, zf_lift⟩, (by kernel_rfl)⟩, (by kernel_rfl)⟩, SchemaFinds_f_pin⟩, (by kernel_rfl)⟩, (by kernel_rfl)⟩
theorem SchemaFinds_row : Rows.SchemaFindsSaid :=
  OpenClaim.holds_of_wide 6 Tryz.f6 rfl rfl rfl rfl rfl rfl rfl ⟨rfl, rfl, rfl, rfl, rfl⟩ rfl rfl rfl rfl rfl (by kernel_rfl) Tryz.func6 SchemaFinds_closed
    (of_decide_eq_true (by kernel_rfl)) (by unfold Func.isWrapper; first | (rw [if_pos (by decide +kernel)]; kernel_rfl) | (rw [if_neg (by decide +kernel)]; exact ⟨rfl, rfl⟩))
    (fun os started H enc _ => SchemaFinds_lifted os started H enc)
theorem SchemaFinds_holds : Rows.SchemaFindsCardSaid :=
  Claim7.holds_tied_plain_at .later [] [.data, .data, .data, .data, .sentinel, .sentinel, .pinned] true (true, "64651976b4b1362d9987b28889d977338d9d605105d9f177b3ee9c2b7dd28d8a") true
    SchemaFinds_row (fun _ h => by cases h) SchemaFinds_f_text (fun _ h => by cases h) schemaFinds_row_tie rfl ⟨rfl, rfl⟩ (by kernel_rfl) rfl
    (fun f fn hf hfn => by
      obtain rfl : f = 6 := Option.some.inj ((show Tryz.prog.funcNamed "palaver/palaverlaw11.SchemaFinds" = some 6 by kernel_rfl).symm.trans hf) |>.symm
      obtain rfl : fn = Tryz.f6 := (Option.some.inj (Tryz.func6.symm.trans hfn)).symm
      exact ⟨by kernel_rfl, fun j t ht => by
        rw [Tryz.params6] at ht
        have hm : t ∈ [25, 9] := by simpa using Array.mem_of_getElem? ht
        have hall : ([25, 9].all fun u => !Tryz.prog.wantsStandIn u) = true := by kernel_rfl
        exact (show Tryz.prog.wantsStandIn t = false by simpa using List.all_eq_true.1 hall t hm)⟩)
    SchemaFinds_f_goes
#print axioms SchemaFinds_holds
end Go.Proofs.YtpfhhikbaeknpaaGreatDoor
