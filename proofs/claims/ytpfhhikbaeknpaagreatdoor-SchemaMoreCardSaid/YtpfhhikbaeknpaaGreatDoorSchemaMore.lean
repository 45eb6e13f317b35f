/- For every input the law SchemaMore returns true and leaves its arguments as they were; the package-level variables that its row lists are tied to the text of the program (a tied card). Conditions: the row's own. -/
import Derived.Test.YtpfhhikbaeknpaaGreatDoorSW
import Derived.Test.YtpfhhikbaeknpaaGreatDoorR2
import Derived.Test.YtpfhhikbaeknpaaGreatDoorSO
import Derived.Test.YtpfhhikbaeknpaaGreatDoorTie
import Derived.Test.YtpfhhikbaeknpaaGreatDoorCards
import Derived.ChangeMaps5
import Derived.ProofKit
import Derived.OpenShut
import Derived.LaidMore
import Derived.Lay
import Derived.SevenTiedAt
import Derived.Stop.Joined
set_option linter.unusedSimpArgs false
set_option linter.unusedVariables false
namespace Go.Proofs.YtpfhhikbaeknpaaGreatDoor
open Go.RowKit Pal Go.ChangeShapes Go.WideShapes Go.ChangeAt
open Go
theorem SchemaMore_lay {W : World} (h : laidMetH Tryz.prog Rows.schemaMoreRow.laid W) : Lay2 W := by
  rw [MakeChecks.laidMetH_plain _ _ _ (by kernel_rfl)] at h
  exact lay2_of_reads (Go.Lib.laidMet.reads h (by simp [Rows.schemaMoreRow])) (Go.Lib.laidMet.reads h (by simp [Rows.schemaMoreRow])) (Go.Lib.laidMet.reads h (by simp [Rows.schemaMoreRow])) (Go.Lib.laidMet.reads h (by simp [Rows.schemaMoreRow]))
set_option maxRecDepth 1000000 in
theorem SchemaMore_lifted (os : Os) (started : os.Started) (H : Type) (enc : TypeId × Value → H) :
    ReturnsInHanded {} Tryz.checked os 7 .any (fun w args => (Rows.schemaMoreSpec.pre enc Tryz.prog Tryz.f7 Rows.schemaMoreRow.domain false w args ∧ laidMetH Tryz.prog Rows.schemaMoreRow.laid w) ∧ sizedMet enc Tryz.prog Tryz.f7 (OpenSpec.ofChange Rows.schemaMoreSpec) false w args)
      (Rows.schemaMoreSpec.post enc Tryz.prog Tryz.f7 false true false false) := by
  refine returnsInHanded_of_change_and (C := Tryz.checked) (X := fun w _ => laidMetH Tryz.prog Rows.schemaMoreRow.laid w) (fun _ _ _ hh h => h.of_heap hh) Tryz.own started (by kernel_rfl) Tryz.func7
    (ChangeSpec.witness_shaped (enc := enc) (C := Tryz.checked) (os := os) (X := fun w _ => laidMetH Tryz.prog Rows.schemaMoreRow.laid w) false (World.laidAll Tryz.prog os Rows.schemaMoreRow.laid) #[.slice none 0 0, .string ByteArray.empty, .int .i64 0] 8 (World.laidAll_os _ _ _)
      (World.shaped_of_ZipB (by kernel_rfl) (by kernel_rfl)) (by kernel_rfl) (by kernel_rfl) (by kernel_rfl)
      (by rw [MakeChecks.laidMetH_plain _ _ _ (by kernel_rfl)]; exact laidMet_laidAll _ (by kernel_rfl) (by kernel_rfl))) ?_
  intro W base args ds gs before hval0 hW hcnd hreach hL _
  have hval : ∀ (j : Nat) t v, Tryz.f7.params[j]? = some t → args[j]? = some v → Value.okWide Tryz.prog W .any base t v := hval0
  have hW' := hW
  obtain ⟨p, q, hA0, hV, rfl, hfz, hnd⟩ := hW
  have hA : DataW.TrodAll enc Tryz.prog W 0 (fun _ => true) true Tryz.f7.params.toList args.toList ds p := hA0
  rw [Tryz.params7] at hA hval
  obtain ⟨v0, vs0, d0, ds0, p0, q0, hargs, rfl, rfl, h0, r0⟩ := trodAll_cons hA
  obtain ⟨v1, vs1, d1, ds1, p1, q1, rfl, rfl, rfl, h1, r1⟩ := trodAll_cons r0
  obtain ⟨v2, vs2, d2, ds2, p2, q2, rfl, rfl, rfl, h2, r2⟩ := trodAll_cons r1
  obtain ⟨rfl, rfl, rfl⟩ := trodAll_nil r2
  obtain rfl : args = #[v0, v1, v2] := by cases args; simp_all
  obtain ⟨rfl, rfl⟩ := trodVars_none hV
  have k0 := h0
  have lt0 : ∀ x ∈ p0, x.block < W.heap.size := by obtain ⟨m, hm⟩ := k0; exact DataW.trod_lt m _ _ _ hm
  obtain ⟨a0, x0, o0⟩ := fds_open (hval 0 25 v0 rfl rfl) h0
  obtain ⟨a1, rfl, rfl, rfl, w1⟩ := Go.ChangeMaps.open_string Tryz.underlying9 (hval 1 9 v1 rfl rfl) h1
  obtain ⟨a2, rfl, rfl, rfl, w2⟩ := open_int Tryz.underlying3 (hval 2 3 v2 rfl rfl) h2
  have hlay := SchemaMore_lay hL
  clear hA0 hval0 hL
  refine (more_walk a0 _ a1.data.toList a2 W hlay x0 o0 (by have := w1; unfold maxLen at this; rw [Array.length_toList]; exact this) (wf_i64 w2)).mono fun e W' ⟨he, bel⟩ => ?_
  subst he
  exact ⟨_, rfl, _, _, _, [], _, [], hW', trodAll_mk1 (shut_bool Tryz.underlying4 _), (trodAll_cons_mk (Below.trod (by kernel_rfl) (by kernel_rfl) (of_decide_eq_true (by kernel_rfl)) k0 bel lt0) (trodAll_cons_mk (Go.ChangeMaps.shut_string Tryz.underlying9 w1) (trodAll_cons_mk (shut_int Tryz.underlying3 w2) trodAll_mk0))), rfl, bel.frame _, fun h => by cases h⟩
set_option maxRecDepth 1000000 in
theorem SchemaMore_f_wf : Rows.schemaMoreRow.wf (OpenSpec.ofChange Rows.schemaMoreSpec) = true := by kernel_rfl
set_option maxRecDepth 1000000 in
theorem SchemaMore_f_tie : namedTie Tryz.prog Rows.schemaMoreRow.named Rows.schemaMoreSpec.vars = true := by kernel_rfl
set_option maxRecDepth 1000000 in
theorem SchemaMore_f_place : (Rows.schemaMoreRow.inPlace == Tryz.prog.inPlace 7) = true := by kernel_rfl
set_option maxRecDepth 1000000 in
theorem SchemaMore_f_unf : (Rows.schemaMoreRow.unfollowed == Tryz.prog.unfollowed 7) = true := by kernel_rfl
set_option maxRecDepth 1000000 in
theorem SchemaMore_f_rec : (Rows.schemaMoreRow.recurses == Tryz.prog.recurses 7) = true := by kernel_rfl
set_option maxRecDepth 1000000 in
theorem SchemaMore_f_named : (Rows.schemaMoreRow.named == Tryz.prog.varsNamed 7) = true := by kernel_rfl
set_option maxRecDepth 1000000 in
theorem SchemaMore_f_loops : (Rows.schemaMoreRow.loops == (Tryz.f7.params.toList ++ Rows.schemaMoreSpec.plain.varTypes Tryz.prog).any (Tryz.prog.loopsFrom ·)) = true := by kernel_rfl
set_option maxRecDepth 1000000 in
theorem SchemaMore_f_read : Rows.schemaMoreSpec.vars.all (Tryz.prog.varReadable ·) = true := by kernel_rfl
set_option maxRecDepth 1000000 in
theorem SchemaMore_f_pin : (Rows.schemaMoreRow.pinned == Rows.schemaMoreRow.pinnedBy) = true := by kernel_rfl
set_option maxRecDepth 1000000 in
theorem SchemaMore_f_text : Rows.schemaMoreRow.wfByText (OpenSpec.ofChange Rows.schemaMoreSpec) = true := by kernel_rfl
set_option maxRecDepth 1000000 in
theorem SchemaMore_f_goes : false = Rows.schemaMoreRow.goesBy Tryz.prog := by kernel_rfl
set_option maxRecDepth 1000000 in
theorem SchemaMore_closed : joinedFacts Tryz.prog 7 Tryz.f7 Rows.schemaMoreSpec Rows.schemaMoreRow = true := by
  unfold joinedFacts
  simp only [Bool.and_eq_true]
  exact ⟨⟨⟨⟨⟨⟨⟨⟨⟨⟨⟨⟨⟨⟨⟨⟨⟨⟨⟨⟨⟨⟨⟨⟨⟨⟨⟨⟨⟨⟨⟨SchemaMore_f_wf, zf_laid⟩, zf_maps⟩, (by kernel_rfl)⟩, SchemaMore_f_tie⟩, (by kernel_rfl)⟩, (by kernel_rfl)⟩, (by kernel_rfl)⟩, (by kernel_rfl)⟩, SchemaMore_f_place⟩, SchemaMore_f_unf⟩, SchemaMore_f_rec⟩, SchemaMore_f_named⟩, (by kernel_rfl)⟩, (by kernel_rfl)⟩, (by kernel_rfl)⟩, SchemaMore_f_loops⟩, (by kernel_rfl)⟩, SchemaMore_f_read⟩, (by kernel_rfl)⟩, (by kernel_rfl)⟩, (by kernel_rfl)⟩, zf_keys⟩, (by kernel_rfl)⟩, zf_heard⟩, zf_enter⟩, zf_lift⟩, (by kernel_rfl)⟩, (by kernel_rfl)⟩, SchemaMore_f_pin⟩, (by kernel_rfl)⟩, (by kernel_rfl)⟩
theorem SchemaMore_row : Rows.SchemaMoreSaid :=
  OpenClaim.holds_of_wide 7 Tryz.f7 rfl rfl rfl rfl rfl rfl rfl ⟨rfl, rfl, rfl, rfl, rfl⟩ rfl rfl rfl rfl rfl (by kernel_rfl) Tryz.func7 SchemaMore_closed
    (of_decide_eq_true (by kernel_rfl)) (by unfold Func.isWrapper; first | (rw [if_pos (by decide +kernel)]; kernel_rfl) | (rw [if_neg (by decide +kernel)]; exact ⟨rfl, rfl⟩))
    (fun os started H enc _ => SchemaMore_lifted os started H enc)
theorem SchemaMore_holds : Rows.SchemaMoreCardSaid :=
  Claim7.holds_tied_plain_at .later [] [.data, .data, .data, .data, .sentinel, .sentinel, .pinned] true (true, "64651976b4b1362d9987b28889d977338d9d605105d9f177b3ee9c2b7dd28d8a") true
    SchemaMore_row (fun _ h => by cases h) SchemaMore_f_text (fun _ h => by cases h) schemaMore_row_tie rfl ⟨rfl, rfl⟩ (by kernel_rfl) rfl
    (fun f fn hf hfn => by
      obtain rfl : f = 7 := Option.some.inj ((show Tryz.prog.funcNamed "palaver/palaverlaw11.SchemaMore" = some 7 by kernel_rfl).symm.trans hf) |>.symm
      obtain rfl : fn = Tryz.f7 := (Option.some.inj (Tryz.func7.symm.trans hfn)).symm
      exact ⟨by kernel_rfl, fun j t ht => by
        rw [Tryz.params7] at ht
        have hm : t ∈ [25, 9, 3] := by simpa using Array.mem_of_getElem? ht
        have hall : ([25, 9, 3].all fun u => !Tryz.prog.wantsStandIn u) = true := by kernel_rfl
        exact (show Tryz.prog.wantsStandIn t = false by simpa using List.all_eq_true.1 hall t hm)⟩)
    SchemaMore_f_goes
#print axioms SchemaMore_holds
end Go.Proofs.YtpfhhikbaeknpaaGreatDoor
