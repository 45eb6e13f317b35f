/- For every input the law SchemaAhead returns true and leaves its arguments as they were; the package-level variables that its row lists are tied to the text of the program (a tied card). Conditions: the row's own. -/
import Derived.Test.YtpfhhikbaeknpaaGreatDoorSN
import Derived.Test.YtpfhhikbaeknpaaGreatDoorR2
import Derived.Test.YtpfhhikbaeknpaaGreatDoorR3
import Derived.Test.YtpfhhikbaeknpaaGreatDoorTie
import Derived.Test.YtpfhhikbaeknpaaGreatDoorCards
import Derived.ChangeMaps5
import Derived.ProofKit
import Derived.OpenShut
import Derived.LaidMore
import Derived.Lay
import Derived.SevenTiedAt
import Derived.Stop.Joined
set_option linter.unusedSimpArgs false
set_option linter.unusedVariables false
namespace Go.Proofs.YtpfhhikbaeknpaaGreatDoor
open Go.RowKit Pal Go.ChangeShapes Go.WideShapes Go.ChangeAt
open Go
theorem SchemaAhead_lay {W : World} (h : laidMetH Tryz.prog Rows.schemaAheadRow.laid W) : Lay2 W := by
  rw [MakeChecks.laidMetH_plain _ _ _ (by kernel_rfl)] at h
  exact lay2_of_reads (Go.Lib.laidMet.reads h (by simp [Rows.schemaAheadRow])) (Go.Lib.laidMet.reads h (by simp [Rows.schemaAheadRow])) (Go.Lib.laidMet.reads h (by simp [Rows.schemaAheadRow])) (Go.Lib.laidMet.reads h (by simp [Rows.schemaAheadRow]))
set_option maxRecDepth 1000000 in
theorem SchemaAhead_lifted (os : Os) (started : os.Started) (H : Type) (enc : TypeId × Value → H) :
    ReturnsInHanded {} Tryz.checked os 5 .any (fun w args => (Rows.schemaAheadSpec.pre enc Tryz.prog Tryz.f5 Rows.schemaAheadRow.domain false w args ∧ laidMetH Tryz.prog Rows.schemaAheadRow.laid w) ∧ sizedMet enc Tryz.prog Tryz.f5 (OpenSpec.ofChange Rows.schemaAheadSpec) false w args)
      (Rows.schemaAheadSpec.post enc Tryz.prog Tryz.f5 false true false false) := by
  refine returnsInHanded_of_change_and (C := Tryz.checked) (X := fun w _ => laidMetH Tryz.prog Rows.schemaAheadRow.laid w) (fun _ _ _ hh h => h.of_heap hh) Tryz.own started (by kernel_rfl) Tryz.func5
    (ChangeSpec.witness_shaped (enc := enc) (C := Tryz.checked) (os := os) (X := fun w _ => laidMetH Tryz.prog Rows.schemaAheadRow.laid w) false (World.laidAll Tryz.prog os Rows.schemaAheadRow.laid) #[.slice none 0 0, .int .i64 0] 8 (World.laidAll_os _ _ _)
      (World.shaped_of_ZipB (by kernel_rfl) (by kernel_rfl)) (by kernel_rfl) (by kernel_rfl) (by kernel_rfl)
      (by rw [MakeChecks.laidMetH_plain _ _ _ (by kernel_rfl)]; exact laidMet_laidAll _ (by kernel_rfl) (by kernel_rfl))) ?_
  intro W base args ds gs before hval0 hW hcnd hreach hL _
  have hval : ∀ (j : Nat) t v, Tryz.f5.params[j]? = some t → args[j]? = some v → Value.okWide Tryz.prog W .any base t v := hval0
  have hW' := hW
  obtain ⟨p, q, hA0, hV, rfl, hfz, hnd⟩ := hW
  have hA : DataW.TrodAll enc Tryz.prog W 0 (fun _ => true) true Tryz.f5.params.toList args.toList ds p := hA0
  rw [Tryz.params5] at hA hval
  obtain ⟨v0, vs0, d0, ds0, p0, q0, hargs, rfl, rfl, h0, r0⟩ := trodAll_cons hA
  obtain ⟨v1, vs1, d1, ds1, p1, q1, rfl, rfl, rfl, h1, r1⟩ := trodAll_cons r0
  obtain ⟨rfl, rfl, rfl⟩ := trodAll_nil r1
  obtain rfl : args = #[v0, v1] := by cases args; simp_all
  obtain ⟨rfl, rfl⟩ := trodVars_none hV
  have k0 := h0
  have lt0 : ∀ x ∈ p0, x.block < W.heap.size := by obtain ⟨m, hm⟩ := k0; exact DataW.trod_lt m _ _ _ hm
  obtain ⟨a0, x0, o0⟩ := fds_open (hval 0 25 v0 rfl rfl) h0
  obtain ⟨a1, rfl, rfl, rfl, w1⟩ := open_int Tryz.underlying3 (hval 1 3 v1 rfl rfl) h1
  have hlay := SchemaAhead_lay hL
  clear hA0 hval0 hL
  refine (ahead_walk a0 _ a1 W hlay x0 o0 (wf_i64 w1)).mono fun e W' ⟨he, bel⟩ => ?_
  subst he
  exact ⟨_, rfl, _, _, _, [], _, [], hW', trodAll_mk1 (shut_bool Tryz.underlying4 _), (trodAll_cons_mk (Below.trod (by kernel_rfl) (by kernel_rfl) (of_decide_eq_true (by kernel_rfl)) k0 bel lt0) (trodAll_cons_mk (shut_int Tryz.underlying3 w1) trodAll_mk0)), rfl, bel.frame _, fun h => by cases h⟩
set_option maxRecDepth 1000000 in
theorem SchemaAhead_f_wf : Rows.schemaAheadRow.wf (OpenSpec.ofChange Rows.schemaAheadSpec) = true := by kernel_rfl
set_option maxRecDepth 1000000 in
theorem SchemaAhead_f_tie : namedTie Tryz.prog Rows.schemaAheadRow.named Rows.schemaAheadSpec.vars = true := by kernel_rfl
set_option maxRecDepth 1000000 in
theorem SchemaAhead_f_place : (Rows.schemaAheadRow.inPlace == Tryz.prog.inPlace 5) = true := by kernel_rfl
set_option maxRecDepth 1000000 in
theorem SchemaAhead_f_unf : (Rows.schemaAheadRow.unfollowed == Tryz.prog.unfollowed 5) = true := by kernel_rfl
set_option maxRecDepth 1000000 in
theorem SchemaAhead_f_rec : (Rows.schemaAheadRow.recurses == Tryz.prog.recurses 5) = true := by kernel_rfl
set_option maxRecDepth 1000000 in
theorem SchemaAhead_f_named : (Rows.schemaAheadRow.named == Tryz.prog.varsNamed 5) = true := by kernel_rfl
set_option maxRecDepth 1000000 in
theorem SchemaAhead_f_loops : (Rows.schemaAheadRow.loops == (Tryz.f5.params.toList ++ Rows.schemaAheadSpec.plain.varTypes Tryz.prog).any (Tryz.prog.loopsFrom ·)) = true := by kernel_rfl
set_option maxRecDepth 1000000 in
theorem SchemaAhead_f_read : Rows.schemaAheadSpec.vars.all (Tryz.prog.varReadable ·) = true := by kernel_rfl
set_option maxRecDepth 1000000 in
theorem SchemaAhead_f_pin : (Rows.schemaAheadRow.pinned == Rows.schemaAheadRow.pinnedBy) = true := by kernel_rfl
set_option maxRecDepth 1000000 in
theorem SchemaAhead_f_text : Rows.schemaAheadRow.wfByText (OpenSpec.ofChange Rows.schemaAheadSpec) = true := by kernel_rfl
set_option maxRecDepth 1000000 in
theorem SchemaAhead_f_goes : false = Rows.schemaAheadRow.goesBy Tryz.prog := by kernel_rfl
set_option maxRecDepth 1000000 in
theorem SchemaAhead_closed : joinedFacts Tryz.prog 5 Tryz.f5 Rows.schemaAheadSpec Rows.schemaAheadRow = true := by
  unfold joinedFacts
  simp only [Bool.and_eq_true]
  exact ⟨⟨⟨⟨⟨⟨⟨⟨⟨⟨⟨⟨⟨⟨⟨⟨⟨⟨⟨⟨⟨⟨⟨⟨⟨⟨⟨⟨⟨⟨⟨SchemaAhead_f_wf, zf_laid⟩, zf_maps⟩, (by kernel_rfl)⟩, SchemaAhead_f_tie⟩, (by kernel_rfl)⟩, (by kernel_rfl)⟩, (by kernel_rfl)⟩, (by kernel_rfl)⟩, SchemaAhead_f_place⟩, SchemaAhead_f_unf⟩, SchemaAhead_f_rec⟩, SchemaAhead_f_named⟩, (by kernel_rfl)⟩, (by kernel_rfl)⟩, (by kernel_rfl)⟩, SchemaAhead_f_loops⟩, (by kernel_rfl)⟩, SchemaAhead_f_read⟩, (by kernel_rfl)⟩, (by kernel_rfl)⟩, (by kernel_rfl)⟩, zf_keys⟩, (by kernel_rfl)⟩, zf_heard⟩, zf_enter⟩, zf_lift⟩, (by kernel_rfl)⟩, (by kernel_rfl)⟩, SchemaAhead_f_pin⟩, (by kernel_rfl)⟩, (by kernel_rfl)⟩
theorem SchemaAhead_row : Rows.SchemaAheadSaid :=
  OpenClaim.holds_of_wide 5 Tryz.f5 rfl rfl rfl rfl rfl rfl rfl ⟨rfl, rfl, rfl, rfl, rfl⟩ rfl rfl rfl rfl rfl (by kernel_rfl) Tryz.func5 SchemaAhead_closed
    (of_decide_eq_true (by kernel_rfl)) (by unfold Func.isWrapper; first | (rw [if_pos (by decide +kernel)]; kernel_rfl) | (rw [if_neg (by decide +kernel)]; exact ⟨rfl, rfl⟩))
    (fun os started H enc _ => SchemaAhead_lifted os started H enc)
theorem SchemaAhead_holds : Rows.SchemaAheadCardSaid :=
  Claim7.holds_tied_plain_at .later [] [.data, .data, .data, .data, .sentinel, .sentinel, .pinned] true (true, "64651976b4b1362d9987b28889d977338d9d605105d9f177b3ee9c2b7dd28d8a") true
    SchemaAhead_row (fun _ h => by cases h) SchemaAhead_f_text (fun _ h => by cases h) schemaAhead_row_tie rfl ⟨rfl, rfl⟩ (by kernel_rfl) rfl
    (fun f fn hf hfn => by
      obtain rfl : f = 5 := Option.some.inj ((show Tryz.prog.funcNamed "palaver/palaverlaw11.SchemaAhead" = some 5 by kernel_rfl).symm.trans hf) |>.symm
      obtain rfl : fn = Tryz.f5 := (Option.some.inj (Tryz.func5.symm.trans hfn)).symm
      exact ⟨by kernel_rfl, fun j t ht => by
        rw [Tryz.params5] at ht
        have hm : t ∈ [25, 3] := by simpa using Array.mem_of_getElem? ht
        have hall : ([25, 3].all fun u => !Tryz.prog.wantsStandIn u) = true := by kernel_rfl
        exact (show Tryz.prog.wantsStandIn t = false by simpa using List.all_eq_true.1 hall t hm)⟩)
    SchemaAhead_f_goes
#print axioms SchemaAhead_holds
end Go.Proofs.YtpfhhikbaeknpaaGreatDoor
