/- For every input the law EvalNames returns true and leaves its arguments as they were; the package-level variables that its row lists are tied to the text of the program (a tied card). Conditions: the row's own. -/
import Derived.Test.YtoklhppalkgdeaaGreatDoorF10
import Derived.Test.YtoklhppalkgdeaaGreatDoorR2
import Derived.Test.YtoklhppalkgdeaaGreatDoorR4
import Derived.Test.YtoklhppalkgdeaaGreatDoorTie
import Derived.Test.YtoklhppalkgdeaaGreatDoorCards
import Derived.ChangeMaps5
import Derived.ProofKit
import Derived.OpenShut
import Derived.LaidMore
import Derived.Lay
import Derived.SevenTiedAt
import Derived.Stop.Joined
set_option linter.unusedSimpArgs false
set_option linter.unusedVariables false
namespace Go.Proofs.YtoklhppalkgdeaaGreatDoor
open Go.RowKit Pal Go.ChangeShapes Go.WideShapes Go.ChangeAt
open Go
theorem EvalNames_lay {W : World} (h : laidMetH Tryz.prog Rows.evalNamesRow.laid W) : Lay2 W := by
  rw [MakeChecks.laidMetH_plain _ _ _ (by kernel_rfl)] at h
  exact lay2_of_reads (Go.Lib.laidMet.reads h (by simp [Rows.evalNamesRow])) (Go.Lib.laidMet.reads h (by simp [Rows.evalNamesRow])) (Go.Lib.laidMet.reads h (by simp [Rows.evalNamesRow])) (Go.Lib.laidMet.reads h (by simp [Rows.evalNamesRow]))
set_option maxRecDepth 1000000 in
theorem EvalNames_lifted (os : Os) (started : os.Started) (H : Type) (enc : TypeId × Value → H) :
    ReturnsInHanded {} Tryz.checked os 7 .any (fun w args => (Rows.evalNamesSpec.pre enc Tryz.prog Tryz.f7 Rows.evalNamesRow.domain false w args ∧ laidMetH Tryz.prog Rows.evalNamesRow.laid w) ∧ sizedMet enc Tryz.prog Tryz.f7 (OpenSpec.ofChange Rows.evalNamesSpec) false w args)
      (Rows.evalNamesSpec.post enc Tryz.prog Tryz.f7 false true false false) := by
  refine returnsInHanded_of_change_and (C := Tryz.checked) (X := fun w _ => laidMetH Tryz.prog Rows.evalNamesRow.laid w) (fun _ _ _ hh h => h.of_heap hh) Tryz.own started (by kernel_rfl) Tryz.func7
    (ChangeSpec.witness_shaped (enc := enc) (C := Tryz.checked) (os := os) (X := fun w _ => laidMetH Tryz.prog Rows.evalNamesRow.laid w) false (World.laidAll Tryz.prog os Rows.evalNamesRow.laid) #[.agg #[.int .i64 0, .int .i64 0, .string ByteArray.empty, .slice none 0 0], .slice none 0 0, .slice none 0 0, .slice none 0 0] 8 (World.laidAll_os _ _ _)
      (World.shaped_of_ZipB (by kernel_rfl) (by kernel_rfl)) (by kernel_rfl) (by kernel_rfl) (by kernel_rfl)
      (by rw [MakeChecks.laidMetH_plain _ _ _ (by kernel_rfl)]; exact laidMet_laidAll _ (by kernel_rfl) (by kernel_rfl))) ?_
  intro W base args ds gs before hval0 hW hcnd hreach hL _
  have hval : ∀ (j : Nat) t v, Tryz.f7.params[j]? = some t → args[j]? = some v → Value.okWide Tryz.prog W .any base t v := hval0
  have hW' := hW
  obtain ⟨p, q, hA0, hV, rfl, hfz, hnd⟩ := hW
  have hA : DataW.TrodAll enc Tryz.prog W 0 (fun _ => true) true Tryz.f7.params.toList args.toList ds p := hA0
  rw [Tryz.params7] at hA hval
  obtain ⟨v0, vs0, d0, ds0, p0, q0, hargs, rfl, rfl, h0, r0⟩ := trodAll_cons hA
  obtain ⟨v1, vs1, d1, ds1, p1, q1, rfl, rfl, rfl, h1, r1⟩ := trodAll_cons r0
  obtain ⟨v2, vs2, d2, ds2, p2, q2, rfl, rfl, rfl, h2, r2⟩ := trodAll_cons r1
  obtain ⟨v3, vs3, d3, ds3, p3, q3, rfl, rfl, rfl, h3, r3⟩ := trodAll_cons r2
  obtain ⟨rfl, rfl, rfl⟩ := trodAll_nil r3
  obtain rfl : args = #[v0, v1, v2, v3] := by cases args; simp_all
  obtain ⟨rfl, rfl⟩ := trodVars_none hV
  have k0 := h0
  have lt0 : ∀ x ∈ p0, x.block < W.heap.size := by obtain ⟨m, hm⟩ := k0; exact DataW.trod_lt m _ _ _ hm
  obtain ⟨a0, x0, o0⟩ := ex_open (hval 0 28 v0 rfl rfl) h0
  have k1 := h1
  have lt1 : ∀ x ∈ p1, x.block < W.heap.size := by obtain ⟨m, hm⟩ := k1; exact DataW.trod_lt m _ _ _ hm
  obtain ⟨a1, x1, o1⟩ := strs_open (hval 1 22 v1 rfl rfl) h1
  have k2 := h2
  have lt2 : ∀ x ∈ p2, x.block < W.heap.size := by obtain ⟨m, hm⟩ := k2; exact DataW.trod_lt m _ _ _ hm
  obtain ⟨a2, x2, o2⟩ := vals_open (hval 2 42 v2 rfl rfl) h2
  have k3 := h3
  have lt3 : ∀ x ∈ p3, x.block < W.heap.size := by obtain ⟨m, hm⟩ := k3; exact DataW.trod_lt m _ _ _ hm
  obtain ⟨a3, x3, o3⟩ := vals_open (hval 3 42 v3 rfl rfl) h3
  have hlay := EvalNames_lay hL
  clear hA0 hval0 hL
  refine (evalnames_walk a0 _ a1 _ a2 _ a3 _ W hlay x0 o0 x1 o1 (strs_nil k1) x2 o2 (vals_nil k2) x3 o3 (vals_nil k3)).mono fun e W' ⟨he, bel⟩ => ?_
  subst he
  exact ⟨_, rfl, _, _, _, [], _, [], hW', trodAll_mk1 (shut_bool Tryz.underlying4 _), (trodAll_cons_mk (Below.trod (by kernel_rfl) (by kernel_rfl) (of_decide_eq_true (by kernel_rfl)) k0 bel lt0) (trodAll_cons_mk (Below.trod (by kernel_rfl) (by kernel_rfl) (of_decide_eq_true (by kernel_rfl)) k1 bel lt1) (trodAll_cons_mk (Below.trod (by kernel_rfl) (by kernel_rfl) (of_decide_eq_true (by kernel_rfl)) k2 bel lt2) (trodAll_cons_mk (Below.trod (by kernel_rfl) (by kernel_rfl) (of_decide_eq_true (by kernel_rfl)) k3 bel lt3) trodAll_mk0)))), rfl, bel.frame _, fun h => by cases h⟩
set_option maxRecDepth 1000000 in
theorem EvalNames_f_wf : Rows.evalNamesRow.wf (OpenSpec.ofChange Rows.evalNamesSpec) = true := by kernel_rfl
set_option maxRecDepth 1000000 in
theorem EvalNames_f_tie : namedTie Tryz.prog Rows.evalNamesRow.named Rows.evalNamesSpec.vars = true := by kernel_rfl
set_option maxRecDepth 1000000 in
theorem EvalNames_f_place : (Rows.evalNamesRow.inPlace == Tryz.prog.inPlace 7) = true := by kernel_rfl
set_option maxRecDepth 1000000 in
theorem EvalNames_f_unf : (Rows.evalNamesRow.unfollowed == Tryz.prog.unfollowed 7) = true := by kernel_rfl
set_option maxRecDepth 1000000 in
theorem EvalNames_f_rec : (Rows.evalNamesRow.recurses == Tryz.prog.recurses 7) = true := by kernel_rfl
set_option maxRecDepth 1000000 in
theorem EvalNames_f_named : (Rows.evalNamesRow.named == Tryz.prog.varsNamed 7) = true := by kernel_rfl
set_option maxRecDepth 1000000 in
theorem EvalNames_f_loops : (Rows.evalNamesRow.loops == (Tryz.f7.params.toList ++ Rows.evalNamesSpec.plain.varTypes Tryz.prog).any (Tryz.prog.loopsFrom ·)) = true := by kernel_rfl
set_option maxRecDepth 1000000 in
theorem EvalNames_f_read : Rows.evalNamesSpec.vars.all (Tryz.prog.varReadable ·) = true := by kernel_rfl
set_option maxRecDepth 1000000 in
theorem EvalNames_f_pin : (Rows.evalNamesRow.pinned == Rows.evalNamesRow.pinnedBy) = true := by kernel_rfl
set_option maxRecDepth 1000000 in
theorem EvalNames_f_text : Rows.evalNamesRow.wfByText (OpenSpec.ofChange Rows.evalNamesSpec) = true := by kernel_rfl
set_option maxRecDepth 1000000 in
theorem EvalNames_f_goes : false = Rows.evalNamesRow.goesBy Tryz.prog := by kernel_rfl
set_option maxRecDepth 1000000 in
theorem EvalNames_closed : joinedFacts Tryz.prog 7 Tryz.f7 Rows.evalNamesSpec Rows.evalNamesRow = true := by
  unfold joinedFacts
  simp only [Bool.and_eq_true]
  exact ⟨⟨⟨⟨⟨⟨⟨⟨⟨⟨⟨⟨⟨⟨⟨⟨⟨⟨⟨⟨⟨⟨⟨⟨⟨⟨⟨⟨⟨⟨⟨EvalNames_f_wf, zf_laid⟩, zf_maps⟩, (by kernel_rfl)⟩, EvalNames_f_tie⟩, (by kernel_rfl)⟩, (by kernel_rfl)⟩, (by kernel_rfl)⟩, (by kernel_rfl)⟩, EvalNames_f_place⟩, EvalNames_f_unf⟩, EvalNames_f_rec⟩, EvalNames_f_named⟩, (by kernel_rfl)⟩, (by kernel_rfl)⟩, (by kernel_rfl)⟩, EvalNames_f_loops⟩, (by kernel_rfl)⟩, EvalNames_f_read⟩, (by kernel_rfl)⟩, (by kernel_rfl)⟩, (by kernel_rfl)⟩, zf_keys⟩, (by kernel_rfl)⟩, zf_heard⟩, zf_enter⟩, zf_lift⟩, (by kernel_rfl)⟩, (by kernel_rfl)⟩, EvalNames_f_pin⟩, (by kernel_rfl)⟩, (by kernel_rfl)⟩
theorem EvalNames_row : Rows.EvalNamesSaid :=
  OpenClaim.holds_of_wide 7 Tryz.f7 rfl rfl rfl rfl rfl rfl rfl ⟨rfl, rfl, rfl, rfl, rfl⟩ rfl rfl rfl rfl rfl (by kernel_rfl) Tryz.func7 EvalNames_closed
    (of_decide_eq_true (by kernel_rfl)) (by unfold Func.isWrapper; first | (rw [if_pos (by decide +kernel)]; kernel_rfl) | (rw [if_neg (by decide +kernel)]; exact ⟨rfl, rfl⟩))
    (fun os started H enc _ => EvalNames_lifted os started H enc)
theorem EvalNames_holds : Rows.EvalNamesCardSaid :=
  Claim7.holds_tied_plain_at .later [] [.data, .data, .data, .data, .sentinel, .sentinel, .pinned] true (true, "f730b664b5d8861bb87ae47ef1b4ce5be88e278e64cea61b92dbb0dae49efb77") true
    EvalNames_row (fun _ h => by cases h) EvalNames_f_text (fun _ h => by cases h) evalNames_row_tie rfl ⟨rfl, rfl⟩ (by kernel_rfl) rfl
    (fun f fn hf hfn => by
      obtain rfl : f = 7 := Option.some.inj ((show Tryz.prog.funcNamed "palaver/palaverlaw09.EvalNames" = some 7 by kernel_rfl).symm.trans hf) |>.symm
      obtain rfl : fn = Tryz.f7 := (Option.some.inj (Tryz.func7.symm.trans hfn)).symm
      exact ⟨by kernel_rfl, fun j t ht => by
        rw [Tryz.params7] at ht
        have hm : t ∈ [28, 22, 42, 42] := by simpa using Array.mem_of_getElem? ht
        have hall : ([28, 22, 42, 42].all fun u => !Tryz.prog.wantsStandIn u) = true := by kernel_rfl
        exact (show Tryz.prog.wantsStandIn t = false by simpa using List.all_eq_true.1 hall t hm)⟩)
    EvalNames_f_goes
#print axioms EvalNames_holds
end Go.Proofs.YtoklhppalkgdeaaGreatDoor
