/- For every input the law ParseChecks returns true and leaves its arguments as they were; the package-level variables that its row lists are tied to the text of the program (a tied card). Conditions: the row's own. -/
import Derived.Test.YtdgcgogeidnmoaaGreatDoorPC1
import Derived.Test.YtdgcgogeidnmoaaGreatDoorR2
import Derived.Test.YtdgcgogeidnmoaaGreatDoorR3
import Derived.Test.YtdgcgogeidnmoaaGreatDoorTie
import Derived.Test.YtdgcgogeidnmoaaGreatDoorCards
import Derived.ChangeMaps5
import Derived.ProofKit
import Derived.OpenShut
import Derived.LaidMore
import Derived.Lay
import Derived.SevenTiedAt
import Derived.Stop.Joined
set_option linter.unusedSimpArgs false
set_option linter.unusedVariables false
namespace Go.Proofs.YtdgcgogeidnmoaaGreatDoor
open Go.RowKit Pal Go.ChangeShapes Go.WideShapes Go.ChangeAt
open Go
theorem ParseChecks_lay {W : World} (h : laidMetH Tryz.prog Rows.parseChecksRow.laid W) : Lay2 W := by
  rw [MakeChecks.laidMetH_plain _ _ _ (by kernel_rfl)] at h
  exact lay2_of_reads (Go.Lib.laidMet.reads h (by simp [Rows.parseChecksRow])) (Go.Lib.laidMet.reads h (by simp [Rows.parseChecksRow])) (Go.Lib.laidMet.reads h (by simp [Rows.parseChecksRow])) (Go.Lib.laidMet.reads h (by simp [Rows.parseChecksRow]))
set_option maxRecDepth 1000000 in
theorem ParseChecks_lifted (os : Os) (started : os.Started) (H : Type) (enc : TypeId × Value → H) :
    ReturnsInHanded {} Tryz.checked os 7 .any (fun w args => (Rows.parseChecksSpec.pre enc Tryz.prog Tryz.f7 Rows.parseChecksRow.domain false w args ∧ laidMetH Tryz.prog Rows.parseChecksRow.laid w) ∧ sizedMet enc Tryz.prog Tryz.f7 (OpenSpec.ofChange Rows.parseChecksSpec) false w args)
      (Rows.parseChecksSpec.post enc Tryz.prog Tryz.f7 false true false false) := by
  refine returnsInHanded_of_change_and (C := Tryz.checked) (X := fun w _ => laidMetH Tryz.prog Rows.parseChecksRow.laid w) (fun _ _ _ hh h => h.of_heap hh) Tryz.own started (by kernel_rfl) Tryz.func7
    (ChangeSpec.witness_shaped (enc := enc) (C := Tryz.checked) (os := os) (X := fun w _ => laidMetH Tryz.prog Rows.parseChecksRow.laid w) false (World.laidAll Tryz.prog os Rows.parseChecksRow.laid) #[.agg #[.int .i64 0, .int .i64 0, .string ByteArray.empty, .slice none 0 0]] 8 (World.laidAll_os _ _ _)
      (World.shaped_of_ZipB (by kernel_rfl) (by kernel_rfl)) (by kernel_rfl) (by kernel_rfl) (by kernel_rfl)
      (by rw [MakeChecks.laidMetH_plain _ _ _ (by kernel_rfl)]; exact laidMet_laidAll _ (by kernel_rfl) (by kernel_rfl))) ?_
  intro W base args ds gs before hval0 hW hcnd hreach hL _
  have hval : ∀ (j : Nat) t v, Tryz.f7.params[j]? = some t → args[j]? = some v → Value.okWide Tryz.prog W .any base t v := hval0
  have hW' := hW
  obtain ⟨p, q, hA0, hV, rfl, hfz, hnd⟩ := hW
  have hA : DataW.TrodAll enc Tryz.prog W 0 (fun _ => true) true Tryz.f7.params.toList args.toList ds p := hA0
  rw [Tryz.params7] at hA hval
  obtain ⟨v0, vs0, d0, ds0, p0, q0, hargs, rfl, rfl, h0, r0⟩ := trodAll_cons hA
  obtain ⟨rfl, rfl, rfl⟩ := trodAll_nil r0
  obtain rfl : args = #[v0] := by cases args; simp_all
  obtain ⟨rfl, rfl⟩ := trodVars_none hV
  have k0 := h0
  have lt0 : ∀ x ∈ p0, x.block < W.heap.size := by obtain ⟨m, hm⟩ := k0; exact DataW.trod_lt m _ _ _ hm
  obtain ⟨a0, x0, o0⟩ := ex_open (hval 0 24 v0 rfl rfl) h0
  have hlay := ParseChecks_lay hL
  clear hA0 hval0 hL
  refine (parsechecks_walk a0 _ W hlay x0 o0).mono fun e W' ⟨he, bel⟩ => ?_
  subst he
  exact ⟨_, rfl, _, _, _, [], _, [], hW', trodAll_mk1 (shut_bool Tryz.underlying4 _), (trodAll_cons_mk (Below.trod (by kernel_rfl) (by kernel_rfl) (of_decide_eq_true (by kernel_rfl)) k0 bel lt0) trodAll_mk0), rfl, bel.frame _, fun h => by cases h⟩
set_option maxRecDepth 1000000 in
theorem ParseChecks_f_wf : Rows.parseChecksRow.wf (OpenSpec.ofChange Rows.parseChecksSpec) = true := by kernel_rfl
set_option maxRecDepth 1000000 in
theorem ParseChecks_f_tie : namedTie Tryz.prog Rows.parseChecksRow.named Rows.parseChecksSpec.vars = true := by kernel_rfl
set_option maxRecDepth 1000000 in
theorem ParseChecks_f_place : (Rows.parseChecksRow.inPlace == Tryz.prog.inPlace 7) = true := by kernel_rfl
set_option maxRecDepth 1000000 in
theorem ParseChecks_f_unf : (Rows.parseChecksRow.unfollowed == Tryz.prog.unfollowed 7) = true := by kernel_rfl
set_option maxRecDepth 1000000 in
theorem ParseChecks_f_rec : (Rows.parseChecksRow.recurses == Tryz.prog.recurses 7) = true := by kernel_rfl
set_option maxRecDepth 1000000 in
theorem ParseChecks_f_named : (Rows.parseChecksRow.named == Tryz.prog.varsNamed 7) = true := by kernel_rfl
set_option maxRecDepth 1000000 in
theorem ParseChecks_f_loops : (Rows.parseChecksRow.loops == (Tryz.f7.params.toList ++ Rows.parseChecksSpec.plain.varTypes Tryz.prog).any (Tryz.prog.loopsFrom ·)) = true := by kernel_rfl
set_option maxRecDepth 1000000 in
theorem ParseChecks_f_read : Rows.parseChecksSpec.vars.all (Tryz.prog.varReadable ·) = true := by kernel_rfl
set_option maxRecDepth 1000000 in
theorem ParseChecks_f_pin : (Rows.parseChecksRow.pinned == Rows.parseChecksRow.pinnedBy) = true := by kernel_rfl
set_option maxRecDepth 1000000 in
theorem ParseChecks_f_text : Rows.parseChecksRow.wfByText (OpenSpec.ofChange Rows.parseChecksSpec) = true := by kernel_rfl
set_option maxRecDepth 1000000 in
theorem ParseChecks_f_goes : false = Rows.parseChecksRow.goesBy Tryz.prog := by kernel_rfl
set_option maxRecDepth 1000000 in
theorem ParseChecks_closed : joinedFacts Tryz.prog 7 Tryz.f7 Rows.parseChecksSpec Rows.parseChecksRow = true := by
  unfold joinedFacts
  simp only [Bool.and_eq_true]
  exact ⟨⟨⟨⟨⟨⟨⟨⟨⟨⟨⟨⟨⟨⟨⟨⟨⟨⟨⟨⟨⟨⟨⟨⟨⟨⟨⟨⟨⟨⟨⟨ParseChecks_f_wf, zf_laid⟩, zf_maps⟩, (by kernel_rfl)⟩, ParseChecks_f_tie⟩, (by kernel_rfl)⟩, (by kernel_rfl)⟩, (by kernel_rfl)⟩, (by kernel_rfl)⟩, ParseChecks_f_place⟩, ParseChecks_f_unf⟩, ParseChecks_f_rec⟩, ParseChecks_f_named⟩, (by kernel_rfl)⟩, (by kernel_rfl)⟩, (by kernel_rfl)⟩, ParseChecks_f_loops⟩, (by kernel_rfl)⟩, ParseChecks_f_read⟩, (by kernel_rfl)⟩, (by kernel_rfl)⟩, (by kernel_rfl)⟩, zf_keys⟩, (by kernel_rfl)⟩, zf_heard⟩, zf_enter⟩, zf_lift⟩, (by kernel_rfl)⟩, (by kernel_rfl)⟩, ParseChecks_f_pin⟩, (by kernel_rfl)⟩, (by kernel_rfl)⟩
theorem ParseChecks_row : Rows.ParseChecksSaid :=
  OpenClaim.holds_of_wide 7 Tryz.f7 rfl rfl rfl rfl rfl rfl rfl ⟨rfl, rfl, rfl, rfl, rfl⟩ rfl rfl rfl rfl rfl (by kernel_rfl) Tryz.func7 ParseChecks_closed
    (of_decide_eq_true (by kernel_rfl)) (by unfold Func.isWrapper; first | (rw [if_pos (by decide +kernel)]; kernel_rfl) | (rw [if_neg (by decide +kernel)]; exact ⟨rfl, rfl⟩))
    (fun os started H enc _ => ParseChecks_lifted os started H enc)
theorem ParseChecks_holds : Rows.ParseChecksCardSaid :=
  Claim7.holds_tied_plain_at .later [] [.data, .data, .data, .data, .sentinel, .sentinel, .pinned] true (true, "b73eb926ec280bbb226f98bb6f60ef1faacfc7ff99817bf54b86fce97a9212d9") true
    ParseChecks_row (fun _ h => by cases h) ParseChecks_f_text (fun _ h => by cases h) parseChecks_row_tie rfl ⟨rfl, rfl⟩ (by kernel_rfl) rfl
    (fun f fn hf hfn => by
      obtain rfl : f = 7 := Option.some.inj ((show Tryz.prog.funcNamed "palaver/palaverlaw07.ParseChecks" = some 7 by kernel_rfl).symm.trans hf) |>.symm
      obtain rfl : fn = Tryz.f7 := (Option.some.inj (Tryz.func7.symm.trans hfn)).symm
      exact ⟨by kernel_rfl, fun j t ht => by
        rw [Tryz.params7] at ht
        have hm : t ∈ [24] := by simpa using Array.mem_of_getElem? ht
        have hall : ([24].all fun u => !Tryz.prog.wantsStandIn u) = true := by kernel_rfl
        exact (show Tryz.prog.wantsStandIn t = false by simpa using List.all_eq_true.1 hall t hm)⟩)
    ParseChecks_f_goes
#print axioms ParseChecks_holds
end Go.Proofs.YtdgcgogeidnmoaaGreatDoor
