/- For every input the law EvalOne returns true and leaves its arguments as they were; the package-level variables that its row lists are tied to the text of the program (a tied card). Conditions: the row's own. -/
import Derived.Test.YtdgcgogeidnmoaaGreatDoorF4
import Derived.Test.YtdgcgogeidnmoaaGreatDoorR2
import Derived.Test.YtdgcgogeidnmoaaGreatDoorR3
import Derived.Test.YtdgcgogeidnmoaaGreatDoorTie
import Derived.Test.YtdgcgogeidnmoaaGreatDoorCards
import Derived.ChangeMaps5
import Derived.ProofKit
import Derived.OpenShut
import Derived.LaidMore
import Derived.Lay
import Derived.SevenTiedAt
import Derived.Stop.Joined
set_option linter.unusedSimpArgs false
set_option linter.unusedVariables false
namespace Go.Proofs.YtdgcgogeidnmoaaGreatDoor
open Go.RowKit Pal Go.ChangeShapes Go.WideShapes Go.ChangeAt
open Go
theorem EvalOne_lay {W : World} (h : laidMetH Tryz.prog Rows.evalOneRow.laid W) : Lay2 W := by
  rw [MakeChecks.laidMetH_plain _ _ _ (by kernel_rfl)] at h
  exact lay2_of_reads (Go.Lib.laidMet.reads h (by simp [Rows.evalOneRow])) (Go.Lib.laidMet.reads h (by simp [Rows.evalOneRow])) (Go.Lib.laidMet.reads h (by simp [Rows.evalOneRow])) (Go.Lib.laidMet.reads h (by simp [Rows.evalOneRow]))
set_option maxRecDepth 1000000 in
theorem EvalOne_lifted (os : Os) (started : os.Started) (H : Type) (enc : TypeId × Value → H) :
    ReturnsInHanded {} Tryz.checked os 16 .any (fun w args => (Rows.evalOneSpec.pre enc Tryz.prog Tryz.f16 Rows.evalOneRow.domain false w args ∧ laidMetH Tryz.prog Rows.evalOneRow.laid w) ∧ sizedMet enc Tryz.prog Tryz.f16 (OpenSpec.ofChange Rows.evalOneSpec) false w args)
      (Rows.evalOneSpec.post enc Tryz.prog Tryz.f16 false true false false) := by
  refine returnsInHanded_of_change_and (C := Tryz.checked) (X := fun w _ => laidMetH Tryz.prog Rows.evalOneRow.laid w) (fun _ _ _ hh h => h.of_heap hh) Tryz.own started (by kernel_rfl) Tryz.func16
    (ChangeSpec.witness_shaped (enc := enc) (C := Tryz.checked) (os := os) (X := fun w _ => laidMetH Tryz.prog Rows.evalOneRow.laid w) false (World.laidAll Tryz.prog os Rows.evalOneRow.laid) #[.agg #[.int .i64 0, .int .i64 0, .string ByteArray.empty], .agg #[.int .i64 0, .int .i64 0, .string ByteArray.empty]] 8 (World.laidAll_os _ _ _)
      (World.shaped_of_ZipB (by kernel_rfl) (by kernel_rfl)) (by kernel_rfl) (by kernel_rfl) (by kernel_rfl)
      (by rw [MakeChecks.laidMetH_plain _ _ _ (by kernel_rfl)]; exact laidMet_laidAll _ (by kernel_rfl) (by kernel_rfl))) ?_
  intro W base args ds gs before hval0 hW hcnd hreach hL _
  have hval : ∀ (j : Nat) t v, Tryz.f16.params[j]? = some t → args[j]? = some v → Value.okWide Tryz.prog W .any base t v := hval0
  have hW' := hW
  obtain ⟨p, q, hA0, hV, rfl, hfz, hnd⟩ := hW
  have hA : DataW.TrodAll enc Tryz.prog W 0 (fun _ => true) true Tryz.f16.params.toList args.toList ds p := hA0
  rw [Tryz.params16] at hA hval
  obtain ⟨v0, vs0, d0, ds0, p0, q0, hargs, rfl, rfl, h0, r0⟩ := trodAll_cons hA
  obtain ⟨v1, vs1, d1, ds1, p1, q1, rfl, rfl, rfl, h1, r1⟩ := trodAll_cons r0
  obtain ⟨rfl, rfl, rfl⟩ := trodAll_nil r1
  obtain rfl : args = #[v0, v1] := by cases args; simp_all
  obtain ⟨rfl, rfl⟩ := trodVars_none hV
  have k0 := h0
  have lt0 : ∀ x ∈ p0, x.block < W.heap.size := by obtain ⟨m, hm⟩ := k0; exact DataW.trod_lt m _ _ _ hm
  obtain ⟨a0, rfl, o0⟩ := val_open (hval 0 47 v0 rfl rfl) h0
  have k1 := h1
  have lt1 : ∀ x ∈ p1, x.block < W.heap.size := by obtain ⟨m, hm⟩ := k1; exact DataW.trod_lt m _ _ _ hm
  obtain ⟨a1, rfl, o1⟩ := val_open (hval 1 47 v1 rfl rfl) h1
  have hlay := EvalOne_lay hL
  clear hA0 hval0 hL
  refine (one_walk a0 a1 W hlay o0 o1).mono fun e W' ⟨he, bel⟩ => ?_
  subst he
  exact ⟨_, rfl, _, _, _, [], _, [], hW', trodAll_mk1 (shut_bool Tryz.underlying4 _), (trodAll_cons_mk (Below.trod (by kernel_rfl) (by kernel_rfl) (of_decide_eq_true (by kernel_rfl)) k0 bel lt0) (trodAll_cons_mk (Below.trod (by kernel_rfl) (by kernel_rfl) (of_decide_eq_true (by kernel_rfl)) k1 bel lt1) trodAll_mk0)), rfl, bel.frame _, fun h => by cases h⟩
set_option maxRecDepth 1000000 in
theorem EvalOne_f_wf : Rows.evalOneRow.wf (OpenSpec.ofChange Rows.evalOneSpec) = true := by kernel_rfl
set_option maxRecDepth 1000000 in
theorem EvalOne_f_tie : namedTie Tryz.prog Rows.evalOneRow.named Rows.evalOneSpec.vars = true := by kernel_rfl
set_option maxRecDepth 1000000 in
theorem EvalOne_f_place : (Rows.evalOneRow.inPlace == Tryz.prog.inPlace 16) = true := by kernel_rfl
set_option maxRecDepth 1000000 in
theorem EvalOne_f_unf : (Rows.evalOneRow.unfollowed == Tryz.prog.unfollowed 16) = true := by kernel_rfl
set_option maxRecDepth 1000000 in
theorem EvalOne_f_rec : (Rows.evalOneRow.recurses == Tryz.prog.recurses 16) = true := by kernel_rfl
set_option maxRecDepth 1000000 in
theorem EvalOne_f_named : (Rows.evalOneRow.named == Tryz.prog.varsNamed 16) = true := by kernel_rfl
set_option maxRecDepth 1000000 in
theorem EvalOne_f_loops : (Rows.evalOneRow.loops == (Tryz.f16.params.toList ++ Rows.evalOneSpec.plain.varTypes Tryz.prog).any (Tryz.prog.loopsFrom ·)) = true := by kernel_rfl
set_option maxRecDepth 1000000 in
theorem EvalOne_f_read : Rows.evalOneSpec.vars.all (Tryz.prog.varReadable ·) = true := by kernel_rfl
set_option maxRecDepth 1000000 in
theorem EvalOne_f_pin : (Rows.evalOneRow.pinned == Rows.evalOneRow.pinnedBy) = true := by kernel_rfl
set_option maxRecDepth 1000000 in
theorem EvalOne_f_text : Rows.evalOneRow.wfByText (OpenSpec.ofChange Rows.evalOneSpec) = true := by kernel_rfl
set_option maxRecDepth 1000000 in
theorem EvalOne_f_goes : false = Rows.evalOneRow.goesBy Tryz.prog := by kernel_rfl
set_option maxRecDepth 1000000 in
theorem EvalOne_closed : joinedFacts Tryz.prog 16 Tryz.f16 Rows.evalOneSpec Rows.evalOneRow = true := by
  unfold joinedFacts
  simp only [Bool.and_eq_true]
  exact ⟨⟨⟨⟨⟨⟨⟨⟨⟨⟨⟨⟨⟨⟨⟨⟨⟨⟨⟨⟨⟨⟨⟨⟨⟨⟨⟨⟨⟨⟨⟨EvalOne_f_wf, zf_laid⟩, zf_maps⟩, (by kernel_rfl)⟩, EvalOne_f_tie⟩, (by kernel_rfl)⟩, (by kernel_rfl)⟩, (by kernel_rfl)⟩, (by kernel_rfl)⟩, EvalOne_f_place⟩, EvalOne_f_unf⟩, EvalOne_f_rec⟩, EvalOne_f_named⟩, (by kernel_rfl)⟩, (by kernel_rfl)⟩, (by kernel_rfl)⟩, EvalOne_f_loops⟩, (by kernel_rfl)⟩, EvalOne_f_read⟩, (by kernel_rfl)⟩, (by kernel_rfl)⟩, (by kernel_rfl)⟩, zf_keys⟩, (by kernel_rfl)⟩, zf_heard⟩, zf_enter⟩, zf_lift⟩, (by kernel_rfl)⟩, (by kernel_rfl)⟩, EvalOne_f_pin⟩, (by kernel_rfl)⟩, (by kernel_rfl)⟩
theorem EvalOne_row : Rows.EvalOneSaid :=
  OpenClaim.holds_of_wide 16 Tryz.f16 rfl rfl rfl rfl rfl rfl rfl ⟨rfl, rfl, rfl, rfl, rfl⟩ rfl rfl rfl rfl rfl (by kernel_rfl) Tryz.func16 EvalOne_closed
    (of_decide_eq_true (by kernel_rfl)) (by unfold Func.isWrapper; first | (rw [if_pos (by decide +kernel)]; kernel_rfl) | (rw [if_neg (by decide +kernel)]; exact ⟨rfl, rfl⟩))
    (fun os started H enc _ => EvalOne_lifted os started H enc)
theorem EvalOne_holds : Rows.EvalOneCardSaid :=
  Claim7.holds_tied_plain_at .later [] [.data, .data, .data, .data, .sentinel, .sentinel, .pinned] true (true, "b73eb926ec280bbb226f98bb6f60ef1faacfc7ff99817bf54b86fce97a9212d9") true
    EvalOne_row (fun _ h => by cases h) EvalOne_f_text (fun _ h => by cases h) evalOne_row_tie rfl ⟨rfl, rfl⟩ (by kernel_rfl) rfl
    (fun f fn hf hfn => by
      obtain rfl : f = 16 := Option.some.inj ((show Tryz.prog.funcNamed "palaver/palaverlaw09.EvalOne" = some 16 by kernel_rfl).symm.trans hf) |>.symm
      obtain rfl : fn = Tryz.f16 := (Option.some.inj (Tryz.func16.symm.trans hfn)).symm
      exact ⟨by kernel_rfl, fun j t ht => by
        rw [Tryz.params16] at ht
        have hm : t ∈ [47, 47] := by simpa using Array.mem_of_getElem? ht
        have hall : ([47, 47].all fun u => !Tryz.prog.wantsStandIn u) = true := by kernel_rfl
        exact (show Tryz.prog.wantsStandIn t = false by simpa using List.all_eq_true.1 hall t hm)⟩)
    EvalOne_f_goes
#print axioms EvalOne_holds
end Go.Proofs.YtdgcgogeidnmoaaGreatDoor
