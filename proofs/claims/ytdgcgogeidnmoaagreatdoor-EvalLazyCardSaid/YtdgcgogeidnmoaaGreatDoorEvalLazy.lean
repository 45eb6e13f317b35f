/- For every input the law EvalLazy returns true and leaves its arguments as they were; the package-level variables that its row lists are tied to the text of the program (a tied card). Conditions: the row's own. -/
import Derived.Test.YtdgcgogeidnmoaaGreatDoorF3
import Derived.Test.YtdgcgogeidnmoaaGreatDoorR2
import Derived.Test.YtdgcgogeidnmoaaGreatDoorR4
import Derived.Test.YtdgcgogeidnmoaaGreatDoorTie
import Derived.Test.YtdgcgogeidnmoaaGreatDoorCards
import Derived.ChangeMaps5
import Derived.ProofKit
import Derived.OpenShut
import Derived.LaidMore
import Derived.Lay
import Derived.SevenTiedAt
import Derived.Stop.Joined
set_option linter.unusedSimpArgs false
set_option linter.unusedVariables false
namespace Go.Proofs.YtdgcgogeidnmoaaGreatDoor
open Go.RowKit Pal Go.ChangeShapes Go.WideShapes Go.ChangeAt
open Go
theorem EvalLazy_lay {W : World} (h : laidMetH Tryz.prog Rows.evalLazyRow.laid W) : Lay2 W := by
  rw [MakeChecks.laidMetH_plain _ _ _ (by kernel_rfl)] at h
  exact lay2_of_reads (Go.Lib.laidMet.reads h (by simp [Rows.evalLazyRow])) (Go.Lib.laidMet.reads h (by simp [Rows.evalLazyRow])) (Go.Lib.laidMet.reads h (by simp [Rows.evalLazyRow])) (Go.Lib.laidMet.reads h (by simp [Rows.evalLazyRow]))
set_option maxRecDepth 1000000 in
theorem EvalLazy_lifted (os : Os) (started : os.Started) (H : Type) (enc : TypeId × Value → H) :
    ReturnsInHanded {} Tryz.checked os 13 .any (fun w args => (Rows.evalLazySpec.pre enc Tryz.prog Tryz.f13 Rows.evalLazyRow.domain false w args ∧ laidMetH Tryz.prog Rows.evalLazyRow.laid w) ∧ sizedMet enc Tryz.prog Tryz.f13 (OpenSpec.ofChange Rows.evalLazySpec) false w args)
      (Rows.evalLazySpec.post enc Tryz.prog Tryz.f13 false true false false) := by
  refine returnsInHanded_of_change_and (C := Tryz.checked) (X := fun w _ => laidMetH Tryz.prog Rows.evalLazyRow.laid w) (fun _ _ _ hh h => h.of_heap hh) Tryz.own started (by kernel_rfl) Tryz.func13
    (ChangeSpec.witness_shaped (enc := enc) (C := Tryz.checked) (os := os) (X := fun w _ => laidMetH Tryz.prog Rows.evalLazyRow.laid w) false (World.laidAll Tryz.prog os Rows.evalLazyRow.laid) #[.agg #[.int .i64 0, .int .i64 0, .string ByteArray.empty, .slice none 0 0], .agg #[.int .i64 0, .int .i64 0, .string ByteArray.empty, .slice none 0 0], .slice none 0 0, .slice none 0 0] 8 (World.laidAll_os _ _ _)
      (World.shaped_of_ZipB (by kernel_rfl) (by kernel_rfl)) (by kernel_rfl) (by kernel_rfl) (by kernel_rfl)
      (by rw [MakeChecks.laidMetH_plain _ _ _ (by kernel_rfl)]; exact laidMet_laidAll _ (by kernel_rfl) (by kernel_rfl))) ?_
  intro W base args ds gs before hval0 hW hcnd hreach hL _
  have hval : ∀ (j : Nat) t v, Tryz.f13.params[j]? = some t → args[j]? = some v → Value.okWide Tryz.prog W .any base t v := hval0
  have hW' := hW
  obtain ⟨p, q, hA0, hV, rfl, hfz, hnd⟩ := hW
  have hA : DataW.TrodAll enc Tryz.prog W 0 (fun _ => true) true Tryz.f13.params.toList args.toList ds p := hA0
  rw [Tryz.params13] at hA hval
  obtain ⟨v0, vs0, d0, ds0, p0, q0, hargs, rfl, rfl, h0, r0⟩ := trodAll_cons hA
  obtain ⟨v1, vs1, d1, ds1, p1, q1, rfl, rfl, rfl, h1, r1⟩ := trodAll_cons r0
  obtain ⟨v2, vs2, d2, ds2, p2, q2, rfl, rfl, rfl, h2, r2⟩ := trodAll_cons r1
  obtain ⟨v3, vs3, d3, ds3, p3, q3, rfl, rfl, rfl, h3, r3⟩ := trodAll_cons r2
  obtain ⟨rfl, rfl, rfl⟩ := trodAll_nil r3
  obtain rfl : args = #[v0, v1, v2, v3] := by cases args; simp_all
  obtain ⟨rfl, rfl⟩ := trodVars_none hV
  have k0 := h0
  have lt0 : ∀ x ∈ p0, x.block < W.heap.size := by obtain ⟨m, hm⟩ := k0; exact DataW.trod_lt m _ _ _ hm
  obtain ⟨a0, x0, o0⟩ := ex_open (hval 0 24 v0 rfl rfl) h0
  have k1 := h1
  have lt1 : ∀ x ∈ p1, x.block < W.heap.size := by obtain ⟨m, hm⟩ := k1; exact DataW.trod_lt m _ _ _ hm
  obtain ⟨a1, x1, o1⟩ := ex_open (hval 1 24 v1 rfl rfl) h1
  have k2 := h2
  have lt2 : ∀ x ∈ p2, x.block < W.heap.size := by obtain ⟨m, hm⟩ := k2; exact DataW.trod_lt m _ _ _ hm
  obtain ⟨a2, x2, o2⟩ := strs_open (hval 2 25 v2 rfl rfl) h2
  have k3 := h3
  have lt3 : ∀ x ∈ p3, x.block < W.heap.size := by obtain ⟨m, hm⟩ := k3; exact DataW.trod_lt m _ _ _ hm
  obtain ⟨a3, x3, o3⟩ := vals_open (hval 3 44 v3 rfl rfl) h3
  have hlay := EvalLazy_lay hL
  clear hA0 hval0 hL
  refine (lazy_walk a0 _ a1 _ a2 _ a3 _ W hlay x0 o0 x1 o1 x2 o2 (strs_nil k2) x3 o3 (vals_nil k3)).mono fun e W' ⟨he, bel⟩ => ?_
  subst he
  exact ⟨_, rfl, _, _, _, [], _, [], hW', trodAll_mk1 (shut_bool Tryz.underlying4 _), (trodAll_cons_mk (Below.trod (by kernel_rfl) (by kernel_rfl) (of_decide_eq_true (by kernel_rfl)) k0 bel lt0) (trodAll_cons_mk (Below.trod (by kernel_rfl) (by kernel_rfl) (of_decide_eq_true (by kernel_rfl)) k1 bel lt1) (trodAll_cons_mk (Below.trod (by kernel_rfl) (by kernel_rfl) (of_decide_eq_true (by kernel_rfl)) k2 bel lt2) (trodAll_cons_mk (Below.trod (by kernel_rfl) (by kernel_rfl) (of_decide_eq_true (by kernel_rfl)) k3 bel lt3) trodAll_mk0)))), rfl, bel.frame _, fun h => by cases h⟩
set_option maxRecDepth 1000000 in
theorem EvalLazy_f_wf : Rows.evalLazyRow.wf (OpenSpec.ofChange Rows.evalLazySpec) = true := by kernel_rfl
set_option maxRecDepth 1000000 in
theorem EvalLazy_f_tie : namedTie Tryz.prog Rows.evalLazyRow.named Rows.evalLazySpec.vars = true := by kernel_rfl
set_option maxRecDepth 1000000 in
theorem EvalLazy_f_place : (Rows.evalLazyRow.inPlace == Tryz.prog.inPlace 13) = true := by kernel_rfl
set_option maxRecDepth 1000000 in
theorem EvalLazy_f_unf : (Rows.evalLazyRow.unfollowed == Tryz.prog.unfollowed 13) = true := by kernel_rfl
set_option maxRecDepth 1000000 in
theorem EvalLazy_f_rec : (Rows.evalLazyRow.recurses == Tryz.prog.recurses 13) = true := by kernel_rfl
set_option maxRecDepth 1000000 in
theorem EvalLazy_f_named : (Rows.evalLazyRow.named == Tryz.prog.varsNamed 13) = true := by kernel_rfl
set_option maxRecDepth 1000000 in
theorem EvalLazy_f_loops : (Rows.evalLazyRow.loops == (Tryz.f13.params.toList ++ Rows.evalLazySpec.plain.varTypes Tryz.prog).any (Tryz.prog.loopsFrom ·)) = true := by kernel_rfl
set_option maxRecDepth 1000000 in
theorem EvalLazy_f_read : Rows.evalLazySpec.vars.all (Tryz.prog.varReadable ·) = true := by kernel_rfl
set_option maxRecDepth 1000000 in
theorem EvalLazy_f_pin : (Rows.evalLazyRow.pinned == Rows.evalLazyRow.pinnedBy) = true := by kernel_rfl
set_option maxRecDepth 1000000 in
theorem EvalLazy_f_text : Rows.evalLazyRow.wfByText (OpenSpec.ofChange Rows.evalLazySpec) = true := by kernel_rfl
set_option maxRecDepth 1000000 in
theorem EvalLazy_f_goes : false = Rows.evalLazyRow.goesBy Tryz.prog := by kernel_rfl
set_option maxRecDepth 1000000 in
theorem EvalLazy_closed : joinedFacts Tryz.prog 13 Tryz.f13 Rows.evalLazySpec Rows.evalLazyRow = true := by
  unfold joinedFacts
  simp only [Bool.and_eq_true]
  exact ⟨⟨⟨⟨⟨⟨⟨⟨⟨⟨⟨⟨⟨⟨⟨⟨⟨⟨⟨⟨⟨⟨⟨⟨⟨⟨⟨⟨⟨⟨⟨EvalLazy_f_wf, zf_laid⟩, zf_maps⟩, (by kernel_rfl)⟩, EvalLazy_f_tie⟩, (by kernel_rfl)⟩, (by kernel_rfl)⟩, (by kernel_rfl)⟩, (by kernel_rfl)⟩, EvalLazy_f_place⟩, EvalLazy_f_unf⟩, EvalLazy_f_rec⟩, EvalLazy_f_named⟩, (by kernel_rfl)⟩, (by kernel_rfl)⟩, (by kernel_rfl)⟩, EvalLazy_f_loops⟩, (by kernel_rfl)⟩, EvalLazy_f_read⟩, (by kernel_rfl)⟩, (by kernel_rfl)⟩, (by kernel_rfl)⟩, zf_keys⟩, (by kernel_rfl)⟩, zf_heard⟩, zf_enter⟩, zf_lift⟩, (by kernel_rfl)⟩, (by kernel_rfl)⟩, EvalLazy_f_pin⟩, (by kernel_rfl)⟩, (by kernel_rfl)⟩
theorem EvalLazy_row : Rows.EvalLazySaid :=
  OpenClaim.holds_of_wide 13 Tryz.f13 rfl rfl rfl rfl rfl rfl rfl ⟨rfl, rfl, rfl, rfl, rfl⟩ rfl rfl rfl rfl rfl (by kernel_rfl) Tryz.func13 EvalLazy_closed
    (of_decide_eq_true (by kernel_rfl)) (by unfold Func.isWrapper; first | (rw [if_pos (by decide +kernel)]; kernel_rfl) | (rw [if_neg (by decide +kernel)]; exact ⟨rfl, rfl⟩))
    (fun os started H enc _ => EvalLazy_lifted os started H enc)
theorem EvalLazy_holds : Rows.EvalLazyCardSaid :=
  Claim7.holds_tied_plain_at .later [] [.data, .data, .data, .data, .sentinel, .sentinel, .pinned] true (true, "b73eb926ec280bbb226f98bb6f60ef1faacfc7ff99817bf54b86fce97a9212d9") true
    EvalLazy_row (fun _ h => by cases h) EvalLazy_f_text (fun _ h => by cases h) evalLazy_row_tie rfl ⟨rfl, rfl⟩ (by kernel_rfl) rfl
    (fun f fn hf hfn => by
      obtain rfl : f = 13 := Option.some.inj ((show Tryz.prog.funcNamed "palaver/palaverlaw09.EvalLazy" = some 13 by kernel_rfl).symm.trans hf) |>.symm
      obtain rfl : fn = Tryz.f13 := (Option.some.inj (Tryz.func13.symm.trans hfn)).symm
      exact ⟨by kernel_rfl, fun j t ht => by
        rw [Tryz.params13] at ht
        have hm : t ∈ [24, 24, 25, 44] := by simpa using Array.mem_of_getElem? ht
        have hall : ([24, 24, 25, 44].all fun u => !Tryz.prog.wantsStandIn u) = true := by kernel_rfl
        exact (show Tryz.prog.wantsStandIn t = false by simpa using List.all_eq_true.1 hall t hm)⟩)
    EvalLazy_f_goes
#print axioms EvalLazy_holds
end Go.Proofs.YtdgcgogeidnmoaaGreatDoor
