/- The walks of types.Of, palaverlaw08.awake. Parse by its plain law; the walk of palaverlaw08.awake. -/
import Derived.Test.YtilmmgkclijhjaaGreatDoorT3
import Derived.Test.YtilmmgkclijhjaaGreatDoorVe
set_option linter.unusedSimpArgs false
set_option linter.unusedVariables false
set_option linter.unusedSectionVars false
namespace Go.Proofs.YtilmmgkclijhjaaGreatDoor
open Go.RowKit Pal
theorem IntsV_nil (h : GH) : IntsV h (.slice none 0 0) [] := ⟨none, 0, rfl, fun _ => ⟨rfl, rfl⟩, by simp, fun j x hx => by simp at hx⟩
theorem StrsV_nil (h : GH) : StrsV h (.slice none 0 0) [] := ⟨none, 0, rfl, fun _ => rfl, by simp, by simp [maxLen], fun j x hx => by simp at hx⟩
def typePost (r : Int × Int) (w : World) (e : Ending) (w' : World) : Prop := e = .returned (.tuple #[.int .i64 r.1, .int .i64 r.2]) ∧ Below w.heap.size w w'
set_option maxRecDepth 1000000 in
set_option maxHeartbeats 2000000 in
theorem typesOf_any (e : Ex) (v nv tv : Value) (names : List Bs) (types : List Int) (w : World) (hF : Fine e) (hL : Lay (gh w)) (hE : EV (gh w) v e) (hN : StrsV (gh w) nv names) (hT : IntsV (gh w) tv types) :
    Calls Tryz.prog 9 #[v, nv, tv] w (typePost (typeOf e names types) w) := by
  obtain ⟨kv, rfl, hK⟩ := hE
  obtain ⟨a, cap, rfl⟩ := hK.form
  have hb := (Below.refl w.heap.size w).alloc (Nat.le_refl _) (.cells #[.int .i64 e.op, .int .i64 e.n, .string ⟨e.s.toArray⟩, .slice a e.ks.length cap] 24)
  have hck := parseCheck_any e (exV e.op e.n e.s (.slice a e.ks.length cap)) _ hF (hL.below hb) ⟨_, rfl, hK.keep hb⟩
  unfold exV strV at hck
  have HC := Lib.hid hck
  have HBB := Lib.hid hb
  clear hck hb
  unfold exV strV
  go_enter Tryz.func9, Tryz.ntmps9
  go_wp2_with fail
  refine HC.out.mono ?_
  rintro r W1 ⟨rfl, hb1⟩
  have hb2 := HBB.out.seq hb1
  have hblk : W1.heap[w.heap.size]? = some (.cells #[.int .i64 e.op, .int .i64 e.n, .string ⟨e.s.toArray⟩, .slice a e.ks.length cap] 24 (0, 0)) := by
    rw [hb1.block _ (by simp)]; exact heap_alloc_new w _
  obtain ⟨c0, c1, c2, c3⟩ := four_cells hblk
  cases hc : check e with
  | false =>
    have HT : Hid (typeOf e names types = (0, 6)) := Lib.hid (by unfold typeOf; rw [hc]; rfl)
    clear hc hb1 HC hblk
    go_wp2
    go_ret2
    refine ⟨?_, hb2⟩
    rw [HT.out]; rfl
  | true =>
    have hA := check_ar hc
    have ho := of_any names types nv tv e (.slice a e.ks.length cap) W1 hA (hN.mono (below_gh hb2)) (hT.mono (below_gh hb2)) (hK.keep hb2)
    unfold exV strV at ho
    have HO := Lib.hid ho
    have HT : Hid (typeOf e names types = (valE (typ names types e), errE (typ names types e))) := Lib.hid (by unfold typeOf; rw [hc]; cases typ names types e <;> rfl)
    clear hc hb1 HC hblk ho
    go_wp2_with fail
    refine HO.out.mono ?_
    rintro r W2 ⟨rfl, hb3⟩
    have hb4 := hb2.seq hb3
    go_wp2
    go_ret2
    refine ⟨?_, hb4⟩
    rw [HT.out]; rfl
end Go.Proofs.YtilmmgkclijhjaaGreatDoor
namespace Go.Proofs.YtilmmgkclijhjaaGreatDoor
open Go.RowKit Pal
theorem parseM_fine {l : Bs} {e : Ex} (h : parseM l = .ok e) : Fine e := by
  unfold parseM at h
  by_cases hl : 400 < l.length
  · rw [if_pos hl] at h; cases h
  rw [if_neg hl] at h
  cases hx : lexAll l with
  | error p => rw [hx] at h; cases h
  | ok ts =>
    rw [hx] at h
    simp only at h
    cases hr : readL ts with
    | error q => rw [hr] at h; cases h
    | ok e' =>
      rw [hr] at h
      simp only at h
      by_cases hc : check e' = true
      · rw [if_pos hc] at h; cases h
        exact readL_fine (lexAll_fine (by omega) hx).2.2 hr
      · rw [if_neg hc] at h; cases h
theorem parseM_check {l : Bs} {e : Ex} (h : parseM l = .ok e) : check e = true := by
  unfold parseM at h
  by_cases hl : 400 < l.length
  · rw [if_pos hl] at h; cases h
  rw [if_neg hl] at h
  cases hx : lexAll l with
  | error p => rw [hx] at h; cases h
  | ok ts =>
    rw [hx] at h
    simp only at h
    cases hr : readL ts with
    | error q => rw [hr] at h; cases h
    | ok e' =>
      rw [hr] at h
      simp only at h
      by_cases hc : check e' = true
      · rw [if_pos hc] at h; cases h; exact hc
      · rw [if_neg hc] at h; cases h
/-- Parse, where it comes to an expression. -/
theorem parse_yes (s : ByteArray) (e : Ex) (w : World) (hm : s.size ≤ 9223372036854775807) (hp : parseM s.data.toList = .ok e) (hL : Lay (gh w)) :
    Calls Tryz.prog 14 #[.string s] w fun r w' => Below w.heap.size w w' ∧ ∃ a cap, r = .returned (.tuple #[.agg #[.int .i64 e.op, .int .i64 e.n, .string ⟨e.s.toArray⟩, .slice a e.ks.length cap], .int .i64 0, .int .i64 0]) ∧ KV (gh w') (.slice a e.ks.length cap) e.ks := by
  refine (parse_any s w hm hL).mono ?_
  rintro r w' ⟨hb, h⟩
  rw [hp] at h
  obtain ⟨v, rfl, kv, rfl, hK⟩ := h
  obtain ⟨a, cap, rfl⟩ := hK.form
  exact ⟨hb, a, cap, rfl, hK.mono (gp_gh _ _)⟩
/-- .. and where it does not. -/
theorem parse_no (s : ByteArray) (p : Nat) (k : Int) (w : World) (hm : s.size ≤ 9223372036854775807) (hp : parseM s.data.toList = .error (p, k)) (hL : Lay (gh w)) :
    Calls Tryz.prog 14 #[.string s] w fun r w' => Below w.heap.size w w' ∧ r = .returned (.tuple #[.agg #[.int .i64 0, .int .i64 0, .string ⟨#[]⟩, .slice none 0 0], .int .i64 p, .int .i64 k]) := by
  refine (parse_any s w hm hL).mono ?_
  rintro r w' ⟨hb, h⟩
  rw [hp] at h
  exact ⟨hb, h⟩
theorem types_a1 : ∃ e, parseM [49, 32, 60, 32, 34, 97, 34] = .ok e ∧ typeOf e [] [] = (0, 8) := ⟨.mk 14 0 [] [.mk 1 1 [] [], .mk 2 0 [97] []], by kernel_rfl, by kernel_rfl⟩
theorem types_a2 : ∃ e, parseM [120] = .ok e ∧ typeOf e [[120]] [1] = (1, 0) := ⟨.mk 4 0 [120] [], by kernel_rfl, by kernel_rfl⟩
theorem intsV_lay {w : World} {b : Nat} (l : List Int) (T : TypeId) (h : w.heap[b]? = some (.cells (l.map (Value.int .i64)).toArray T (0, 0))) (hm : l.length ≤ 17592186044416) : IntsV (gh w) (.slice (some ⟨b, 0, none⟩) l.length l.length) l := by
  refine ⟨_, _, rfl, fun h => (by cases h), hm, fun j s hj => ⟨b, 0, rfl, ?_⟩⟩
  rw [gh_cell]
  simp [World.cell?, h, hj]
def yesPost (w : World) (e : Ending) (w' : World) : Prop := e = .returned (.bool true) ∧ Below w.heap.size w w'
set_option maxRecDepth 1000000 in
set_option maxHeartbeats 4000000 in
theorem awake8 (w : World) (hL : Lay (gh w)) : Calls Tryz.prog 7 #[] w (yesPost w) := by
  obtain ⟨e1, hp1, ht1⟩ := types_a1
  obtain ⟨e2, hp2, ht2⟩ := types_a2
  have HF1 := Lib.hid (parseM_fine hp1)
  have HF2 := Lib.hid (parseM_fine hp2)
  have HP1 := Lib.hid (fun w hL => parse_yes ⟨#[49, 32, 60, 32, 34, 97, 34]⟩ e1 w (by decide) hp1 hL)
  have HP2 := Lib.hid (fun w hL => parse_yes ⟨#[120]⟩ e2 w (by decide) hp2 hL)
  have HT1 := Lib.hid ht1
  have HT2 := Lib.hid ht2
  clear hp1 hp2 ht1 ht2
  go_enter Tryz.func7, Tryz.ntmps7
  go_wp2_with fail
  refine (HP1.out _ hL).mono ?_
  rintro r W1 ⟨hb1, a1, k1, rfl, hK1⟩
  have hbA := hb1.alloc hb1.size (.cells #[.int .i64 e1.op, .int .i64 e1.n, .string ⟨e1.s.toArray⟩, .slice a1 e1.ks.length k1] 24)
  have hKA := hK1.keep ((Below.refl _ _).alloc (Nat.le_refl _) (.cells #[.int .i64 e1.op, .int .i64 e1.n, .string ⟨e1.s.toArray⟩, .slice a1 e1.ks.length k1] 24))
  have hcA := heap_alloc_new W1 (.cells #[.int .i64 e1.op, .int .i64 e1.n, .string ⟨e1.s.toArray⟩, .slice a1 e1.ks.length k1] 24)
  have hsA : (W1.alloc (.cells #[.int .i64 e1.op, .int .i64 e1.n, .string ⟨e1.s.toArray⟩, .slice a1 e1.ks.length k1] 24)).heap.size = W1.heap.size + 1 := by simp
  clear hb1 hK1
  go_wp2_with fail
  refine (HP2.out _ (hL.below hbA)).mono ?_
  generalize W1.alloc (.cells #[.int .i64 e1.op, .int .i64 e1.n, .string ⟨e1.s.toArray⟩, .slice a1 e1.ks.length k1] 24) = WA at *
  rintro r W2 ⟨hb2, a2, k2, rfl, hK2⟩
  have hbB := (hbA.seq hb2).alloc (hbA.seq hb2).size (.cells #[.int .i64 e2.op, .int .i64 e2.n, .string ⟨e2.s.toArray⟩, .slice a2 e2.ks.length k2] 24)
  have hb2n := hb2.seq ((Below.refl _ _).alloc (Nat.le_refl _) (.cells #[.int .i64 e2.op, .int .i64 e2.n, .string ⟨e2.s.toArray⟩, .slice a2 e2.ks.length k2] 24))
  have hKB := hKA.keep hb2n
  have hcB := (hb2n.block _ (by omega)).trans hcA
  have hK2B := hK2.keep ((Below.refl _ _).alloc (Nat.le_refl _) (.cells #[.int .i64 e2.op, .int .i64 e2.n, .string ⟨e2.s.toArray⟩, .slice a2 e2.ks.length k2] 24))
  have hdB := heap_alloc_new W2 (.cells #[.int .i64 e2.op, .int .i64 e2.n, .string ⟨e2.s.toArray⟩, .slice a2 e2.ks.length k2] 24)
  have hsB : (W2.alloc (.cells #[.int .i64 e2.op, .int .i64 e2.n, .string ⟨e2.s.toArray⟩, .slice a2 e2.ks.length k2] 24)).heap.size = W2.heap.size + 1 := by simp
  have hsC : W1.heap.size + 1 ≤ W2.heap.size := by have := hb2.size; omega
  clear hb2 hb2n hbA hKA hcA hK2 hsA
  obtain ⟨c0, c1, c2, c3⟩ := four_cells hcB
  go_upto_region 3 with fail
  generalize W2.alloc (.cells #[.int .i64 e2.op, .int .i64 e2.n, .string ⟨e2.s.toArray⟩, .slice a2 e2.ks.length k2] 24) = WB at *
  have ht := typesOf_any e1 _ (.slice none 0 0) (.slice none 0 0) [] [] WB HF1.out (hL.below hbB) ⟨_, rfl, hKB⟩ (StrsV_nil _) (IntsV_nil _)
  rw [HT1.out] at ht
  unfold exV strV typePost at ht
  have HT := Lib.hid ht
  clear ht hKB
  go_wp2_with fail
  refine HT.out.mono ?_
  rintro r W3 ⟨rfl, hb3⟩
  have hbC := hbB.seq hb3
  have hdC := (hb3.block _ (by omega)).trans hdB
  have hKC := hK2B.keep hb3
  clear c0 c1 c2 c3 hcB
  obtain ⟨c0, c1, c2, c3⟩ := four_cells hdC
  clear hb3 hdB hK2B hdC
  have hd2 : ∀ T1 T2, Below W3.heap.size W3 ((W3.alloc (.cells #[.string ⟨#[120]⟩] T1)).alloc (.cells #[.int .i64 1] T2)) := fun _ _ => ((Below.refl _ _).alloc (Nat.le_refl _) _).alloc (by simp) _
  have hn : ∀ T1 T2, StrsV (gh ((W3.alloc (.cells #[.string ⟨#[120]⟩] T1)).alloc (.cells #[.int .i64 1] T2))) (.slice (some ⟨W3.heap.size, 0, none⟩) 1 1) [[120]] := fun T1 T2 =>
    StrsV.lay [[120]] T1 ((Lib.alloc_old _ _ _ (by simp)).trans (heap_alloc_new W3 _)) (by simp [maxLen])
  have ht2 : ∀ T1 T2, IntsV (gh ((W3.alloc (.cells #[.string ⟨#[120]⟩] T1)).alloc (.cells #[.int .i64 1] T2))) (.slice (some ⟨W3.heap.size + 1, 0, none⟩) 1 1) [1] := fun T1 T2 =>
    intsV_lay [1] T2 (by have := heap_alloc_new (W3.alloc (.cells #[.string ⟨#[120]⟩] T1)) (.cells #[.int .i64 1] T2); simpa using this) (by simp)
  have HD2 := Lib.hid hd2
  have HN2 := Lib.hid hn
  have HI2 := Lib.hid ht2
  clear hd2 hn ht2
  go_wp2_with fail
  refine (typesOf_any e2 _ _ _ [[120]] [1] _ HF2.out (hL.below (hbC.seq (HD2.out _ _))) ⟨_, rfl, hKC.keep (HD2.out _ _)⟩ (HN2.out _ _) (HI2.out _ _)).mono ?_
  rintro r W4 ⟨rfl, hb4⟩
  rw [HT2.out]
  have hbD := (hbC.seq (HD2.out _ _)).seq hb4
  clear hb4
  go_wp2
  go_ret
  exact ⟨rfl, hbD⟩
end Go.Proofs.YtilmmgkclijhjaaGreatDoor
