/- The walk of palaverlaw07.ParseChecks. Conditions: the tables hold what they are laid with. -/
import Derived.Test.YtdgcgogeidnmoaaGreatDoorCp
import Derived.Test.YtdgcgogeidnmoaaGreatDoorS5
import Derived.Test.YtdgcgogeidnmoaaGreatDoorR1
import Derived.Deep.RegionHeld3
set_option linter.unusedSimpArgs false
set_option linter.unusedVariables false
set_option linter.unusedSectionVars false
namespace Go.Proofs.YtdgcgogeidnmoaaGreatDoor
open Go.RowKit Pal
set_option maxRecDepth 1000000 in
set_option maxHeartbeats 8000000 in
theorem parsechecks_walk (e : Ex) (v : Value) (w : World) (hL : Lay2 w) (hE : EV (gh w) v e) (hF0 : Fine0 e) :
    Calls Tryz.prog 7 #[v] w (yesPost w) := by
  have HL := Lib.hid hL
  have HE := Lib.hid hE
  obtain ⟨kv, rfl, hK⟩ := hE
  obtain ⟨a, cap, rfl⟩ := hK.form
  have hb1 := (Below.refl w.heap.size w).alloc (Nat.le_refl _) (.cells #[.int .i64 e.op, .int .i64 e.n, .string ⟨e.s.toArray⟩, .slice a e.ks.length cap] 24)
  have e1 := heap_alloc_new w (.cells #[.int .i64 e.op, .int .i64 e.n, .string ⟨e.s.toArray⟩, .slice a e.ks.length cap] 24)
  have hti := Tiny_any e _ _ hF0 (HE.out.keep hb1)
  have HB1 := Lib.hid hb1
  have HX1 := Lib.hid e1
  unfold exV strV at *
  cases ht : tiny e with
  | false =>
    rw [ht] at hti
    have HT := Lib.hid hti
    have HAW := Lib.hid (fun w hL => awake7 w hL)
    clear hti ht hK hb1 e1 hL
    go_enter Tryz.func7, Tryz.ntmps7
    go_wp2_with fail
    refine HT.out.mono ?_
    rintro r W ⟨rfl, hb⟩
    have HB2 := Lib.hid (HB1.out.seq hb)
    clear hb
    go_wp2_with fail
    refine (HAW.out _ (HL.out.below HB2.out)).mono ?_
    rintro r W2 ⟨rfl, hb2⟩
    have hb3 := HB2.out.seq hb2
    go_wp2
    go_ret
    exact ⟨rfl, hb3⟩
  | true =>
    have hS := tiny_slim ht
    have HS := Lib.hid hS
    have HF := Lib.hid (hS.fine hF0)
    rw [ht] at hti
    have HT := Lib.hid hti
    have HAW := Lib.hid (fun w hL => awake7 w hL)
    obtain ⟨ck, hck⟩ : ∃ ck, check e = ck := ⟨_, rfl⟩
    have HCP := Lib.hid (fun W h => Expr_any e (exV e.op e.n e.s (.slice a e.ks.length cap)) W HS.out h)
    have hpc := fun v W hL h => parseCheck_any e v W HF.out hL h
    have hrc := fun W h => refCheck7_any e (exV e.op e.n e.s (.slice a e.ks.length cap)) W HF.out h
    simp only [hck] at hpc hrc
    have HPC := Lib.hid hpc
    have HRC := Lib.hid hrc
    have q : (ck == ck) = true := by cases ck <;> rfl
    unfold exV strV at HCP HRC
    clear hti ht hK hb1 e1 hL hS hck hpc hrc
    go_enter Tryz.func7, Tryz.ntmps7
    go_wp2_with fail
    refine HT.out.mono ?_
    rintro r W ⟨rfl, hb⟩
    have hx := (hb.block _ (by simp)).trans HX1.out
    have HX := Lib.hid hx
    have HB2 := Lib.hid (HB1.out.seq hb)
    have hwl : w.heap.size < W.heap.size := (Array.getElem?_eq_some_iff.1 hx).1
    obtain ⟨⟨x0, x1, x2, x3⟩, -⟩ := four_all hx
    have hk : ∀ W', Below W.heap.size W W' → W'.cell? ⟨w.heap.size, 0, none⟩ = some (.int .i64 e.op) ∧ W'.cell? ⟨w.heap.size, 1, none⟩ = some (.int .i64 e.n) ∧ W'.cell? ⟨w.heap.size, 2, none⟩ = some (.string ⟨e.s.toArray⟩) ∧ W'.cell? ⟨w.heap.size, 3, none⟩ = some (.slice a e.ks.length cap) := fun W' hb' => (four_all ((hb'.block _ hwl).trans HX.out)).1
    have HK := Lib.hid hk
    clear hb hx hk
    have hbe : Below W.heap.size W W.drew := (Below.refl _ _).drew
    go_wp2
    go_region_held3 (fun w' => (w'.cell? ⟨w.heap.size, 0, none⟩ = some (.int .i64 e.op) ∧ w'.cell? ⟨w.heap.size, 1, none⟩ = some (.int .i64 e.n) ∧ w'.cell? ⟨w.heap.size, 2, none⟩ = some (.string ⟨e.s.toArray⟩) ∧ w'.cell? ⟨w.heap.size, 3, none⟩ = some (.slice a e.ks.length cap))) (go_keep)
      ((first
        | (go_at_call 23; refine (HCP.out _ (HE.out.keep (HB2.out.seq hbe))).mono ?_; rintro r W4 h4; have hbe4 := hbe.seq h4.1; obtain ⟨v4, hv4, kv4, hkv4, hk4⟩ := h4.ev; obtain ⟨ka, kc, hkf⟩ := hk4.form; subst hkf; subst hkv4; subst hv4; have HK4 := Lib.hid hk4; unfold exV strV; have hg := HK.out W4 hbe4; obtain ⟨g0, g1, g2, g3⟩ := hg; clear h4 hk4)
        | (go_at_call 33; refine (HPC.out _ _ (HL.out.below (HB2.out.seq hbe4)).lay ⟨_, rfl, HK4.out⟩).mono ?_; rintro r W5 ⟨rfl, hb5⟩; have hbe5 := hbe4.seq hb5; have hg := HK.out W5 hbe5; obtain ⟨g0, g1, g2, g3⟩ := hg; clear hb5)
        | (go_at_call 28; refine (HRC.out _ (HE.out.keep (HB2.out.seq hbe5))).mono ?_; rintro r W6 ⟨rfl, hb6⟩; have hbe6 := hbe5.seq hb6; have hg := HK.out W6 hbe6; obtain ⟨g0, g1, g2, g3⟩ := hg; clear hb6)
        | (go_at_call 30; refine (HAW.out _ (HL.out.below (HB2.out.seq hbe6))).mono ?_; rintro r W7 ⟨rfl, hb7⟩; have hbe7 := hbe6.seq hb7; have hg := HK.out W7 hbe7; obtain ⟨g0, g1, g2, g3⟩ := hg; clear hb7)))
    all_goals
      have hbx := HB2.out.seq hbe7
      go_wp2
      go_ret
      exact ⟨rfl, hbx⟩
end Go.Proofs.YtdgcgogeidnmoaaGreatDoor
