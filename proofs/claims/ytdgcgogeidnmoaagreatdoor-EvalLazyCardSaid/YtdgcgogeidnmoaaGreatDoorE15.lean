/- The walks of palaverlaw09.awake, truth, two. Conditions: the tables hold what they are laid with; both numbers are an int64's. -/
import Derived.Test.YtdgcgogeidnmoaaGreatDoorEE
import Derived.Test.YtdgcgogeidnmoaaGreatDoorG9
import Derived.Test.YtdgcgogeidnmoaaGreatDoorEC
set_option linter.unusedSimpArgs false
set_option linter.unusedVariables false
set_option linter.unusedSectionVars false
namespace Go.Proofs.YtdgcgogeidnmoaaGreatDoor
open Go.RowKit Pal
theorem evals_a1 : ∃ e, parseM [49, 32, 47, 32, 48] = .ok e ∧ evalM e [] [] = vBad 2 := ⟨.mk 10 0 [] [.mk 1 1 [] [], .mk 1 0 [] []], by kernel_rfl, by kernel_rfl⟩
theorem evals_a2 : ∃ e, parseM [116, 114, 117, 101, 32, 124, 32, 49, 47, 48, 32, 61, 32, 49] = .ok e ∧ evalM e [] [] = vBool true := ⟨.mk 17 0 [] [.mk 3 1 [] [], .mk 12 0 [] [.mk 10 0 [] [.mk 1 1 [] [], .mk 1 0 [] []], .mk 1 1 [] []]], by kernel_rfl, by kernel_rfl⟩
theorem evals_a3 : ∃ e, parseM [120, 32, 43, 32, 49] = .ok e ∧ evalM e [] [] = vBad 3 := ⟨.mk 7 0 [] [.mk 4 0 [120] [], .mk 1 1 [] []], by kernel_rfl, by kernel_rfl⟩
theorem vfine_nil : VFine [] := fun v h => by cases h
set_option maxRecDepth 1000000 in
set_option maxHeartbeats 8000000 in
theorem awake9 (w : World) (hL : Lay (gh w)) : Calls Tryz.prog 35 #[] w (yesPost w) := by
  obtain ⟨e1, hp1, ht1⟩ := evals_a1
  obtain ⟨e2, hp2, ht2⟩ := evals_a2
  obtain ⟨e3, hp3, ht3⟩ := evals_a3
  have HF1 := Lib.hid (parseM_fine hp1)
  have HF2 := Lib.hid (parseM_fine hp2)
  have HF3 := Lib.hid (parseM_fine hp3)
  have HP1 := Lib.hid (fun w hL => parse_yes ⟨#[49, 32, 47, 32, 48]⟩ e1 w (by decide) hp1 hL)
  have HP2 := Lib.hid (fun w hL => parse_yes ⟨#[116, 114, 117, 101, 32, 124, 32, 49, 47, 48, 32, 61, 32, 49]⟩ e2 w (by decide) hp2 hL)
  have HP3 := Lib.hid (fun w hL => parse_yes ⟨#[120, 32, 43, 32, 49]⟩ e3 w (by decide) hp3 hL)
  have HT1 := Lib.hid ht1
  have HT2 := Lib.hid ht2
  have HT3 := Lib.hid ht3
  have HL := Lib.hid hL
  clear hp1 hp2 hp3 ht1 ht2 ht3 hL
  go_enter Tryz.func35, Tryz.ntmps35
  go_wp2_with fail
  refine (HP1.out _ HL.out).mono ?_
  rintro r W1 ⟨hb1, a1, k1, rfl, hK1⟩
  have hn1 := (Below.refl W1.heap.size W1).alloc (Nat.le_refl _) (.cells #[.int .i64 e1.op, .int .i64 e1.n, .string ⟨e1.s.toArray⟩, .slice a1 e1.ks.length k1] 24)
  have hbA := hb1.seq hn1
  have hKA := hK1.keep hn1
  have hcA := heap_alloc_new W1 (.cells #[.int .i64 e1.op, .int .i64 e1.n, .string ⟨e1.s.toArray⟩, .slice a1 e1.ks.length k1] 24)
  have hsA : (W1.alloc (.cells #[.int .i64 e1.op, .int .i64 e1.n, .string ⟨e1.s.toArray⟩, .slice a1 e1.ks.length k1] 24)).heap.size = W1.heap.size + 1 := by simp
  clear hb1 hK1 hn1
  go_wp2_with fail
  refine (HP2.out _ (HL.out.below hbA)).mono ?_
  generalize W1.alloc (.cells #[.int .i64 e1.op, .int .i64 e1.n, .string ⟨e1.s.toArray⟩, .slice a1 e1.ks.length k1] 24) = WA at *
  rintro r W2 ⟨hb2, a2, k2, rfl, hK2⟩
  have hn2 := (Below.refl W2.heap.size W2).alloc (Nat.le_refl _) (.cells #[.int .i64 e2.op, .int .i64 e2.n, .string ⟨e2.s.toArray⟩, .slice a2 e2.ks.length k2] 24)
  have hbn2 := hb2.seq hn2
  have hbB := hbA.seq hbn2
  have hKA2 := hKA.keep hbn2
  have hcA2 := (hbn2.block _ (by omega)).trans hcA
  have hKB := hK2.keep hn2
  have hcB := heap_alloc_new W2 (.cells #[.int .i64 e2.op, .int .i64 e2.n, .string ⟨e2.s.toArray⟩, .slice a2 e2.ks.length k2] 24)
  have hsB : (W2.alloc (.cells #[.int .i64 e2.op, .int .i64 e2.n, .string ⟨e2.s.toArray⟩, .slice a2 e2.ks.length k2] 24)).heap.size = W2.heap.size + 1 := by simp
  have hsA2 : W1.heap.size < W2.heap.size := by have := hb2.size; omega
  clear hb2 hK2 hn2 hbn2 hbA hKA hcA hsA
  go_wp2_with fail
  refine (HP3.out _ (HL.out.below hbB)).mono ?_
  generalize W2.alloc (.cells #[.int .i64 e2.op, .int .i64 e2.n, .string ⟨e2.s.toArray⟩, .slice a2 e2.ks.length k2] 24) = WB at *
  rintro r W3 ⟨hb3, a3, k3, rfl, hK3⟩
  have hn3 := (Below.refl W3.heap.size W3).alloc (Nat.le_refl _) (.cells #[.int .i64 e3.op, .int .i64 e3.n, .string ⟨e3.s.toArray⟩, .slice a3 e3.ks.length k3] 24)
  have hbn3 := hb3.seq hn3
  have hbC := hbB.seq hbn3
  have hKA3 := hKA2.keep hbn3
  have hKB3 := hKB.keep hbn3
  have hcA3 := (hbn3.block _ (by omega)).trans hcA2
  have hcB3 := (hbn3.block _ (by omega)).trans hcB
  have hKC := hK3.keep hn3
  have hcC := heap_alloc_new W3 (.cells #[.int .i64 e3.op, .int .i64 e3.n, .string ⟨e3.s.toArray⟩, .slice a3 e3.ks.length k3] 24)
  have hsC : (W3.alloc (.cells #[.int .i64 e3.op, .int .i64 e3.n, .string ⟨e3.s.toArray⟩, .slice a3 e3.ks.length k3] 24)).heap.size = W3.heap.size + 1 := by simp
  have hsB2 : W2.heap.size < W3.heap.size := by have := hb3.size; omega
  clear hb3 hK3 hn3 hbn3 hbB hKA2 hKB hcA2 hcB hsB
  go_upto_region 4 with fail
  generalize W3.alloc (.cells #[.int .i64 e3.op, .int .i64 e3.n, .string ⟨e3.s.toArray⟩, .slice a3 e3.ks.length k3] 24) = WC at *
  have hk : ∀ W, Below WC.heap.size WC W → Calls Tryz.prog 36 #[exV e1.op e1.n e1.s (.slice a1 e1.ks.length k1), .slice none 0 0, .slice none 0 0] W (valPost (vBad 2) W) := fun W hb => by
    have := Eval_any e1 [] [] _ (.slice none 0 0) (.slice none 0 0) W HF1.out vfine_nil (HL.out.below (hbC.seq hb)) ⟨_, rfl, hKA3.keep hb⟩ (StrsV_nil _) (ValsV_nil _)
    rw [HT1.out] at this; exact this
  have hk2 : ∀ W, Below WC.heap.size WC W → Calls Tryz.prog 36 #[exV e2.op e2.n e2.s (.slice a2 e2.ks.length k2), .slice none 0 0, .slice none 0 0] W (valPost (vBool true) W) := fun W hb => by
    have := Eval_any e2 [] [] _ (.slice none 0 0) (.slice none 0 0) W HF2.out vfine_nil (HL.out.below (hbC.seq hb)) ⟨_, rfl, hKB3.keep hb⟩ (StrsV_nil _) (ValsV_nil _)
    rw [HT2.out] at this; exact this
  have hk3 : ∀ W, Below WC.heap.size WC W → Calls Tryz.prog 36 #[exV e3.op e3.n e3.s (.slice a3 e3.ks.length k3), .slice none 0 0, .slice none 0 0] W (valPost (vBad 3) W) := fun W hb => by
    have := Eval_any e3 [] [] _ (.slice none 0 0) (.slice none 0 0) W HF3.out vfine_nil (HL.out.below (hbC.seq hb)) ⟨_, rfl, hKC.keep hb⟩ (StrsV_nil _) (ValsV_nil _)
    rw [HT3.out] at this; exact this
  unfold exV strV at hk hk2 hk3
  have H1 := Lib.hid hk
  have H2 := Lib.hid hk2
  have H3 := Lib.hid hk3
  have HBC := Lib.hid hbC
  have HCB := Lib.hid hcB3
  have HCC := Lib.hid hcC
  obtain ⟨c0, c1, c2, c3⟩ := four_cells hcA3
  have s1 : W2.heap.size < WC.heap.size := by omega
  have s2 : W3.heap.size < WC.heap.size := by omega
  have HS := Lib.hid (And.intro s1 s2)
  clear hk hk2 hk3 hbC hcA3 hcB3 hcC hKA3 hKB3 hKC hsC hsA2 hsB2 s1 s2
  go_wp2_with fail
  refine (H1.out _ (Below.refl _ _)).mono ?_
  rintro r W4 ⟨rfl, hb4⟩
  have hB4 := HCB.out
  obtain ⟨d0, d1, d2, d3⟩ := four_cells ((hb4.block _ HS.out.1).trans HCB.out)
  clear c0 c1 c2 c3 hB4
  unfold valV strV
  go_wp2_with fail
  refine (H2.out _ hb4).mono ?_
  rintro r W5 ⟨rfl, hb5⟩
  have hb6 := hb4.seq hb5
  obtain ⟨g0, g1, g2, g3⟩ := four_cells ((hb6.block _ HS.out.2).trans HCC.out)
  clear d0 d1 d2 d3 hb4 hb5
  unfold valV strV
  go_wp2_with fail
  refine (H3.out _ hb6).mono ?_
  rintro r W6 ⟨rfl, hb7⟩
  have hb8 := HBC.out.seq (hb6.seq hb7)
  unfold valV strV
  clear g0 g1 g2 g3 hb6 hb7
  go_wp2
  go_ret
  exact ⟨rfl, hb8⟩
theorem vfine_two {a b : Int} (ha : R64 a) (hb : R64 b) : VFine [vInt a, vInt b] := by
  intro v hv
  rcases List.mem_cons.1 hv with rfl | hv
  · exact ⟨ha, by simp [vInt]⟩
  · obtain rfl := List.mem_singleton.1 hv
    exact ⟨hb, by simp [vInt]⟩
theorem twoX_fine (op : Int) (x y : Bs) (ho : -9223372036854775808 ≤ op ∧ op ≤ 9223372036854775807) (hx : x.length ≤ 100) (hy : y.length ≤ 100) : Fine (twoX op x y) := by
  refine .mk _ _ _ _ ho (by decide) (by decide) (fun k hk => ?_)
  rcases List.mem_cons.1 hk with rfl | hk
  · exact .mk _ _ _ _ (by decide) (by decide) (by omega) (fun k hk => by cases hk)
  · obtain rfl := List.mem_singleton.1 hk
    exact .mk _ _ _ _ (by decide) (by decide) (by omega) (fun k hk => by cases hk)
set_option maxRecDepth 1000000 in
set_option maxHeartbeats 8000000 in
theorem two_any (op : Nat) (a b : Int) (w : World) (ho : 7 ≤ op ∧ op ≤ 15) (ha : R64 a) (hb : R64 b) (hL : Lay (gh w)) :
    Calls Tryz.prog 41 #[.int .i64 op, .int .i64 a, .int .i64 b] w (valPost (twoV op a b) w) := by
  have e1 := heap_alloc_new w (.cells #[.int .i64 0, .int .i64 0, .string ⟨#[]⟩] 47)
  have e2 := heap_alloc_new (w.alloc (.cells #[.int .i64 0, .int .i64 0, .string ⟨#[]⟩] 47)) (.cells #[.int .i64 4, .int .i64 0, .string ⟨#[97]⟩, .slice none 0 0, .int .i64 4, .int .i64 0, .string ⟨#[98]⟩, .slice none 0 0] 24)
  have e3 := heap_alloc_new ((w.alloc (.cells #[.int .i64 0, .int .i64 0, .string ⟨#[]⟩] 47)).alloc (.cells #[.int .i64 4, .int .i64 0, .string ⟨#[97]⟩, .slice none 0 0, .int .i64 4, .int .i64 0, .string ⟨#[98]⟩, .slice none 0 0] 24)) (.cells #[.string ⟨#[97]⟩, .string ⟨#[98]⟩] 9)
  have e4 := heap_alloc_new (((w.alloc (.cells #[.int .i64 0, .int .i64 0, .string ⟨#[]⟩] 47)).alloc (.cells #[.int .i64 4, .int .i64 0, .string ⟨#[97]⟩, .slice none 0 0, .int .i64 4, .int .i64 0, .string ⟨#[98]⟩, .slice none 0 0] 24)).alloc (.cells #[.string ⟨#[97]⟩, .string ⟨#[98]⟩] 9)) (.cells #[.int .i64 1, .int .i64 a, .string ⟨#[]⟩, .int .i64 1, .int .i64 b, .string ⟨#[]⟩] 47)
  have e1' : ((((w.alloc (.cells #[.int .i64 0, .int .i64 0, .string ⟨#[]⟩] 47)).alloc (.cells #[.int .i64 4, .int .i64 0, .string ⟨#[97]⟩, .slice none 0 0, .int .i64 4, .int .i64 0, .string ⟨#[98]⟩, .slice none 0 0] 24)).alloc (.cells #[.string ⟨#[97]⟩, .string ⟨#[98]⟩] 9)).alloc (.cells #[.int .i64 1, .int .i64 a, .string ⟨#[]⟩, .int .i64 1, .int .i64 b, .string ⟨#[]⟩] 47)).heap[w.heap.size]? = _ := (Lib.alloc_old _ _ _ (by simp <;> omega)).trans ((Lib.alloc_old _ _ _ (by simp <;> omega)).trans ((Lib.alloc_old _ _ _ (by simp)).trans e1))
  have e2' := (Lib.alloc_old (((w.alloc (.cells #[.int .i64 0, .int .i64 0, .string ⟨#[]⟩] 47)).alloc (.cells #[.int .i64 4, .int .i64 0, .string ⟨#[97]⟩, .slice none 0 0, .int .i64 4, .int .i64 0, .string ⟨#[98]⟩, .slice none 0 0] 24)).alloc (.cells #[.string ⟨#[97]⟩, .string ⟨#[98]⟩] 9)) (.cells #[.int .i64 1, .int .i64 a, .string ⟨#[]⟩, .int .i64 1, .int .i64 b, .string ⟨#[]⟩] 47) _ (by simp <;> omega)).trans ((Lib.alloc_old ((w.alloc (.cells #[.int .i64 0, .int .i64 0, .string ⟨#[]⟩] 47)).alloc (.cells #[.int .i64 4, .int .i64 0, .string ⟨#[97]⟩, .slice none 0 0, .int .i64 4, .int .i64 0, .string ⟨#[98]⟩, .slice none 0 0] 24)) (.cells #[.string ⟨#[97]⟩, .string ⟨#[98]⟩] 9) _ (by simp)).trans e2)
  have e3' := (Lib.alloc_old (((w.alloc (.cells #[.int .i64 0, .int .i64 0, .string ⟨#[]⟩] 47)).alloc (.cells #[.int .i64 4, .int .i64 0, .string ⟨#[97]⟩, .slice none 0 0, .int .i64 4, .int .i64 0, .string ⟨#[98]⟩, .slice none 0 0] 24)).alloc (.cells #[.string ⟨#[97]⟩, .string ⟨#[98]⟩] 9)) (.cells #[.int .i64 1, .int .i64 a, .string ⟨#[]⟩, .int .i64 1, .int .i64 b, .string ⟨#[]⟩] 47) _ (by simp)).trans e3
  have hb0 := ((((Below.refl w.heap.size w).alloc (Nat.le_refl _) (.cells #[.int .i64 0, .int .i64 0, .string ⟨#[]⟩] 47)).alloc (by simp) (.cells #[.int .i64 4, .int .i64 0, .string ⟨#[97]⟩, .slice none 0 0, .int .i64 4, .int .i64 0, .string ⟨#[98]⟩, .slice none 0 0] 24)).alloc (by simp <;> omega) (.cells #[.string ⟨#[97]⟩, .string ⟨#[98]⟩] 9)).alloc (by simp <;> omega) (.cells #[.int .i64 1, .int .i64 a, .string ⟨#[]⟩, .int .i64 1, .int .i64 b, .string ⟨#[]⟩] 47)
  have hkv := KV.two (h := gh ((((w.alloc (.cells #[.int .i64 0, .int .i64 0, .string ⟨#[]⟩] 47)).alloc (.cells #[.int .i64 4, .int .i64 0, .string ⟨#[97]⟩, .slice none 0 0, .int .i64 4, .int .i64 0, .string ⟨#[98]⟩, .slice none 0 0] 24)).alloc (.cells #[.string ⟨#[97]⟩, .string ⟨#[98]⟩] 9)).alloc (.cells #[.int .i64 1, .int .i64 a, .string ⟨#[]⟩, .int .i64 1, .int .i64 b, .string ⟨#[]⟩] 47))) (a := .mk 4 0 [97] []) (c := .mk 4 0 [98] []) e2' (KV.nil _) (KV.nil _)
  have hnv := StrsV.lay (w := (((w.alloc (.cells #[.int .i64 0, .int .i64 0, .string ⟨#[]⟩] 47)).alloc (.cells #[.int .i64 4, .int .i64 0, .string ⟨#[97]⟩, .slice none 0 0, .int .i64 4, .int .i64 0, .string ⟨#[98]⟩, .slice none 0 0] 24)).alloc (.cells #[.string ⟨#[97]⟩, .string ⟨#[98]⟩] 9)).alloc (.cells #[.int .i64 1, .int .i64 a, .string ⟨#[]⟩, .int .i64 1, .int .i64 b, .string ⟨#[]⟩] 47)) [[97], [98]] 9 e3' (by simp [maxLen])
  have hvv := ValsV.two (x := vInt a) (y := vInt b) e4
  have hev := Eval_any (twoX op [97] [98]) [[97], [98]] [vInt a, vInt b] _ _ _ _ (twoX_fine op _ _ (by omega) (by simp) (by simp)) (vfine_two ha hb) (hL.below hb0) ⟨_, rfl, hkv⟩ hnv hvv
  rw [ev_ab op ho] at hev
  have s1 : (w.alloc (.cells #[.int .i64 0, .int .i64 0, .string ⟨#[]⟩] 47)).heap.size = w.heap.size + 1 := by simp
  have s2 : ((w.alloc (.cells #[.int .i64 0, .int .i64 0, .string ⟨#[]⟩] 47)).alloc (.cells #[.int .i64 4, .int .i64 0, .string ⟨#[97]⟩, .slice none 0 0, .int .i64 4, .int .i64 0, .string ⟨#[98]⟩, .slice none 0 0] 24)).heap.size = w.heap.size + 2 := by simp
  have s3 : (((w.alloc (.cells #[.int .i64 0, .int .i64 0, .string ⟨#[]⟩] 47)).alloc (.cells #[.int .i64 4, .int .i64 0, .string ⟨#[97]⟩, .slice none 0 0, .int .i64 4, .int .i64 0, .string ⟨#[98]⟩, .slice none 0 0] 24)).alloc (.cells #[.string ⟨#[97]⟩, .string ⟨#[98]⟩] 9)).heap.size = w.heap.size + 3 := by simp
  rw [s1, s2, s3] at hev
  have HE := Lib.hid hev
  have HB := Lib.hid hb0
  have HZ := Lib.hid e1'
  clear hev hb0 e1' e1 e2 e3 e4 e2' e3' hkv hnv hvv s1 s2 s3 ha hb ho hL
  unfold exV strV at HE
  go_enter Tryz.func41, Tryz.ntmps41
  go_wp2_with fail
  refine HE.out.mono ?_
  rintro r W ⟨rfl, hb⟩
  have hzW := (hb.block _ (by simp <;> omega)).trans HZ.out
  obtain ⟨⟨c0, c1, c2⟩, f0, f1, f2⟩ := three_all hzW
  have HZW := Lib.hid hzW
  have HBW := Lib.hid (HB.out.seq hb)
  clear hb hzW HE HB HZ
  generalize twoV op a b = x at *
  unfold valV strV
  go_wp2
  have hh := three_all (set3_heap HZW.out (.int .i64 x.k) (.int .i64 x.n) (.string ⟨x.s.toArray⟩))
  refine bodyPost_ret (v := valV x) (by simp [results, Tryz.results41, go_sem, valV, strV, hh.1]) rfl ⟨rfl, below_set3 HBW.out (by omega) _ _ _⟩
set_option maxRecDepth 1000000 in
set_option maxHeartbeats 2000000 in
theorem truth9_any (b : Bool) (w : World) : Calls Tryz.prog 42 #[.bool b] w (valPost (vBool b) w) := by
  cases b
  · go_enter Tryz.func42, Tryz.ntmps42
    go_wp2
    have hh := three_all (heap_alloc_new w (.cells #[.int .i64 2, .int .i64 0, .string ⟨#[]⟩] 47))
    refine bodyPost_ret (v := valV (vBool false)) (by simp [results, Tryz.results42, go_sem, valV, strV, vBool, hh.1]) rfl ⟨rfl, (Below.refl _ _).alloc (Nat.le_refl _) _⟩
  · go_enter Tryz.func42, Tryz.ntmps42
    go_wp2
    have hh := three_all (heap_alloc_new w (.cells #[.int .i64 2, .int .i64 1, .string ⟨#[]⟩] 47))
    refine bodyPost_ret (v := valV (vBool true)) (by simp [results, Tryz.results42, go_sem, valV, strV, vBool, hh.1]) rfl ⟨rfl, (Below.refl _ _).alloc (Nat.le_refl _) _⟩
end Go.Proofs.YtdgcgogeidnmoaaGreatDoor
