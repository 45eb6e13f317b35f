/- The walk of palaverlaw07.ParseParts. Conditions: the tables hold what they are laid with; the texts are no longer than any may be. -/
import Derived.Test.YtdgcgogeidnmoaaDoorS8
import Derived.Test.YtdgcgogeidnmoaaDoorG0
set_option linter.unusedSimpArgs false
set_option linter.unusedVariables false
namespace Go.Proofs.YtdgcgogeidnmoaaDoor
open Go.RowKit Pal
theorem signs11 {W : World} {B : Nat} {T : TypeId} (h : W.heap[B]? = some (.cells #[.string ⟨#[43]⟩, .string ⟨#[45]⟩, .string ⟨#[42]⟩, .string ⟨#[47]⟩, .string ⟨#[37]⟩, .string ⟨#[61]⟩, .string ⟨#[33, 61]⟩, .string ⟨#[60]⟩, .string ⟨#[60, 61]⟩, .string ⟨#[38]⟩, .string ⟨#[124]⟩] T (0, 0))) (k : Nat) (hk : k < 11) :
    W.cell? ⟨B, k, none⟩ = some (.string ⟨(sgOf k).toArray⟩) := by
  rcases (by omega : k = 0 ∨ k = 1 ∨ k = 2 ∨ k = 3 ∨ k = 4 ∨ k = 5 ∨ k = 6 ∨ k = 7 ∨ k = 8 ∨ k = 9 ∨ k = 10) with rfl | rfl | rfl | rfl | rfl | rfl | rfl | rfl | rfl | rfl | rfl <;> simp [World.cell?, h, sgOf]
theorem sgOf_len (k : Nat) : (sgOf k).length ≤ 2 := by
  by_cases h : k < 11
  · rcases (by omega : k = 0 ∨ k = 1 ∨ k = 2 ∨ k = 3 ∨ k = 4 ∨ k = 5 ∨ k = 6 ∨ k = 7 ∨ k = 8 ∨ k = 9 ∨ k = 10) with rfl | rfl | rfl | rfl | rfl | rfl | rfl | rfl | rfl | rfl | rfl <;> decide
  · unfold sgOf; rw [List.getD_eq_getElem?_getD, List.getElem?_eq_none (by simp; omega)]; simp
def errK (x : Except (Nat × Int) Ex) : Int := match x with | .ok _ => 0 | .error p => p.2
/-- Parse, whatever it comes to. -/
theorem parse_gen (s : ByteArray) (w : World) (hm : s.size ≤ 9223372036854775807) (hL : Lay (gh w)) :
    Calls Tryd.prog 13 #[.string s] w fun r w' => Below w.heap.size w w' ∧ ∃ o n sv a l c p, r = .returned (.tuple #[.agg #[.int .i64 o, .int .i64 n, .string sv, .slice a l c], .int .i64 p, .int .i64 (errK (parseM s.data.toList))]) := by
  cases hp : parseM s.data.toList with
  | error pk =>
    obtain ⟨p, k⟩ := pk
    refine (parse_no s p k w hm hp hL).mono ?_
    rintro r w' ⟨hb, rfl⟩
    exact ⟨hb, _, _, _, _, _, _, _, rfl⟩
  | ok e =>
    refine (parse_yes s e w hm hp hL).mono ?_
    rintro r w' ⟨hb, a, c, rfl, _⟩
    exact ⟨hb, _, _, _, _, _, _, _, rfl⟩
set_option maxRecDepth 1000000 in
set_option maxHeartbeats 8000000 in
theorem parts_skip (s t : ByteArray) (sign : Int) (w : World) (hL : Lay2 w) (h1 : s.size ≤ 150) (h2 : t.size ≤ 150) (hk : errK (parseM s.data.toList) ≠ 0 ∨ errK (parseM t.data.toList) ≠ 0) :
    Calls Tryd.prog 7 #[.string s, .string t, .int .i64 sign] w (yesPost w) := by
  have HL := Lib.hid hL
  have HA := Lib.hid (fun W hb => awake7 W (hL.below hb))
  have HP1 := Lib.hid (fun W hL => parse_gen s W (by omega) hL)
  have HP2 := Lib.hid (fun W hL => parse_gen t W (by omega) hL)
  have q : decide ((150 : Int) < (s.size : Int)) = false := decide_eq_false (by omega)
  have q1 : decide ((150 : Int) < (t.size : Int)) = false := decide_eq_false (by omega)
  clear h1 h2 hL
  generalize errK (parseM s.data.toList) = k1 at *
  generalize errK (parseM t.data.toList) = k2 at *
  by_cases hk1 : k1 = 0
  · have q3 : (k1 != 0) = false := by rw [hk1]; rfl
    have q4 : (k2 != 0) = true := bne_iff_ne.2 (by omega)
    clear hk hk1
    go_enter Tryd.func7, Tryd.ntmps7
    go_wp2_with fail
    refine (HP1.out _ HL.out.lay).mono ?_
    rintro r W ⟨hb, o, n, sv, a, l, c, p, rfl⟩
    have hb2 := hb.alloc hb.size (.cells #[.int .i64 o, .int .i64 n, .string sv, .slice a l c] 24)
    clear hb
    go_wp2_with fail
    refine (HP2.out _ (HL.out.lay.below hb2)).mono ?_
    rintro r W2 ⟨hb, o2, n2, sv2, a2, l2, c2, p2, rfl⟩
    have hb3 := (hb2.seq hb).alloc (hb2.seq hb).size (.cells #[.int .i64 o2, .int .i64 n2, .string sv2, .slice a2 l2 c2] 24)
    clear hb hb2
    go_wp2_with fail
    refine (HA.out _ hb3).mono ?_
    rintro r W3 ⟨rfl, hb4⟩
    have hb5 := hb3.seq hb4
    go_wp2
    go_ret
    exact ⟨rfl, hb5⟩
  · have q3 : (k1 != 0) = true := bne_iff_ne.2 hk1
    clear hk hk1
    go_enter Tryd.func7, Tryd.ntmps7
    go_wp2_with fail
    refine (HP1.out _ HL.out.lay).mono ?_
    rintro r W ⟨hb, o, n, sv, a, l, c, p, rfl⟩
    have hb2 := hb.alloc hb.size (.cells #[.int .i64 o, .int .i64 n, .string sv, .slice a l c] 24)
    clear hb
    go_wp2_with fail
    refine (HP2.out _ (HL.out.lay.below hb2)).mono ?_
    rintro r W2 ⟨hb, o2, n2, sv2, a2, l2, c2, p2, rfl⟩
    have hb3 := (hb2.seq hb).alloc (hb2.seq hb).size (.cells #[.int .i64 o2, .int .i64 n2, .string sv2, .slice a2 l2 c2] 24)
    clear hb hb2
    go_wp2_with fail
    refine (HA.out _ hb3).mono ?_
    rintro r W3 ⟨rfl, hb4⟩
    have hb5 := hb3.seq hb4
    go_wp2
    go_ret
    exact ⟨rfl, hb5⟩
set_option maxRecDepth 1000000 in
set_option maxHeartbeats 8000000 in
theorem parts_both (s t : ByteArray) (sign : Int) (w : World) (a b : Ex) (hL : Lay2 w) (h1 : s.size ≤ 150) (h2 : t.size ≤ 150) (hn : -9223372036854775808 ≤ sign ∧ sign ≤ 9223372036854775807) (hp : parseM s.data.toList = .ok a) (hq : parseM t.data.toList = .ok b) :
    Calls Tryd.prog 7 #[.string s, .string t, .int .i64 sign] w (yesPost w) := by
  have HL := Lib.hid hL
  have HA := Lib.hid (fun W hb => awake7 W (hL.below hb))
  obtain ⟨k, hk, hk11⟩ : ∃ k : Nat, sign % 11 = k ∧ k < 11 := ⟨(sign % 11).toNat, by omega, by omega⟩
  have hpl := fun w => place_any sign 11 w hn (by omega) (by omega)
  rw [hk] at hpl
  have HPL := Lib.hid hpl
  have HP1 := Lib.hid (parse_yes s a w (by omega) hp hL.lay)
  have HP2 := Lib.hid (fun W hL => parse_yes t b W (by omega) hq hL)
  have hlaw := parts_law hp hq (by rw [len_toList]; omega) (by rw [len_toList]; omega) k hk11
  have q : decide ((150 : Int) < (s.size : Int)) = false := decide_eq_false (by omega)
  have q1 : decide ((150 : Int) < (t.size : Int)) = false := decide_eq_false (by omega)
  have hF : Fine (.mk (7 + (k : Int)) 0 [] [a, b]) := .mk _ _ _ _ (by omega) (by decide) (by decide) (fun x hx => by
    rcases List.mem_cons.1 hx with rfl | hx
    · exact parseM_fine hp
    · obtain rfl := List.mem_singleton.1 hx; exact parseM_fine hq)
  have HF := Lib.hid hF
  have hsg := sgOf_len k
  have i0 : (0 : Int) ≤ (k : Int) := by omega
  have i1 : (k : Int) < 11 := by omega
  have HLAW := Lib.hid hlaw
  clear hL hpl hp hq hlaw hF hk hn
  go_enter Tryd.func7, Tryd.ntmps7
  go_wp2_with fail
  refine HP1.out.mono ?_
  rintro r W1 ⟨hb1, a1, k1, rfl, hK1⟩
  have hbn := (Below.refl W1.heap.size W1).alloc (Nat.le_refl _) (.cells #[.int .i64 a.op, .int .i64 a.n, .string ⟨a.s.toArray⟩, .slice a1 a.ks.length k1] 24)
  have hbA := hb1.seq hbn
  have hKA := hK1.keep hbn
  have hcA := heap_alloc_new W1 (.cells #[.int .i64 a.op, .int .i64 a.n, .string ⟨a.s.toArray⟩, .slice a1 a.ks.length k1] 24)
  clear hb1 hK1 hbn HP1
  go_wp2_with fail
  refine (HP2.out _ (HL.out.lay.below hbA)).mono ?_
  generalize W1.alloc (.cells #[.int .i64 a.op, .int .i64 a.n, .string ⟨a.s.toArray⟩, .slice a1 a.ks.length k1] 24) = WA at *
  rintro r W2 ⟨hb2, a2, k2, rfl, hK2⟩
  have hbn := (Below.refl W2.heap.size W2).alloc (Nat.le_refl _) (.cells #[.int .i64 b.op, .int .i64 b.n, .string ⟨b.s.toArray⟩, .slice a2 b.ks.length k2] 24)
  have hsA : W1.heap.size < WA.heap.size := (Array.getElem?_eq_some_iff.1 hcA).1
  have hbB := (hbA.seq hb2).seq hbn
  have hKB := (hKA.keep hb2).keep hbn
  have hKC := hK2.keep hbn
  have hc1 := (hbn.block _ (by have := hb2.size; omega)).trans ((hb2.block _ hsA).trans hcA)
  have hc2 := heap_alloc_new W2 (.cells #[.int .i64 b.op, .int .i64 b.n, .string ⟨b.s.toArray⟩, .slice a2 b.ks.length k2] 24)
  clear hb2 hK2 hbn hbA hKA hcA HP2
  go_upto_region 7 with fail
  generalize W2.alloc (.cells #[.int .i64 b.op, .int .i64 b.n, .string ⟨b.s.toArray⟩, .slice a2 b.ks.length k2] 24) = WB at *
  have hs1 : W1.heap.size < WB.heap.size := (Array.getElem?_eq_some_iff.1 hc1).1
  have hs2 : W2.heap.size < WB.heap.size := (Array.getElem?_eq_some_iff.1 hc2).1
  have hbn : ∀ o, Below WB.heap.size WB (WB.alloc o) := fun o => (Below.refl _ _).alloc (Nat.le_refl _) o
  have hnw := fun o => heap_alloc_new WB o
  go_upto_region 8 with fail
  generalize hWC : WB.alloc _ = WC
  have hbC : Below WB.heap.size WB WC := by rw [← hWC]; exact hbn _
  have hcC : WC.cell? ⟨WB.heap.size, k, none⟩ = some (.string ⟨(sgOf k).toArray⟩) := by
    rw [← hWC]; exact signs11 (hnw _) k hk11
  clear hWC hbn hnw
  have hbD := hbB.seq hbC
  have hKB1 := hKB.keep hbC
  have hKC1 := hKC.keep hbC
  have hd1 := (hbC.block _ hs1).trans hc1
  have hd2 := (hbC.block _ hs2).trans hc2
  have hsC : WB.heap.size < WC.heap.size := World.block_lt_of_cell? WC _ hcC
  clear hbB hbC hKB hKC hc1 hc2
  go_wp2_with fail
  refine (HPL.out _).mono ?_
  rintro r W ⟨rfl, rfl⟩
  obtain ⟨c0, c1, c2, c3⟩ := four_cells hd1
  obtain ⟨d0, d1, d2, d3⟩ := four_cells hd2
  have hbn : Below WC.heap.size WC ((WC.alloc (.cells #[.int .i64 a.op, .int .i64 a.n, .string ⟨a.s.toArray⟩, .slice a1 a.ks.length k1, .int .i64 b.op, .int .i64 b.n, .string ⟨b.s.toArray⟩, .slice a2 b.ks.length k2] 24)).alloc (.cells #[.int .i64 (7 + (k : Int)), .int .i64 0, .string ⟨#[]⟩, .slice (some ⟨WC.heap.size, 0, none⟩) 2 2] 24)) := ((Below.refl _ _).alloc (Nat.le_refl _) _).alloc (by simp) _
  have hr1 : ((WC.alloc (.cells #[.int .i64 a.op, .int .i64 a.n, .string ⟨a.s.toArray⟩, .slice a1 a.ks.length k1, .int .i64 b.op, .int .i64 b.n, .string ⟨b.s.toArray⟩, .slice a2 b.ks.length k2] 24)).alloc (.cells #[.int .i64 (7 + (k : Int)), .int .i64 0, .string ⟨#[]⟩, .slice (some ⟨WC.heap.size, 0, none⟩) 2 2] 24)).heap[WC.heap.size]? = some (.cells #[.int .i64 a.op, .int .i64 a.n, .string ⟨a.s.toArray⟩, .slice a1 a.ks.length k1, .int .i64 b.op, .int .i64 b.n, .string ⟨b.s.toArray⟩, .slice a2 b.ks.length k2] 24 (0, 0)) := by
    rw [Lib.alloc_old _ _ _ (by simp)]; exact heap_alloc_new WC _
  have hr2 : ((WC.alloc (.cells #[.int .i64 a.op, .int .i64 a.n, .string ⟨a.s.toArray⟩, .slice a1 a.ks.length k1, .int .i64 b.op, .int .i64 b.n, .string ⟨b.s.toArray⟩, .slice a2 b.ks.length k2] 24)).alloc (.cells #[.int .i64 (7 + (k : Int)), .int .i64 0, .string ⟨#[]⟩, .slice (some ⟨WC.heap.size, 0, none⟩) 2 2] 24)).heap[WC.heap.size + 1]? = some (.cells #[.int .i64 (7 + (k : Int)), .int .i64 0, .string ⟨#[]⟩, .slice (some ⟨WC.heap.size, 0, none⟩) 2 2] 24 (0, 0)) := by
    have := heap_alloc_new (WC.alloc (.cells #[.int .i64 a.op, .int .i64 a.n, .string ⟨a.s.toArray⟩, .slice a1 a.ks.length k1, .int .i64 b.op, .int .i64 b.n, .string ⟨b.s.toArray⟩, .slice a2 b.ks.length k2] 24)) (.cells #[.int .i64 (7 + (k : Int)), .int .i64 0, .string ⟨#[]⟩, .slice (some ⟨WC.heap.size, 0, none⟩) 2 2] 24)
    simpa using this
  have HBN := Lib.hid hbn
  have HR1 := Lib.hid hr1
  have HR2 := Lib.hid hr2
  have HD := Lib.hid hbD
  have HKB := Lib.hid hKB1
  have HKC := Lib.hid hKC1
  clear hbn hr1 hr2 hbD hKB1 hKC1 hd1 hd2
  go_upto_region 10 with fail
  generalize (WC.alloc (.cells #[.int .i64 a.op, .int .i64 a.n, .string ⟨a.s.toArray⟩, .slice a1 a.ks.length k1, .int .i64 b.op, .int .i64 b.n, .string ⟨b.s.toArray⟩, .slice a2 b.ks.length k2] 24)).alloc (.cells #[.int .i64 (7 + (k : Int)), .int .i64 0, .string ⟨#[]⟩, .slice (some ⟨WC.heap.size, 0, none⟩) 2 2] 24) = WD at *
  have hk2 : KV (gh WD) (.slice (some ⟨WC.heap.size, 0, none⟩) 2 2) [a, b] := KV.two HR1.out (HKB.out.keep HBN.out) (HKC.out.keep HBN.out)
  have e0 : WD.cell? ⟨WB.heap.size, k, none⟩ = some (.string ⟨(sgOf k).toArray⟩) := by rw [HBN.out.cell (p := ⟨WB.heap.size, k, none⟩) hsC]; exact hcC
  have hbE := HD.out.seq HBN.out
  have hcE := HR2.out
  have hsE : WC.heap.size + 1 < WD.heap.size := (Array.getElem?_eq_some_iff.1 hcE).1
  have hcat : (((((((⟨#[40]⟩ : ByteArray) ++ s) ++ ⟨#[41]⟩) ++ ⟨(sgOf k).toArray⟩) ++ ⟨#[40]⟩) ++ t) ++ ⟨#[41]⟩).data.toList = 40 :: (s.data.toList ++ 41 :: (sgOf k ++ 40 :: (t.data.toList ++ [41]))) := by simp
  clear c0 c1 c2 c3 d0 d1 d2 d3 hcC HR1 HR2 HBN HD HKB HKC
  have hsz : (((((((⟨#[40]⟩ : ByteArray) ++ s) ++ ⟨#[41]⟩) ++ ⟨(sgOf k).toArray⟩) ++ ⟨#[40]⟩) ++ t) ++ ⟨#[41]⟩).size ≤ 9223372036854775807 := by
    rw [← len_toList, hcat]
    have e1 := len_toList s
    have e2 := len_toList t
    simp only [List.length_cons, List.length_append, List.length_nil]
    omega
  obtain ⟨f0, f1, f2, f3⟩ := four_cells hcE
  by_cases hck : check (.mk (7 + (k : Int)) 0 [] [a, b]) = true
  · have hlw := HLAW.out
    rw [if_pos hck] at hlw
    have hps := fun W hL => parse_yes _ (.mk (7 + (k : Int)) 0 [] [a, b]) W hsz (by rw [hcat]; exact hlw) hL
    simp only [Ex.op, Ex.n, Ex.s, Ex.ks] at hps
    have hcq := fun W hb => parseCheck_any (.mk (7 + (k : Int)) 0 [] [a, b]) (exV (7 + (k : Int)) 0 [] (.slice (some ⟨WC.heap.size, 0, none⟩) 2 2)) W HF.out ((HL.out.lay.below hbE).below hb) ⟨_, rfl, hk2.keep hb⟩
    rw [hck] at hcq
    unfold exV strV at hcq
    have HPS := Lib.hid hps
    have HCQ := Lib.hid hcq
    have HBE := Lib.hid hbE
    have HCE := Lib.hid hcE
    have HK2 := Lib.hid hk2
    have HCK := Lib.hid hck
    clear hlw hps hcq hbE hcE hk2 hck hcat hsz HLAW
    go_wp2_with fail
    refine (HPS.out _ (HL.out.lay.below HBE.out)).mono ?_
    rintro r W3 ⟨hb3, a3, k3, rfl, hK3⟩
    have hbn := (Below.refl W3.heap.size W3).alloc (Nat.le_refl _) (.cells #[.int .i64 (7 + (k : Int)), .int .i64 0, .string ⟨#[]⟩, .slice a3 2 k3] 24)
    have hb3n := hb3.seq hbn
    have hK3n := hK3.keep hbn
    have hz3 := heap_alloc_new W3 (.cells #[.int .i64 (7 + (k : Int)), .int .i64 0, .string ⟨#[]⟩, .slice a3 2 k3] 24)
    have hcF := (hb3n.block _ hsE).trans HCE.out
    clear hb3 hK3 hbn HPS f0 f1 f2 f3 e0
    go_upto_region 11 with fail
    generalize W3.alloc (.cells #[.int .i64 (7 + (k : Int)), .int .i64 0, .string ⟨#[]⟩, .slice a3 2 k3] 24) = WE at *
    obtain ⟨f0, f1, f2, f3⟩ := four_cells hcF
    have HB3 := Lib.hid hb3n
    have HK3 := Lib.hid hK3n
    have HZ3 := Lib.hid hz3
    have HCF := Lib.hid hcF
    have hs3 : W3.heap.size < WE.heap.size := (Array.getElem?_eq_some_iff.1 hz3).1
    have hs4 : WC.heap.size + 1 < WE.heap.size := (Array.getElem?_eq_some_iff.1 hcF).1
    clear hb3n hK3n hz3 hcF
    go_wp2_with fail
    refine (HCQ.out _ HB3.out).mono ?_
    rintro r W4 ⟨rfl, hb4⟩
    have hcG := (hb4.block _ hs4).trans HCF.out
    have hz4 := (hb4.block _ hs3).trans HZ3.out
    have hb5 := HB3.out.seq hb4
    have hs := parseSame_any (.mk (7 + (k : Int)) 0 [] [a, b]) (.mk (7 + (k : Int)) 0 [] [a, b]) (.slice a3 2 k3) (.slice (some ⟨WC.heap.size, 0, none⟩) 2 2) W4 HF.out HF.out (HL.out.lay.below (HBE.out.seq hb5)) (HK3.out.keep hb4) (HK2.out.keep hb5)
    rw [same_self HCK.out] at hs
    simp only [Ex.op, Ex.n, Ex.s] at hs
    unfold exV strV at hs
    have HS := Lib.hid hs
    have HB5 := Lib.hid (HBE.out.seq hb5)
    clear hs hb4 hb5 HCQ HB3 HK3 HZ3 HCF f0 f1 f2 f3
    obtain ⟨f0, f1, f2, f3⟩ := four_cells hcG
    obtain ⟨g0, g1, g2, g3⟩ := four_cells hz4
    clear hcG hz4
    go_wp2_with fail
    refine HS.out.mono ?_
    rintro r W5 ⟨rfl, hb6⟩
    have hb7 := HB5.out.seq hb6
    clear hb6 f0 f1 f2 f3 g0 g1 g2 g3
    go_wp2_with fail
    refine (HA.out _ hb7).mono ?_
    rintro r W6 ⟨rfl, hb8⟩
    have hb9 := hb7.seq hb8
    go_wp2
    go_ret
    exact ⟨rfl, hb9⟩
  · have hlw := HLAW.out
    rw [if_neg hck] at hlw
    have hps := fun W hL => parse_no _ 0 7 W hsz (by rw [hcat]; exact hlw) hL
    have hcf : check (.mk (7 + (k : Int)) 0 [] [a, b]) = false := by simpa using hck
    have hcq := fun W hb => parseCheck_any (.mk (7 + (k : Int)) 0 [] [a, b]) (exV (7 + (k : Int)) 0 [] (.slice (some ⟨WC.heap.size, 0, none⟩) 2 2)) W HF.out ((HL.out.lay.below hbE).below hb) ⟨_, rfl, hk2.keep hb⟩
    rw [hcf] at hcq
    unfold exV strV at hcq
    have HPS := Lib.hid hps
    have HCQ := Lib.hid hcq
    have HBE := Lib.hid hbE
    have HCE := Lib.hid hcE
    clear hlw hps hcq hbE hcE hk2 hck hcf hcat hsz HLAW
    go_wp2_with fail
    refine (HPS.out _ (HL.out.lay.below HBE.out)).mono ?_
    rintro r W3 ⟨hb3, rfl⟩
    have hb3n := hb3.alloc hb3.size (.cells #[.int .i64 0, .int .i64 0, .string ⟨#[]⟩, .slice none 0 0] 24)
    have hcF := (hb3n.block _ hsE).trans HCE.out
    clear hb3 HPS f0 f1 f2 f3 e0
    go_upto_region 11 with fail
    generalize W3.alloc (.cells #[.int .i64 0, .int .i64 0, .string ⟨#[]⟩, .slice none 0 0] 24) = WE at *
    obtain ⟨f0, f1, f2, f3⟩ := four_cells hcF
    have HB3 := Lib.hid hb3n
    clear hb3n hcF
    go_wp2_with fail
    refine (HCQ.out _ HB3.out).mono ?_
    rintro r W4 ⟨rfl, hb4⟩
    have hb5 := HBE.out.seq (HB3.out.seq hb4)
    clear hb4 HCQ f0 f1 f2 f3
    go_wp2_with fail
    refine (HA.out _ hb5).mono ?_
    rintro r W5 ⟨rfl, hb6⟩
    have hb7 := hb5.seq hb6
    go_wp2
    go_ret
    exact ⟨rfl, hb7⟩
set_option maxRecDepth 1000000 in
set_option maxHeartbeats 8000000 in
theorem parts_walk (s t : ByteArray) (sign : Int) (w : World) (hL : Lay2 w) (hs : s.size ≤ 9223372036854775807) (ht : t.size ≤ 9223372036854775807) (hn : -9223372036854775808 ≤ sign ∧ sign ≤ 9223372036854775807) :
    Calls Tryd.prog 7 #[.string s, .string t, .int .i64 sign] w (yesPost w) := by
  have HA := Lib.hid (fun W hb => awake7 W (hL.below hb))
  by_cases h150 : 150 < s.size
  · have q : decide ((150 : Int) < (s.size : Int)) = true := decide_eq_true (by omega)
    clear hL h150
    go_enter Tryd.func7, Tryd.ntmps7
    go_wp2_with fail
    refine (HA.out _ (Below.refl _ _)).mono ?_
    rintro r W ⟨rfl, hb⟩
    go_wp2
    go_ret
    exact ⟨rfl, hb⟩
  by_cases h151 : 150 < t.size
  · have q : decide ((150 : Int) < (s.size : Int)) = false := decide_eq_false (by omega)
    have q1 : decide ((150 : Int) < (t.size : Int)) = true := decide_eq_true (by omega)
    clear hL h150 h151
    go_enter Tryd.func7, Tryd.ntmps7
    go_wp2_with fail
    refine (HA.out _ (Below.refl _ _)).mono ?_
    rintro r W ⟨rfl, hb⟩
    go_wp2
    go_ret
    exact ⟨rfl, hb⟩
  have key : ∀ x : Except (Nat × Int) Ex, (∀ p k, x = .error (p, k) → k = 5 ∨ k = 6 ∨ k = 7) → errK x ≠ 0 ∨ ∃ e, x = .ok e := by
    intro x hx
    cases x with
    | ok e => exact .inr ⟨e, rfl⟩
    | error pk => left; have := hx pk.1 pk.2 rfl; show pk.2 ≠ 0; omega
  rcases key (parseM s.data.toList) (fun p k h => parseM_err h) with h | ⟨a, ha⟩
  · exact parts_skip s t sign w hL (by omega) (by omega) (.inl h)
  · rcases key (parseM t.data.toList) (fun p k h => parseM_err h) with h | ⟨b, hb⟩
    · exact parts_skip s t sign w hL (by omega) (by omega) (.inr h)
    · exact parts_both s t sign w a b hL (by omega) (by omega) hn ha hb
end Go.Proofs.YtdgcgogeidnmoaaDoor
