/- The walk of the document's Lex. Condition: the text is no longer than any may be. -/
import Derived.Test.YtilmmgkclijhjaaGreatDoorRJ
import Derived.Test.YtilmmgkclijhjaaGreatDoorRK
set_option linter.unusedSimpArgs false
set_option linter.unusedVariables false
set_option linter.unusedSectionVars false
namespace Go.Proofs.YtilmmgkclijhjaaGreatDoor
open Go.RowKit Pal
theorem Evo.ofBut {t : Tag} {B k : Nat} {w w' : World} (h : But B w w') (hB : t B = k) : Evo t w t w' (· = k) :=
  ⟨h.os, h.tape, h.output, h.size, fun _ _ => rfl, fun b hb hk => h.block b hb (fun e => hk (by rw [e]; exact hB))⟩
theorem hz_gb {t : Tag} {w : World} {B : Nat} (hB : t B ≠ 0) : (hz t w).le (gb B w) := fun b o h => by
  unfold hz at h
  split at h
  · unfold gb
    rw [if_neg (fun e => by subst e; contradiction)]
    exact h
  · cases h
/-- Lex at work: the row of tokens, the lexer's block. -/
structure LX (w0 wr : World) (tau : Tag) (B : Nat) (s : Bs) (pv : Value) (k q : Nat) (l : Value) (ts : List Tok) : Prop where
  row : Row tau 1 wr 59 4 l ts.length (ts.flatMap tokCells)
  ev : Evo T0 w0 tau wr (· ≠ 0)
  st : LSt wr B s pv k q
  tg : tau B = 2
  hB : w0.heap.size ≤ B
section
variable {w0 wr W : World} {tau : Tag} {B : Nat} {s : Bs} {pv : Value} {k q : Nat} {l : Value} {ts : List Tok}
theorem LX.call (h : LX w0 wr tau B s pv k q l ts) (hb : Below wr.heap.size wr W) : LX w0 W tau B s pv k q l ts := ⟨h.row.call hb, h.ev.call hb, h.st.keep hb, h.tg, h.hB⟩
theorem LX.but (h : LX w0 wr tau B s pv k q l ts) (hb : But B wr W) {k' q' : Nat} (hl : LSt W B s pv k' q') : LX w0 W tau B s pv k' q' l ts :=
  ⟨h.row.keep (Evo.ofBut hb h.tg) (by omega), h.ev.trans ((Evo.ofBut hb h.tg).mono (fun x hx => by omega)), hl, h.tg, h.hB⟩
theorem LX.ps (h : LX w0 wr tau B s pv k q l ts) (hp : PsV (gh w0) pv s) : PsV (gb B wr) pv s := by
  have h1 := h.ev.hz (by simp)
  rw [hz_T0] at h1
  exact (hp.mono h1).mono (hz_gb (by rw [h.tg]; omega))
theorem LX.below (h : LX w0 wr tau B s pv k q l ts) : Below w0.heap.size w0 wr := h.ev.toBelow (by simp)
theorem LX.new (h : LX w0 wr tau B s pv k q l ts) (c : Array Value) (T : TypeId) : LX w0 (wr.alloc (.cells c T (0, 0))) (tau.set wr.heap.size 3) B s pv k q l ts := by
  have hlt := h.st.cells.2.2.2.2
  exact ⟨h.row.keep (K := fun _ => False) ((Evo.refl tau wr _).alloc 3 _) (fun x => x), h.ev.alloc 3 _, h.st.alloc _, by rw [Tag.set_other _ _ _ (by omega)]; exact h.tg, h.hB⟩
theorem LX.put4 (h : LX w0 wr tau B s pv k q l ts) {TB : Nat} (ht : tau TB = 3) (y0 y1 y2 y3 : Value) :
    LX w0 ((((wr.setCell ⟨TB, 0, none⟩ y0).setCell ⟨TB, 1, none⟩ y1).setCell ⟨TB, 2, none⟩ y2).setCell ⟨TB, 3, none⟩ y3) tau B s pv k q l ts := by
  have hne : TB ≠ B := fun e => by subst e; rw [h.tg] at ht; omega
  have e3 : ∀ {K : Nat → Prop}, K 3 → Evo tau wr tau ((((wr.setCell ⟨TB, 0, none⟩ y0).setCell ⟨TB, 1, none⟩ y1).setCell ⟨TB, 2, none⟩ y2).setCell ⟨TB, 3, none⟩ y3) K := fun hk =>
    ((((Evo.refl tau wr _).setCell ⟨TB, 0, none⟩ y0 (by show _; simp only [ht]; exact hk)).setCell ⟨TB, 1, none⟩ y1 (by show _; simp only [ht]; exact hk)).setCell ⟨TB, 2, none⟩ y2 (by show _; simp only [ht]; exact hk)).setCell ⟨TB, 3, none⟩ y3 (by show _; simp only [ht]; exact hk)
  exact ⟨h.row.keep (K := fun k => k = 3) (e3 rfl) (by omega), h.ev.trans (e3 (by simp)), (((h.st.other hne _).other hne _).other hne _).other hne _, h.tg, h.hB⟩
theorem LX.app (h : LX w0 wr tau B s pv k q l ts) {t' : Tag} {v' : Value} {us : List Tok} (he : Evo tau wr t' W (· = 1)) (hr : Row t' 1 W 59 4 v' us.length (us.flatMap tokCells)) : LX w0 W t' B s pv k q v' us := by
  have hlt := h.st.cells.2.2.2.2
  refine ⟨hr, h.ev.trans (he.mono (fun x hx => by omega)), ⟨?_, h.st.at'⟩, by rw [he.tag _ hlt]; exact h.tg, h.hB⟩
  rw [he.block _ hlt (by rw [h.tg]; omega)]
  exact h.st.cell
end
theorem nobad {l : Bs} (h : rn l = 34) : badB l = false := by
  unfold badB
  exact decide_eq_false (by omega)
def refLexPost (s : Bs) (w : World) (e : Ending) (w' : World) : Prop :=
  Below w.heap.size w w' ∧ (match lexAll s with
    | .error p => e = .returned (.tuple #[.slice none 0 0, .int .i64 p, .int .i64 5])
    | .ok ts => ∃ v, e = .returned (.tuple #[v, .int .i64 0, .int .i64 0]) ∧ TokV (gh w') v ts)
set_option maxRecDepth 1000000 in
set_option maxHeartbeats 4000000 in
theorem refLex_long (s : Bs) (w : World) (hs : 400 < s.length) (hm : s.length ≤ 9223372036854775807) :
    Calls Tryz.prog 34 #[.string ⟨s.toArray⟩] w fun e w' => e = .returned (.tuple #[.slice none 0 0, .int .i64 400, .int .i64 7]) ∧ w = w' := by
  obtain ⟨sb, hsb⟩ : ∃ sb : ByteArray, (⟨s.toArray⟩ : ByteArray) = sb := ⟨_, rfl⟩
  have h1 : 400 < sb.size := by rw [← hsb]; simpa [ByteArray.size] using hs
  have h2 : sb.size ≤ 9223372036854775807 := by rw [← hsb]; simpa [ByteArray.size] using hm
  rw [hsb]
  clear hsb hs hm
  go_enter Tryz.func34, Tryz.ntmps34
  go_wp2
  go_ret3
  exact ⟨rfl, rfl⟩
set_option maxRecDepth 1000000 in
set_option maxHeartbeats 40000000 in
theorem refLex_any (s : Bs) (w : World) (hs : s.length ≤ 400) :
    Calls Tryz.prog 34 #[.string ⟨s.toArray⟩] w (refLexPost s w) := by
  obtain ⟨i0, hi, hz0, hz1, hz2⟩ := info_parts infoTok
  have hpc := pieces_any ⟨s.toArray⟩ w (by simp [ByteArray.size]; omega)
  unfold piecesPost at hpc
  simp only [List.toList_toArray] at hpc
  obtain ⟨sb, hsb⟩ : ∃ sb : ByteArray, (⟨s.toArray⟩ : ByteArray) = sb := ⟨_, rfl⟩
  have h1 : ¬ 400 < sb.size := by rw [← hsb]; simp [ByteArray.size]; omega
  have HSZ : Hid (sb.size = s.length) := Lib.hid (by rw [← hsb]; simp [ByteArray.size])
  obtain ⟨R, hR⟩ : ∃ R, lexAll s = R := ⟨_, rfl⟩
  have HRR := Lib.hid hR
  rw [hsb] at hpc ⊢
  have HSB := Lib.hid hsb
  have HPP := Lib.hid hpc
  clear hpc hsb hR
  go_enter Tryz.func34, Tryz.ntmps34
  go_wp2_with fail
  refine HPP.out.mono ?_
  rintro e w0 ⟨hb0, pv, rfl, hpv⟩
  have HPV := Lib.hid hpv
  have HB0 := Lib.hid hb0
  obtain ⟨pa, pcap, rfl⟩ := hpv.form
  have HLX : Hid (LX w0 (w0.alloc (.cells #[.string sb, .slice pa (cnt s) pcap, .int .i64 0] 91)) (T0.set w0.heap.size 2) w0.heap.size s (.slice pa (cnt s) pcap) 0 0 (.slice none 0 0) []) := Lib.hid
    ⟨Row.nil _ _ _ _ _, (Evo.refl T0 w0 _).alloc 2 _, ⟨by rw [HSB.out]; exact heap_alloc_new w0 _, .zero⟩, Tag.set_same _ _ _, Nat.le_refl _⟩
  have hcl := cnt_le s
  obtain ⟨n, hn⟩ : ∃ n, cnt s = n := ⟨_, rfl⟩
  have HNN := Lib.hid hn
  rw [hn] at HLX HPV hcl ⊢
  clear hpv hb0 HPP hn
  go_wp2
  have hs1 : s.length ≤ 1000000 := by omega
  have HCC := Lib.hid (fun k q w h hP => lclass_any s w0.heap.size k q (.slice pa n pcap) w hs1 h hP)
  have HLT : Hid (∀ k p, AtP s k p → (k < cnt s ↔ p < s.length)) := Lib.hid (fun k p h => h.lt)
  have hj0 : Hid (join [] (lexL (s.length + 1) 0 (s.drop 0)) = R) := Lib.hid (by
    rw [← HRR.out]
    unfold lexAll
    rw [List.drop_zero]
    generalize lexL (s.length + 1) 0 s = X
    cases X <;> simp [join])
  go_loopg [6] s.length (fun g l wr => ∃ (tau : Tag) (k q f : Nat) (ts : List Tok), Hid (LX w0 wr tau w0.heap.size s (.slice pa n pcap) k q l ts) ∧ Hid (join ts (lexL (f + 1) q (s.drop q)) = R) ∧ s.length ≤ q + f ∧ s.length ≤ q + g ∧ q ≤ s.length ∧ ts.length ≤ q)
  case atStart => exact ⟨_, 0, 0, s.length, [], HLX, hj0, by omega, by omega, by omega, by simp⟩
  case round =>
    obtain ⟨tau, k, q, f, ts, HL0, HJ0, hf0, hg0, hq0, htl0⟩ := hrel
    clear HLX hj0
    obtain ⟨wo, hwo⟩ : ∃ wo, wo = wr := ⟨_, rfl⟩
    subst hwo
    obtain ⟨g0, hgg⟩ : ∃ g0, g0 = gk := ⟨_, rfl⟩
    subst hgg
    obtain ⟨la, lc, rfl⟩ := HL0.out.row.form
    go_wp2
    go_loopg [] s.length (fun g wr => ∃ (k q f : Nat), Hid (LX w0 wr tau w0.heap.size s (.slice pa n pcap) k q (.slice la ts.length lc) ts) ∧ Hid (join ts (lexL (f + 1) q (s.drop q)) = R) ∧ s.length ≤ q + f ∧ s.length ≤ q + g ∧ s.length ≤ q + g0 ∧ q ≤ s.length ∧ ts.length ≤ q)
    case atStart => exact ⟨k, q, f, HL0, HJ0, hf0, by omega, hg0, hq0, htl0⟩
    case round =>
      obtain ⟨k, q, f, HL, HJ, hf, hg, hg2, hq, htl⟩ := hrel
      clear HL0 HJ0
      go_wp2_with fail
      refine (HCC.out k q wr HL.out.st (HL.out.ps HPV.out)).mono ?_
      rintro e W2 ⟨rfl, hb2⟩
      have HL2 := Lib.hid (HL.out.call hb2)
      clear hb2 HL
      by_cases hc3 : clsAt s q = 3
      · obtain ⟨hin, hcq⟩ := clsAt_nn hc3 (by omega)
        obtain ⟨-, c1, c2, f2, -⟩ := HL2.out.st.cells
        have hst := HL2.out.st.at'.step hin
        have HST := Lib.hid hst
        have hwl := wd_le (drop_ne hin)
        have hwp := wd_pos (s.drop q)
        rw [List.length_drop] at hwl
        obtain ⟨f, rfl⟩ : ∃ f', f = f' + 1 := ⟨f - 1, by omega⟩
        have HJ2 : Hid (join ts (lexL (f + 1) (q + wd (s.drop q)) (s.drop (q + wd (s.drop q)))) = R) := Lib.hid (by rw [← HJ.out, lexL_sp (drop_ne hin) hcq, List.drop_drop])
        have hk1 : k ≤ 1000000 := by have := HL2.out.st.at'.le; omega
        rw [hc3]
        clear hc3 hcq hst HJ
        generalize wd (s.drop q) = u at *
        go_wp2
        go_roundg (gk - 1)
        case rel => exact ⟨k + 1, q + u, f, Lib.hid (HL2.out.but ((But.refl _ _).setPb 2 _) (HL2.out.st.set _ (by omega) HST.out)), HJ2, by omega, by omega, by omega, by omega, by omega⟩
        case measure => omega
      · have q3 : (clsAt s q == 3) = false := beq_eq_false_iff_ne.2 hc3
        go_wp2_with fail
        refine (HCC.out k q W2 HL2.out.st (HL2.out.ps HPV.out)).mono ?_
        rintro e W3 ⟨rfl, hb3⟩
        have HL3 := Lib.hid (HL2.out.call hb3)
        clear hb3 HL2
        by_cases hin : q < s.length
        · rw [clsAt_in hin]
          have hcc := clsAt_in hin
          have hne := drop_ne hin
          have h3n : cls (rn (s.drop q)) ≠ 3 := fun h => hc3 (by rw [hcc]; exact h)
          obtain ⟨f, rfl⟩ : ∃ f', f = f' + 1 := ⟨f - 1, by omega⟩
          have HE0 : Hid (tok1 (s.drop q) = none → R = .error q) := Lib.hid (fun h => by rw [← HJ.out, lexL_bad hne h3n h]; rfl)
          have HE1 : Hid (∀ kd us m z, tok1 (s.drop q) = some (kd, us, m, z) → join (ts ++ [⟨kd, us, m, q⟩]) (lexL (f + 1) (q + z) (s.drop (q + z))) = R) := Lib.hid (fun kd us m z h => by
            rw [← HJ.out, lexL_tok hne h3n h, join_join, List.drop_drop])
          have HE2 : Hid (∀ kd us m z, tok1 (s.drop q) = some (kd, us, m, z) → 1 ≤ z ∧ q + z ≤ s.length) := Lib.hid (fun kd us m z h => by
            have h1 := tok1_reach hne h
            have h2 := wd_pos (s.drop q)
            have h3 := h1.1.le
            rw [List.length_drop] at h3
            omega)
          have HLA := Lib.hid (HL3.out.new #[.int .i64 0, .string ⟨#[]⟩, .int .i64 0, .int .i64 0] 59)
          have HZA := Lib.hid (heap_alloc_new W3 (.cells #[.int .i64 0, .string ⟨#[]⟩, .int .i64 0, .int .i64 0] 59))
          have htg3 : (tau.set W3.heap.size 3) W3.heap.size = 3 := Tag.set_same _ _ _
          have hsA : W3.heap.size < (W3.alloc (.cells #[.int .i64 0, .string ⟨#[]⟩, .int .i64 0, .int .i64 0] 59)).heap.size := by simp
          have HTG3 := Lib.hid htg3
          have hBW : w0.heap.size < W3.heap.size := HL3.out.st.cells.2.2.2.2
          have hWs : w.heap.size ≤ w0.heap.size := HB0.out.size
          have hrr := rn_range (s.drop q)
          have hcr := cls_range (rn (s.drop q))
          have hkn : k < cnt s := (HLT.out _ _ HL3.out.st.at').2 hin
          have HPA := Lib.hid (HLA.out.ps HPV.out)
          clear htg3 hcc hne
          have hrest : (cls (rn (s.drop q)) = 2) ∨ (cls (rn (s.drop q)) = 1) ∨ (cls (rn (s.drop q)) = 0 ∧ rn (s.drop q) = 34) ∨ (cls (rn (s.drop q)) = 0 ∧ rn (s.drop q) ≠ 34) := by
            by_cases h : rn (s.drop q) = 34
            · rcases hcr with h' | h' | h' | h'
              · exact .inr (.inr (.inl ⟨h', h⟩))
              · exact .inr (.inl h')
              · exact .inl h'
              · exact absurd h' h3n
            · rcases hcr with h' | h' | h' | h'
              · exact .inr (.inr (.inr ⟨h', h⟩))
              · exact .inr (.inl h')
              · exact .inl h'
              · exact absurd h' h3n
          have hkn2 : k < n := by have := HNN.out; omega
          obtain ⟨b, off, hpa, hd⟩ := (HPA.out.mono (gb_gh _ _)).at HLA.out.st.at' hin
          subst hpa
          have HD := Lib.hid hd
          clear hd
          clear hcr h3n hc3 q3
          rcases hrest with hw | hw | ⟨hw, h34⟩ | ⟨hw, h34⟩
          all_goals
            first
              | (have HC := Lib.hid (lnum_any s w0.heap.size k q _ _ hs1 HLA.out.st HPA.out hin hw); rw [hw]; clear hw; go_wp2_with fail; refine HC.out.mono ?_; have HLB := HLA; have HZB := HZA; have HPB := HPA; have hsB := hsA; clear HC HLA HZA HPA hsA)
              | (have HC := Lib.hid (lname_any s w0.heap.size k q _ _ hs1 HLA.out.st HPA.out hin hw); rw [hw]; clear hw; go_wp2_with fail; refine HC.out.mono ?_; have HLB := HLA; have HZB := HZA; have HPB := HPA; have hsB := hsA; clear HC HLA HZA HPA hsA)
              | (have HC := Lib.hid (fun pv W h hP => ltext_any s w0.heap.size k q pv W hs1 h hP hin h34); have HW := Lib.hid hw; rw [hw]; clear hw; have hb0 := nobad h34; obtain ⟨d0, d1, d2, d3⟩ := HD.out; obtain ⟨-, c1, c2, f2, -⟩ := HLA.out.st.cells; rw [hb0] at d3; rw [h34] at d2; clear hb0; go_wp2; go_quiet ((fail)); clear d0 d1 d2 d3 c1 c2 f2; have HLB := Lib.hid (HLA.out.call (below_drewN (Below.refl _ _) nq)); have HZB : Hid (((W3.alloc (.cells #[.int .i64 0, .string ⟨#[]⟩, .int .i64 0, .int .i64 0] 59)).drewN nq).heap[W3.heap.size]? = some (.cells #[.int .i64 0, .string ⟨#[]⟩, .int .i64 0, .int .i64 0] 59 (0, 0))) := Lib.hid HZA.out; have HPB := Lib.hid (HLB.out.ps HPV.out); have hsB : W3.heap.size < ((W3.alloc (.cells #[.int .i64 0, .string ⟨#[]⟩, .int .i64 0, .int .i64 0] 59)).drewN nq).heap.size := hsA; go_wp2_with fail; refine (HC.out _ _ HLB.out.st HPB.out).mono ?_; clear HC HLA HZA HPA hsA)
              | (have HC := Lib.hid (fun pv W h hP => lsign_any s w0.heap.size k q pv W hs1 h hP hin hw h34); have HW := Lib.hid hw; rw [hw]; clear hw; obtain ⟨d0, d1, d2, d3⟩ := HD.out; obtain ⟨-, c1, c2, f2, -⟩ := HLA.out.st.cells; have q34 : (rn (s.drop q) == 34) = false := beq_eq_false_iff_ne.2 h34; have H34 := Lib.hid h34; clear h34; go_wp2; go_quiet ((fail)); clear d0 d1 d2 d3 c1 c2 f2 q34; have h34 := H34.out; have HLB := Lib.hid (HLA.out.call (below_drewN (Below.refl _ _) nq)); have HZB : Hid (((W3.alloc (.cells #[.int .i64 0, .string ⟨#[]⟩, .int .i64 0, .int .i64 0] 59)).drewN nq).heap[W3.heap.size]? = some (.cells #[.int .i64 0, .string ⟨#[]⟩, .int .i64 0, .int .i64 0] 59 (0, 0))) := Lib.hid HZA.out; have HPB := Lib.hid (HLB.out.ps HPV.out); have hsB : W3.heap.size < ((W3.alloc (.cells #[.int .i64 0, .string ⟨#[]⟩, .int .i64 0, .int .i64 0] 59)).drewN nq).heap.size := hsA; go_wp2_with fail; refine (HC.out _ _ HLB.out.st HPB.out).mono ?_; clear HC HLA HZA HPA hsA)
          all_goals
            rintro e W5 ⟨hbt, hm⟩
            have HNX : Hid (∀ k' q', LSt W5 w0.heap.size s (.slice (some ⟨b, off, none⟩) n pcap) k' q' → LX w0 W5 (tau.set W3.heap.size 3) w0.heap.size s (.slice (some ⟨b, off, none⟩) n pcap) k' q' (.slice la ts.length lc) ts) := Lib.hid (fun k' q' hl => HLB.out.but hbt hl)
            have HBE := Lib.hid ((HLB.out.ev.trans ((Evo.ofBut hbt HLB.out.tg).mono (K' := (· ≠ 0)) (fun x hx => by omega))).toBelow (by simp))
            have hz5 : W5.heap[W3.heap.size]? = some (.cells #[.int .i64 0, .string ⟨#[]⟩, .int .i64 0, .int .i64 0] 59 (0, 0)) := (hbt.block _ hsB (by omega)).trans HZB.out
            have HZ5 := Lib.hid hz5
            obtain ⟨⟨z0, z1, z2, z3⟩, y0, y1, y2, y3⟩ := four_all hz5
            clear hz5 hbt HLB HZB HPB hsB
            cases htk : tok1 (s.drop q) with
            | none =>
              rw [htk] at hm
              obtain ⟨kd, us, m, rfl⟩ := hm
              have HE := Lib.hid (HE0.out htk)
              clear htk HE1 HE2 HNX
              simp only [tokV, strV]
              have hh := four_all (set4_heap HZ5.out (.int .i64 kd) (.string ⟨us.toArray⟩) (.int .i64 m) (.int .i64 q))
              go_upto_region 18 with fail
              have HBX := Lib.hid ((((HBE.out.setCell (p := ⟨W3.heap.size, 0, none⟩) (by show _ ≤ W3.heap.size; omega) (.int .i64 kd)).setCell (p := ⟨W3.heap.size, 1, none⟩) (by show _ ≤ W3.heap.size; omega) (.string ⟨us.toArray⟩)).setCell (p := ⟨W3.heap.size, 2, none⟩) (by show _ ≤ W3.heap.size; omega) (.int .i64 m)).setCell (p := ⟨W3.heap.size, 3, none⟩) (by show _ ≤ W3.heap.size; omega) (.int .i64 q))
              generalize ((((W5.setCell ⟨W3.heap.size, 0, none⟩ (.int .i64 kd)).setCell ⟨W3.heap.size, 1, none⟩ (.string ⟨us.toArray⟩)).setCell ⟨W3.heap.size, 2, none⟩ (.int .i64 m)).setCell ⟨W3.heap.size, 3, none⟩ (.int .i64 q)) = X at *
              clear z0 z1 z2 z3 y0 y1 y2 y3
              obtain ⟨⟨z0, z1, z2, z3⟩, y0, y1, y2, y3⟩ := hh
              go_wp2
              go_region
              go_wp2
              try rw [Exit.noGoto_ret]
              go_ret3
              refine ⟨HB0.out.seq (HBX.out.drew), ?_⟩
              rw [HRR.out, HE.out]
              rfl
            | some x =>
              obtain ⟨kd, us, m, z⟩ := x
              rw [htk] at hm
              obtain ⟨rfl, k', hl⟩ := hm
              have HJ2 := Lib.hid (HE1.out _ _ _ _ htk)
              obtain ⟨hz1', hz2'⟩ := HE2.out _ _ _ _ htk
              have HL6 := Lib.hid (HNX.out k' (q + z) hl)
              have HX6 := Lib.hid (HL6.out.put4 HTG3.out (.int .i64 kd) (.string ⟨us.toArray⟩) (.int .i64 m) (.int .i64 q))
              clear htk HE0 HE1 HE2 HNX hl
              simp only [tokV, strV]
              have hh := four_all (set4_heap HZ5.out (.int .i64 kd) (.string ⟨us.toArray⟩) (.int .i64 m) (.int .i64 q))
              go_upto_region 18 with fail
              generalize ((((W5.setCell ⟨W3.heap.size, 0, none⟩ (.int .i64 kd)).setCell ⟨W3.heap.size, 1, none⟩ (.string ⟨us.toArray⟩)).setCell ⟨W3.heap.size, 2, none⟩ (.int .i64 m)).setCell ⟨W3.heap.size, 3, none⟩ (.int .i64 q)) = X at *
              clear z0 z1 z2 z3 y0 y1 y2 y3
              obtain ⟨⟨z0, z1, z2, z3⟩, y0, y1, y2, y3⟩ := hh
              have hrow := HX6.out.row
              have htl2 : ts.length ≤ 1000 := by omega
              go_wp2_with (at_builtin; refine wpList_append_one rfl _ _ 43 rfl 59 i0 _ 4 40 Tryz.underlying43 hi hz0 hz1 hz2 rfl (by decide) rfl hrow #[.int .i64 kd, .string ⟨us.toArray⟩, .int .i64 m, .int .i64 q] 59 (0,0) _ rfl ?c0 rfl ?c1 ?c2 ?c3 ?_)
              case c0 => simp
              case c1 => first | exact ⟨rfl, rfl, rfl, rfl⟩ | (intro u hu; simp at hu; rcases hu with rfl | rfl | rfl | rfl <;> rfl)
              case c2 => unfold maxLen; omega
              case c3 => omega
              intro v' t' w' hr3 he
              have hfl : (ts.flatMap tokCells) ++ tokCells ⟨kd, us, m, q⟩ = (ts ++ [(⟨kd, us, m, q⟩ : Tok)]).flatMap tokCells := by rw [List.flatMap_append]; simp
              have hr4 : Row t' 1 w' 59 4 v' (ts ++ [(⟨kd, us, m, q⟩ : Tok)]).length ((ts ++ [(⟨kd, us, m, q⟩ : Tok)]).flatMap tokCells) := by
                rw [← hfl, List.length_append]; exact hr3
              have HX8 := Lib.hid (HX6.out.app he hr4)
              clear hr3 hr4 hfl he hrow
              go_wp2
              go_roundg (g0 - 1)
              case rel => exact ⟨t', k', q + z, f, ts ++ [⟨kd, us, m, q⟩], HX8, HJ2, by omega, by omega, by omega, by rw [List.length_append]; simp; omega⟩
              case measure => omega
        · have HE : Hid (R = .ok (ts ++ [⟨0, [], 0, sb.size⟩])) := Lib.hid (by
            have hnil : s.drop q = [] := List.drop_eq_nil_of_le (by omega)
            rw [← HJ.out, lexL_end hnil, show q = sb.size by have := HSZ.out; omega]; rfl)
          rw [clsAt_out hin]
          have hct : ts.length ≤ 400 := by omega
          have hrow := HL3.out.row
          clear hc3 q3 HJ
          go_wp2_with (at_builtin; refine wpList_append_one rfl _ _ 43 rfl 59 i0 _ 4 40 Tryz.underlying43 hi hz0 hz1 hz2 rfl (by decide) rfl hrow #[.int .i64 0, .string ⟨#[]⟩, .int .i64 0, .int .i64 sb.size] 59 (0,0) _ rfl ?c0 rfl ?c1 ?c2 ?c3 ?_)
          case c0 => simp
          case c1 => first | exact ⟨rfl, rfl, rfl, rfl⟩ | (intro u hu; simp at hu; rcases hu with rfl | rfl | rfl | rfl <;> rfl)
          case c2 => unfold maxLen; omega
          case c3 => omega
          intro v' t' w' hr3 he
          have HEV := Lib.hid (HL3.out.ev.trans (he.mono (K' := (· ≠ 0)) (by intro x hx; omega)))
          obtain ⟨va, vc, hv⟩ := hr3.form
          have hfl : (ts.flatMap tokCells) ++ tokCells ⟨0, [], 0, sb.size⟩ = (ts ++ [(⟨0, [], 0, sb.size⟩ : Tok)]).flatMap tokCells := by rw [List.flatMap_append]; simp
          have hr4 : Row t' 1 w' 59 4 v' (ts ++ [(⟨0, [], 0, sb.size⟩ : Tok)]).length ((ts ++ [(⟨0, [], 0, sb.size⟩ : Tok)]).flatMap tokCells) := by
            rw [← hfl, List.length_append]; exact hr3
          have HV := Lib.hid (SlV.ofRow tokCells _ noTok (by decide) tokCells_len hr4)
          clear hr3 hr4 hfl he hrow
          go_wp2
          try rw [Exit.noGoto_ret]
          go_ret3
          refine ⟨HB0.out.seq (HEV.out.toBelow (by simp)), ?_⟩
          rw [HRR.out, HE.out]
          exact ⟨_, rfl, HV.out⟩
end Go.Proofs.YtilmmgkclijhjaaGreatDoor
