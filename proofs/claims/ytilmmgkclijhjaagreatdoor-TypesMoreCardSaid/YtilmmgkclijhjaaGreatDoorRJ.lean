/- The walk of the document's text. Condition: the text is no longer than any may be. -/
import Derived.Test.YtilmmgkclijhjaaGreatDoorRI
import Derived.Test.YtilmmgkclijhjaaGreatDoorRH
set_option linter.unusedSimpArgs false
set_option linter.unusedVariables false
set_option linter.unusedSectionVars false
namespace Go.Proofs.YtilmmgkclijhjaaGreatDoor
open Go.RowKit Pal
theorem app_bytes (a b : Bs) : ((⟨a.toArray⟩ : ByteArray) ++ ⟨b.toArray⟩) = ⟨(a ++ b).toArray⟩ := by
  apply ByteArray.ext
  simp
def tkR (x : Option (Bs × Nat × Nat)) : Option (Int × Bs × Int × Nat) := match x with | some (t, n, z) => if n ≤ 100 then some (2, t, 0, 1 + z) else none | none => none
theorem tok1_text {l : Bs} (hn : l ≠ []) (hq : rn l = 34) : tok1 l = tkR (unqL l.length (l.drop 1)) := by
  have h := rn_34.1 hq
  have hc : cls (rn l) = 0 := by rw [hq]; decide
  unfold tok1
  rw [if_neg (by omega), if_neg (by omega), if_pos h]
  cases unqL l.length (l.drop 1) with
  | none => rfl
  | some x => rfl
theorem TW.alloc {w wr : World} {B TB : Nat} {s : Bs} {pv : Value} {k q : Nat} {kd : Int} {ts : Bs} {n : Int} {p : Nat} (h : TW w wr B TB s pv k q kd ts n p) (o : Obj) : TW w (wr.alloc o) B TB s pv k q kd ts n p := h.call ((Below.refl _ _).alloc (Nat.le_refl _) _)
set_option maxRecDepth 1000000 in
set_option maxHeartbeats 4000000 in
theorem ltext_any (s : Bs) (B k p : Nat) (pv : Value) (w : World) (hs : s.length ≤ 1000000) (h : LSt w B s pv k p) (hP : PsV (gb B w) pv s) (hp : p < s.length) (hq : rn (s.drop p) = 34) :
    Calls Tryz.prog 54 #[.pointer (some ⟨B, 0, none⟩)] w (tkPost B s pv p w) := by
  obtain ⟨a, cap, rfl⟩ := hP.form
  obtain ⟨R, hR⟩ : ∃ R, unqL (s.drop p).length (s.drop (p + 1)) = R := ⟨_, rfl⟩
  have HR := Lib.hid hR
  have hT : Hid (tok1 (s.drop p) = tkR R) := Lib.hid (by rw [tok1_text (drop_ne hp) hq, List.drop_drop, hR])
  have HP := Lib.hid hP
  have HS := Lib.hid h
  have hcl := cnt_le s
  have hb0 : Below w.heap.size w (w.alloc (.cells #[.int .i64 0, .string ⟨#[]⟩, .int .i64 0, .int .i64 0] 59)) := (Below.refl _ _).alloc (Nat.le_refl _) _
  have HH := Lib.hid (lhere_any s B k p _ _ hs (h.keep hb0) (hP.mono (But.below hb0).gb))
  have HEE := Lib.hid (fun k p w h hP => lesc_any s B k p (.slice a (cnt s) cap) w hs h hP)
  have HLT := Lib.hid (fun k p (h : AtP s k p) => h.lt)
  have hst := h.at'.step hp
  rw [(rn_low (l := s.drop p) (by omega)).2.2] at hst
  have HST := Lib.hid hst
  generalize cnt s = n at *
  have hn1 : n ≤ 1000000 := by omega
  have hpl : (s.drop p).length = s.length - p := List.length_drop
  have HPL := Lib.hid hpl
  clear hR h hP hq hb0 hst hpl
  go_enter Tryz.func54, Tryz.ntmps54
  go_wp2_with fail
  refine HH.out.mono ?_
  rintro e W ⟨rfl, hb⟩
  have HTW := Lib.hid (TW.make HS.out hb 2 p)
  clear hb HH HS
  obtain ⟨-, c1, c2, f2, -⟩ := HTW.out.st.cells
  have hne1 : ¬ W.heap.size = B := by have := HTW.out.h1; have := HTW.out.h2; omega
  have hne2 : ¬ B = W.heap.size := fun h => hne1 h.symm
  have hkk : k ≤ 1000000 := by have := HTW.out.st.at'.le; omega
  go_upto_region 2 with fail
  generalize W.alloc (.cells #[.int .i64 2, .string ⟨#[]⟩, .int .i64 0, .int .i64 p] 59) = WA at *
  go_wp2
  clear c1 c2 f2
  go_loopg [5] s.length (fun g n5 wr => ∃ (k q m f : Nat) (acc : Bs), n5 = .int .i64 m ∧ Hid (TW w wr B W.heap.size s (.slice a n cap) k q 2 acc 0 p) ∧ Hid (pre acc m (q - (p + 1)) (unqL f (s.drop q)) = R) ∧ s.length ≤ q + f ∧ s.length ≤ q + g ∧ q ≤ s.length ∧ p + 1 ≤ q ∧ m ≤ q ∧ acc.length ≤ 4 * m)
  case atStart =>
    refine ⟨k + 1, p + 1, 0, (s.drop p).length, [], rfl, Lib.hid (HTW.out.setK _ (by omega) HST.out), Lib.hid ?_, by have := HPL.out; omega, by omega, by omega, by omega, by omega, by simp⟩
    rw [HR.out, Nat.sub_self]
    cases R with
    | none => rfl
    | some x => simp [pre]
  case round =>
    obtain ⟨k2, q, m, f, acc, rfl, HL, HJ, hf, hg, hql, hpq, hmq, hacc⟩ := hrel
    obtain ⟨⟨t0, t1, t2, t3⟩, ⟨tf1, tf2⟩, ⟨r0, r1, r2, r3⟩, g0, g1, g2, g3⟩ := HL.out.cells
    obtain ⟨-, c1, c2, f2, -⟩ := HL.out.st.cells
    have hne3 : ¬ w.heap.size = W.heap.size := by have := HL.out.h1; have := HL.out.h2; omega
    have hPg : PsV (gh wr) (.slice a n cap) s := (HP.out.mono HL.out.but.gb).mono (gb_gh B wr)
    by_cases hin : q < s.length
    · have hkn : k2 < n := (HLT.out _ _ HL.out.st.at').2 hin
      obtain ⟨f, rfl⟩ : ∃ f', f = f' + 1 := ⟨f - 1, by omega⟩
      obtain ⟨b, off, rfl, d0, d1, d2, d3⟩ := hPg.at HL.out.st.at' hin
      have hbl : b < wr.heap.size := World.block_lt_of_cell? wr _ d0
      have hBl : B < wr.heap.size := World.block_lt_of_cell? wr _ c1
      have a0 := cell_old hbl d0
      have a1 := cell_old hbl d1
      have a2 := cell_old hbl d2
      have a3 := cell_old hbl d3
      have a4 := cell_old hBl c1
      have a5 := cell_old hBl c2
      have hstq := HL.out.st.at'.step hin
      have HSTQ := Lib.hid hstq
      have hne := drop_ne hin
      have hwl := wd_le hne
      have hwp := wd_pos (s.drop q)
      rw [List.length_drop] at hwl
      have HNE := Lib.hid hne
      have hbb : badIn (s.drop q) ↔ (badB (s.drop q) = true ∨ rn (s.drop q) < 32 ∨ (127 ≤ rn (s.drop q) ∧ rn (s.drop q) ≤ 159)) := by
        unfold badIn badB
        rw [decide_eq_true_iff]
      have hb65 : badB (s.drop q) = true → rn (s.drop q) = 65533 := fun h => (of_decide_eq_true h).1
      have hno : (badB (s.drop q) = true ∨ rn (s.drop q) < 32 ∨ (127 ≤ rn (s.drop q) ∧ rn (s.drop q) ≤ 159)) → R = none := fun h => by
        have h34 : rn (s.drop q) ≠ 34 := by rcases h with h | h | h; (have := hb65 h; omega); omega; omega
        have h92 : rn (s.drop q) ≠ 92 := by rcases h with h | h | h; (have := hb65 h; omega); omega; omega
        rw [← HJ.out, unqL_bad hne h34 h92 (hbb.2 h)]; rfl
      have hyes : rn (s.drop q) = 34 → R = some (acc, m, q - (p + 1) + 1) := fun h => by rw [← HJ.out, unqL_q hne h]; simp [pre]
      have hesc : rn (s.drop q) = 92 → (escL (s.drop q) = none → R = none) ∧ (∀ r z, escL (s.drop q) = some (r, z) → pre (acc ++ Lib.encodeRune r) (m + 1) (q + z - (p + 1)) (unqL f (s.drop (q + z))) = R) := fun h => by
        refine ⟨fun he => by rw [← HJ.out, unqL_noesc hne h he]; rfl, fun r z he => ?_⟩
        rw [← HJ.out, unqL_esc hne h he, pre_pre, List.drop_drop]
        congr 1
        omega
      have hgo : rn (s.drop q) ≠ 34 → rn (s.drop q) ≠ 92 → ¬ (badB (s.drop q) = true ∨ rn (s.drop q) < 32 ∨ (127 ≤ rn (s.drop q) ∧ rn (s.drop q) ≤ 159)) → pre (acc ++ Lib.encodeRune (rn (s.drop q))) (m + 1) (q + wd (s.drop q) - (p + 1)) (unqL f (s.drop (q + wd (s.drop q)))) = R := fun h1 h2 h3 => by
        rw [← HJ.out, unqL_go hne h1 h2 (fun h => h3 (hbb.1 h)), pre_pre, List.drop_drop]
        congr 1
        omega
      have hsc := scalar_rn (s.drop q)
      have hlow := fun h => (rn_low (l := s.drop q) h).2.2
      have hrr := rn_range (s.drop q)
      have HLOW := Lib.hid hlow
      have HNO := Lib.hid hno
      have HYES := Lib.hid hyes
      have HESC := Lib.hid hesc
      have HGO := Lib.hid hgo
      have HSC := Lib.hid hsc
      have H65 := Lib.hid hb65
      generalize rn (s.drop q) = r at *
      generalize badB (s.drop q) = bd at *
      generalize wd (s.drop q) = u at *
      clear hPg hstq hbb hb65 hno hyes hesc hgo hne HJ hsc hlow
      go_wp2
      go_region
      go_wp2
      go_region
      go_upto_region 7 with fail
      generalize hX : ((wr.setCell ⟨B, 2, none⟩ (.int .i64 ((k2 : Int) + 1))).alloc (.cells #[.int .i64 q, .int .i64 u, .int .i32 r, .bool bd] 88)).drew.drew = X
      have HX : Hid (TW w X B W.heap.size s (.slice (some ⟨b, off, none⟩) n cap) (k2 + 1) (q + u) 2 acc 0 p) := Lib.hid (by rw [← hX]; exact (((HL.out.setK _ (by omega) HSTQ.out).alloc _).drew).drew)
      have hpc : X.heap[wr.heap.size]? = some (.cells #[.int .i64 q, .int .i64 u, .int .i32 r, .bool bd] 88 (0, 0)) := by
        rw [← hX]
        have := heap_alloc_new (wr.setCell ⟨B, 2, none⟩ (.int .i64 ((k2 : Int) + 1))) (.cells #[.int .i64 q, .int .i64 u, .int .i32 r, .bool bd] 88)
        rw [show (wr.setCell ⟨B, 2, none⟩ (.int .i64 ((k2 : Int) + 1))).heap.size = wr.heap.size by simp [World.setCell]] at this
        exact this
      clear hX t0 t1 t2 t3 tf1 tf2 r0 r1 r2 r3 g0 g1 g2 g3 c1 c2 f2 d0 d1 d2 d3 a0 a1 a2 a3 a4 a5
      obtain ⟨⟨p0, p1, p2, p3⟩, -⟩ := four_all hpc
      have HPC := Lib.hid hpc
      clear hpc
      obtain ⟨⟨t0, t1, t2, t3⟩, ⟨tf1, tf2⟩, ⟨r0, r1, r2, r3⟩, g0, g1, g2, g3⟩ := HX.out.cells
      obtain ⟨-, c1, c2, f2, -⟩ := HX.out.st.cells
      by_cases hb : bd = true ∨ r < 32 ∨ (127 ≤ r ∧ r ≤ 159)
      · have HE := Lib.hid (HNO.out hb)
        have hb' : bd = true ∨ (bd = false ∧ r < 32) ∨ (bd = false ∧ ¬ r < 32 ∧ 127 ≤ r ∧ r ≤ 159) := by
          cases bd with
          | true => exact .inl rfl
          | false =>
            rcases hb with h | h | ⟨h1, h2⟩
            · cases h
            · exact .inr (.inl ⟨rfl, h⟩)
            · exact .inr (.inr ⟨rfl, by omega, h1, h2⟩)
        clear hb
        rcases hb' with h | ⟨h, h1⟩ | ⟨h, h1, h2, h3⟩
        all_goals
          subst h
          go_wp2
          have hd := HX.out.done rfl
          refine bodyPost_ret (v := .tuple #[.agg #[.int .i64 2, .string ⟨acc.toArray⟩, .int .i64 0, .int .i64 p], .bool false]) (by simp [results, Tryz.results54, go_sem, hd.2.2]) rfl ?_
          refine ⟨hd.2.1, ?_⟩
          rw [hT.out, HE.out]
          exact ⟨2, acc, 0, rfl⟩
      · obtain ⟨hb1, hb2, hb3⟩ : bd = false ∧ ¬ r < 32 ∧ (r < 127 ∨ 159 < r) := by
          refine ⟨?_, fun h => hb (.inr (.inl h)), ?_⟩
          · cases bd with
            | true => exact absurd (.inl rfl) hb
            | false => rfl
          · by_cases h : r < 127
            · exact .inl h
            · exact .inr (by omega)
        have HB := Lib.hid hb
        subst hb1
        clear hb
        by_cases h34 : r = 34
        · have HE := Lib.hid (HYES.out h34)
          subst h34
          clear hb3
          go_wp2
          have hd := HX.out.done rfl
          refine bodyPost_ret (v := .tuple #[.agg #[.int .i64 2, .string ⟨acc.toArray⟩, .int .i64 0, .int .i64 p], .bool (decide ((m : Int) ≤ 100))]) (by simp [results, Tryz.results54, go_sem, hd.2.2]) rfl ?_
          refine ⟨hd.2.1, ?_⟩
          rw [hT.out, HE.out]
          unfold tkR
          simp only
          by_cases hm : m ≤ 100
          · rw [if_pos hm]
            refine ⟨by rw [decide_eq_true (show (m : Int) ≤ 100 by omega)]; rfl, k2 + 1, ?_⟩
            have e : p + (1 + (q - (p + 1) + 1)) = q + u := by rw [HLOW.out (by omega)]; omega
            rw [e]
            exact hd.1
          · rw [if_neg hm]
            exact ⟨2, acc, 0, by rw [decide_eq_false (show ¬ (m : Int) ≤ 100 by omega)]; rfl⟩
        · have q34 : (r == 34) = false := beq_eq_false_iff_ne.2 h34
          by_cases h92 : r = 92
          · have hu : u = 1 := HLOW.out (by omega)
            subst hu
            subst h92
            have hes := HESC.out rfl
            have hrg : ∀ x z, escL (s.drop q) = some (x, z) → scalar x ∧ 2 ≤ z := fun x z h => by
              have := escL_range h
              exact ⟨⟨this.1, by omega, this.2.2.1⟩, this.2.2.2⟩
            have HES := Lib.hid hes
            have HRG := Lib.hid hrg
            have HEX := Lib.hid (HEE.out (k2 + 1) q X HX.out.st (HP.out.mono HX.out.but.gb))
            clear hes hrg hb3 h34
            unfold escPost at HEX
            cases he : escL (s.drop q) with
            | none =>
              rw [he] at HEX
              have HE := Lib.hid (HES.out.1 he)
              clear he
              go_wp2_with fail
              refine HEX.out.mono ?_
              rintro e X1 ⟨hb1, r1', rfl⟩
              have hk1 : TkB X1 W.heap.size 2 acc 0 p := HX.out.tok.but hb1 (fun e => hne1 e)
              have hk2 : TkB X1 w.heap.size 0 [] 0 0 := HX.out.res.but hb1 (fun e => by have := HX.out.h1; omega)
              have HB2 := Lib.hid (HX.out.but.trans hb1)
              unfold TkB at hk1 hk2
              have HK2 := Lib.hid hk2
              clear t0 t1 t2 t3 tf1 tf2 r0 r1 r2 r3 g0 g1 g2 g3 c1 c2 f2 p0 p1 p2 p3 hb1
              obtain ⟨⟨t0, t1, t2, t3⟩, -⟩ := four_all hk1
              obtain ⟨⟨r0, r1, r2, r3⟩, g0, g1, g2, g3⟩ := four_all hk2
              clear hk1 hk2
              go_wp2
              have hh := four_all (set4_heap HK2.out (.int .i64 2) (.string ⟨acc.toArray⟩) (.int .i64 0) (.int .i64 p))
              refine bodyPost_ret (v := .tuple #[.agg #[.int .i64 2, .string ⟨acc.toArray⟩, .int .i64 0, .int .i64 p], .bool false]) (by simp [results, Tryz.results54, go_sem, hh.1]) rfl ?_
              refine ⟨HB2.out.set4 (Nat.le_refl _) _ _ _ _, ?_⟩
              rw [hT.out, HE.out]
              exact ⟨2, acc, 0, rfl⟩
            | some xz =>
              obtain ⟨x, z⟩ := xz
              rw [he] at HEX
              have HG := Lib.hid (HES.out.2 x z he)
              have HSX := Lib.hid (HRG.out x z he).1
              have hz2 := (HRG.out x z he).2
              have HBY := Lib.hid (fun w => rbytes_any x w HSX.out)
              have hel := enc_len x
              clear he
              go_wp2_with fail
              refine HEX.out.mono ?_
              rintro e X1 ⟨hb1, rfl, k3, hl⟩
              have HX1 := Lib.hid (HX.out.esc hb1 hl)
              have hqz := hl.at'.le.1
              clear t0 t1 t2 t3 tf1 tf2 r0 r1 r2 r3 g0 g1 g2 g3 c1 c2 f2 p0 p1 p2 p3 hb1 hl HES HRG
              obtain ⟨⟨t0, t1, t2, t3⟩, ⟨tf1, tf2⟩, -, -⟩ := HX1.out.cells
              generalize Lib.encodeRune x = en at *
              have hov : ¬ 9223372036854775807 < acc.length + en.length := by omega
              go_wp2
              go_region_with (go_at_call 73; refine (HBY.out _).mono ?_; rintro e X2 ⟨rfl, hb2⟩; have HX2 := Lib.hid (HX1.out.drew.call hb2); obtain ⟨⟨u0, u1, u2, u3⟩, ⟨uf1, uf2⟩, -, -⟩ := HX2.out.cells; clear hb2)
              all_goals
                rw [app_bytes]
                have HX3 := Lib.hid (HX2.out.setS (acc ++ en))
                clear u0 u1 u2 u3 uf1 uf2 t0 t1 t2 t3 tf1 tf2
                go_wp2
                go_roundg (gk - 1)
                case rel => exact ⟨k3, q + z, m + 1, f, acc ++ en, by go_num, HX3, HG, by omega, by omega, by omega, by omega, by omega, by rw [List.length_append]; omega⟩
                case measure => omega
          · have q92 : (r == 92) = false := beq_eq_false_iff_ne.2 h92
            have HG := Lib.hid (HGO.out h34 h92 HB.out)
            have HBY := Lib.hid (fun w => rbytes_any r w HSC.out)
            have hel := enc_len r
            generalize Lib.encodeRune r = en at *
            have hov : ¬ 9223372036854775807 < acc.length + en.length := by omega
            clear h34 h92
            rcases hb3 with hb3 | hb3
            all_goals
              go_wp2
              go_region_with (go_at_call 73; refine (HBY.out _).mono ?_; rintro e X2 ⟨rfl, hb2⟩; have HX2 := Lib.hid (HX.out.drew.call hb2); obtain ⟨⟨u0, u1, u2, u3⟩, ⟨uf1, uf2⟩, -, -⟩ := HX2.out.cells; clear hb2)
              all_goals
                rw [app_bytes]
                have HX3 := Lib.hid (HX2.out.setS (acc ++ en))
                clear u0 u1 u2 u3 uf1 uf2 t0 t1 t2 t3 tf1 tf2 r0 r1 r2 r3 g0 g1 g2 g3 c1 c2 f2 p0 p1 p2 p3
                go_wp2
                go_roundg (gk - 1)
                case rel => exact ⟨k2 + 1, q + u, m + 1, f, acc ++ en, by go_num, HX3, HG, by omega, by omega, by omega, by omega, by omega, by rw [List.length_append]; omega⟩
                case measure => omega
    · have hkn : ¬ k2 < n := fun x => hin ((HLT.out _ _ HL.out.st.at').1 x)
      have HE : Hid (R = none) := Lib.hid (by
        rw [← HJ.out, List.drop_eq_nil_of_le (by omega), unqL_end]; rfl)
      clear hPg HJ
      go_wp2
      go_region
      go_wp2
      have hd := HL.out.done rfl
      refine bodyPost_ret (v := .tuple #[.agg #[.int .i64 2, .string ⟨acc.toArray⟩, .int .i64 0, .int .i64 p], .bool false]) (by simp [results, Tryz.results54, go_sem, hd.2.2]) rfl ?_
      refine ⟨hd.2.1.drew, ?_⟩
      rw [hT.out, HE.out]
      exact ⟨2, acc, 0, rfl⟩
end Go.Proofs.YtilmmgkclijhjaaGreatDoor
