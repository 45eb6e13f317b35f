/- The walk of the document's sign. Condition: the text is no longer than any may be. -/
import Derived.Test.YtilmmgkclijhjaaGreatDoorRI
set_option linter.unusedSimpArgs false
set_option linter.unusedVariables false
set_option linter.unusedSectionVars false
namespace Go.Proofs.YtilmmgkclijhjaaGreatDoor
open Go.RowKit Pal
def sg (j : Nat) : Nat := [43, 45, 42, 47, 37, 40, 41, 44, 61, 60, 62, 38, 124, 33].getD j 0
def sgS : ByteArray := ⟨#[43, 45, 42, 47, 37, 40, 41, 44, 61, 60, 62, 38, 124, 33]⟩
theorem sg_lt (j : Nat) : sg j < 128 := by
  by_cases h : j < 14
  · rcases (by omega : j = 0 ∨ j = 1 ∨ j = 2 ∨ j = 3 ∨ j = 4 ∨ j = 5 ∨ j = 6 ∨ j = 7 ∨ j = 8 ∨ j = 9 ∨ j = 10 ∨ j = 11 ∨ j = 12 ∨ j = 13) with rfl | rfl | rfl | rfl | rfl | rfl | rfl | rfl | rfl | rfl | rfl | rfl | rfl | rfl <;> decide
  · unfold sg
    rw [List.getD_eq_getElem?_getD, List.getElem?_eq_none (by simp; omega)]
    decide
theorem sg_sign {c : Nat} : isSign1 c = true ↔ ∃ j, j < 14 ∧ sg j = c := by
  constructor
  · intro h
    unfold isSign1 at h
    rw [List.contains_iff_mem] at h
    obtain ⟨j, hj, e⟩ := List.getElem_of_mem h
    exact ⟨j, by simpa using hj, by unfold sg; rw [List.getD_eq_getElem?_getD, List.getElem?_eq_getElem hj]; exact e⟩
  · rintro ⟨j, hj, rfl⟩
    rcases (by omega : j = 0 ∨ j = 1 ∨ j = 2 ∨ j = 3 ∨ j = 4 ∨ j = 5 ∨ j = 6 ∨ j = 7 ∨ j = 8 ∨ j = 9 ∨ j = 10 ∨ j = 11 ∨ j = 12 ∨ j = 13) with rfl | rfl | rfl | rfl | rfl | rfl | rfl | rfl | rfl | rfl | rfl | rfl | rfl | rfl <;> decide
theorem sign_index (j : Nat) (hj : j < 14) (W : World) : (Instr.index 9 (.string sgS) (.int .i64 j)).run Tryz.prog W = .ok (.int .u8 (sg j)) W := by
  rcases (by omega : j = 0 ∨ j = 1 ∨ j = 2 ∨ j = 3 ∨ j = 4 ∨ j = 5 ∨ j = 6 ∨ j = 7 ∨ j = 8 ∨ j = 9 ∨ j = 10 ∨ j = 11 ∨ j = 12 ∨ j = 13) with rfl | rfl | rfl | rfl | rfl | rfl | rfl | rfl | rfl | rfl | rfl | rfl | rfl | rfl <;> kernel_rfl
theorem sign_slice (j : Nat) (hj : j < 14) (W : World) : (Instr.slice 9 (.string sgS) (some (.int .i64 j)) (some (.int .i64 ((j : Int) + 1))) none).run Tryz.prog W = .ok (.string ⟨#[(sg j).toUInt8]⟩) W := by
  rcases (by omega : j = 0 ∨ j = 1 ∨ j = 2 ∨ j = 3 ∨ j = 4 ∨ j = 5 ∨ j = 6 ∨ j = 7 ∨ j = 8 ∨ j = 9 ∨ j = 10 ∨ j = 11 ∨ j = 12 ∨ j = 13) with rfl | rfl | rfl | rfl | rfl | rfl | rfl | rfl | rfl | rfl | rfl | rfl | rfl | rfl <;> kernel_rfl
theorem rn_61 {l : Bs} : rn l = 61 ↔ bk l 0 = 61 := by
  constructor
  · intro h; have := rn_low (l := l) (by omega); omega
  · intro h; have := dec_low (l := l) (by omega); omega
theorem tok1_sign {l : Bs} (hc : cls (rn l) = 0) (hq : rn l ≠ 34) : tok1 l = (if (bk l 0 = 60 ∨ bk l 0 = 62 ∨ bk l 0 = 33) ∧ bk l 1 = 61 then some (4, l.take 2, 0, 2) else if isSign1 (bk l 0) then some (4, l.take 1, 0, 1) else none) := by
  have h : ¬ bk l 0 = 34 := fun h => hq (rn_34.2 h)
  unfold tok1
  rw [if_neg (by omega), if_neg (by omega), if_neg h]
theorem head_byte {l : Bs} (hn : l ≠ []) : l.take 1 = [(bk l 0).toUInt8] := by
  cases l with
  | nil => exact absurd rfl hn
  | cons c r =>
    show [c] = [(c.toNat).toUInt8]
    rw [Nat.toUInt8_eq, UInt8.ofNat_toNat]
theorem two_bytes {l : Bs} (h : bk l 1 = 61) : l.take 2 = [(bk l 0).toUInt8] ++ [61] := by
  have hlt : 1 < l.length := bk_in (by omega)
  match l, hlt with
  | c :: d :: r, _ =>
    have hd : d = 61 := by
      have h : d.toNat = 61 := h
      exact UInt8.toNat.inj h
    subst hd
    show [c, 61] = [(c.toNat).toUInt8] ++ [61]
    rw [Nat.toUInt8_eq, UInt8.ofNat_toNat]; rfl
def piE (p u : Nat) (r : Int) (bd : Bool) : Obj := .cells #[.int .i64 p, .int .i64 u, .int .i32 r, .bool bd] 88 (0, 0)
theorem app_61 (a : Bs) : ((⟨a.toArray⟩ : ByteArray) ++ ⟨#[61]⟩) = ⟨(a ++ [61]).toArray⟩ := by
  apply ByteArray.ext
  simp
theorem TW.alloc2 {w wr : World} {B TB : Nat} {s : Bs} {pv : Value} {k q : Nat} {kd : Int} {ts : Bs} {n : Int} {p : Nat} (h : TW w wr B TB s pv k q kd ts n p) (o : Obj) : TW w (wr.alloc o) B TB s pv k q kd ts n p := h.call ((Below.refl _ _).alloc (Nat.le_refl _) _)
set_option maxRecDepth 1000000 in
set_option maxHeartbeats 40000000 in
theorem lsign_any (s : Bs) (B k p : Nat) (pv : Value) (w : World) (hs : s.length ≤ 1000000) (h : LSt w B s pv k p) (hP : PsV (gb B w) pv s) (hp : p < s.length) (hc : cls (rn (s.drop p)) = 0) (hq : rn (s.drop p) ≠ 34) :
    Calls Tryz.prog 55 #[.pointer (some ⟨B, 0, none⟩)] w (tkPost B s pv p w) := by
  have hT := Lib.hid (tok1_sign hc hq)
  obtain ⟨a, cap, rfl⟩ := hP.form
  have HP := Lib.hid hP
  have HS := Lib.hid h
  have hcl := cnt_le s
  have hb0 : Below w.heap.size w (w.alloc (.cells #[.int .i64 0, .string ⟨#[]⟩, .int .i64 0, .int .i64 0] 59)) := (Below.refl _ _).alloc (Nat.le_refl _) _
  have HH := Lib.hid (lhere_any s B k p _ _ hs (h.keep hb0) (hP.mono (But.below hb0).gb))
  have HLT := Lib.hid (fun k p (h : AtP s k p) => h.lt)
  have hst := h.at'.step hp
  have HNE := Lib.hid (drop_ne hp)
  have hlow := fun h => rn_low (l := s.drop p) h
  have hhi : ¬ rn (s.drop p) < 128 → 128 ≤ bk (s.drop p) 0 := fun h => by
    apply Classical.byContradiction
    intro hh
    have := dec_low (l := s.drop p) (by omega)
    omega
  have hbd : badB (s.drop p) = true → ¬ rn (s.drop p) < 128 := fun h => by rw [(of_decide_eq_true h).1]; omega
  have hrr := rn_range (s.drop p)
  have hkn : k < cnt s := h.at'.lt.2 hp
  have hi14 := sign_index
  have HI := Lib.hid hi14
  have HSL := Lib.hid sign_slice
  generalize cnt s = n at *
  have hn1 : n ≤ 1000000 := by omega
  clear h hP hq hc hb0 hi14
  go_enter Tryz.func55, Tryz.ntmps55
  go_wp2_with fail
  refine HH.out.mono ?_
  rintro e W ⟨rfl, hb⟩
  have HTW := Lib.hid (TW.make HS.out hb 4 p)
  clear hb HH HS
  have hne1 : ¬ W.heap.size = B := by have := HTW.out.h1; have := HTW.out.h2; omega
  have hne2 : ¬ B = W.heap.size := fun h => hne1 h.symm
  have hne3 : ¬ w.heap.size = W.heap.size := by have := HTW.out.h1; have := HTW.out.h2; omega
  go_upto_region 2 with fail
  have hWA : W.heap.size < (W.alloc (.cells #[.int .i64 4, .string ⟨#[]⟩, .int .i64 0, .int .i64 p] 59)).heap.size := by simp
  generalize W.alloc (.cells #[.int .i64 4, .string ⟨#[]⟩, .int .i64 0, .int .i64 p] 59) = WA at *
  obtain ⟨b, off, rfl, d0, d1, d2, d3⟩ := ((HP.out.mono HTW.out.but.gb).mono (gb_gh B WA)).at HTW.out.st.at' hp
  obtain ⟨-, c1, c2, f2, -⟩ := HTW.out.st.cells
  have HST := Lib.hid hst
  have hbl : b < WA.heap.size := World.block_lt_of_cell? WA _ d0
  have hBl : B < WA.heap.size := World.block_lt_of_cell? WA _ c1
  have a0 := cell_old hbl d0
  have a1 := cell_old hbl d1
  have a2 := cell_old hbl d2
  have a3 := cell_old hbl d3
  have a4 := cell_old hBl c1
  have a5 := cell_old hBl c2
  have HLOW := Lib.hid hlow
  have HHI := Lib.hid hhi
  have HBD := Lib.hid hbd
  generalize hr : rn (s.drop p) = r at *
  generalize badB (s.drop p) = bd at *
  generalize wd (s.drop p) = u at *
  clear hst hlow hhi hbd hr
  go_region
  go_upto_region 3 with fail
  generalize hX : (WA.alloc (.cells #[.int .i64 p, .int .i64 u, .int .i32 r, .bool bd] 88)).drew = X at *
  have HX : Hid (TW w X B W.heap.size s (.slice (some ⟨b, off, none⟩) n cap) k p 4 [] 0 p) := Lib.hid (by rw [← hX]; exact (HTW.out.alloc2 _).drew)
  have hpc : X.heap[WA.heap.size]? = some (piE p u r bd) := by
    rw [← hX]
    exact heap_alloc_new WA _
  clear hX c1 c2 f2 d0 d1 d2 d3 a0 a1 a2 a3 a4 a5 hbl
  have HPC := Lib.hid hpc
  obtain ⟨⟨p0, p1, p2, p3⟩, -⟩ := four_all (show X.heap[WA.heap.size]? = some (.cells #[.int .i64 p, .int .i64 u, .int .i32 r, .bool bd] 88 (0, 0)) from hpc)
  clear hpc
  obtain ⟨⟨t0, t1, t2, t3⟩, ⟨tf1, tf2⟩, ⟨r0, r1, r2, r3⟩, g0, g1, g2, g3⟩ := HX.out.cells
  by_cases hb : bd = true ∨ ¬ r < 128
  · have HE : Hid (tok1 (s.drop p) = none) := Lib.hid (by
      have h128 : 128 ≤ r := by
        rcases hb with h | h
        · have := HBD.out h
          omega
        · omega
      have h1 := HHI.out (by omega)
      have h2 : isSign1 (bk (s.drop p) 0) = false := by
        cases h : isSign1 (bk (s.drop p) 0) with
        | false => rfl
        | true =>
          obtain ⟨j, hj, e⟩ := sg_sign.1 h
          have := sg_lt j
          omega
      rw [hT.out, if_neg (by omega), h2]
      rfl)
    have hb' : bd = true ∨ (bd = false ∧ ¬ r < 128) := by
      cases bd with
      | true => exact .inl rfl
      | false => exact .inr ⟨rfl, hb.elim (fun h => by cases h) id⟩
    clear hb
    rcases hb' with h | ⟨h, h1⟩
    all_goals
      subst h
      go_wp2
      have hd := HX.out.done rfl
      refine bodyPost_ret (v := .tuple #[.agg #[.int .i64 4, .string ⟨#[]⟩, .int .i64 0, .int .i64 p], .bool false]) (by simp [results, Tryz.results55, go_sem, hd.2.2]) rfl ?_
      refine ⟨hd.2.1, ?_⟩
      rw [HE.out]
      exact ⟨4, [], 0, rfl⟩
  · obtain ⟨hb1, hr8⟩ : bd = false ∧ r < 128 := by
      refine ⟨?_, Classical.byContradiction fun h => hb (.inr h)⟩
      cases bd with
      | true => exact absurd (.inl rfl) hb
      | false => rfl
    subst hb1
    clear hb
    obtain ⟨h0, h1, h2⟩ := HLOW.out hr8
    subst h2
    generalize hbk : bk (s.drop p) 0 = c0 at *
    have HBK := Lib.hid hbk
    subst h1
    clear hbk
    unfold sgS at HI HSL
    go_wp2
    clear t0 t1 t2 t3 tf1 tf2 r0 r1 r2 r3 g0 g1 g2 g3 p0 p1 p2 p3
    go_loopg [7] 14 (fun g i wr => ∃ (j : Nat), i = .int .i64 j ∧ Hid (TW w wr B W.heap.size s (.slice (some ⟨b, off, none⟩) n cap) k p 4 [] 0 p) ∧ Hid (wr.heap[WA.heap.size]? = some (piE p 1 c0 false)) ∧ Hid (∀ i, i < j → sg i ≠ c0) ∧ j + g = 14 ∧ j ≤ 14)
    case atStart => exact ⟨0, rfl, HX, HPC, Lib.hid (fun i hi => by omega), by omega, by omega⟩
    case round =>
      obtain ⟨j, rfl, HL, HPR, HN, hg, hj⟩ := hrel
      obtain ⟨⟨t0, t1, t2, t3⟩, ⟨tf1, tf2⟩, ⟨r0, r1, r2, r3⟩, g0, g1, g2, g3⟩ := HL.out.cells
      obtain ⟨-, c1, c2, f2, -⟩ := HL.out.st.cells
      obtain ⟨⟨p0, p1, p2, p3⟩, -⟩ := four_all (show wr.heap[WA.heap.size]? = some (.cells #[.int .i64 p, .int .i64 (1 : Nat), .int .i32 (c0 : Nat), .bool false] 88 (0, 0)) from HPR.out)
      by_cases hj14 : j < 14
      · have hix := fun W => HI.out j hj14 W
        have hsx := fun W => HSL.out j hj14 W
        have hsl := sg_lt j
        by_cases hm : sg j = c0
        · rw [hm] at hix hsx
          have HM : Hid (isSign1 c0 = true) := Lib.hid (sg_sign.2 ⟨j, hj14, hm⟩)
          clear hm
          go_wp2
          go_region
          go_upto_region 12 with fail
          generalize hX2 : ((wr.setCell ⟨W.heap.size, 1, none⟩ (.string ⟨#[UInt8.ofNat c0]⟩)).setCell ⟨B, 2, none⟩ (.int .i64 ((k : Int) + 1))).drew = X2
          have HX2 : Hid (TW w X2 B W.heap.size s (.slice (some ⟨b, off, none⟩) n cap) (k + 1) (p + 1) 4 [UInt8.ofNat c0] 0 p) := Lib.hid (by rw [← hX2]; exact ((HL.out.setS [UInt8.ofNat c0]).setK _ (by omega) HST.out).drew)
          have hk1b : k + 1 ≤ 1000001 := by omega
          obtain ⟨k1, hk1e⟩ : ∃ k1, k + 1 = k1 := ⟨_, rfl⟩
          rw [hk1e] at HX2 hk1b
          clear hk1e
          have hpc2 : X2.heap[WA.heap.size]? = some (.cells #[.int .i64 p, .int .i64 (1 : Nat), .int .i32 (c0 : Nat), .bool false] 88 (0, 0)) := by
            have hB1 := HX2.out.h1
            have hB2 := HX2.out.h2
            rw [← hX2]
            show (World.setCell (World.setCell _ _ _) _ _).heap[WA.heap.size]? = _
            rw [Below.heap_setCell _ _ _ _ (fun e => by simp at e; omega), Below.heap_setCell _ _ _ _ (fun e => by simp at e; omega)]
            exact HPR.out
          obtain ⟨sx, hsx⟩ : ∃ sx : Bs, [UInt8.ofNat c0] = sx := ⟨_, rfl⟩
          rw [hsx] at HX2
          have hsxl : sx.length ≤ 1 := by rw [← hsx]; exact Nat.le_refl _
          have HSX := Lib.hid hsx
          clear hsx
          clear hX2 t0 t1 t2 t3 tf1 tf2 r0 r1 r2 r3 g0 g1 g2 g3 p0 p1 p2 p3 c1 c2 f2 hix hsx hsl HN
          obtain ⟨⟨p0, p1, p2, p3⟩, -⟩ := four_all hpc2
          clear hpc2
          obtain ⟨⟨t0, t1, t2, t3⟩, ⟨tf1, tf2⟩, ⟨r0, r1, r2, r3⟩, g0, g1, g2, g3⟩ := HX2.out.cells
          obtain ⟨-, c1, c2, f2, -⟩ := HX2.out.st.cells
          have HH1 : Hid ((s.drop p).take 1 = sx) := Lib.hid (by rw [head_byte HNE.out, HBK.out, ← HSX.out])
          have HB1 : Hid (bk (s.drop p) 1 = bk (s.drop (p + 1)) 0) := Lib.hid (by rw [bk_drop, bk_drop])
          have hA' : (c0 = 60 ∨ c0 = 62 ∨ c0 = 33) → (((c0 : Int) == 60) = true) ∨ (((c0 : Int) == 60) = false ∧ ((c0 : Int) == 62) = true) ∨ (((c0 : Int) == 60) = false ∧ ((c0 : Int) == 62) = false ∧ ((c0 : Int) == 33) = true) := by
            rintro (rfl | rfl | rfl)
            · exact .inl rfl
            · exact .inr (.inl ⟨rfl, rfl⟩)
            · exact .inr (.inr ⟨rfl, rfl, rfl⟩)
          have HA' := Lib.hid hA'
          clear hA'
          by_cases hA : c0 = 60 ∨ c0 = 62 ∨ c0 = 33
          · by_cases hin : p + 1 < s.length
            · have hk1 : k1 < n := (HLT.out _ _ HX2.out.st.at').2 hin
              obtain ⟨b', off', he, -, -, d2, -⟩ := ((HP.out.mono HX2.out.but.gb).mono (gb_gh B X2)).at HX2.out.st.at' hin
              simp only [Option.some.injEq, Addr.mk.injEq, and_true] at he
              obtain ⟨rfl, rfl⟩ := he
              have hst2 := HX2.out.st.at'.step hin
              have h61 := rn_61 (l := s.drop (p + 1))
              have hlow2 := fun h => (rn_low (l := s.drop (p + 1)) h).2.2
              have hrr2 := rn_range (s.drop (p + 1))
              generalize rn (s.drop (p + 1)) = x at *
              generalize wd (s.drop (p + 1)) = u2 at *
              by_cases hx : x = 61
              · have hu2 := hlow2 (by omega)
                subst hu2
                have hb61 : bk (s.drop p) 1 = 61 := by rw [HB1.out]; exact h61.1 hx
                have HE : Hid (tok1 (s.drop p) = some (4, sx ++ [61], 0, 2)) := Lib.hid (by
                  rw [hT.out, if_pos ⟨hA, hb61⟩, two_bytes hb61, HBK.out, ← HSX.out])
                have HST2 : Hid (AtP s (k1 + 1) (p + 2)) := Lib.hid hst2
                subst hx
                clear h61 hlow2 hst2 hb61 HB1
                rcases HA'.out hA with q1 | ⟨q1, q2⟩ | ⟨q1, q2, q3⟩
                all_goals
                  clear hA
                  go_wp2
                  go_quiet ((fail))
                  go_upto_region 14 with fail
                  rw [app_61]
                  have HX3 := Lib.hid ((HX2.out.call (below_drewN (Below.refl _ _) nq)).setS (sx ++ [61]))
                  generalize (X2.drewN nq).setCell ⟨W.heap.size, 1, none⟩ (.string ⟨(sx ++ [61]).toArray⟩) = X3 at *
                  clear t0 t1 t2 t3 tf1 tf2 r0 r1 r2 r3 g0 g1 g2 g3 p0 p1 p2 p3 c1 c2 f2 d2
                  obtain ⟨⟨t0, t1, t2, t3⟩, ⟨tf1, tf2⟩, ⟨r0, r1, r2, r3⟩, g0, g1, g2, g3⟩ := HX3.out.cells
                  obtain ⟨-, c1, c2, f2, -⟩ := HX3.out.st.cells
                  have hne4 : ¬ w.heap.size = B := by have := HX3.out.h1; omega
                  have hne5 : ¬ B = w.heap.size := fun h => hne4 h.symm
                  go_upto_region 15 with fail
                  have HX4 := Lib.hid (HX3.out.setK ((k1 : Int) + 1) (by omega) HST2.out)
                  generalize X3.setCell ⟨B, 2, none⟩ (.int .i64 ((k1 : Int) + 1)) = X4 at *
                  clear t0 t1 t2 t3 tf1 tf2 r0 r1 r2 r3 g0 g1 g2 g3 c1 c2 f2
                  obtain ⟨⟨t0, t1, t2, t3⟩, ⟨tf1, tf2⟩, ⟨r0, r1, r2, r3⟩, g0, g1, g2, g3⟩ := HX4.out.cells
                  go_wp2
                  have hd := HX4.out.done rfl
                  refine bodyPost_ret (v := .tuple #[.agg #[.int .i64 4, .string ⟨(sx ++ [61]).toArray⟩, .int .i64 0, .int .i64 p], .bool true]) (by simp [results, Tryz.results55, go_sem, hd.2.2]) rfl ?_
                  refine ⟨hd.2.1, ?_⟩
                  rw [HE.out]
                  exact ⟨rfl, k1 + 1, hd.1⟩
              · have HE : Hid (tok1 (s.drop p) = some (4, sx, 0, 1)) := Lib.hid (by
                  rw [hT.out, if_neg (fun h => hx (h61.2 (by rw [← HB1.out]; exact h.2))), if_pos HM.out, HH1.out])
                have q61 : (x == 61) = false := beq_eq_false_iff_ne.2 hx
                clear h61 hlow2 hst2 hx HB1
                rcases HA'.out hA with q1 | ⟨q1, q2⟩ | ⟨q1, q2, q3⟩
                all_goals
                  clear hA
                  go_wp2
                  go_quiet ((fail))
                  go_wp2
                  have hd := (HX2.out.call (below_drewN (Below.refl _ _) nq)).done rfl
                  refine bodyPost_ret (v := .tuple #[.agg #[.int .i64 4, .string ⟨sx.toArray⟩, .int .i64 0, .int .i64 p], .bool true]) (by simp [results, Tryz.results55, go_sem, hd.2.2]) rfl ?_
                  refine ⟨hd.2.1, ?_⟩
                  rw [HE.out]
                  exact ⟨rfl, k1, hd.1⟩
            · have hk1 : ¬ k1 < n := fun x => hin ((HLT.out _ _ HX2.out.st.at').1 x)
              have HE : Hid (tok1 (s.drop p) = some (4, sx, 0, 1)) := Lib.hid (by
                rw [hT.out, if_neg (fun h => by have h2 := h.2; rw [HB1.out, List.drop_eq_nil_of_le (by omega), bk_nil] at h2; omega), if_pos HM.out, HH1.out])
              clear HB1
              rcases HA'.out hA with q1 | ⟨q1, q2⟩ | ⟨q1, q2, q3⟩
              all_goals
                clear hA
                go_wp2
                go_quiet ((fail))
                go_wp2
                have hd := (HX2.out.call (below_drewN (Below.refl _ _) nq)).done rfl
                refine bodyPost_ret (v := .tuple #[.agg #[.int .i64 4, .string ⟨sx.toArray⟩, .int .i64 0, .int .i64 p], .bool true]) (by simp [results, Tryz.results55, go_sem, hd.2.2]) rfl ?_
                refine ⟨hd.2.1, ?_⟩
                rw [HE.out]
                exact ⟨rfl, k1, hd.1⟩
          · have HE : Hid (tok1 (s.drop p) = some (4, sx, 0, 1)) := Lib.hid (by
              rw [hT.out, if_neg (fun h => hA h.1), if_pos HM.out, HH1.out])
            have q1 : ((c0 : Int) == 60) = false := beq_eq_false_iff_ne.2 (by omega)
            have q2 : ((c0 : Int) == 62) = false := beq_eq_false_iff_ne.2 (by omega)
            have q3 : ((c0 : Int) == 33) = false := beq_eq_false_iff_ne.2 (by omega)
            clear HB1 hA
            go_wp2
            go_quiet ((fail))
            go_wp2
            have hd := (HX2.out.call (below_drewN (Below.refl _ _) nq)).done rfl
            refine bodyPost_ret (v := .tuple #[.agg #[.int .i64 4, .string ⟨sx.toArray⟩, .int .i64 0, .int .i64 p], .bool true]) (by simp [results, Tryz.results55, go_sem, hd.2.2]) rfl ?_
            refine ⟨hd.2.1, ?_⟩
            rw [HE.out]
            exact ⟨rfl, k1, hd.1⟩
        · have q1 : (((sg j : Nat) : Int) != (c0 : Int)) = true := by simp; omega
          have HN2 : Hid (∀ i, i < j + 1 → sg i ≠ c0) := Lib.hid (fun i hi => by
            by_cases h : i < j
            · exact HN.out i h
            · obtain rfl : i = j := by omega
              exact hm)
          clear hm hsx
          go_wp2
          go_region
          go_wp2
          go_roundg (gk - 1)
          case rel => exact ⟨j + 1, by go_num, Lib.hid HL.out.drew, Lib.hid HPR.out, HN2, by omega, by omega⟩
          case measure => omega
      · have HE : Hid (tok1 (s.drop p) = none) := Lib.hid (by
          have h2 : isSign1 c0 = false := by
            cases h : isSign1 c0 with
            | false => rfl
            | true =>
              obtain ⟨i, hi, e⟩ := sg_sign.1 h
              exact absurd e (HN.out i (by omega))
          have h3 : ¬ (c0 = 60 ∨ c0 = 62 ∨ c0 = 33) := by
            rintro (rfl | rfl | rfl) <;> cases h2
          rw [hT.out, if_neg (fun h => h3 h.1), h2]
          rfl)
        go_wp2
        have hd := HL.out.done rfl
        refine bodyPost_ret (v := .tuple #[.agg #[.int .i64 4, .string ⟨#[]⟩, .int .i64 0, .int .i64 p], .bool false]) (by simp [results, Tryz.results55, go_sem, hd.2.2]) rfl ?_
        refine ⟨hd.2.1, ?_⟩
        rw [HE.out]
        exact ⟨4, [], 0, rfl⟩
end Go.Proofs.YtilmmgkclijhjaaGreatDoor
