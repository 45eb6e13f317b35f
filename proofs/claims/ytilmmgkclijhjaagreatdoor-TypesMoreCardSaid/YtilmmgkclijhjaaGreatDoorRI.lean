/- The walk of the document's escape. Condition: the text is no longer than any may be. -/
import Derived.Test.YtilmmgkclijhjaaGreatDoorRG
set_option linter.unusedSimpArgs false
set_option linter.unusedVariables false
set_option linter.unusedSectionVars false
namespace Go.Proofs.YtilmmgkclijhjaaGreatDoor
open Go.RowKit Pal
def escPost (B : Nat) (s : Bs) (pv : Value) (p0 : Nat) (w : World) (e : Ending) (w' : World) : Prop :=
  But B w w' ∧ match escL (s.drop p0) with
    | some (r, z) => e = .returned (.tuple #[.int .i32 r, .bool true]) ∧ ∃ k', LSt w' B s pv k' (p0 + z)
    | none => ∃ r : Int, e = .returned (.tuple #[.int .i32 r, .bool false])
theorem rn_117 {l : Bs} : rn l = 117 ↔ bk l 0 = 117 := by
  constructor
  · intro h; have := rn_low (l := l) (by omega); omega
  · intro h; have := dec_low (l := l) (by omega); omega
theorem escL_no {l : Bs} (h1 : bk l 1 ≠ 34) (h2 : bk l 1 ≠ 92) (h3 : bk l 1 ≠ 117) : escL l = none := by
  unfold escL
  rw [if_neg (by omega), if_neg h3]
theorem escL_yes {l : Bs} (h : bk l 1 = 34 ∨ bk l 1 = 92) : escL l = some (((bk l 1 : Nat) : Int), 2) := by
  unfold escL
  rw [if_pos h]
theorem hxN_sum {l : Bs} {k : Nat} {v : Int} (h : hexD (bk l (2 + k)) = some v) : hxN l (k + 1) = hxN l k * 16 + v := by
  show hxN l k * 16 + (hexD (bk l (2 + k))).getD 0 = _
  rw [h]; rfl
theorem hxN_small (l : Bs) (k : Nat) (hk : k < 4) : 0 ≤ hxN l k ∧ hxN l k < 4096 := by
  have hr := hxN_range l k
  have hp : (16 : Int) ^ k ≤ 4096 := by
    rcases (by omega : k = 0 ∨ k = 1 ∨ k = 2 ∨ k = 3) with rfl | rfl | rfl | rfl <;> decide
  omega
set_option maxRecDepth 1000000 in
set_option maxHeartbeats 4000000 in
theorem lesc_any (s : Bs) (B k p0 : Nat) (pv : Value) (w : World) (hs : s.length ≤ 1000000) (h : LSt w B s pv k (p0 + 1)) (hP : PsV (gb B w) pv s) :
    Calls Tryz.prog 72 #[.pointer (some ⟨B, 0, none⟩)] w (escPost B s pv p0 w) := by
  obtain ⟨a, cap, rfl⟩ := hP.form
  obtain ⟨c0, c1, c2, f2, hlt⟩ := h.cells
  have hle := h.at'.le.1
  have hcl := cnt_le s
  have HLT := Lib.hid (fun k p (h : AtP s k p) => h.lt)
  have HP := Lib.hid hP
  have HS := Lib.hid h
  have hk1 : bk (s.drop p0) 1 = bk (s.drop (p0 + 1)) 0 := by rw [bk_drop, bk_drop]
  generalize cnt s = n at *
  have hn1 : n ≤ 1000000 := by omega
  by_cases hp : p0 + 1 < s.length
  · have hkn : k < n := (HLT.out _ _ HS.out.at').2 hp
    obtain ⟨b, off, rfl, -, -, d2, -⟩ := (hP.mono (gb_gh B w)).at h.at' hp
    have hst := h.at'.step hp
    have h34 := rn_34 (l := s.drop (p0 + 1))
    have h92 := rn_92 (l := s.drop (p0 + 1))
    have h117 := rn_117 (l := s.drop (p0 + 1))
    have hrr := rn_range (s.drop (p0 + 1))
    have hlow := fun h => rn_low (l := s.drop (p0 + 1)) h
    generalize hr : rn (s.drop (p0 + 1)) = r at *
    clear hP h c0
    by_cases hq : r = 34 ∨ r = 92
    · have hl2 := hlow (by omega)
      have HE : Hid (escL (s.drop p0) = some (r, 2)) := Lib.hid (by rw [escL_yes (by rw [hk1]; rcases hq with h | h; exact .inl (h34.1 h); exact .inr (h92.1 h)), hk1, hl2.2.1])
      have HST : Hid (AtP s (k + 1) (p0 + 2)) := Lib.hid (by rw [hl2.2.2] at hst; exact hst)
      clear hk1 hst h34 h92 h117 hlow hl2 hr HLT
      rcases hq with rfl | rfl
      · go_enter Tryz.func72, Tryz.ntmps72
        go_wp2
        go_region
        go_wp2
        go_region
        go_wp2
        go_ret2
        refine ⟨((But.refl B w).setPb 2 _).drew.drew, ?_⟩
        rw [HE.out]
        exact ⟨rfl, k + 1, ((HS.out.set _ (by omega) HST.out).keep (Below.refl _ _).drew).keep (Below.refl _ _).drew⟩
      · go_enter Tryz.func72, Tryz.ntmps72
        go_wp2
        go_region
        go_wp2
        go_region
        go_wp2
        go_ret2
        refine ⟨((But.refl B w).setPb 2 _).drew.drew, ?_⟩
        rw [HE.out]
        exact ⟨rfl, k + 1, ((HS.out.set _ (by omega) HST.out).keep (Below.refl _ _).drew).keep (Below.refl _ _).drew⟩
    · have q1 : (r == 34) = false := beq_eq_false_iff_ne.2 (fun h => hq (.inl h))
      have q2 : (r == 92) = false := beq_eq_false_iff_ne.2 (fun h => hq (.inr h))
      by_cases hu : r = 117
      · subst hu
        have hl2 := hlow (by omega)
        have hb1 : bk (s.drop p0) 1 = 117 := by rw [hk1]; exact h117.1 rfl
        rw [hl2.2.2] at hst
        have HST := Lib.hid hst
        have HB1 := Lib.hid hb1
        clear hk1 hst h34 h92 h117 hlow hl2 hr hq q1 q2 hb1
        have hd0 : decide (n ≤ k) = false := by simpa using hkn
        go_enter Tryz.func72, Tryz.ntmps72
        go_wp2
        go_region
        go_wp2
        go_region
        go_wp2
        clear d2
        go_loopg [5, 6] 4 (fun g v i wr => ∃ (j k' : Nat), i = .int .i64 j ∧ v = .int .i32 (hxN (s.drop p0) j) ∧ Hid (LSt wr B s (.slice (some ⟨b, off, none⟩) n cap) k' (p0 + 2 + j)) ∧ Hid (But B w wr) ∧ j ≤ 4 ∧ j + g = 4 ∧ Hid (∀ i, i < j → (hexD (bk (s.drop p0) (2 + i))).isSome = true))
        case atStart => exact ⟨0, k + 1, rfl, rfl, Lib.hid (((HS.out.set _ (by omega) HST.out).keep (Below.refl _ _).drew).keep (Below.refl _ _).drew), Lib.hid ((But.refl B w).setPb 2 _).drew.drew, by omega, by omega, Lib.hid (fun i hi => by omega)⟩
        case round =>
          obtain ⟨j, k', rfl, rfl, HL, HB, hj, hg, HX⟩ := hrel
          obtain ⟨-, e1, e2, g2, -⟩ := HL.out.cells
          by_cases hj4 : j < 4
          · have hsm := hxN_small (s.drop p0) j hj4
            have hbk : bk (s.drop p0) (2 + j) = bk (s.drop (p0 + 2 + j)) 0 := by rw [bk_drop, bk_drop]; congr 1; omega
            by_cases hin : p0 + 2 + j < s.length
            · have hkn' : k' < n := (HLT.out _ _ HL.out.at').2 hin
              obtain ⟨b', off', he, -, -, d2, -⟩ := ((HP.out.mono HB.out.gb).mono (gb_gh B wr)).at HL.out.at' hin
              simp only [Option.some.injEq, Addr.mk.injEq, and_true] at he
              obtain ⟨rfl, rfl⟩ := he
              have hst := HL.out.at'.step hin
              have hx := hexD_rn (l := s.drop (p0 + 2 + j))
              have hrr := rn_range (s.drop (p0 + 2 + j))
              rw [← hbk] at hx
              generalize rn (s.drop (p0 + 2 + j)) = c at *
              by_cases h1 : 48 ≤ c ∧ c ≤ 57
              · obtain ⟨hd, hw⟩ := hx.1 h1
                rw [hw] at hst
                have HV := Lib.hid (hxN_sum hd)
                have HST2 : Hid (AtP s (k' + 1) (p0 + 2 + (j + 1))) := Lib.hid hst
                have HX2 : Hid (∀ i, i < j + 1 → (hexD (bk (s.drop p0) (2 + i))).isSome = true) := Lib.hid (fun i hi => by
                  by_cases h : i < j
                  · exact HX.out i h
                  · obtain rfl : i = j := by omega
                    rw [hd]; rfl)
                obtain ⟨h1a, h1b⟩ := h1
                clear hd hw hst hx hbk HX
                generalize hxN (s.drop p0) j = v at *
                go_wp2
                go_region
                go_wp2
                go_region
                go_wp2
                go_roundg (gk - 1)
                case rel => exact ⟨j + 1, k' + 1, by go_num, by rw [HV.out]; congr 1; omega, Lib.hid (((HL.out.set _ (by omega) HST2.out).keep (Below.refl _ _).drew).keep (Below.refl _ _).drew), Lib.hid (HB.out.setPb 2 _).drew.drew, by omega, by omega, HX2⟩
                case measure => omega
              · by_cases h2 : 97 ≤ c ∧ c ≤ 102
                · obtain ⟨hd, hw⟩ := hx.2.1 h2
                  rw [hw] at hst
                  have HV := Lib.hid (hxN_sum hd)
                  have HST2 : Hid (AtP s (k' + 1) (p0 + 2 + (j + 1))) := Lib.hid hst
                  have HX2 : Hid (∀ i, i < j + 1 → (hexD (bk (s.drop p0) (2 + i))).isSome = true) := Lib.hid (fun i hi => by
                    by_cases h : i < j
                    · exact HX.out i h
                    · obtain rfl : i = j := by omega
                      rw [hd]; rfl)
                  obtain ⟨h2a, h2b⟩ := h2
                  have h1' : ¬ c ≤ 57 := by omega
                  have h1'' : 48 ≤ c := by omega
                  clear hd hw hst hx hbk HX h1
                  generalize hxN (s.drop p0) j = v at *
                  go_wp2
                  go_region
                  go_wp2
                  go_region
                  go_wp2
                  go_roundg (gk - 1)
                  case rel => exact ⟨j + 1, k' + 1, by go_num, by rw [HV.out]; congr 1; omega, Lib.hid (((HL.out.set _ (by omega) HST2.out).keep (Below.refl _ _).drew).keep (Below.refl _ _).drew), Lib.hid (HB.out.setPb 2 _).drew.drew, by omega, by omega, HX2⟩
                  case measure => omega
                · have HE := Lib.hid (esc_bad HB1.out hj4 (hx.2.2 h1 h2))
                  clear hx hst hbk HX
                  generalize hxN (s.drop p0) j = v at *
                  rcases (by omega : c < 48 ∨ (57 < c ∧ c < 97) ∨ 102 < c) with h3 | ⟨h3, h4⟩ | h3
                  all_goals
                    clear h1 h2
                    go_wp2
                    go_region
                    go_wp2
                    go_region
                    go_wp2
                    go_ret2
                    refine ⟨(HB.out.setPb 2 _).drew.drew, ?_⟩
                    rw [HE.out]
                    exact ⟨0, rfl⟩
            · have hkn' : ¬ k' < n := fun x => hin ((HLT.out _ _ HL.out.at').1 x)
              have HE := Lib.hid (esc_bad HB1.out hj4 (by rw [hbk, List.drop_eq_nil_of_le (by omega), bk_nil]; rfl))
              clear hbk HX
              generalize hxN (s.drop p0) j = v at *
              go_wp2
              go_region
              go_wp2
              go_ret2
              refine ⟨HB.out.drew, ?_⟩
              rw [HE.out]
              exact ⟨0, rfl⟩
          · obtain rfl : j = 4 := by omega
            have HE := Lib.hid (hxN_four HB1.out HX.out)
            have hr4 := hxN_range (s.drop p0) 4
            clear HX
            generalize hxN (s.drop p0) 4 = v at *
            by_cases hv : 55296 ≤ v ∧ v ≤ 57343
            · obtain ⟨v1, v2⟩ := hv
              have q1 : decide (v < 55296) = false := by simpa using v1
              have q2 : decide (57343 < v) = false := by simpa using v2
              go_wp2
              go_ret2
              refine ⟨HB.out, ?_⟩
              rw [HE.out, if_pos ⟨v1, v2⟩]
              exact ⟨v, rfl⟩
            · have HV := Lib.hid hv
              rcases (by omega : v < 55296 ∨ 57343 < v) with h3 | h3
              all_goals
                clear hv
                go_wp2
                go_ret2
                refine ⟨HB.out, ?_⟩
                rw [HE.out, if_neg HV.out]
                exact ⟨rfl, k', HL.out⟩
      · have q3 : (r == 117) = false := beq_eq_false_iff_ne.2 hu
        have HE := Lib.hid (escL_no (l := s.drop p0) (by rw [hk1]; exact fun h => hq (.inl (h34.2 h))) (by rw [hk1]; exact fun h => hq (.inr (h92.2 h))) (by rw [hk1]; exact fun h => hu (h117.2 h)))
        have q4 : (r != 117) = true := bne_iff_ne.2 hu
        clear hk1 hst h34 h92 h117 hlow hr HLT hq hu
        go_enter Tryz.func72, Tryz.ntmps72
        go_wp2
        go_region
        go_wp2
        go_region
        go_wp2
        go_ret2
        refine ⟨((But.refl B w).setPb 2 _).drew.drew, ?_⟩
        rw [HE.out]
        exact ⟨0, rfl⟩
  · have hkn : ¬ k < n := fun x => hp ((HLT.out _ _ HS.out.at').1 x)
    have hb0 : bk (s.drop p0) 1 = 0 := by rw [hk1, List.drop_eq_nil_of_le (by omega), bk_nil]
    have HE := Lib.hid (escL_no (l := s.drop p0) (by omega) (by omega) (by omega))
    clear hP h c0 hk1 hb0 HLT
    go_enter Tryz.func72, Tryz.ntmps72
    go_wp2
    go_region
    go_wp2
    go_ret2
    refine ⟨(But.refl B w).drew, ?_⟩
    rw [HE.out]
    exact ⟨0, rfl⟩
end Go.Proofs.YtilmmgkclijhjaaGreatDoor
