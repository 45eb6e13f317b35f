/- The walk of palaverlaw07.ParseDeep. Condition: the tables hold what they are laid with. -/
import Derived.Test.YtdgcgogeidnmoaaDoorS7
import Derived.Test.YtdgcgogeidnmoaaDoorL2
import Derived.Test.YtdgcgogeidnmoaaDoorG0
set_option linter.unusedSimpArgs false
set_option linter.unusedVariables false
namespace Go.Proofs.YtdgcgogeidnmoaaDoor
open Go.RowKit Pal
/-- Parse of a text that is only so deep, as ParseDeep looks at it. -/
theorem parse_deep (n : Nat) (h40 : n < 40) (w : World) (hL : Lay (gh w)) :
    Calls Tryd.prog 13 #[.string ((⟨(nots n).toArray⟩ : ByteArray) ++ ⟨#[116, 114, 117, 101]⟩)] w fun r w' => Below w.heap.size w w' ∧ ∃ o m sv a l c p, r = .returned (.tuple #[.agg #[.int .i64 o, .int .i64 m, .string sv, .slice a l c], .int .i64 p, .int .i64 (if n + 1 ≤ 24 then 0 else 7)]) := by
  have hcat : ((⟨(nots n).toArray⟩ : ByteArray) ++ ⟨#[116, 114, 117, 101]⟩).data.toList = nots n ++ wTrue := by unfold wTrue; simp
  have hsz : ((⟨(nots n).toArray⟩ : ByteArray) ++ ⟨#[116, 114, 117, 101]⟩).size ≤ 9223372036854775807 := by
    rw [← len_toList, hcat]; unfold nots wTrue; simp; omega
  by_cases h : n + 1 ≤ 24
  · obtain ⟨e, hp⟩ := deep_ok h
    refine (parse_yes _ e w hsz (by rw [hcat]; exact hp) hL).mono ?_
    rintro r w' ⟨hb, a, c, rfl, _⟩
    rw [if_pos h]
    exact ⟨hb, _, _, _, _, _, _, 0, rfl⟩
  · obtain ⟨p, hp⟩ := deep_no h h40
    refine (parse_no _ p 7 w hsz (by rw [hcat]; exact hp) hL).mono ?_
    rintro r w' ⟨hb, rfl⟩
    rw [if_neg h]
    exact ⟨hb, _, _, _, _, _, _, _, rfl⟩
set_option maxRecDepth 1000000 in
set_option maxHeartbeats 8000000 in
theorem deep_walk (deep wide : Int) (w : World) (hL : Lay2 w) (hd : -9223372036854775808 ≤ deep ∧ deep ≤ 9223372036854775807) (hw : -9223372036854775808 ≤ wide ∧ wide ≤ 9223372036854775807) :
    Calls Tryd.prog 5 #[.int .i64 deep, .int .i64 wide] w (yesPost w) := by
  have HL := Lib.hid hL
  have HA := Lib.hid (fun W hb => awake7 W (hL.below hb))
  obtain ⟨n, hn, hn40⟩ : ∃ n : Nat, deep % 40 = n ∧ n < 40 := ⟨(deep % 40).toNat, by omega, by omega⟩
  obtain ⟨k, hk, hk26⟩ : ∃ k : Nat, wide % 26 = k ∧ k < 26 := ⟨(wide % 26).toNat, by omega, by omega⟩
  have p1 := fun w => place_any deep 40 w hd (by omega) (by omega)
  have p2 := fun w => place_any wide 26 w hw (by omega) (by omega)
  rw [hn] at p1
  rw [hk] at p2
  have P1 := Lib.hid p1
  have P2 := Lib.hid p2
  have HP := Lib.hid (fun W hL => parse_deep n hn40 W hL)
  clear hL hd hw hn hk p1 p2
  go_enter Tryd.func5, Tryd.ntmps5
  go_wp2_with fail
  refine (P1.out _).mono ?_
  rintro r W ⟨rfl, rfl⟩
  go_wp2
  go_loopg [6, 7] n (fun g s i wr => ∃ j : Nat, s = .string ⟨(nots j).toArray⟩ ∧ i = .int .i64 j ∧ j + g = n ∧ w = wr)
  case atStart => exact ⟨0, rfl, rfl, by omega, rfl⟩
  case round =>
    obtain ⟨j, rfl, rfl, hg, rfl⟩ := hrel
    by_cases hlt : j < n
    · obtain ⟨g, rfl⟩ : ∃ g, gk = g + 1 := ⟨gk - 1, by omega⟩
      have hlen : (nots j).length ≤ 40 := by unfold nots; simp; omega
      have HS := Lib.hid (nots_succ j)
      generalize nots j = st at *
      go_wp2
      generalize hcat : (_ ++ _ : ByteArray) = xx
      go_roundg g
      case rel => exact ⟨j + 1, by rw [HS.out, ← hcat]; exact cat_str st [33], by go_num, by omega, rfl⟩
      case measure => omega
    · have hj : j = n := by omega
      subst hj
      have hlen : (nots j).length ≤ 40 := by unfold nots; simp; omega
      go_wp2_with fail
      refine (HP.out _ HL.out.lay).mono ?_
      rintro r W1 ⟨hb1, o, m, sv, a, l, c, p, rfl⟩
      have hb2 := hb1.alloc hb1.size (.cells #[.int .i64 o, .int .i64 m, .string sv, .slice a l c] 24)
      clear hb1 HP
      have hcs : (decide ((j : Int) + 1 ≤ 24) = true ∧ decide ((j : Int) < 24) = true ∧ (if j + 1 ≤ 24 then (0 : Int) else 7) = 0) ∨ (decide ((j : Int) + 1 ≤ 24) = false ∧ decide ((j : Int) < 24) = false ∧ (if j + 1 ≤ 24 then (0 : Int) else 7) = 7) := by
        by_cases h : j + 1 ≤ 24
        · exact .inl ⟨decide_eq_true (by omega), decide_eq_true (by omega), if_pos h⟩
        · exact .inr ⟨decide_eq_false (by omega), decide_eq_false (by omega), if_neg h⟩
      rcases hcs with ⟨q1, q2, q3⟩ | ⟨q1, q2, q3⟩
      all_goals
        rw [q3]
        clear q3
        go_upto_region 10 with fail
        generalize W1.alloc _ = WA at *
        go_wp2_with fail
        refine (P2.out _).mono ?_
        rintro r W ⟨rfl, rfl⟩
        have he0 := heap_alloc_new WA (.cells #[.int .i64 1, .int .i64 0, .string ⟨#[]⟩, .slice none 0 0] 24)
        have hb3 := hb2.alloc hb2.size (.cells #[.int .i64 1, .int .i64 0, .string ⟨#[]⟩, .slice none 0 0] 24)
        have hszA := hb2.size
        have HB3 := Lib.hid hb3
        have HE0 := Lib.hid he0
        clear hb2 hb3 he0
        go_wp2
        go_loopg [13, 14] k (fun g pa iv wr => ∃ (i : Nat) (u : Value), pa = .int .i64 (dE i).2 ∧ iv = .int .i64 i ∧ i + g = k ∧ Below w.heap.size w wr ∧
          wr.heap[WA.heap.size]? = some (.cells #[.int .i64 (dE i).1.op, .int .i64 (dE i).1.n, .string ⟨(dE i).1.s.toArray⟩, u] 24 (0, 0)) ∧ KV (gp (fun b => WA.heap.size < b) wr) u (dE i).1.ks)
        case atStart => exact ⟨0, .slice none 0 0, rfl, rfl, by omega, HB3.out, HE0.out, KV.nil _⟩
        case round =>
          obtain ⟨i, u, rfl, rfl, hgi, hbw, hcell, hK⟩ := hrel
          obtain ⟨ua, uc, rfl⟩ := hK.form
          by_cases hlt2 : i < k
          · obtain ⟨g, rfl⟩ : ∃ g, gk = g + 1 := ⟨gk - 1, by omega⟩
            have hpr := (wide_yes i (by omega)).2
            have hsz : WA.heap.size < wr.heap.size := (Array.getElem?_eq_some_iff.1 hcell).1
            obtain ⟨⟨e0, e1, e2, e3⟩, f0, f1, f2, f3⟩ := four_all hcell
            obtain ⟨⟨m0, m1, m2, m3⟩, n0, n1, n2, n3⟩ := four_new hcell
            have hstep : dE (i + 1) = if i % 4 = 3 ∧ (dE i).2 < 200 then (.mk 7 0 [] [(dE i).1, (dE i).1], 2 * (dE i).2 + 1) else (.mk 5 0 [] [(dE i).1], (dE i).2 + 1) := rfl
            have HSP := Lib.hid hstep
            have HK := Lib.hid hK
            have HC := Lib.hid hcell
            have HBW := Lib.hid hbw
            clear hK hcell hbw hstep
            generalize (dE i).2 = pr at *
            generalize (dE i).1 = E at *
            by_cases h3 : i % 4 = 3
            · have r1 : ((i : Int) % 4 == 3) = true := by rw [beq_iff_eq]; omega
              have r1b : (((i % 4 : Nat) : Int) == 3) = true := by rw [beq_iff_eq]; omega
              have r1c : ((i : Int).tmod 4 == 3) = true := by rw [Int.tmod_eq_emod_of_nonneg (by omega)]; exact r1
              by_cases h2 : pr < 200
              · have r2 : decide ((pr : Int) < 200) = true := decide_eq_true (by omega)
                have HE : Hid (dE (i + 1) = (.mk 7 0 [] [E, E], 2 * pr + 1)) := Lib.hid (by rw [HSP.out, if_pos ⟨h3, h2⟩])
                clear HSP h3 h2
                go_upto_region 18 with fail
                generalize hW : World.setCell (World.setCell (World.setCell (World.setCell _ _ _) _ _) _ _) _ _ = W0
                have hbW0 : Below w.heap.size w W0 := by rw [← hW]; exact below_set4 HBW.out hszA _ _ _ _
                have hcW0 : W0.heap[WA.heap.size]? = some (.cells #[.int .i64 7, .int .i64 0, .string ⟨#[]⟩, .slice (some ⟨wr.heap.size, 0, none⟩) 2 2] 24 (0, 0)) := by rw [← hW]; exact set4_heap HC.out _ _ _ _
                have hs0 : W0.heap.size = wr.heap.size := by rw [← hW]; exact set4_size _ _ _ _
                have hkW0 : KV (gp (fun b => WA.heap.size < b) W0) (.slice ua E.ks.length uc) E.ks := HK.out.mono (gp_le fun x hx hl => ⟨hx, by rw [← hW]; exact set4_other (by omega) _ _ _ _⟩)
                clear hW
                have hW1 : Below W0.heap.size W0 (W0.alloc (.cells #[.int .i64 E.op, .int .i64 E.n, .string ⟨E.s.toArray⟩, .slice ua E.ks.length uc, .int .i64 E.op, .int .i64 E.n, .string ⟨E.s.toArray⟩, .slice ua E.ks.length uc] 24)) := (Below.refl _ _).alloc (Nat.le_refl _) _
                have hz1 := heap_alloc_new W0 (.cells #[.int .i64 E.op, .int .i64 E.n, .string ⟨E.s.toArray⟩, .slice ua E.ks.length uc, .int .i64 E.op, .int .i64 E.n, .string ⟨E.s.toArray⟩, .slice ua E.ks.length uc] 24)
                rw [hs0] at hz1
                generalize W0.alloc (.cells #[.int .i64 E.op, .int .i64 E.n, .string ⟨E.s.toArray⟩, .slice ua E.ks.length uc, .int .i64 E.op, .int .i64 E.n, .string ⟨E.s.toArray⟩, .slice ua E.ks.length uc] 24) = W at *
                have hbW := hbW0.trans (hW1.mono hbW0.size)
                have hcW := (hW1.block _ (by omega)).trans hcW0
                have hkW : KV (gp (fun b => WA.heap.size < b) W) (.slice ua E.ks.length uc) E.ks := hkW0.mono (gp_le fun x hx hl => ⟨hx, hW1.block _ hl⟩)
                have hkN : KV (gp (fun b => WA.heap.size < b) W) (.slice (some ⟨wr.heap.size, 0, none⟩) 2 2) [E, E] := KV.two (by unfold gp; rw [if_pos hsz]; exact hz1) hkW hkW
                have HHW := Lib.hid hcW
                have HKN := Lib.hid hkN
                have HBWW := Lib.hid hbW
                clear hbW0 hcW0 hs0 hkW0 hW1 hz1 hkW HBW HC HK hcW hkN hbW m0 m1 m2 m3 n0 n1 n2 n3 e0 e1 e2 e3 f0 f1 f2 f3
                go_wp2
                go_roundg g
                case rel => exact ⟨i + 1, _, by rw [HE.out]; go_num, by go_num, by omega, HBWW.out, by rw [HE.out]; exact HHW.out, by rw [HE.out]; exact HKN.out⟩
                case measure => omega
              · have r2 : decide ((pr : Int) < 200) = false := decide_eq_false (by omega)
                have HE : Hid (dE (i + 1) = (.mk 5 0 [] [E], pr + 1)) := Lib.hid (by rw [HSP.out, if_neg (fun h => h2 h.2)])
                clear HSP h3 h2
                go_upto_region 20 with fail
                generalize hW : World.setCell (World.setCell (World.setCell (World.setCell _ _ _) _ _) _ _) _ _ = W0
                have hbW0 : Below w.heap.size w W0 := by rw [← hW]; exact below_set4 HBW.out hszA _ _ _ _
                have hcW0 : W0.heap[WA.heap.size]? = some (.cells #[.int .i64 5, .int .i64 0, .string ⟨#[]⟩, .slice (some ⟨wr.heap.size, 0, none⟩) 1 1] 24 (0, 0)) := by rw [← hW]; exact set4_heap HC.out _ _ _ _
                have hs0 : W0.heap.size = wr.heap.size := by rw [← hW]; exact set4_size _ _ _ _
                have hkW0 : KV (gp (fun b => WA.heap.size < b) W0) (.slice ua E.ks.length uc) E.ks := HK.out.mono (gp_le fun x hx hl => ⟨hx, by rw [← hW]; exact set4_other (by omega) _ _ _ _⟩)
                clear hW
                have hW1 : Below W0.heap.size W0 (W0.alloc (.cells #[.int .i64 E.op, .int .i64 E.n, .string ⟨E.s.toArray⟩, .slice ua E.ks.length uc] 24)) := (Below.refl _ _).alloc (Nat.le_refl _) _
                have hz1 := heap_alloc_new W0 (.cells #[.int .i64 E.op, .int .i64 E.n, .string ⟨E.s.toArray⟩, .slice ua E.ks.length uc] 24)
                rw [hs0] at hz1
                generalize W0.alloc (.cells #[.int .i64 E.op, .int .i64 E.n, .string ⟨E.s.toArray⟩, .slice ua E.ks.length uc] 24) = W at *
                have hbW := hbW0.trans (hW1.mono hbW0.size)
                have hcW := (hW1.block _ (by omega)).trans hcW0
                have hkW : KV (gp (fun b => WA.heap.size < b) W) (.slice ua E.ks.length uc) E.ks := hkW0.mono (gp_le fun x hx hl => ⟨hx, hW1.block _ hl⟩)
                have hkN : KV (gp (fun b => WA.heap.size < b) W) (.slice (some ⟨wr.heap.size, 0, none⟩) 1 1) [E] := KV.one (by unfold gp; rw [if_pos hsz]; exact hz1) hkW
                have HHW := Lib.hid hcW
                have HKN := Lib.hid hkN
                have HBWW := Lib.hid hbW
                clear hbW0 hcW0 hs0 hkW0 hW1 hz1 hkW HBW HC HK hcW hkN hbW m0 m1 m2 m3 n0 n1 n2 n3 e0 e1 e2 e3 f0 f1 f2 f3
                go_wp2
                go_roundg g
                case rel => exact ⟨i + 1, _, by rw [HE.out]; go_num, by go_num, by omega, HBWW.out, by rw [HE.out]; exact HHW.out, by rw [HE.out]; exact HKN.out⟩
                case measure => omega
            · have r1 : ((i : Int) % 4 == 3) = false := by rw [beq_eq_false_iff_ne]; omega
              have r1b : (((i % 4 : Nat) : Int) == 3) = false := by rw [beq_eq_false_iff_ne]; omega
              have r1c : ((i : Int).tmod 4 == 3) = false := by rw [Int.tmod_eq_emod_of_nonneg (by omega)]; exact r1
              have HE : Hid (dE (i + 1) = (.mk 5 0 [] [E], pr + 1)) := Lib.hid (by rw [HSP.out, if_neg (fun h => h3 h.1)])
              clear HSP h3
              go_upto_region 20 with fail
              generalize hW : World.setCell (World.setCell (World.setCell (World.setCell _ _ _) _ _) _ _) _ _ = W0
              have hbW0 : Below w.heap.size w W0 := by rw [← hW]; exact below_set4 HBW.out hszA _ _ _ _
              have hcW0 : W0.heap[WA.heap.size]? = some (.cells #[.int .i64 5, .int .i64 0, .string ⟨#[]⟩, .slice (some ⟨wr.heap.size, 0, none⟩) 1 1] 24 (0, 0)) := by rw [← hW]; exact set4_heap HC.out _ _ _ _
              have hs0 : W0.heap.size = wr.heap.size := by rw [← hW]; exact set4_size _ _ _ _
              have hkW0 : KV (gp (fun b => WA.heap.size < b) W0) (.slice ua E.ks.length uc) E.ks := HK.out.mono (gp_le fun x hx hl => ⟨hx, by rw [← hW]; exact set4_other (by omega) _ _ _ _⟩)
              clear hW
              have hW1 : Below W0.heap.size W0 (W0.alloc (.cells #[.int .i64 E.op, .int .i64 E.n, .string ⟨E.s.toArray⟩, .slice ua E.ks.length uc] 24)) := (Below.refl _ _).alloc (Nat.le_refl _) _
              have hz1 := heap_alloc_new W0 (.cells #[.int .i64 E.op, .int .i64 E.n, .string ⟨E.s.toArray⟩, .slice ua E.ks.length uc] 24)
              rw [hs0] at hz1
              generalize W0.alloc (.cells #[.int .i64 E.op, .int .i64 E.n, .string ⟨E.s.toArray⟩, .slice ua E.ks.length uc] 24) = W at *
              have hbW := hbW0.trans (hW1.mono hbW0.size)
              have hcW := (hW1.block _ (by omega)).trans hcW0
              have hkW : KV (gp (fun b => WA.heap.size < b) W) (.slice ua E.ks.length uc) E.ks := hkW0.mono (gp_le fun x hx hl => ⟨hx, hW1.block _ hl⟩)
              have hkN : KV (gp (fun b => WA.heap.size < b) W) (.slice (some ⟨wr.heap.size, 0, none⟩) 1 1) [E] := KV.one (by unfold gp; rw [if_pos hsz]; exact hz1) hkW
              have HHW := Lib.hid hcW
              have HKN := Lib.hid hkN
              have HBWW := Lib.hid hbW
              clear hbW0 hcW0 hs0 hkW0 hW1 hz1 hkW HBW HC HK hcW hkN hbW m0 m1 m2 m3 n0 n1 n2 n3 e0 e1 e2 e3 f0 f1 f2 f3
              go_wp2
              go_roundg g
              case rel => exact ⟨i + 1, _, by rw [HE.out]; go_num, by go_num, by omega, HBWW.out, by rw [HE.out]; exact HHW.out, by rw [HE.out]; exact HKN.out⟩
              case measure => omega
          · have hik : i = k := by omega
            subst hik
            have hwy := wide_yes i (by omega)
            have hfx := dE_fine i
            have hKw := hK.mono (gp_gh _ wr)
            obtain ⟨e0, e1, e2, e3⟩ := four_cells hcell
            have hcs : ∃ x y z : Bool, decide (((dE i).2 : Int) ≤ 128) = x ∧ decide ((i : Int) + 1 ≤ 24) = y ∧ check (dE i).1 = (x && y) := by
              refine ⟨_, _, true, rfl, rfl, ?_⟩
              rw [hwy.1]
              have e1 : decide ((dE i).2 ≤ 128) = decide (((dE i).2 : Int) ≤ 128) := by by_cases h : (dE i).2 ≤ 128 <;> simp [h] <;> omega
              have e2 : decide (i + 1 ≤ 24) = decide ((i : Int) + 1 ≤ 24) := by by_cases h : i + 1 ≤ 24 <;> simp [h] <;> omega
              rw [e1, e2]
            have hpb := hwy.2
            generalize (dE i).2 = pr at *
            generalize (dE i).1 = E at *
            obtain ⟨x, y, z, q5, q6, hck⟩ := hcs
            have hc := parseCheck_any E (exV E.op E.n E.s (.slice ua E.ks.length uc)) wr hfx (HL.out.lay.below hbw) ⟨_, rfl, hKw⟩
            rw [hck] at hc
            unfold exV strV at hc
            have HCK := Lib.hid hc
            have HBX := Lib.hid hbw
            clear hc hck hwy hfx hKw hK hcell hbw HE0 HB3
            cases x <;> cases y
            all_goals
              go_wp2_with fail
              refine HCK.out.mono ?_
              rintro r W5 ⟨rfl, hb5⟩
              have hb6 := HBX.out.seq hb5
              clear hb5 HCK e0 e1 e2 e3
              go_wp2_with fail
              refine (HA.out _ hb6).mono ?_
              rintro r W6 ⟨rfl, hb7⟩
              have hb8 := hb6.seq hb7
              go_wp2
              go_ret
              exact ⟨rfl, hb8⟩
end Go.Proofs.YtdgcgogeidnmoaaDoor
