/- The walks of palaverref07.With, Names: which names an expression has. Conditions: there are not too many of them; the expression may be. -/
import Derived.Test.YtilmmgkclijhjaaGreatDoorTY
import Derived.Test.YtilmmgkclijhjaaGreatDoorNP
set_option linter.unusedSimpArgs false
set_option linter.unusedVariables false
set_option linter.unusedSectionVars false
namespace Go.Proofs.YtilmmgkclijhjaaGreatDoor
open Go.RowKit Pal
set_option maxRecDepth 1000000 in
set_option maxHeartbeats 8000000 in
theorem with_any (l : List Bs) (s : Bs) (lv : Value) (w : World) (hL : NmV (gh w) lv l) (hl : l.length ≤ 1000) :
    Calls Tryz.prog 15 #[lv, strV s] w (namePost (withM l s) w) := by
  obtain ⟨i0, hi, hz0, hz1, hz2⟩ := info_parts infoS
  obtain ⟨R, hR⟩ : ∃ R, withM l s = R := ⟨_, rfl⟩
  rw [hR]
  unfold withM at hR
  obtain ⟨K, hK⟩ : ∃ K, lead s l = K := ⟨_, rfl⟩
  have hKl := lead_le s l
  rw [hK] at hR hKl
  have HR := Lib.hid hR
  have HLN := Lib.hid hL
  unfold strV
  rcases hL with ⟨rfl, rfl⟩ | ⟨hne, b, cap, rfl, hcap, hcm, hx⟩
  · have hR2 : R = [s] := by
      rw [← hR]; simp
    have HR2 := Lib.hid hR2
    clear hR hR2 HR hK hKl hl
    go_enter Tryz.func15, Tryz.ntmps15
    go_wp2
    go_loopg [5] 0 (fun g i wr => i = .int .i64 0 ∧ wr = w)
    case atStart => exact ⟨rfl, rfl⟩
    case round =>
      obtain ⟨rfl, rfl⟩ := hrel
      go_wp2_with (at_builtin; refine wpList_append_src rfl _ _ 25 rfl 9 i0 _ 1 16 Tryz.underlying25 hi hz0 hz1 hz2 rfl (by decide) rfl (rowT0 wr 9 1) none 0 0 (cellsS []) rfl (fun _ => ⟨rfl, rfl⟩) rfl (fun j u h => by simp [cellsS] at h) (cellsS_one []) (by unfold maxLen; omega) (by omega) ?_)
      intro v1 t1 w1 hr1 he1
      obtain ⟨⟨t2, hc1⟩, hb1⟩ := (RwIn.start wr.heap.size wr 9 1).app (Nat.le_refl _) hr1 he1
      have HB1 := Lib.hid (hb1 wr (Below.refl _ _))
      obtain ⟨a1, k1, rfl⟩ := hc1.row.form
      have hrow := hc1.row
      have HC1 := Lib.hid hc1
      have hs1 := HB1.out.size
      clear hr1 he1 hc1 hb1
      go_wp2_with (at_builtin; refine wpList_append_one rfl _ _ 25 rfl 9 i0 _ 1 16 Tryz.underlying25 hi hz0 hz1 hz2 rfl (by decide) rfl hrow #[.string ⟨s.toArray⟩] 9 (0,0) _ rfl ?c0 rfl ?c1 ?c2 ?c3 ?_)
      case c0 => simp
      case c1 => first | rfl | (intro u hu; obtain rfl := List.mem_singleton.1 hu; rfl)
      case c2 => unfold maxLen; omega
      case c3 => omega
      intro v2 t3 w2 hr2 he2
      obtain ⟨⟨t4, hc2⟩, hb2⟩ := HC1.out.app hs1 hr2 he2
      have HB2 := Lib.hid (hb2 wr HB1.out)
      obtain ⟨a2, k2, rfl⟩ := hc2.row.form
      have hrow2 := hc2.row
      have HC2 := Lib.hid hc2
      have hs2 := HB2.out.size
      clear hr2 he2 hc2 hb2 hrow
      go_wp2_with (at_builtin; refine wpList_append_src rfl _ _ 25 rfl 9 i0 _ 1 16 Tryz.underlying25 hi hz0 hz1 hz2 rfl (by decide) rfl hrow2 none 0 0 (cellsS []) rfl (fun _ => ⟨rfl, rfl⟩) rfl (fun j u h => by simp [cellsS] at h) (cellsS_one []) (by unfold maxLen; omega) (by omega) ?_)
      intro v3 t5 w3 hr3 he3
      obtain ⟨-, hb3⟩ := HC2.out.app hs2 hr3 he3
      have hr4 : Row t5 1 w3 9 1 v3 1 (cellsS [s]) := hr3
      have hp4 := NmV.ofRow hr4 (by simp)
      rw [← HR2.out] at hp4
      have HP : Hid (namePost R wr (.returned v3) w3) := Lib.hid ⟨hb3 wr HB2.out, v3, rfl, hp4⟩
      clear hr3 he3 hb3
      go_wp2
      go_ret
      exact HP.out
  · have HX := Lib.hid hx
    have hkc : cap ≤ 9223372036854775807 := by unfold maxLen at hcm; exact hcm
    obtain ⟨n, hn⟩ : ∃ n, l.length = n := ⟨_, rfl⟩
    have HLEN := Lib.hid hn
    have hn0 : 0 < n := by rw [← hn]; exact List.length_pos_iff.2 hne
    rw [hn] at hcap hKl hl ⊢
    have HKK := Lib.hid hK
    have HLT : Hid (b < w.heap.size) := Lib.hid (by
      have h0 := hx 0 l[0] (List.getElem?_eq_getElem (by omega))
      rw [gh_cell] at h0
      exact World.block_lt_of_cell? w _ h0)
    clear hx hcm hn hK hne hR
    go_enter Tryz.func15, Tryz.ntmps15
    go_wp2
    go_loopg [5] n (fun g i wr => ∃ k : Nat, i = .int .i64 k ∧ k + g = n ∧ wr = w ∧ Hid (k + lead s (l.drop k) = K))
    case atStart => exact ⟨0, rfl, by omega, rfl, Lib.hid (by rw [List.drop_zero, Nat.zero_add]; exact HKK.out)⟩
    case round =>
      obtain ⟨k, rfl, hg, rfl, HC⟩ := hrel
      by_cases hlt : k < n
      · have hkl : k < l.length := by have := HLEN.out; omega
        have hc0 := HX.out k l[k] (List.getElem?_eq_getElem hkl)
        rw [gh_cell] at hc0
        have hc := HC.out
        rw [List.drop_eq_getElem_cons hkl] at hc
        unfold lead at hc
        have hge := List.getElem?_eq_getElem hkl
        have HGE := Lib.hid hge
        unfold strV at hc0
        have hp1 : (⟨(l[k]).toArray⟩ : ByteArray) = ⟨(l[k]).toArray⟩ := rfl
        clear hge hp1
        generalize l[k] = y at *
        cases hly : Op.bytesLess y s with
        | true =>
          rw [if_pos hly] at hc
          have HC2 : Hid (k + 1 + lead s (l.drop (k + 1)) = K) := Lib.hid (by omega)
          clear hc HC
          go_wp2
          go_roundg (gk - 1)
          case rel => exact ⟨k + 1, by go_num, by omega, rfl, HC2⟩
          case measure => omega
        | false =>
          rw [if_neg (by rw [hly]; decide)] at hc
          have hKk : k = K := by omega
          subst hKk
          by_cases hys : y = s
          · have HE : Hid (l = R) := Lib.hid (by rw [← HR.out, if_pos (by rw [HGE.out, hys])])
            have q : (y == s) = true := by simp [hys]
            have HP : Hid (namePost R wr (.returned (.slice (some ⟨b, 0, none⟩) n cap)) wr) := Lib.hid ⟨Below.refl _ _, _, rfl, by rw [← HE.out, ← HLEN.out]; exact HLN.out⟩
            clear hc HC hys HKK
            go_wp2
            go_ret
            exact HP.out
          · have q : (y == s) = false := beq_eq_false_iff_ne.2 hys
            have HE : Hid (R = l.take k ++ s :: l.drop k) := Lib.hid (by rw [← HR.out, if_neg (fun h => by rw [HGE.out] at h; exact hys (Option.some.inj h))])
            have n4 : ¬ cap = k := by omega
            have b1 : k ≤ cap := by omega
            have b2 : ¬ cap < k := by omega
            have b3 : ¬ n < k := by omega
            have b4 : k ≤ n := by omega
            clear hc HC hys HKK HGE
            go_wp2_with (at_builtin; refine wpList_append_src rfl _ _ 25 rfl 9 i0 _ 1 16 Tryz.underlying25 hi hz0 hz1 hz2 rfl (by decide) rfl (rowT0 wr 9 1) (some ⟨b, 0, none⟩) _ _ (cellsS (l.take k)) rfl (fun h => by cases h) ?cl ?cn (cellsS_one _) ?c2 ?c3 ?_)
            case cl => rw [cellsS_len, List.length_take]; have := HLEN.out; omega
            case cn =>
              intro j u hj
              refine ⟨_, rfl, ?_⟩
              rw [cellsS_map, List.getElem?_map] at hj
              obtain ⟨x, hx, rfl⟩ := Option.map_eq_some_iff.1 hj
              rw [Go.WideShapes.add_plain, Nat.zero_add, ← gh_cell]
              rw [List.getElem?_take] at hx
              split at hx
              · exact HX.out j x hx
              · cases hx
            case c2 => unfold maxLen; omega
            case c3 => omega
            intro v1 t1 w1 hr1 he1
            obtain ⟨⟨t2, hc1⟩, hb1⟩ := (RwIn.start wr.heap.size wr 9 1).app (Nat.le_refl _) hr1 he1
            have HB1 := Lib.hid (hb1 wr (Below.refl _ _))
            obtain ⟨a1, k1, rfl⟩ := hc1.row.form
            have hrow := hc1.row
            have HC1 := Lib.hid hc1
            have hs1 := HB1.out.size
            clear hr1 he1 hc1 hb1
            go_wp2_with (at_builtin; refine wpList_append_one rfl _ _ 25 rfl 9 i0 _ 1 16 Tryz.underlying25 hi hz0 hz1 hz2 rfl (by decide) rfl hrow #[.string ⟨s.toArray⟩] 9 (0,0) _ rfl ?c0 rfl ?c1 ?c2 ?c3 ?_)
            case c0 => simp
            case c1 => first | rfl | (intro u hu; obtain rfl := List.mem_singleton.1 hu; rfl)
            case c2 => unfold maxLen; omega
            case c3 => omega
            intro v2 t3 w2 hr2 he2
            obtain ⟨⟨t4, hc2⟩, hb2⟩ := HC1.out.app hs1 hr2 he2
            have HB2 := Lib.hid (hb2 wr HB1.out)
            obtain ⟨a2, k2, rfl⟩ := hc2.row.form
            have hrow2 := hc2.row
            have HC2 := Lib.hid hc2
            have hs2 := HB2.out.size
            clear hr2 he2 hc2 hb2 hrow
            go_wp2_with (at_builtin; refine wpList_append_src rfl _ _ 25 rfl 9 i0 _ 1 16 Tryz.underlying25 hi hz0 hz1 hz2 rfl (by decide) rfl hrow2 (some ⟨b, k, none⟩) _ _ (cellsS (l.drop k)) rfl (fun h => by cases h) ?cl ?cn (cellsS_one _) ?c2 ?c3 ?_)
            case cl => rw [cellsS_len, List.length_drop]; have := HLEN.out; omega
            case cn =>
              intro j u hj
              refine ⟨_, rfl, ?_⟩
              rw [cellsS_map, List.getElem?_map] at hj
              obtain ⟨x, hx, rfl⟩ := Option.map_eq_some_iff.1 hj
              rw [List.getElem?_drop] at hx
              rw [Go.WideShapes.add_plain, (HB2.out.cell (p := ⟨b, k + j, none⟩) HLT.out), ← gh_cell]
              exact HX.out _ x hx
            case c2 => unfold maxLen; omega
            case c3 => omega
            intro v3 t5 w3 hr3 he3
            obtain ⟨-, hb3⟩ := HC2.out.app hs2 hr3 he3
            have hcs : cellsS (l.take k) ++ Value.string ⟨s.toArray⟩ :: cellsS (l.drop k) = cellsS (l.take k ++ s :: l.drop k) := by rw [cellsS_app]; rfl
            rw [hcs] at hr3
            have hp4 := NmV.ofRow hr3 (by simp)
            rw [← HE.out] at hp4
            have HP : Hid (namePost R wr (.returned v3) w3) := Lib.hid ⟨hb3 wr HB2.out, v3, rfl, hp4⟩
            clear hp4 hcs
            clear hr3 he3 hb3
            go_wp2
            go_ret
            exact HP.out
      · obtain rfl : k = n := by omega
        have hd0 : l.drop k = [] := List.drop_eq_nil_of_le (by have := HLEN.out; omega)
        have hc := HC.out
        rw [hd0] at hc
        have hKk : k = K := by unfold lead at hc; omega
        subst hKk
        have HE : Hid (R = l.take k ++ s :: l.drop k) := Lib.hid (by rw [← HR.out, if_neg (fun h => by rw [List.getElem?_eq_none (by have := HLEN.out; omega)] at h; cases h)])
        have b1 : k ≤ cap := by omega
        have b2 : ¬ cap < k := by omega
        clear hc HC hd0 HKK
        by_cases n4 : cap = k
        · subst n4
          go_wp2_with (at_builtin; refine wpList_append_src rfl _ _ 25 rfl 9 i0 _ 1 16 Tryz.underlying25 hi hz0 hz1 hz2 rfl (by decide) rfl (rowT0 wr 9 1) (some ⟨b, 0, none⟩) _ _ (cellsS (l.take cap)) rfl (fun h => by cases h) ?cl ?cn (cellsS_one _) ?c2 ?c3 ?_)
          case cl => rw [cellsS_len, List.length_take]; have := HLEN.out; omega
          case cn =>
            intro j u hj
            refine ⟨_, rfl, ?_⟩
            rw [cellsS_map, List.getElem?_map] at hj
            obtain ⟨x, hx, rfl⟩ := Option.map_eq_some_iff.1 hj
            rw [Go.WideShapes.add_plain, Nat.zero_add, ← gh_cell]
            rw [List.getElem?_take] at hx
            split at hx
            · exact HX.out j x hx
            · cases hx
          case c2 => unfold maxLen; omega
          case c3 => omega
          intro v1 t1 w1 hr1 he1
          obtain ⟨⟨t2, hc1⟩, hb1⟩ := (RwIn.start wr.heap.size wr 9 1).app (Nat.le_refl _) hr1 he1
          have HB1 := Lib.hid (hb1 wr (Below.refl _ _))
          obtain ⟨a1, k1, rfl⟩ := hc1.row.form
          have hrow := hc1.row
          have HC1 := Lib.hid hc1
          have hs1 := HB1.out.size
          clear hr1 he1 hc1 hb1
          go_wp2_with (at_builtin; refine wpList_append_one rfl _ _ 25 rfl 9 i0 _ 1 16 Tryz.underlying25 hi hz0 hz1 hz2 rfl (by decide) rfl hrow #[.string ⟨s.toArray⟩] 9 (0,0) _ rfl ?c0 rfl ?c1 ?c2 ?c3 ?_)
          case c0 => simp
          case c1 => first | rfl | (intro u hu; obtain rfl := List.mem_singleton.1 hu; rfl)
          case c2 => unfold maxLen; omega
          case c3 => omega
          intro v2 t3 w2 hr2 he2
          obtain ⟨⟨t4, hc2⟩, hb2⟩ := HC1.out.app hs1 hr2 he2
          have HB2 := Lib.hid (hb2 wr HB1.out)
          obtain ⟨a2, k2, rfl⟩ := hc2.row.form
          have hrow2 := hc2.row
          have HC2 := Lib.hid hc2
          have hs2 := HB2.out.size
          clear hr2 he2 hc2 hb2 hrow
          go_wp2_with (at_builtin; refine wpList_append_src rfl _ _ 25 rfl 9 i0 _ 1 16 Tryz.underlying25 hi hz0 hz1 hz2 rfl (by decide) rfl hrow2 (some ⟨b, 0, none⟩) _ _ (cellsS (l.drop cap)) rfl (fun h => by cases h) ?cl ?cn (cellsS_one _) ?c2 ?c3 ?_)
          case cl => rw [cellsS_len, List.length_drop]; have := HLEN.out; omega
          case cn =>
            intro j u hj
            refine ⟨_, rfl, ?_⟩
            rw [cellsS_map, List.getElem?_map] at hj
            obtain ⟨x, hx, rfl⟩ := Option.map_eq_some_iff.1 hj
            rw [List.getElem?_drop] at hx
            exfalso
            have hjl := (List.getElem?_eq_some_iff.1 hx).1
            have := HLEN.out
            omega
          case c2 => unfold maxLen; omega
          case c3 => omega
          intro v3 t5 w3 hr3 he3
          obtain ⟨-, hb3⟩ := HC2.out.app hs2 hr3 he3
          have hcs : cellsS (l.take cap) ++ Value.string ⟨s.toArray⟩ :: cellsS (l.drop cap) = cellsS (l.take cap ++ s :: l.drop cap) := by rw [cellsS_app]; rfl
          rw [hcs] at hr3
          have hp4 := NmV.ofRow hr3 (by simp)
          rw [← HE.out] at hp4
          have HP : Hid (namePost R wr (.returned v3) w3) := Lib.hid ⟨hb3 wr HB2.out, v3, rfl, hp4⟩
          clear hp4 hcs
          clear hr3 he3 hb3
          go_wp2
          go_ret
          exact HP.out
        · skip
          go_wp2_with (at_builtin; refine wpList_append_src rfl _ _ 25 rfl 9 i0 _ 1 16 Tryz.underlying25 hi hz0 hz1 hz2 rfl (by decide) rfl (rowT0 wr 9 1) (some ⟨b, 0, none⟩) _ _ (cellsS (l.take k)) rfl (fun h => by cases h) ?cl ?cn (cellsS_one _) ?c2 ?c3 ?_)
          case cl => rw [cellsS_len, List.length_take]; have := HLEN.out; omega
          case cn =>
            intro j u hj
            refine ⟨_, rfl, ?_⟩
            rw [cellsS_map, List.getElem?_map] at hj
            obtain ⟨x, hx, rfl⟩ := Option.map_eq_some_iff.1 hj
            rw [Go.WideShapes.add_plain, Nat.zero_add, ← gh_cell]
            rw [List.getElem?_take] at hx
            split at hx
            · exact HX.out j x hx
            · cases hx
          case c2 => unfold maxLen; omega
          case c3 => omega
          intro v1 t1 w1 hr1 he1
          obtain ⟨⟨t2, hc1⟩, hb1⟩ := (RwIn.start wr.heap.size wr 9 1).app (Nat.le_refl _) hr1 he1
          have HB1 := Lib.hid (hb1 wr (Below.refl _ _))
          obtain ⟨a1, k1, rfl⟩ := hc1.row.form
          have hrow := hc1.row
          have HC1 := Lib.hid hc1
          have hs1 := HB1.out.size
          clear hr1 he1 hc1 hb1
          go_wp2_with (at_builtin; refine wpList_append_one rfl _ _ 25 rfl 9 i0 _ 1 16 Tryz.underlying25 hi hz0 hz1 hz2 rfl (by decide) rfl hrow #[.string ⟨s.toArray⟩] 9 (0,0) _ rfl ?c0 rfl ?c1 ?c2 ?c3 ?_)
          case c0 => simp
          case c1 => first | rfl | (intro u hu; obtain rfl := List.mem_singleton.1 hu; rfl)
          case c2 => unfold maxLen; omega
          case c3 => omega
          intro v2 t3 w2 hr2 he2
          obtain ⟨⟨t4, hc2⟩, hb2⟩ := HC1.out.app hs1 hr2 he2
          have HB2 := Lib.hid (hb2 wr HB1.out)
          obtain ⟨a2, k2, rfl⟩ := hc2.row.form
          have hrow2 := hc2.row
          have HC2 := Lib.hid hc2
          have hs2 := HB2.out.size
          clear hr2 he2 hc2 hb2 hrow
          go_wp2_with (at_builtin; refine wpList_append_src rfl _ _ 25 rfl 9 i0 _ 1 16 Tryz.underlying25 hi hz0 hz1 hz2 rfl (by decide) rfl hrow2 (some ⟨b, k, none⟩) _ _ (cellsS (l.drop k)) rfl (fun h => by cases h) ?cl ?cn (cellsS_one _) ?c2 ?c3 ?_)
          case cl => rw [cellsS_len, List.length_drop]; have := HLEN.out; omega
          case cn =>
            intro j u hj
            refine ⟨_, rfl, ?_⟩
            rw [cellsS_map, List.getElem?_map] at hj
            obtain ⟨x, hx, rfl⟩ := Option.map_eq_some_iff.1 hj
            rw [List.getElem?_drop] at hx
            rw [Go.WideShapes.add_plain, (HB2.out.cell (p := ⟨b, k + j, none⟩) HLT.out), ← gh_cell]
            exact HX.out _ x hx
          case c2 => unfold maxLen; omega
          case c3 => omega
          intro v3 t5 w3 hr3 he3
          obtain ⟨-, hb3⟩ := HC2.out.app hs2 hr3 he3
          have hcs : cellsS (l.take k) ++ Value.string ⟨s.toArray⟩ :: cellsS (l.drop k) = cellsS (l.take k ++ s :: l.drop k) := by rw [cellsS_app]; rfl
          rw [hcs] at hr3
          have hp4 := NmV.ofRow hr3 (by simp)
          rw [← HE.out] at hp4
          have HP : Hid (namePost R wr (.returned v3) w3) := Lib.hid ⟨hb3 wr HB2.out, v3, rfl, hp4⟩
          clear hp4 hcs
          clear hr3 he3 hb3
          go_wp2
          go_ret
          exact HP.out
theorem NmV.one {w : World} {b : Nat} {s : Bs} {T : TypeId} (h : w.heap[b]? = some (.cells #[.string ⟨s.toArray⟩] T (0, 0))) : NmV (gh w) (.slice (some ⟨b, 0, none⟩) 1 1) [s] := by
  refine .inr ⟨by simp, b, 1, rfl, Nat.le_refl _, by simp [maxLen], fun j x hj => ?_⟩
  match j, hj with
  | 0, hj => simp at hj; subst hj; rw [gh_cell]; simp [World.cell?, h, strV]
set_option maxRecDepth 1000000 in
set_option maxHeartbeats 8000000 in
theorem names_any (e : Ex) : ∀ (v : Value) (w : World) (deep left m : Nat), chk e deep left = some m → left ≤ 128 → KV (gh w) v e.ks →
    Calls Tryz.prog 8 #[exV e.op e.n e.s v] w (namePost (namesM e) w) := by
  refine Ex.ind (P := fun e => ∀ (v : Value) (w : World) (deep left m : Nat), chk e deep left = some m → left ≤ 128 → KV (gh w) v e.ks →
    Calls Tryz.prog 8 #[exV e.op e.n e.s v] w (namePost (namesM e) w)) ?_ e
  intro op n s ks ih v w deep left m hc hl hK
  simp only [Ex.op, Ex.n, Ex.s, Ex.ks] at hK ⊢
  have hfew := names_few _ _ _ _ hc
  obtain ⟨a, cap, rfl⟩ := hK.form
  have hkc := hK.cap
  have K0 := Lib.hid ((Kept.start w).new (.cells #[.int .i64 op, .int .i64 n, .string ⟨s.toArray⟩, .slice a ks.length cap] 24))
  obtain ⟨R, hR⟩ : ∃ R, namesM (.mk op n s ks) = R := ⟨_, rfl⟩
  rw [hR] at hfew ⊢
  have hch : chkL ks (deep + 1) (left - 1) = some m := by
    by_cases hb : left = 0 ∨ 24 < deep ∨ alone op n s ks = false
    · rw [chk_no hb] at hc; cases hc
    · rw [chk_yes hb] at hc; exact hc
  obtain ⟨len, hlen⟩ : ∃ len, ks.length = len := ⟨_, rfl⟩
  have HLEN := Lib.hid hlen
  have HK := Lib.hid hK
  have HI := Lib.hid ih
  have HCH := Lib.hid hch
  rw [hlen] at K0 hkc HK
  unfold exV strV
  rw [hlen]
  by_cases h4 : op = 4
  · subst h4
    have HR : Hid (R = [s]) := Lib.hid (by rw [← hR]; exact namesM_name)
    have HB : Hid (∀ W, Kept w W ((w.heap.size + 1, .cells #[.string ⟨s.toArray⟩] 9) :: []) → namePost [s] w (.returned (.slice (some ⟨w.heap.size + 1, 0, none⟩) 1 1)) W) := Lib.hid (fun W h => ⟨h.below, _, rfl, NmV.one h.at0⟩)
    have K1 := Lib.hid (((Kept.start w).new2 (.cells #[.int .i64 4, .int .i64 n, .string ⟨s.toArray⟩, .slice a len cap] 24) (.cells #[.string ⟨s.toArray⟩] 9)))
    have HP : Hid (namePost R w (.returned (.slice (some ⟨w.heap.size + 1, 0, none⟩) 1 1)) ((w.alloc (.cells #[.int .i64 4, .int .i64 n, .string ⟨s.toArray⟩, .slice a len cap] 24)).alloc (.cells #[.string ⟨s.toArray⟩] 9))) := Lib.hid (by
      rw [HR.out]
      exact ⟨K1.out.below, _, rfl, NmV.one K1.out.at0⟩)
    clear hR hK ih hch hc hlen hfew HB K1
    go_enter Tryz.func8, Tryz.ntmps8
    go_wp2
    go_ret
    exact HP.out
  · have q4 : (op == 4) = false := beq_eq_false_iff_ne.2 h4
    have HR : Hid (namesL ks [] = R) := Lib.hid (by rw [← hR, namesM_kids h4])
    have hR128 : R.length ≤ 128 := by omega
    have hleft : left - 1 ≤ 128 := by omega
    clear hR hK ih hch hc hlen hfew h4
    go_enter Tryz.func8, Tryz.ntmps8
    go_upto_region 2 with fail
    generalize w.alloc (.cells #[.int .i64 op, .int .i64 n, .string ⟨s.toArray⟩, .slice a len cap] 24) = w1 at *
    obtain ⟨⟨e0, e1, e2, e3⟩, -⟩ := four_all K0.out.at0
    go_wp2
    clear e0 e1 e2 e3
    go_loopg [3, 4] len (fun g l i wr => ∃ (k : Nat) (acc : List Bs) (lf : Nat), i = .int .i64 k ∧ k + g = len ∧ Hid (NmV (gh wr) l acc) ∧ Hid (namesL (ks.drop k) acc = R) ∧ Hid (chkL (ks.drop k) (deep + 1) lf = some m ∧ lf ≤ 128) ∧ Hid (Kept w wr ((w.heap.size, .cells #[.int .i64 op, .int .i64 n, .string ⟨s.toArray⟩, .slice a len cap] 24) :: [])))
    case atStart => exact ⟨0, [], left - 1, rfl, by omega, Lib.hid (.inl ⟨rfl, rfl⟩), Lib.hid (by rw [List.drop_zero]; exact HR.out), Lib.hid ⟨by rw [List.drop_zero]; exact HCH.out, hleft⟩, K0⟩
    case round =>
      obtain ⟨k, acc, lf, rfl, hg, HN, HX, HCL, KR⟩ := hrel
      obtain ⟨⟨e0, e1, e2, e3⟩, -⟩ := four_all KR.out.at0
      by_cases hlt : k < len
      · obtain ⟨G, rfl⟩ : ∃ G, gk = G + 1 := ⟨gk - 1, by omega⟩
        have hkl : k < ks.length := by have := HLEN.out; omega
        obtain ⟨bb, off, u, rfl, d0, d1, d2, d3, hKu⟩ := (HK.out.keep KR.out.below).at (List.getElem?_eq_getElem hkl)
        obtain ⟨ua, uc, rfl⟩ := hKu.form
        have hdr : ks.drop k = ks[k] :: ks.drop (k + 1) := List.drop_eq_getElem_cons hkl
        have hmem : ks[k] ∈ ks := List.getElem_mem hkl
        have hcl := HCL.out
        rw [hdr, chkL_cons] at hcl
        have hxx := HX.out
        rw [hdr, namesL_cons] at hxx
        have hcy : ∃ x, chk ks[k] (deep + 1) lf = some x ∧ chkL (ks.drop (k + 1)) (deep + 1) x = some m := by
          cases h : chk ks[k] (deep + 1) lf with
          | none => rw [h] at hcl; cases hcl.1
          | some x => rw [h] at hcl; exact ⟨x, rfl, hcl.1⟩
        obtain ⟨x, hcx, hcr⟩ := hcy
        have hx128 : x ≤ 128 := by have := names_few _ _ _ _ hcx; have := hcl.2; omega
        have HCR : Hid (chkL (ks.drop (k + 1)) (deep + 1) x = some m ∧ x ≤ 128) := Lib.hid ⟨hcr, hx128⟩
        have hlx := HI.out ks[k] hmem (.slice ua ks[k].ks.length uc) wr (deep + 1) lf x hcx hcl.2 hKu
        unfold exV strV at hlx
        unfold strV at d2
        have HLX := Lib.hid hlx
        have HXX := Lib.hid hxx
        clear hKu hlx hdr hmem hcl hxx hcx hcr hx128 HX HCL
        generalize ks[k] = y at *
        obtain ⟨ms, hms⟩ : ∃ ms, namesM y = ms := ⟨_, rfl⟩
        rw [hms] at HLX HXX
        obtain ⟨A, hA⟩ : ∃ A, ms.foldl withM acc = A := ⟨_, rfl⟩
        rw [hA] at HXX
        have HA := Lib.hid hA
        have hA128 : A.length ≤ 128 := by have := namesL_len (ks.drop (k + 1)) A; rw [HXX.out] at this; omega
        clear hms hA
        unfold namePost at HLX
        go_wp2_with fail
        refine HLX.out.mono ?_
        rintro r W3 ⟨hb3, v3, rfl, hv3⟩
        have K3 := Lib.hid (KR.out.call hb3)
        have HN3 := Lib.hid (HN.out.mono (below_gh hb3))
        have HV3 := Lib.hid hv3
        obtain ⟨xa, xc, rfl⟩ := hv3.strs.form
        obtain ⟨ml, hml⟩ : ∃ n, ms.length = n := ⟨_, rfl⟩
        rw [hml] at HV3 ⊢
        have HML := Lib.hid hml
        have hml2 : ml ≤ 9223372036854775807 := by have := hv3.strs.len; omega
        clear hml
        clear hb3 hv3 d0 d1 d2 d3 e0 e1 e2 e3
        go_wp2
        go_loopg [3, 6] ml (fun g2 l i wr2 => ∃ (j : Nat) (acc2 : List Bs), i = .int .i64 j ∧ j + g2 = ml ∧ Hid (NmV (gh wr2) l acc2) ∧ Hid ((ms.drop j).foldl withM acc2 = A) ∧ Hid (Kept W3 wr2 []))
        case atStart => exact ⟨0, acc, rfl, by omega, HN3, Lib.hid (by rw [List.drop_zero]; exact HA.out), Lib.hid (Kept.start _)⟩
        case round =>
          obtain ⟨j, acc2, rfl, hg2, HN2, HA2, KJ⟩ := hrel
          by_cases hlt3 : j < ml
          · have hlt2 : j < ms.length := by have := HML.out; omega
            obtain ⟨b5, o5, rfl, c0⟩ := (HV3.out.strs.mono (below_gh KJ.out.below)).at (List.getElem?_eq_getElem hlt2)
            have ha2 := HA2.out
            rw [List.drop_eq_getElem_cons hlt2, List.foldl_cons] at ha2
            unfold strV at c0
            generalize ms[j] = z at *
            have hl2 : acc2.length ≤ 1000 := by
              have h1 := (fold_with_len (ms.drop (j + 1)) (withM acc2 z)).1
              have h2 := (withM_len acc2 z).1
              rw [ha2] at h1
              omega
            have HWI := Lib.hid (with_any acc2 z _ _ HN2.out hl2)
            have HA3 := Lib.hid ha2
            unfold namePost strV at HWI
            clear ha2 hl2 HA2
            go_wp2_with fail
            refine HWI.out.mono ?_
            rintro r W4 ⟨hb4, v4, rfl, hv4⟩
            have K4 := Lib.hid (KJ.out.call hb4)
            have HV4 := Lib.hid hv4
            clear hb4 hv4 c0
            go_wp2
            go_roundg (gk - 1)
            case rel => exact ⟨j + 1, _, by go_num, by omega, HV4, HA3, K4⟩
            case measure => omega
          · have HE : Hid (acc2 = A) := Lib.hid (by rw [← HA2.out, List.drop_eq_nil_of_le (by have := HML.out; omega)]; rfl)
            have KF := Lib.hid (K3.out.call KJ.out.below)
            have HXX2 : Hid (namesL (ks.drop (k + 1)) acc2 = R) := Lib.hid (by rw [HE.out]; exact HXX.out)
            clear HA2
            go_wp2
            go_roundg G
            case rel => exact ⟨k + 1, acc2, x, by go_num, by omega, HN2, HXX2, HCR, KF⟩
            case measure => omega
      · have HE : Hid (acc = R) := Lib.hid (by rw [← HX.out, List.drop_eq_nil_of_le (by have := HLEN.out; omega), namesL_nil])
        clear HX
        go_wp2
        go_ret
        exact ⟨KR.out.below, _, rfl, by rw [← HE.out]; exact HN.out⟩
set_option maxRecDepth 1000000 in
theorem names_of (e : Ex) (v : Value) (w : World) (hc : check e = true) (hE : EV (gh w) v e) : Calls Tryz.prog 8 #[v] w (namePost (namesM e) w) := by
  obtain ⟨kv, rfl, hK⟩ := hE
  unfold check at hc
  obtain ⟨m, hm⟩ := Option.isSome_iff_exists.1 hc
  exact names_any e kv w 1 128 m hm (Nat.le_refl _) hK
end Go.Proofs.YtilmmgkclijhjaaGreatDoor
