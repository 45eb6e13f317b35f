/- The walks of the functions that make slices: Ints, list, Lists. -/
import Derived.Test.YtoaomedlgmnopaaW1
import Derived.Test.YtoaomedlgmnopaaM1
namespace Go.Proofs.Ytoaomedlgmnopaa
open Go.RowKit Pal Pal.Graph

def fil (n : Int) (xs : List Int) (k : Nat) : List Int := (xs.take k).filter fun k => decide (0 ≤ k) && decide (k < n)
theorem fil_le (n : Int) (xs : List Int) (k : Nat) : (fil n xs k).length ≤ k := Nat.le_trans (List.length_filter_le _ _) (List.length_take_le _ _)
theorem fil_hit {n : Int} {xs : List Int} {k : Nat} {x : Int} (hx : xs[k]? = some x) (h : 0 ≤ x ∧ x < n) : fil n xs (k + 1) = fil n xs k ++ [x] := by
  simp [fil, List.take_add_one, hx, List.filter_append, h]
theorem fil_miss {n : Int} {xs : List Int} {k : Nat} {x : Int} (hx : xs[k]? = some x) (h : ¬ (0 ≤ x ∧ x < n)) : fil n xs (k + 1) = fil n xs k := by
  simp [fil, List.take_add_one, hx, List.filter_append]
  simpa using h

theorem info_parts3 : ∃ i0, Try.prog.info? 3 = some i0 ∧ i0.zero = some (.int .i64 0) ∧ i0.size = 1 ∧ i0.bytes = 8 := info_parts Try.info3
theorem info_parts26 : ∃ i0, Try.prog.info? 26 = some i0 ∧ i0.zero = some (.slice none 0 0) ∧ i0.size = 1 ∧ i0.bytes = 24 := info_parts Try.info26

set_option maxHeartbeats 400000 in
theorem ints_any (h : GH) (v : Value) (xs : List Int) (w : World) (hw : h.le (gh w)) (hx : IntsV h v xs) :
    Calls Try.prog 18 #[v] w fun e w' => ∃ v', e = .returned v' ∧ w'.ownsRow w.heap.size 3 1 v' xs.length (xs.map (Value.int .i64)) ∧ Below w.heap.size w w' := by
  obtain ⟨a, ca, rfl, hn, hl, hc⟩ := hx
  obtain ⟨i0, hi, hz0, hz1, hz2⟩ := info_parts3
  cases a with
  | none =>
    obtain ⟨rfl, rfl⟩ := hn rfl
    go_enter Try.func18, Try.ntmps18
    go_wp2_with (at_builtin; refine wpList_append_own_none rfl _ _ 26 rfl 0 3 i0 1 Try.underlying26 hi _ _ _ rfl (World.ownsRow_nil _ _ _ _) rfl ?_)
    go_ret
    exact ⟨_, rfl, World.ownsRow_nil _ _ _ _, Below.refl _ _⟩
  | some ad =>
    go_enter Try.func18, Try.ntmps18
    go_wp2_with (at_builtin; refine wpList_append_row rfl _ _ 26 rfl 3 i0 (.int .i64 0) 1 8 Try.underlying26 hi hz0 hz1 hz2 rfl (by decide) rfl (Row.nil T0 1 w 3 1) ad xs.length ca (xs.map (Value.int .i64)) rfl ?c1 ?c2 ?c3 ?c4 ?c5 ?_)
    case c1 => simp
    case c2 =>
      intro j u hj
      simp only [List.getElem?_map, Option.map_eq_some_iff] at hj
      obtain ⟨x, hx, rfl⟩ := hj
      obtain ⟨b, off, he, hcc⟩ := hc j x hx
      cases he
      have : (⟨b, off, none⟩ : Addr).add j = ⟨b, off + j, none⟩ := by unfold Addr.add; split <;> simp_all
      rw [this]; exact hw.at hcc
    case c3 => intro u hu; simp at hu; obtain ⟨x, _, rfl⟩ := hu; rfl
    case c4 => unfold maxLen; omega
    case c5 => omega
    intro v' t' w' hr he _
    go_wp2
    go_ret
    refine ⟨_, rfl, ?_, he.toBelow (by simp)⟩
    have := hr.toOwn he (by simp)
    simpa using this

set_option maxHeartbeats 400000 in
theorem list_any (h : GH) (n : Int) (v : Value) (xss : List (List Int)) (i : Nat) (w : World) (hw : h.le (gh w)) (hx : RowsV h v xss) :
    Calls Try.prog 24 #[.int .i64 n, v, .int .i64 i] w fun e w' => ∃ v', e = .returned v' ∧ w'.ownsRow w.heap.size 3 1 v' (lst n xss i).length ((lst n xss i).map (Value.int .i64)) ∧ Below w.heap.size w w' := by
  obtain ⟨a, ca, rfl, _, hl, hc⟩ := hx
  obtain ⟨i0, hi, hz0, hz1, hz2⟩ := info_parts3
  by_cases hlt : i < xss.length
  · obtain ⟨xs, hxs⟩ : ∃ x, xss[i]? = some x := ⟨_, List.getElem?_eq_getElem hlt⟩
    obtain ⟨b1, o1, u, rfl, hcx, ra, rc, rfl, hrn, hrl, hrc⟩ := hc i xs hxs
    have hcx := hw.at hcx
    have hlst : lst n xss i = fil n xs xs.length := by simp [lst, hxs, fil]
    rw [hlst]
    clear hc hxs hlst
    go_enter Try.func24, Try.ntmps24
    go_wp2
    go_loopw [7, 19] (fun v i wr => ∃ k : Nat, k ≤ xs.length ∧ i = .int .i64 k ∧ ∃ t, Row t 1 wr 3 1 v (fil n xs k).length ((fil n xs k).map (Value.int .i64)) ∧ Evo T0 w t wr (· ≠ 0))
        (fun _ i _ => xs.length - (intOf i).toNat)
    case atStart => exact ⟨0, Nat.zero_le _, rfl, T0, Row.nil _ _ _ _ _, Evo.refl _ _ _⟩
    case round =>
      obtain ⟨k, hk, rfl, t, hrow, hev⟩ := hrel
      by_cases hkl : k < xs.length
      · obtain ⟨x, hx⟩ : ∃ x, xs[k]? = some x := ⟨_, List.getElem?_eq_getElem hkl⟩
        obtain ⟨b2, o2, rfl, hcx2⟩ := hrc k x hx
        have hcx2 := hev.cell (by simp [T0]) (hw.at hcx2)
        have hfl := fil_le n xs k
        by_cases hgood : 0 ≤ x ∧ x < n
        · have F := Lib.hid (fil_hit (n := n) hx hgood)
          have HX := Lib.hid hx; clear hx hrc
          obtain ⟨hg1, hg2⟩ := hgood
          go_wp2_with (at_builtin; refine wpList_append_one rfl _ _ 26 rfl 3 i0 (.int .i64 0) 1 8 Try.underlying26 hi hz0 hz1 hz2 rfl (by decide) rfl hrow #[.int .i64 x] 3 (0,0) _ rfl (by simp) rfl ?c1 ?c2 ?c3 ?_)
          case c1 => rfl
          case c2 => unfold maxLen; omega
          case c3 => omega
          intro v' t' w' hr he
          have he2 := hev.trans (he.mono (K' := (· ≠ 0)) (by intro x hx; omega))
          clear hev hrow he
          go_wp2
          go_roundw
          case rel =>
            refine ⟨k+1, by omega, by go_num, t', ?_, he2⟩
            rw [F.out]; simpa using hr
          case measure => simp [intOf]; omega
        · have F := Lib.hid (fil_miss (n := n) hx hgood)
          have HX := Lib.hid hx; clear hx hrc
          by_cases hg1 : 0 ≤ x
          all_goals
            go_wp2
            go_roundw
            case rel =>
              refine ⟨k+1, by omega, by go_num, t, ?_, hev⟩
              rw [F.out]; exact hrow
            case measure => simp [intOf]; omega
      · have : k = xs.length := by omega
        subst this
        go_wp2
        go_ret
        exact ⟨_, rfl, hrow.toOwn hev (by simp), hev.toBelow (by simp)⟩
  · have hlst : lst n xss i = [] := by simp [lst, List.getElem?_eq_none (Nat.le_of_not_lt hlt)]
    rw [hlst]
    go_enter Try.func24, Try.ntmps24
    go_wp2
    go_ret
    exact ⟨_, rfl, World.ownsRow_nil _ _ _ _, Below.refl _ _⟩
end Go.Proofs.Ytoaomedlgmnopaa
