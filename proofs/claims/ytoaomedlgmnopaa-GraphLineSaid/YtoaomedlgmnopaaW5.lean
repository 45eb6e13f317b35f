/- The walks of the document's Order and Stuck. -/
import Derived.Test.YtoaomedlgmnopaaW4
namespace Go.Proofs.Ytoaomedlgmnopaa
open Go.RowKit Pal Pal.Graph

def OrderPost (n : Int) (xss : List (List Int)) (w : World) (e : Ending) (w' : World) : Prop :=
  ∃ v, e = .returned (.tuple #[v, .bool (orderS n xss).2]) ∧ IntsV (gh w') v (orderS n xss).1 ∧ Below w.heap.size w w'
def StuckPost (n : Int) (xss : List (List Int)) (w : World) (e : Ending) (w' : World) : Prop :=
  ∃ v, e = .returned v ∧ IntsV (gh w') v (stuckS n xss) ∧ Below w.heap.size w w'
theorem st_le1 (n : Int) (xss : List (List Int)) (j : Nat) : (st n xss j).1.length ≤ n.toNat := by
  rw [← st_count, ← st_len (n := n) (xss := xss) j]; exact List.count_le_length
theorem ints_nil (h : GH) : IntsV h (.slice none 0 0) [] := ⟨none, 0, rfl, fun _ => ⟨rfl, rfl⟩, by simp, fun j x hj => by simp at hj⟩

set_option maxHeartbeats 400000 in
theorem rorder_any (h : GH) (n : Int) (v : Value) (xss : List (List Int)) (w : World) (hw : h.le (gh w)) (hx : RowsV h v xss) :
    Calls Try.prog 12 #[.int .i64 n, v] w (OrderPost n xss w) := by
  by_cases hn : 0 ≤ n ∧ n ≤ 4096
  · have hd : decide (0 ≤ n ∧ n ≤ 4096) = true := by simp [hn]
    obtain ⟨N, rfl⟩ := Int.eq_ofNat_of_zero_le hn.1
    have hN : N ≤ 4096 := by omega
    go_enter Try.func12, Try.ntmps12
    go_wp2_with fail
    refine (may_any N _).mono ?_
    rintro e w1 ⟨rfl, rfl⟩
    rw [hd]
    go_wp2_with fail
    refine (told_any h N v xss _ hN hw hx).mono ?_
    rintro e w2 ⟨v1, v2, t, rfl, hr1, hr2, hev⟩
    obtain ⟨a, c, rfl⟩ := hr1.form
    have hle := st_le1 N xss N
    by_cases hlt : (st N xss N).1.length < N
    · have ho : orderS N xss = ([], false) := by unfold orderS; rw [if_pos hn]; simp [hlt]
      have HO := Lib.hid ho; clear ho
      go_wp2
      go_ret2
      exact ⟨_, by rw [HO.out]; rfl, by rw [HO.out]; exact ints_nil _, hev.toBelow (by simp)⟩
    · have ho : orderS N xss = ((st N xss N).1, true) := by unfold orderS; rw [if_pos hn]; simp [hlt]
      have HO := Lib.hid ho; clear ho
      go_wp2
      go_ret2
      exact ⟨_, by rw [HO.out]; rfl, by rw [HO.out]; exact IntsV.ofRowAny hr1 (by simp at hle ⊢; omega), hev.toBelow (by simp)⟩
  · have hd : decide (0 ≤ n ∧ n ≤ 4096) = false := by simp only [decide_eq_false_iff_not]; exact hn
    have ho : orderS n xss = ([], false) := by simp [orderS, hn]
    have HO := Lib.hid ho; clear ho
    go_enter Try.func12, Try.ntmps12
    go_wp2_with fail
    refine (may_any n _).mono ?_
    rintro e w1 ⟨rfl, rfl⟩
    rw [hd]
    go_wp2
    go_ret2
    exact ⟨_, by rw [HO.out]; rfl, by rw [HO.out]; exact ints_nil _, Below.refl _ _⟩

set_option maxHeartbeats 400000 in
theorem rstuck_any (h : GH) (n : Int) (v : Value) (xss : List (List Int)) (w : World) (hw : h.le (gh w)) (hx : RowsV h v xss) :
    Calls Try.prog 15 #[.int .i64 n, v] w (StuckPost n xss w) := by
  obtain ⟨i0, hi, hz0, hz1, hz2⟩ := info_parts3
  by_cases hn : 0 ≤ n ∧ n ≤ 4096
  · have hd : decide (0 ≤ n ∧ n ≤ 4096) = true := by simp [hn]
    obtain ⟨N, rfl⟩ := Int.eq_ofNat_of_zero_le hn.1
    have hN : N ≤ 4096 := by omega
    have ho : stuckS N xss = left (st N xss N).2 N := by unfold stuckS; rw [if_pos hn]; rfl
    have HO := Lib.hid ho; clear ho
    go_enter Try.func15, Try.ntmps15
    go_wp2_with fail
    refine (may_any N _).mono ?_
    rintro e w1 ⟨rfl, rfl⟩
    rw [hd]
    go_wp2_with fail
    refine (told_any h N v xss _ hN hw hx).mono ?_
    rintro e w2 ⟨v1, v2, t, rfl, hr1, hr2, hev⟩
    have HM := Lib.hid (st_len (n := N) (xss := xss) N)
    generalize (st N xss N).2 = done at *
    clear hr1
    go_wp2
    go_loopw [7, 8] (fun u i wr => ∃ k : Nat, k ≤ N ∧ i = .int .i64 k ∧ ∃ t, Row t 3 wr 3 1 u (left done k).length ((left done k).map (Value.int .i64)) ∧ Row t 1 wr 4 1 v2 N (done.map Value.bool) ∧ Evo T0 w1 t wr (· ≠ 0))
      (fun _ i _ => N - (intOf i).toNat)
    case atStart => exact ⟨0, Nat.zero_le _, rfl, t, Row.nil _ _ _ _ _, hr2, hev⟩
    case round =>
      obtain ⟨k, hk, rfl, t, hr, hr2, hev⟩ := hrel
      by_cases hlt : k < N
      · obtain ⟨d, hdk⟩ : ∃ d, done[k]? = some d := ⟨_, List.getElem?_eq_getElem (by have := HM.out; simp at this; omega)⟩
        obtain ⟨g, cap, rfl, _, _, hcell, hfr⟩ := hr2.get (j := k) (x := .bool d) (by simp [hdk])
        have hls := left_succ done k
        have hgd : done.getD k false = d := by simp [hdk]
        rw [hgd] at hls
        have HD := Lib.hid hdk; clear hdk hgd
        have hll := left_le done k
        cases d
        · have HLS := Lib.hid hls; clear hls
          go_wp2_with (at_builtin; refine wpList_append_one rfl _ _ 26 rfl 3 i0 (.int .i64 0) 1 8 Try.underlying26 hi hz0 hz1 hz2 rfl (by decide) rfl hr #[.int .i64 k] 3 (0,0) _ rfl (by simp) rfl ?c1 ?c2 ?c3 ?_)
          case c1 => rfl
          case c2 => unfold maxLen; omega
          case c3 => omega
          intro v' t' w' hr3 he
          have hev2 := hev.trans (he.mono (K' := (· ≠ 0)) (by intro x hx; omega))
          have hd2 := hr2.keep he (by simp)
          clear hev hr hr2 he
          go_wp2
          go_roundw
          case rel =>
            refine ⟨k + 1, by omega, by go_num, t', ?_, hd2, hev2⟩
            rw [HLS.out]; simpa using hr3
          case measure => simp [intOf]; omega
        · have HLS := Lib.hid hls; clear hls
          go_wp2
          go_roundw
          case rel =>
            refine ⟨k + 1, by omega, by go_num, t, ?_, hr2, hev⟩
            rw [HLS.out]; simpa using hr
          case measure => simp [intOf]; omega
      · have : k = N := by omega
        subst this
        go_wp2
        go_ret
        exact ⟨_, rfl, by rw [HO.out]; exact IntsV.ofRowAny hr (by have := left_le done k; omega), hev.toBelow (by simp)⟩
  · have hd : decide (0 ≤ n ∧ n ≤ 4096) = false := by simp only [decide_eq_false_iff_not]; exact hn
    have ho : stuckS n xss = [] := by simp [stuckS, hn]
    have HO := Lib.hid ho; clear ho
    go_enter Try.func15, Try.ntmps15
    go_wp2_with fail
    refine (may_any n _).mono ?_
    rintro e w1 ⟨rfl, rfl⟩
    rw [hd]
    go_wp2
    go_ret
    exact ⟨_, rfl, by rw [HO.out]; exact ints_nil _, Below.refl _ _⟩
end Go.Proofs.Ytoaomedlgmnopaa
