/- The walks of Lists and of the document's own order: may, needs, free, told, Order, Stuck. -/
import Derived.Test.YtoaomedlgmnopaaW2
namespace Go.Proofs.Ytoaomedlgmnopaa
open Go.RowKit Pal Pal.Graph

theorem Try.info32 : (Try.prog.info? 32).map (fun i => (i.zero, i.size, i.bytes)) = some (some (.slice none 0 0), 1, 24) := by kernel_rfl
theorem Try.info4 : (Try.prog.info? 4).map (fun i => (i.zero, i.size, i.bytes)) = some (some (.bool false), 1, 1) := by kernel_rfl
theorem info_parts4 : ∃ i0, Try.prog.info? 4 = some i0 ∧ i0.zero = some (.bool false) ∧ i0.size = 1 ∧ i0.bytes = 1 := info_parts Try.info4

set_option maxHeartbeats 400000 in
theorem lists_any (h : GH) (v : Value) (xss : List (List Int)) (w : World) (hw : h.le (gh w)) (hx : RowsV h v xss) :
    Calls Try.prog 10 #[v] w fun e w' => ∃ v', e = .returned v' ∧ RowsV (gh w') v' xss ∧ Below w.heap.size w w' := by
  obtain ⟨a, ca, rfl, _, hl, hc⟩ := hx
  obtain ⟨i0, hi, hz0, hz1, hz2⟩ := info_parts26
  go_enter Try.func10, Try.ntmps10
  go_wp2
  go_loopw [3, 4] (fun v i wr => ∃ k : Nat, k ≤ xss.length ∧ i = .int .i64 k ∧ ∃ t us, Row t 1 wr 26 1 v k us ∧ Evo T0 w t wr (· ≠ 0) ∧
        ∀ (j : Nat) (u : Value) (xs : List Int), us[j]? = some u → xss[j]? = some xs → IntsV (hz t wr) u xs)
      (fun _ i _ => xss.length - (intOf i).toNat)
  case atStart => exact ⟨0, Nat.zero_le _, rfl, T0, [], Row.nil _ _ _ _ _, Evo.refl _ _ _, fun j u xs hj => by simp at hj⟩
  case round =>
    obtain ⟨k, hk, rfl, t, us, hrow, hev, hus⟩ := hrel
    by_cases hkl : k < xss.length
    · obtain ⟨xs, hxs⟩ : ∃ x, xss[k]? = some x := ⟨_, List.getElem?_eq_getElem hkl⟩
      obtain ⟨b1, o1, u, rfl, hcx, hiv⟩ := hc k xs hxs
      have hcx := hev.cell (by simp [T0]) (hw.at hcx)
      have hle : h.le (hz t wr) := by
        have := hev.hz (by simp)
        rw [hz_T0] at this
        exact hw.trans this
      have HX := Lib.hid hxs; clear hxs hc
      have HU := Lib.hid hus; clear hus
      go_wp2_with fail
      refine (ints_any (hz t wr) _ xs _ (hz_gh t wr) (hiv.mono hle)).mono ?_
      rintro e w1 ⟨v', rfl, ho, hb⟩
      obtain ⟨t1, hr1, he1⟩ := Row.ofOwn t 0 (fun _ => False) hb ho
      have hrow1 := hrow.keep he1 id
      have hiv1 := IntsV.ofRow hr1 (by obtain ⟨_, _, _, _, h, _⟩ := hiv; exact h)
      have HU1 : Hid (∀ (j : Nat) (u : Value) (xs : List Int), us[j]? = some u → xss[j]? = some xs → IntsV (hz t1 w1) u xs) := fun j u xs h1 h2 => (HU.out j u xs h1 h2).mono (he1.hz id)
      have hiv1c := hiv1
      obtain ⟨a', c', rfl, _⟩ := hiv1c
      have hlen := hrow1.len
      have hev1 := hev.trans (he1.mono (K' := (· ≠ 0)) (fun _ h => h.elim))
      clear hrow he1 hr1 ho hb HU hev
      go_wp2_with (at_builtin; refine wpList_append_one rfl _ _ 22 rfl 26 i0 (.slice none 0 0) 1 24 Try.underlying22 hi hz0 hz1 hz2 rfl (by decide) rfl hrow1 #[.slice a' xs.length c'] 26 (0,0) _ rfl (by simp) rfl ?c1 ?c2 ?c3 ?_)
      case c1 => rfl
      case c2 => unfold maxLen; omega
      case c3 => omega
      intro v2 t2 w2 hr2 he2
      have hev2 := hev1.trans (he2.mono (K' := (· ≠ 0)) (by intro x hx; omega))
      have hiv2 := hiv1.mono (he2.hz (by simp))
      have HU2 : Hid (∀ (j : Nat) (u : Value) (xs : List Int), us[j]? = some u → xss[j]? = some xs → IntsV (hz t2 w2) u xs) := fun j u xs h1 h2 => (HU1.out j u xs h1 h2).mono (he2.hz (by simp))
      clear hev1 hrow1 he2 hiv1 HU1
      go_wp2
      go_roundw
      case rel =>
        refine ⟨k+1, by omega, by go_num, t2, us ++ [.slice a' xs.length c'], hr2, hev2, fun j u' xs' hj hjx => ?_⟩
        by_cases hjk : j < us.length
        · rw [List.getElem?_append_left hjk] at hj
          exact HU2.out j u' xs' hj hjx
        · have hjl := (List.getElem?_eq_some_iff.1 hj).1
          simp only [List.length_append, List.length_cons, List.length_nil] at hjl
          have : j = us.length := by omega
          subst this
          simp at hj
          subst hj
          have : us.length = k := by omega
          rw [this, HX.out] at hjx
          cases hjx
          exact hiv2
      case measure => simp [intOf]; omega
    · have : k = xss.length := by omega
      subst this
      go_wp2
      go_ret
      have hlen := hrow.len
      exact ⟨_, rfl, RowsV.ofRowAny hrow (by omega) hl (fun j u xs h1 h2 => (hus j u xs h1 h2).mono (hz_gh _ _)), hev.toBelow (by simp)⟩

theorem may_any (n : Int) (w : World) : Calls Try.prog 22 #[.int .i64 n] w fun e w' => e = .returned (.bool (decide (0 ≤ n ∧ n ≤ 4096))) ∧ w' = w := by
  by_cases h1 : 0 ≤ n
  all_goals by_cases h2 : n ≤ 4096
  all_goals
    go_enter Try.func22, Try.ntmps22
    go_wp2
    go_ret
    exact ⟨by simp [h1, h2], rfl⟩

theorem needs_any (h : GH) (v : Value) (xss : List (List Int)) (i : Nat) (w : World) (hw : h.le (gh w)) (hx : RowsV h v xss) :
    Calls Try.prog 26 #[v, .int .i64 i] w fun e w' => ∃ v', e = .returned v' ∧ IntsV h v' ((xss[i]?).getD []) ∧ w' = w := by
  obtain ⟨a, ca, rfl, _, hl, hc⟩ := hx
  by_cases hlt : i < xss.length
  · obtain ⟨xs, hxs⟩ : ∃ x, xss[i]? = some x := ⟨_, List.getElem?_eq_getElem hlt⟩
    obtain ⟨b1, o1, u, rfl, hcx, hiv⟩ := hc i xs hxs
    have hcx := hw.at hcx
    have e : (xss[i]?).getD [] = xs := by rw [hxs]; rfl
    rw [e]
    clear hc hxs e
    go_enter Try.func26, Try.ntmps26
    go_wp2
    go_ret
    exact ⟨_, rfl, hiv, rfl⟩
  · have e : (xss[i]?).getD [] = [] := by rw [List.getElem?_eq_none (Nat.le_of_not_lt hlt)]; rfl
    rw [e]
    go_enter Try.func26, Try.ntmps26
    go_wp2
    go_ret
    exact ⟨_, rfl, ⟨none, 0, rfl, fun _ => ⟨rfl, rfl⟩, by simp, fun j x hj => by simp at hj⟩, rfl⟩

/-- Of the first k needs all are done. -/
def freeK (n : Int) (xs : List Int) (done : List Bool) (k : Nat) : Bool := ((xs.take k).filter fun k => decide (0 ≤ k) && decide (k < n)).all (isDone done)
theorem freeK_succ {n : Int} {xs : List Int} {done : List Bool} {k : Nat} {x : Int} (hx : xs[k]? = some x) (hf : freeK n xs done k = true) (h : (0 ≤ x ∧ x < n) → isDone done x = true) : freeK n xs done (k + 1) = true := by
  unfold freeK at *
  rw [List.take_add_one, hx, List.filter_append, List.all_append, hf]
  simp only [Option.toList_some, Bool.true_and]
  by_cases hg : 0 ≤ x ∧ x < n
  · simp [hg, h hg]
  · simp only [List.filter_cons, List.filter_nil]
    split
    · rename_i hh; simp at hh; exact absurd hh hg
    · rfl
theorem free_no {n : Int} {xs : List Int} {done : List Bool} {k : Nat} {x : Int} (hx : xs[k]? = some x) (hg : 0 ≤ x ∧ x < n) (h : isDone done x = false) : freeK n xs done xs.length = false := by
  unfold freeK
  rw [List.take_length, List.all_eq_false]
  exact ⟨x, List.mem_filter.2 ⟨List.mem_of_getElem? hx, by simp [hg]⟩, by simp [h]⟩

set_option maxHeartbeats 400000 in
theorem free_any (h : GH) (n : Int) (v vd : Value) (xs : List Int) (done : List Bool) (w : World) (hw : h.le (gh w)) (hx : IntsV h v xs) (hd : BoolsV h vd done) (hn : done.length = n.toNat) :
    Calls Try.prog 27 #[.int .i64 n, v, vd] w fun e w' => e = .returned (.bool (freeK n xs done xs.length)) ∧ w' = w := by
  obtain ⟨a, ca, rfl, _, hl, hc⟩ := hx
  obtain ⟨ad, cd, rfl, _, hcd⟩ := hd
  go_enter Try.func27, Try.ntmps27
  go_wp2
  go_loop [7] (fun i => ∃ k : Nat, k ≤ xs.length ∧ i = .int .i64 k ∧ Hid (freeK n xs done k = true)) (fun i => xs.length - (intOf i).toNat)
  case atStart => exact ⟨0, Nat.zero_le _, rfl, Lib.hid (by simp [freeK])⟩
  case round =>
    obtain ⟨k, hk, rfl, HT⟩ := hrel
    by_cases hlt : k < xs.length
    · obtain ⟨x, hx⟩ : ∃ x, xs[k]? = some x := ⟨_, List.getElem?_eq_getElem hlt⟩
      obtain ⟨b1, o1, rfl, hcx⟩ := hc k x hx
      have hcx := hw.at hcx
      by_cases hg : 0 ≤ x ∧ x < n
      · obtain ⟨d, hd⟩ : ∃ d, done[x.toNat]? = some d := ⟨_, List.getElem?_eq_getElem (show x.toNat < done.length by omega)⟩
        have hdd : isDone done x = d := by simp [isDone, hd]
        obtain ⟨b2, o2, rfl, hcx2⟩ := hcd _ d hd
        have hcx2 := hw.at hcx2
        have HX := Lib.hid hx; clear hx hc hcd
        have HD := Lib.hid hd; clear hd
        have HN := Lib.hid hn; clear hn
        have HDD := Lib.hid hdd; clear hdd
        obtain ⟨hg1, hg2⟩ := hg
        have hdl : x < (done.length : Int) := by have := HN.out; omega
        cases d
        · have E := Lib.hid (free_no (n := n) HX.out ⟨hg1, hg2⟩ HDD.out)
          go_wp2
          go_ret
          exact ⟨by rw [E.out]; rfl, rfl⟩
        · have E := Lib.hid (freeK_succ (n := n) HX.out HT.out (fun _ => HDD.out))
          go_wp2
          go_round
          case rel => exact ⟨k + 1, by omega, by go_num, E⟩
          case measure => simp [intOf]; omega
      · have E := Lib.hid (freeK_succ (n := n) hx HT.out (fun h => absurd h hg))
        have HX := Lib.hid hx; clear hx hc hcd
        have HN := Lib.hid hn; clear hn
        by_cases hg1 : 0 ≤ x
        all_goals
          go_wp2
          go_round
          case rel => exact ⟨k + 1, by omega, by go_num, E⟩
          case measure => simp [intOf]; omega
    · have : k = xs.length := by omega
      subst this
      go_wp2
      go_ret
      exact ⟨by rw [HT.out]; rfl, rfl⟩
end Go.Proofs.Ytoaomedlgmnopaa
