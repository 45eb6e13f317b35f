/- The walks of the small functions: Place, few, SameInts, Ints, list, may, needs, free, gcd. -/
import Derived.Test.YtoaomedlgmnopaaRows
import Derived.Test.YtoaomedlgmnopaaBase
namespace Go.Proofs.Ytoaomedlgmnopaa
open Go.RowKit Pal

theorem Try.info3 : (Try.prog.info? 3).map (fun i => (i.zero, i.size, i.bytes)) = some (some (.int .i64 0), 1, 8) := by kernel_rfl
theorem Try.info26 : (Try.prog.info? 26).map (fun i => (i.zero, i.size, i.bytes)) = some (some (.slice none 0 0), 1, 24) := by kernel_rfl

set_option maxHeartbeats 400000 in
theorem place_any (v n : Int) (w : World) (hv : -9223372036854775808 ≤ v ∧ v ≤ 9223372036854775807) (hn : 0 < n ∧ n ≤ 1000000) :
    Calls Try.prog 16 #[.int .i64 v, .int .i64 n] w fun e w' => e = .returned (.int .i64 (v % n)) ∧ w' = w := by
  obtain ⟨hv1, hv2⟩ := hv
  obtain ⟨hn1, hn2⟩ := hn
  have h0 : (n == 0) = false := by simp; omega
  by_cases hk : v.tmod n < 0
  · go_enter Try.func16, Try.ntmps16
    have h1 := Int.tmod_eq_emod_of_nonneg (a := v) (b := n)
    have e : wrap64 (v.tmod n + n) = v % n := by
      have hb := Int.emod_nonneg v (show n ≠ 0 by omega)
      have hb2 := Int.emod_lt_of_pos v hn1
      have e1 : v.tmod n + n = v % n := by
        rw [Int.tmod_eq_emod] at hk ⊢
        split at hk
        · omega
        · rename_i hh
          rw [if_neg hh]
          rw [Int.natAbs_of_nonneg (by omega)]
          omega
      rw [e1]; exact IntWalk.wrap64_in _ (by omega)
    have E := Lib.hid e; clear e h1
    go_wp2
    go_ret
    refine ⟨?_, rfl⟩
    rw [← E.out]; rfl
  · have e : v.tmod n = v % n := by
      rw [Int.tmod_eq_emod] at hk ⊢
      split
      · omega
      · rename_i hh
        rw [if_neg hh] at hk
        rw [Int.natAbs_of_nonneg (by omega)] at hk
        have hb2 := Int.emod_lt_of_pos v hn1
        omega
    have E := Lib.hid e; clear e
    go_enter Try.func16, Try.ntmps16
    go_wp2
    go_ret
    refine ⟨?_, rfl⟩
    rw [← E.out]; rfl

set_option maxHeartbeats 400000 in
theorem same_ints (h : GH) (va vb : Value) (xs ys : List Int) (w : World) (hw : h.le (gh w)) (hx : IntsV h va xs) (hy : IntsV h vb ys) :
    Calls Try.prog 13 #[va, vb] w fun e w' => e = .returned (.bool (decide (xs = ys))) ∧ ∃ n, w' = w.drewN n := by
  obtain ⟨a, ca, rfl, _, hla, hca⟩ := hx
  obtain ⟨b, cb, rfl, _, hlb, hcb⟩ := hy
  by_cases hl : xs.length = ys.length
  · have hl' : (((xs.length : Int)) != (ys.length : Int)) = false := by simp [hl]
    have HL := Lib.hid hl; clear hl
    go_enter Try.func13, Try.ntmps13
    go_wp2
    go_loopw [5] (fun i wr => ∃ k : Nat, k ≤ xs.length ∧ i = .int .i64 k ∧ (∃ n, wr = w.drewN n) ∧ Hid (xs.take k = ys.take k))
                 (fun i _ => xs.length - (intOf i).toNat)
    case atStart => exact ⟨0, Nat.zero_le _, rfl, ⟨0, rfl⟩, Lib.hid (by simp)⟩
    case round =>
      obtain ⟨k, hk, rfl, ⟨n, rfl⟩, HT⟩ := hrel
      by_cases hlt : k < xs.length
      · have hky : k < ys.length := by rw [← HL.out]; exact hlt
        obtain ⟨x, hx⟩ : ∃ x, xs[k]? = some x := ⟨_, List.getElem?_eq_getElem hlt⟩
        obtain ⟨y, hy⟩ : ∃ y, ys[k]? = some y := ⟨_, List.getElem?_eq_getElem hky⟩
        obtain ⟨b1, o1, rfl, hcx⟩ := hca k x hx
        obtain ⟨b2, o2, rfl, hcy⟩ := hcb k y hy
        have hcx := hw.at hcx
        have hcy := hw.at hcy
        have HX := Lib.hid hx; clear hx
        have HY := Lib.hid hy; clear hy
        clear hca hcb
        by_cases heq : x = y
        · have heq' : (x != y) = false := by simpa using heq
          have HE := Lib.hid heq; clear heq
          go_wp2
          go_quiet (fail)
          go_wp2
          go_roundw
          case rel =>
            refine ⟨k+1, by omega, by go_num, ⟨_, rfl⟩, Lib.hid ?_⟩
            rw [List.take_add_one, List.take_add_one, HT.out, HX.out, HY.out, HE.out]
          case measure => simp [intOf]; omega
        · have heq' : (x != y) = true := by simpa using heq
          have HE := Lib.hid heq; clear heq
          go_wp2
          go_quiet (fail)
          go_wp2
          go_ret
          refine ⟨?_, Q2 _ _ _⟩
          have : xs ≠ ys := fun h => HE.out (by have a := HX.out; have b := HY.out; rw [h] at a; exact Option.some.inj (a.symm.trans b))
          rw [decide_eq_false this]; rfl
      · have hke : k = xs.length := by omega
        subst hke
        go_wp2
        go_ret
        refine ⟨?_, n, rfl⟩
        have h1 := HT.out
        rw [List.take_length, HL.out, List.take_length] at h1
        rw [decide_eq_true h1]; rfl
  · have hl' : (((xs.length : Int)) != (ys.length : Int)) = true := by simp; omega
    go_enter Try.func13, Try.ntmps13
    go_wp2
    go_ret
    refine ⟨?_, 0, rfl⟩
    rw [decide_eq_false (fun h => hl (by rw [h]))]; rfl

def fewB (n : Int) (xss : List (List Int)) : Bool := decide (n ≤ 60) && decide (xss.length ≤ 80) && xss.all fun l => decide (l.length ≤ 80)


theorem fewB_no1 {n : Int} {xss : List (List Int)} (h : 60 < n) : fewB n xss = false := by simp [fewB]; intro h1; omega
theorem fewB_no2 {n : Int} {xss : List (List Int)} (h : 80 < xss.length) : fewB n xss = false := by simp [fewB]; intro h1 h2; omega
theorem fewB_no3 {n : Int} {xss : List (List Int)} {k : Nat} {xs : List Int} (hk : xss[k]? = some xs) (h : 80 < xs.length) : fewB n xss = false := by
  have := List.mem_of_getElem? hk
  simp only [fewB, Bool.and_eq_false_iff, List.all_eq_false]
  right; exact ⟨xs, this, by simp; omega⟩
theorem fewB_yes {n : Int} {xss : List (List Int)} (h1 : n ≤ 60) (h2 : xss.length ≤ 80) (h3 : ∀ (j : Nat) (xs : List Int), xss[j]? = some xs → xs.length ≤ 80) : fewB n xss = true := by
  simp only [fewB, Bool.and_eq_true, List.all_eq_true, decide_eq_true_eq]
  exact ⟨⟨h1, h2⟩, fun x hx => let ⟨j, hj⟩ := List.getElem?_of_mem hx; h3 j x hj⟩

set_option maxHeartbeats 400000 in
theorem few_any (h : GH) (n : Int) (v : Value) (xss : List (List Int)) (w : World) (hw : h.le (gh w)) (hx : RowsV h v xss) :
    Calls Try.prog 8 #[.int .i64 n, v] w fun e w' => e = .returned (.bool (fewB n xss)) ∧ w' = w := by
  obtain ⟨a, ca, rfl, _, hla, hca⟩ := hx
  by_cases hl : n ≤ 60 ∧ xss.length ≤ 80
  · obtain ⟨h1, h2⟩ := hl
    go_enter Try.func8, Try.ntmps8
    go_wp2
    go_loop [5] (fun i => ∃ k : Nat, k ≤ xss.length ∧ i = .int .i64 k ∧ Hid (∀ (j : Nat) (xs : List Int), j < k → xss[j]? = some xs → xs.length ≤ 80))
                 (fun i => xss.length - (intOf i).toNat)
    case atStart => exact ⟨0, Nat.zero_le _, rfl, Lib.hid (fun j xs hj => by omega)⟩
    case round =>
      obtain ⟨k, hk, rfl, HT⟩ := hrel
      by_cases hlt : k < xss.length
      · obtain ⟨x, hx⟩ : ∃ x, xss[k]? = some x := ⟨_, List.getElem?_eq_getElem hlt⟩
        obtain ⟨b1, o1, u, rfl, hcx, ra, rc, rfl, _, hrl, _⟩ := hca k x hx
        have hcx := hw.at hcx
        have HX := Lib.hid hx; clear hx hca
        by_cases heq : x.length ≤ 80
        · go_wp2
          go_round
          case rel =>
            refine ⟨k+1, by omega, by go_num, Lib.hid fun j xs hj hjx => ?_⟩
            by_cases hjk : j = k
            · subst hjk; have := HX.out; rw [this] at hjx; cases hjx; exact heq
            · exact HT.out j xs (by omega) hjx
          case measure => simp [intOf]; omega
        · have E := Lib.hid (fewB_no3 (n := n) HX.out (by omega))
          go_wp2
          go_ret
          exact ⟨by rw [E.out]; rfl, rfl⟩
      · have hke : k = xss.length := by omega
        have E := Lib.hid (fewB_yes h1 h2 (fun j xs hj => HT.out j xs (by have := (List.getElem?_eq_some_iff.1 hj).1; omega) hj))
        go_wp2
        go_ret
        exact ⟨by rw [E.out]; rfl, rfl⟩
  · have e : fewB n xss = false := by
      by_cases h1 : 60 < n
      · exact fewB_no1 h1
      · exact fewB_no2 (by omega)
    have E := Lib.hid e; clear e
    by_cases h1 : n ≤ 60
    all_goals
      go_enter Try.func8, Try.ntmps8
      go_wp2
      go_ret
      exact ⟨by rw [E.out]; rfl, rfl⟩

end Go.Proofs.Ytoaomedlgmnopaa
