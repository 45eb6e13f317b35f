/- The walk of palaverlaw07.ParseBlanks. Conditions: the tables hold what they are laid with; the text is no longer than any may be. -/
import Derived.Test.YtdgcgogeidnmoaaDoorS6
import Derived.Laws.BitsLemmas
set_option linter.unusedSimpArgs false
set_option linter.unusedVariables false
namespace Go.Proofs.YtdgcgogeidnmoaaDoor
open Go.RowKit Pal
theorem and7 (n : Int) : bits .and .i64 n 7 = n % 8 := by
  have h7 : (BitVec.ofInt 64 7).toNat = 2 ^ 3 - 1 := by decide
  have key : (BitVec.ofInt 64 n &&& BitVec.ofInt 64 7).toNat = (n % ((2 ^ 64 : Nat) : Int)).toNat % 2 ^ 3 := by
    rw [BitVec.toNat_and, BitVec.toNat_ofInt, h7, Nat.and_two_pow_sub_one_eq_mod]
  show IntKind.i64.wrap ((BitVec.ofInt 64 n &&& BitVec.ofInt 64 7).toNat : Nat) = n % 8
  rw [key, IntKind.wrap_i64]
  omega
theorem parseM_err {l : Bs} {p : Nat} {k : Int} (h : parseM l = .error (p, k)) : k = 5 ∨ k = 6 ∨ k = 7 := by
  unfold parseM at h
  split at h
  · simp only [Except.error.injEq, Prod.mk.injEq] at h; omega
  · split at h
    · simp only [Except.error.injEq, Prod.mk.injEq] at h; omega
    · split at h
      · simp only [Except.error.injEq, Prod.mk.injEq] at h; omega
      · split at h
        · cases h
        · simp only [Except.error.injEq, Prod.mk.injEq] at h; omega
theorem same_self {e : Ex} (h : check e = true) : (check e && (check e && sameX e e)) = true := by rw [h, (sameX_iff e e).2 rfl]; rfl
/-- A text that is parsed wrongly is let go. -/
theorem wrap_str (l : Bs) : ((⟨#[32, 40, 32]⟩ : ByteArray) ++ ⟨l.toArray⟩) ++ ⟨#[32, 41]⟩ = ⟨(wrap l).toArray⟩ := by
  have h := cat_str [32, 40, 32] l
  have h2 := cat_str ([32, 40, 32] ++ l) [32, 41]
  simp only [Value.string.injEq] at h h2
  have e1 : (⟨#[32, 40, 32]⟩ : ByteArray) = ⟨([32, 40, 32] : Bs).toArray⟩ := rfl
  rw [e1, h]
  exact h2
theorem size_ofList (l : Bs) : (⟨l.toArray⟩ : ByteArray).size = l.length := by show l.toArray.size = _; simp
set_option maxRecDepth 1000000 in
set_option maxHeartbeats 8000000 in
theorem blanks_walk (s : ByteArray) (n : Int) (w : World) (hL : Lay2 w) (hs : s.size ≤ 9223372036854775807) (hn : -9223372036854775808 ≤ n ∧ n ≤ 9223372036854775807) :
    Calls Tryd.prog 8 #[.string s, .int .i64 n] w (yesPost w) := by
  have HL := Lib.hid hL
  have HA := Lib.hid (fun W hb => awake7 W (hL.below hb))
  by_cases h300 : 300 < s.size
  · have q : decide ((300 : Int) < (s.size : Int)) = true := decide_eq_true (by omega)
    clear hL h300 HL
    go_enter Tryd.func8, Tryd.ntmps8
    go_wp2_with fail
    refine (HA.out _ (Below.refl _ _)).mono ?_
    rintro r W ⟨rfl, hb⟩
    go_wp2
    go_ret
    exact ⟨rfl, hb⟩
  · have q : decide ((300 : Int) < (s.size : Int)) = false := decide_eq_false (by omega)
    cases hp : parseM s.data.toList with
    | error pk =>
      obtain ⟨p, k⟩ := pk
      have hk := parseM_err hp
      have HP := Lib.hid (parse_no s p k w (by omega) hp hL.lay)
      have q2 : (k != 0) = true := bne_iff_ne.2 (by omega)
      clear hL h300 HL hp hk
      go_enter Tryd.func8, Tryd.ntmps8
      go_wp2_with fail
      refine HP.out.mono ?_
      rintro r W ⟨hb, rfl⟩
      have hb2 := hb.alloc hb.size (.cells #[.int .i64 0, .int .i64 0, .string ⟨#[]⟩, .slice none 0 0] 24)
      clear hb
      go_wp2_with fail
      refine (HA.out _ hb2).mono ?_
      rintro r W2 ⟨rfl, hb3⟩
      have hb4 := hb2.seq hb3
      go_wp2
      go_ret
      exact ⟨rfl, hb4⟩
    | ok e =>
      obtain ⟨m, hm, hm7⟩ : ∃ m : Nat, n % 8 = m ∧ m ≤ 7 := ⟨(n % 8).toNat, by omega, by omega⟩
      have ha : bits .and .i64 n 7 = (m : Int) := by rw [and7, hm]
      have hl3 : s.data.toList.length ≤ 300 := by rw [len_toList]; omega
      have HP := Lib.hid (parse_yes s e w (by omega) hp hL.lay)
      have HP2 := Lib.hid (fun k (hk : k ≤ 7) W hL => parse_yes ⟨(wrapN k s.data.toList).toArray⟩ e W (by rw [size_ofList, wrapN_len]; omega) (blanks_law hp hl3 k hk) hL)
      have HF := Lib.hid (parseM_fine hp)
      have HCK := Lib.hid (parseM_check hp)
      have hstr : (.string s : Value) = .string ⟨(wrapN 0 s.data.toList).toArray⟩ := by rw [show wrapN 0 s.data.toList = s.data.toList from rfl]
      have HSTR := Lib.hid hstr
      have hlen : ∀ k, k ≤ 7 → (wrapN k s.data.toList).length ≤ 335 := fun k hk => by rw [wrapN_len]; omega
      have HLEN := Lib.hid hlen
      clear hL h300 hp hl3 hm hstr hlen hs
      go_enter Tryd.func8, Tryd.ntmps8
      go_wp2_with fail
      refine HP.out.mono ?_
      rintro r W1 ⟨hb1, a1, k1, rfl, hK1⟩
      have hbn := (Below.refl W1.heap.size W1).alloc (Nat.le_refl _) (.cells #[.int .i64 e.op, .int .i64 e.n, .string ⟨e.s.toArray⟩, .slice a1 e.ks.length k1] 24)
      have hbA := hb1.seq hbn
      have hKA := hK1.keep hbn
      have hcA := heap_alloc_new W1 (.cells #[.int .i64 e.op, .int .i64 e.n, .string ⟨e.s.toArray⟩, .slice a1 e.ks.length k1] 24)
      clear hb1 hK1 hbn HP
      go_upto_region 6 with fail
      generalize W1.alloc (.cells #[.int .i64 e.op, .int .i64 e.n, .string ⟨e.s.toArray⟩, .slice a1 e.ks.length k1] 24) = WA at *
      have HBA := Lib.hid hbA
      have HKA := Lib.hid hKA
      have HCA := Lib.hid hcA
      clear hbA hKA hcA
      go_wp2
      go_loopg [8, 9] m (fun g t i wr => ∃ k : Nat, t = .string ⟨(wrapN k s.data.toList).toArray⟩ ∧ i = .int .i64 k ∧ k + g = m ∧ wr = WA)
      case atStart => exact ⟨0, HSTR.out, rfl, by omega, rfl⟩
      case round =>
        obtain ⟨k, rfl, rfl, hg, rfl⟩ := hrel
        by_cases hlt : k < m
        · obtain ⟨g, rfl⟩ : ∃ g, gk = g + 1 := ⟨gk - 1, by omega⟩
          have hln := HLEN.out k (by omega)
          have HW := Lib.hid (wrap_str (wrapN k s.data.toList))
          have HS := Lib.hid (wrapN_succ k s.data.toList)
          generalize wrapN k s.data.toList = st at *
          go_wp2
          generalize hcat : (_ ++ _ : ByteArray) = xx
          go_roundg g
          case rel => exact ⟨k + 1, by rw [HS.out, ← hcat, HW.out], by go_num, by omega, rfl⟩
          case measure => omega
        · have hk : k = m := by omega
          subst hk
          have hps := HP2.out k hm7
          have HPS := Lib.hid hps
          have hsz : W1.heap.size < wr.heap.size := (Array.getElem?_eq_some_iff.1 HCA.out).1
          generalize wrapN k s.data.toList = st at *
          clear hps HP2
          go_wp2_with fail
          refine (HPS.out _ (HL.out.lay.below HBA.out)).mono ?_
          rintro r W2 ⟨hb2, a2, k2, rfl, hK2⟩
          have hbn := (Below.refl W2.heap.size W2).alloc (Nat.le_refl _) (.cells #[.int .i64 e.op, .int .i64 e.n, .string ⟨e.s.toArray⟩, .slice a2 e.ks.length k2] 24)
          have hbB := (HBA.out.seq hb2).seq hbn
          have hKB := (HKA.out.keep hb2).keep hbn
          have hKC := hK2.keep hbn
          have hc1 := (hbn.block _ (by have := hb2.size; omega)).trans ((hb2.block _ hsz).trans HCA.out)
          have hc2 := heap_alloc_new W2 (.cells #[.int .i64 e.op, .int .i64 e.n, .string ⟨e.s.toArray⟩, .slice a2 e.ks.length k2] 24)
          clear hb2 hK2 hbn HBA HKA HCA HPS
          go_upto_region 12 with fail
          generalize W2.alloc (.cells #[.int .i64 e.op, .int .i64 e.n, .string ⟨e.s.toArray⟩, .slice a2 e.ks.length k2] 24) = WB at *
          obtain ⟨c0, c1, c2, c3⟩ := four_cells hc1
          obtain ⟨d0, d1, d2, d3⟩ := four_cells hc2
          have hs := parseSame_any e e _ _ WB HF.out HF.out (HL.out.lay.below hbB) hKC hKB
          rw [same_self HCK.out] at hs
          unfold exV strV at hs
          have HS := Lib.hid hs
          have HBB := Lib.hid hbB
          clear hs hbB hKC hKB hc1 hc2
          go_wp2_with fail
          refine HS.out.mono ?_
          rintro r W3 ⟨rfl, hb3⟩
          have hbC := HBB.out.seq hb3
          clear hb3 c0 c1 c2 c3 d0 d1 d2 d3
          go_wp2_with fail
          refine (HA.out _ hbC).mono ?_
          rintro r W4 ⟨rfl, hb4⟩
          have hbD := hbC.seq hb4
          go_wp2
          go_ret
          exact ⟨rfl, hbD⟩
end Go.Proofs.YtdgcgogeidnmoaaDoor
