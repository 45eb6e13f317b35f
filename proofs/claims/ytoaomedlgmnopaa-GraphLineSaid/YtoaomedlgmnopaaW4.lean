/- The walks of the document's own order: told, Order, Stuck. -/
import Derived.Test.YtoaomedlgmnopaaW3
namespace Go.Proofs.Ytoaomedlgmnopaa
open Go.RowKit Pal Pal.Graph

theorem run_made {P : Program} {T e bytes : Nat} {z : Value} {i : TypeInfo} (ht : P.underlying T = some (.slice e)) (hi : P.info? e = some i) (hz0 : i.zero = some z) (hz1 : i.size = 1) (hz2 : i.bytes = bytes) (hz : z.cells = #[z]) (N : Nat) (hN : N * bytes ≤ 281474976710656) (hN2 : N ≤ 281474976710656) (w : World) :
    (Instr.makeSlice T (.int .i64 (N : Int)) (.int .i64 (N : Int))).run P w = .ok (.slice (some ⟨w.heap.size, 0, none⟩) N N) (w.alloc (.cells (madeCells #[z] N) e)) := by
  have := run_make (P := P) w T e i z ht hi hz0 .i64 .i64 N N (by omega) (Int.le_refl _) (by rw [hz2, ← Int.natCast_mul, Nat.mul_comm]; omega) (by omega)
  rw [this, hz1, hz]
  simp

theorem freeB_eq (n : Int) (xss : List (List Int)) (done : List Bool) (i : Nat) : freeK n ((xss[i]?).getD []) done ((xss[i]?).getD []).length = freeB n xss done i := by
  simp [freeK, freeB, lst]
theorem map_set_bool (l : List Bool) (i : Nat) (b : Bool) : (l.map Value.bool).set i (.bool b) = (l.set i b).map Value.bool := by simp [List.map_set]

def ToldPost (N : Nat) (xss : List (List Int)) (w : World) (e : Ending) (w' : World) : Prop :=
  ∃ v1 v2 t, e = .returned (.tuple #[v1, v2]) ∧ Row t 2 w' 3 1 v1 (st N xss N).1.length ((st N xss N).1.map (Value.int .i64)) ∧ Row t 1 w' 4 1 v2 N ((st N xss N).2.map Value.bool) ∧ Evo T0 w t w' (· ≠ 0)

set_option maxHeartbeats 1000000 in
theorem told_any (h : GH) (N : Nat) (v : Value) (xss : List (List Int)) (w : World) (hN : N ≤ 4096) (hw : h.le (gh w)) (hx : RowsV h v xss) :
    Calls Try.prog 23 #[.int .i64 (N : Int), v] w (ToldPost N xss w) := by
  obtain ⟨i0, hi, hz0, hz1, hz2⟩ := info_parts3
  obtain ⟨i4, hi4, hy0, hy1, hy2⟩ := info_parts4
  have hmk := run_made (P := Try.prog) Try.underlying32 hi4 hy0 hy1 hy2 rfl N (by omega) (by omega)
  have hR := Row.made T0 1 w 4 (.bool false) N (by unfold maxLen; omega)
  go_enter Try.func23, Try.ntmps23
  go_wp2
  go_loopw [7] (fun u wr => ∃ j t, Row t 1 wr 4 1 (.slice (some ⟨w.heap.size, 0, none⟩) N N) N ((st N xss j).2.map Value.bool) ∧ Row t 2 wr 3 1 u j ((st N xss j).1.map (Value.int .i64)) ∧ Hid ((st N xss j).1.length = j) ∧ Evo T0 w t wr (· ≠ 0))
     (fun u _ => N - lenOf u)
  case atStart => exact ⟨0, _, by simpa [st] using hR, Row.nil _ _ _ _ _, rfl, (Evo.refl _ _ _).alloc 1 _⟩
  case round =>
    obtain ⟨j, t, hd, ho, HL, hev⟩ := hrel
    obtain ⟨wo, rfl⟩ : ∃ wo : World, wo = wr := ⟨_, rfl⟩
    have hle : h.le (gh wo) := by
      have := hev.hz (by simp)
      rw [hz_T0] at this
      exact hw.trans (this.trans (hz_gh _ _))
    clear hmk hR
    have HM := Lib.hid (st_len (n := N) (xss := xss) j)
    go_wp2
    go_loop [8] (fun i => ∃ k : Nat, k ≤ N ∧ i = .int .i64 k ∧ Hid (∀ i, i < k → may N xss (st N xss j).2 i = false)) (fun i => N - (intOf i).toNat)
    case atStart => exact ⟨0, Nat.zero_le _, rfl, fun i hi => by omega⟩
    case round =>
      obtain ⟨k, hk, rfl, HT⟩ := hrel
      by_cases hlt : k < N
      · obtain ⟨d, hdk⟩ : ∃ d, (st N xss j).2[k]? = some d := ⟨_, List.getElem?_eq_getElem (by have := HM.out; simp at this; omega)⟩
        obtain ⟨g, cap, hg, _, _, hcell, hfr⟩ := hd.get (j := k) (x := .bool d) (by simp [hdk])
        simp only [Value.slice.injEq, Option.some.injEq, Addr.mk.injEq, and_true, true_and] at hg
        obtain ⟨rfl, rfl⟩ := hg
        have HD := Lib.hid hdk; clear hdk
        cases d
        · obtain ⟨b, hb⟩ : ∃ b, b = freeB N xss (st N xss j).2 k := ⟨_, rfl⟩
          have HB := Lib.hid hb; clear hb
          have hm : may N xss (st N xss j).2 k = b := by
            have := HD.out
            simp [may, this, HB.out]
          have HMM := Lib.hid hm; clear hm
          have hbv := BoolsV.ofRowAny hd
          cases b
          · go_wp2_with fail
            refine (needs_any h _ xss k _ hle hx).mono ?_
            rintro e w1 ⟨v', rfl, hiv, rfl⟩
            go_wp2_with fail
            refine (free_any (gh w1) N _ _ _ (st N xss j).2 _ (GH.le.refl _) (hiv.mono hle) hbv (by have := HM.out; simpa using this)).mono ?_
            rintro e w1 ⟨rfl, rfl⟩
            rw [freeB_eq, ← HB.out]
            go_wp2
            go_round
            case rel =>
              refine ⟨k + 1, by omega, by go_num, fun i hi => ?_⟩
              by_cases hik : i = k
              · rw [hik]; exact HMM.out
              · exact HT.out i (by omega)
            case measure => simp [intOf]; omega
          · have HP := Lib.hid (pick_some_of (n := N) (by simpa using hlt) HMM.out HT.out)
            go_wp2_with fail
            refine (needs_any h _ xss k _ hle hx).mono ?_
            rintro e w1 ⟨v', rfl, hiv, rfl⟩
            go_wp2_with fail
            refine (free_any (gh w1) N _ _ _ (st N xss j).2 _ (GH.le.refl _) (hiv.mono hle) hbv (by have := HM.out; simpa using this)).mono ?_
            rintro e w1 ⟨rfl, rfl⟩
            rw [freeB_eq, ← HB.out]
            have hkn : ((k : Int) == (N : Int)) = false := by simp; omega
            have hjn := st_length_lt HP.out
            rw [HL.out] at hjn
            have hd1 := hd.set k (.bool true)
            rw [map_set_bool] at hd1
            have hev1 := hev.setCell ⟨w.heap.size, k, none⟩ (.bool true) (by rw [hd.tag _ rfl]; simp)
            have ho1 := ho.keep ((Evo.refl t w1 (· = 1)).setCell ⟨w.heap.size, k, none⟩ (.bool true) (hd.tag _ rfl)) (by simp)
            simp only [Int.toNat_natCast] at hjn
            go_wp2_with (at_builtin; (refine wpList_append_one rfl _ _ 26 rfl 3 i0 (.int .i64 0) 1 8 Try.underlying26 hi hz0 hz1 hz2 rfl (by decide) rfl ho1 #[.int .i64 k] 3 (0,0) _ rfl (by simp) rfl ?c1 ?c2 ?c3 ?_))
            case c1 => rfl
            case c2 => unfold maxLen; omega
            case c3 => omega
            intro v' t' w' hr he
            obtain ⟨a'', c'', rfl⟩ := ho.form
            have hev2 := hev1.trans (he.mono (K' := (· ≠ 0)) (by intro x hx; omega))
            have hd2 := hd1.keep he (by simp)
            clear hev hev1 hd hd1 ho ho1 he hbv
            go_wp2
            go_roundw
            case rel =>
              have hs : st N xss (j + 1) = ((st N xss j).1 ++ [(k : Int)], (st N xss j).2.set k true) := step_some HP.out
              refine ⟨j + 1, t', ?_, ?_, ?_, hev2⟩
              · rw [hs]; exact hd2
              · rw [hs]; simpa using hr
              · rw [hs]; have := HL.out; show _ = _; simp [this]
            case measure =>
              obtain ⟨a', c', hv'⟩ := hr.form
              simp [hv', lenOf]; omega
        · have hm : may N xss (st N xss j).2 k = false := by
            have := HD.out
            simp [may, this]
          have HMM := Lib.hid hm; clear hm
          go_wp2
          go_round
          case rel =>
            refine ⟨k + 1, by omega, by go_num, fun i hi => ?_⟩
            by_cases hik : i = k
            · rw [hik]; exact HMM.out
            · exact HT.out i (by omega)
          case measure => simp [intOf]; omega
      · have : k = N := by omega
        subst this
        have HP := Lib.hid (pick_none_iff.2 (fun i hi => HT.out i (by simpa using hi)))
        have hst := st_final HL.out HP.out
        simp only [Int.toNat_natCast] at hst
        have hlen := HL.out
        have HS := Lib.hid hst; clear hst
        clear hlen
        go_wp2
        go_ret2
        refine ⟨_, _, t, rfl, ?_, ?_, hev⟩
        · rw [HS.out, HL.out]; exact ho
        · rw [HS.out]; exact hd
end Go.Proofs.Ytoaomedlgmnopaa
