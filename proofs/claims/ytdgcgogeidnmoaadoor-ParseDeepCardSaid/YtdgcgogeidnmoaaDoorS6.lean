/- The walk of palaverlaw07.ParseSigns. Conditions: the tables hold what they are laid with; the list is no longer than any may be. -/
import Derived.Test.YtdgcgogeidnmoaaDoorS5
import Derived.Test.YtdgcgogeidnmoaaDoorPm
set_option linter.unusedSimpArgs false
set_option linter.unusedVariables false
namespace Go.Proofs.YtdgcgogeidnmoaaDoor
open Go.RowKit Pal
theorem cat_str (l r : Bs) : Value.string ((⟨l.toArray⟩ : ByteArray) ++ ⟨r.toArray⟩) = .string ⟨(l ++ r).toArray⟩ := by
  rw [← strV_data]
  show strV (((⟨l.toArray⟩ : ByteArray) ++ ⟨r.toArray⟩).data.toList) = strV (l ++ r)
  congr 1
theorem signsT_snoc (l : List Bool) (b : Bool) : signsT (l ++ [b]) = signsT l ++ (if b then [33] else [45, 32]) := by
  induction l with
  | nil => simp [signsT]
  | cons a t ih => simp only [List.cons_append, signsT, ih, List.append_assoc]
theorem signsE_op (l : List Bool) : (signsE l).n = 0 ∧ ((signsE l).op = 4 ∧ l = [] ∨ (signsE l).op = 5 ∨ (signsE l).op = 6) := by
  cases l with
  | nil => exact ⟨rfl, .inl ⟨rfl, rfl⟩⟩
  | cons b r => cases b <;> simp [signsE, Ex.n, Ex.op]
theorem signsE_fine (l : List Bool) : Fine (signsE l) := by
  induction l with
  | nil => exact .mk _ _ _ _ (by decide) (by decide) (by decide) (fun k hk => by cases hk)
  | cons b r ih =>
    unfold signsE
    refine .mk _ _ _ _ (by cases b <;> decide) (by decide) (by decide) (fun k hk => ?_)
    obtain rfl := List.mem_singleton.1 hk; exact ih
theorem boolsV_at {w : World} {a : Option Addr} {n cap : Nat} {xs : List Bool} (t : BoolsV (gh w) (.slice a n cap) xs) {j : Nat} {x : Bool} (hj : xs[j]? = some x) : ∃ b off, a = some ⟨b, off, none⟩ ∧ w.cell? ⟨b, off + j, none⟩ = some (.bool x) := by
  obtain ⟨a', cap', hv, hn, hx⟩ := t
  simp only [Value.slice.injEq] at hv
  obtain ⟨rfl, rfl, rfl⟩ := hv
  obtain ⟨b, off, ha, hc⟩ := hx j x hj
  rw [gh_cell] at hc
  exact ⟨b, off, ha, hc⟩
theorem boolsV_form {h : GH} {v : Value} {xs : List Bool} (t : BoolsV h v xs) : ∃ a cap, v = .slice a xs.length cap := by obtain ⟨a, cap, hv, _⟩ := t; exact ⟨a, cap, hv⟩
/-- The expression, from the last sign of the m first ones. -/
def tailE (xs : List Bool) (m i : Nat) : Ex := signsE ((xs.take m).drop (m - i))
theorem tailE_zero (xs : List Bool) (m : Nat) : tailE xs m 0 = .mk 4 0 [120] [] := by
  unfold tailE
  rw [List.drop_eq_nil_of_le (by rw [List.length_take]; omega)]; rfl
theorem tailE_succ (xs : List Bool) (m i : Nat) (hm : m ≤ xs.length) (hi : i < m) : tailE xs m (i + 1) = .mk (if xs[m - 1 - i]'(by omega) then 6 else 5) 0 [] [tailE xs m i] := by
  unfold tailE
  have h1 : m - (i + 1) < (xs.take m).length := by rw [List.length_take]; omega
  rw [List.drop_eq_getElem_cons h1, List.getElem_take]
  have e1 : m - (i + 1) = m - 1 - i := by omega
  have e2 : m - (i + 1) + 1 = m - i := by omega
  simp only [signsE, e1, show m - 1 - i + 1 = m - i by omega]
theorem tailE_all (xs : List Bool) (m : Nat) : tailE xs m m = signsE (xs.take m) := by unfold tailE; rw [Nat.sub_self, List.drop_zero]
theorem tailE_fine (xs : List Bool) (m i : Nat) : Fine (tailE xs m i) := signsE_fine _
theorem signsT_take (xs : List Bool) (i : Nat) (hi : i < xs.length) : signsT (xs.take (i + 1)) = signsT (xs.take i) ++ (if xs[i] then [33] else [45, 32]) := by
  rw [List.take_succ_eq_append_getElem hi, signsT_snoc]
theorem signsT_len2 (l : List Bool) : (signsT l).length ≤ 2 * l.length := signs_len l
set_option maxRecDepth 1000000 in
set_option maxHeartbeats 8000000 in
theorem signs_walk (xs : List Bool) (v : Value) (w : World) (hL : Lay2 w) (hB : BoolsV (gh w) v xs) (hm : xs.length ≤ 9223372036854775807) :
    Calls Tryd.prog 9 #[v] w (yesPost w) := by
  obtain ⟨a, cap, rfl⟩ := boolsV_form hB
  obtain ⟨m, hmm, hm20, hmx⟩ : ∃ m, m = (if 20 < xs.length then 20 else xs.length) ∧ m ≤ 20 ∧ m ≤ xs.length := ⟨_, rfl, by split <;> omega, by split <;> omega⟩
  have he0 := heap_alloc_new w (.cells #[.int .i64 4, .int .i64 0, .string ⟨#[120]⟩, .slice none 0 0] 24)
  have hb0 := (Below.refl w.heap.size w).alloc (Nat.le_refl _) (.cells #[.int .i64 4, .int .i64 0, .string ⟨#[120]⟩, .slice none 0 0] 24)
  have HE0 := Lib.hid he0
  have HB0 := Lib.hid hb0
  have HL := Lib.hid hL
  clear he0 hb0 hL
  have hm2 : m = 20 ∧ 20 < xs.length ∨ m = xs.length ∧ ¬ 20 < xs.length := by
    by_cases h : 20 < xs.length
    · rw [if_pos h] at hmm; exact .inl ⟨hmm, h⟩
    · rw [if_neg h] at hmm; exact .inr ⟨hmm, h⟩
  clear hmm
  rcases hm2 with ⟨rfl, h20⟩ | ⟨rfl, h20⟩
  · have hq : decide ((20 : Int) < (xs.length : Int)) = true := decide_eq_true (by omega)
    go_enter Tryd.func9, Tryd.ntmps9
    go_wp2
    go_loopg [3, 6] 20 (fun g s i wr => ∃ (k : Nat) (u : Value), s = .string ⟨(signsT (xs.take k)).toArray⟩ ∧ i = .int .i64 k ∧ k + g = 20 ∧ Below w.heap.size w wr ∧
      wr.heap[w.heap.size]? = some (.cells #[.int .i64 (tailE xs 20 k).op, .int .i64 (tailE xs 20 k).n, .string ⟨(tailE xs 20 k).s.toArray⟩, u] 24 (0, 0)) ∧ KV (gp (fun b => w.heap.size < b) wr) u (tailE xs 20 k).ks)
    case atStart => exact ⟨0, .slice none 0 0, rfl, rfl, by omega, HB0.out, by rw [tailE_zero]; exact HE0.out, by rw [tailE_zero]; exact KV.nil _⟩
    case round =>
      obtain ⟨k, u, rfl, rfl, hg, hbw, hcell, hK⟩ := hrel
      obtain ⟨ua, uc, rfl⟩ := hK.form
      by_cases hlt : k < 20
      · obtain ⟨g, rfl⟩ : ∃ g, gk = g + 1 := ⟨gk - 1, by omega⟩
        have hkx : k < xs.length := by omega
        obtain ⟨j, hj⟩ : ∃ j : Nat, j = 20 - 1 - k := ⟨_, rfl⟩
        have hjx : j < xs.length := by omega
        have HTE := tailE_succ xs 20 k hmx hlt
        have HST := signsT_take xs k hkx
        have hsl := signsT_len2 (xs.take k)
        rw [List.length_take] at hsl
        have hsl2 : (signsT (xs.take k)).length ≤ 40 := by omega
        simp only [← hj] at HTE
        obtain ⟨b, off, rfl, c0⟩ := boolsV_at (hB.mono (below_gh hbw)) (List.getElem?_eq_getElem hjx)
        obtain ⟨b', off', hbb, c1⟩ := boolsV_at (hB.mono (below_gh hbw)) (List.getElem?_eq_getElem hkx)
        simp only [Option.some.injEq, Addr.mk.injEq, and_true] at hbb
        obtain ⟨rfl, rfl⟩ := hbb
        generalize signsT (xs.take k) = st at *
        generalize tailE xs 20 k = E at *
        have hbl := World.block_lt_of_cell? wr _ c0
        obtain ⟨⟨e0, e1, e2, e3⟩, f0, f1, f2, f3⟩ := four_all hcell
        obtain ⟨⟨m0, m1, m2, m3⟩, n0, n1, n2, n3⟩ := four_new hcell
        have hjn : (20 : Int) - 1 - (k : Int) = (j : Int) := by omega
        have hjn2 : (19 : Int) - (k : Int) = (j : Int) := by omega
        have i0 : (0 : Int) ≤ (j : Int) := by omega
        have i1 : (j : Int) < (xs.length : Int) := by omega
        have i2 : (k : Int) < (xs.length : Int) := by omega
        have HK := Lib.hid hK
        have HC := Lib.hid hcell
        have HBW := Lib.hid hbw
        have HJ := Lib.hid hj
        have H20 := Lib.hid h20
        clear hK hcell hbw
        obtain ⟨bj, hbj⟩ : ∃ bj, xs[j] = bj := ⟨_, rfl⟩
        obtain ⟨bk, hbk⟩ : ∃ bk, xs[k] = bk := ⟨_, rfl⟩
        rw [hbj] at c0 HTE
        rw [hbk] at c1 HST
        have HBK := Lib.hid hbk
        have HE := Lib.hid HTE
        have HS := Lib.hid HST
        clear hbj hbk HTE HST hsl hjn hj
        obtain ⟨b'', off'', hbb, c2⟩ := boolsV_at hB (List.getElem?_eq_getElem hkx)
        simp only [Option.some.injEq, Addr.mk.injEq, and_true] at hbb
        obtain ⟨rfl, rfl⟩ := hbb
        have hbw' : b < w.heap.size := World.block_lt_of_cell? w _ c2
        have hsz : w.heap.size < wr.heap.size := (Array.getElem?_eq_some_iff.1 HC.out).1
        have HBL := Lib.hid hbw'
        have HC2 := Lib.hid c2
        clear c2 hbw'
        cases bj
        · go_upto_region 14 with fail
          generalize hW : World.setCell (World.setCell (World.setCell (World.setCell _ _ _) _ _) _ _) _ _ = W0
          have hbW0 : Below w.heap.size w W0 := by rw [← hW]; exact below_set4 HBW.out (Nat.le_refl _) _ _ _ _
          have hcW0 : W0.heap[w.heap.size]? = some (.cells #[.int .i64 5, .int .i64 0, .string ⟨#[]⟩, .slice (some ⟨wr.heap.size, 0, none⟩) 1 1] 24 (0, 0)) := by
            rw [← hW]; exact set4_heap HC.out _ _ _ _
          have hs0 : W0.heap.size = wr.heap.size := by rw [← hW]; exact set4_size _ _ _ _
          have hkW0 : KV (gp (fun b => w.heap.size < b) W0) (.slice ua E.ks.length uc) E.ks := HK.out.mono (gp_le fun x hx hl => ⟨hx, by rw [← hW]; exact set4_other (by omega) _ _ _ _⟩)
          clear hW
          have hW1 : Below W0.heap.size W0 (W0.alloc (.cells #[.int .i64 E.op, .int .i64 E.n, .string ⟨E.s.toArray⟩, .slice ua E.ks.length uc] 24)) := (Below.refl _ _).alloc (Nat.le_refl _) _
          have hz1 := heap_alloc_new W0 (.cells #[.int .i64 E.op, .int .i64 E.n, .string ⟨E.s.toArray⟩, .slice ua E.ks.length uc] 24)
          rw [hs0] at hz1
          generalize W0.alloc (.cells #[.int .i64 E.op, .int .i64 E.n, .string ⟨E.s.toArray⟩, .slice ua E.ks.length uc] 24) = W at *
          have hbW := hbW0.trans (hW1.mono hbW0.size)
          have hcW := (hW1.block _ (by omega)).trans hcW0
          have hkW : KV (gp (fun b => w.heap.size < b) W) (.slice ua E.ks.length uc) E.ks := hkW0.mono (gp_le fun x hx hl => ⟨hx, hW1.block _ hl⟩)
          have hkN : KV (gp (fun b => w.heap.size < b) W) (.slice (some ⟨wr.heap.size, 0, none⟩) 1 1) [E] := KV.one (by unfold gp; rw [if_pos hsz]; exact hz1) hkW
          have c3 : W.cell? ⟨b, off + k, none⟩ = some (.bool bk) := by rw [hbW.cell (p := ⟨b, off + k, none⟩) HBL.out, HC2.out, HBK.out]
          have HHW := Lib.hid hcW
          have HKN := Lib.hid hkN
          have HBWW := Lib.hid hbW
          clear hbW0 hcW0 hs0 hkW0 hW1 hz1 hkW HBW HC HK hcW hkN hbW c0 c1 m0 m1 m2 m3 n0 n1 n2 n3 e0 e1 e2 e3 f0 f1 f2 f3
          cases bk
          · go_wp2
            generalize hcat : (_ ++ _ : ByteArray) = xx
            go_roundg g
            case rel => exact ⟨k + 1, _, by rw [HS.out, ← hcat]; exact cat_str st [45, 32], by go_num, by omega, HBWW.out, by rw [HE.out]; exact HHW.out, by rw [HE.out]; exact HKN.out⟩
            case measure => omega
          · go_wp2
            generalize hcat : (_ ++ _ : ByteArray) = xx
            go_roundg g
            case rel => exact ⟨k + 1, _, by rw [HS.out, ← hcat]; exact cat_str st [33], by go_num, by omega, HBWW.out, by rw [HE.out]; exact HHW.out, by rw [HE.out]; exact HKN.out⟩
            case measure => omega
        · go_upto_region 14 with fail
          generalize hW : World.setCell (World.setCell (World.setCell (World.setCell _ _ _) _ _) _ _) _ _ = W0
          have hbW0 : Below w.heap.size w W0 := by rw [← hW]; exact below_set4 HBW.out (Nat.le_refl _) _ _ _ _
          have hcW0 : W0.heap[w.heap.size]? = some (.cells #[.int .i64 6, .int .i64 0, .string ⟨#[]⟩, .slice (some ⟨wr.heap.size, 0, none⟩) 1 1] 24 (0, 0)) := by
            rw [← hW]; exact set4_heap HC.out _ _ _ _
          have hs0 : W0.heap.size = wr.heap.size := by rw [← hW]; exact set4_size _ _ _ _
          have hkW0 : KV (gp (fun b => w.heap.size < b) W0) (.slice ua E.ks.length uc) E.ks := HK.out.mono (gp_le fun x hx hl => ⟨hx, by rw [← hW]; exact set4_other (by omega) _ _ _ _⟩)
          clear hW
          have hW1 : Below W0.heap.size W0 (W0.alloc (.cells #[.int .i64 E.op, .int .i64 E.n, .string ⟨E.s.toArray⟩, .slice ua E.ks.length uc] 24)) := (Below.refl _ _).alloc (Nat.le_refl _) _
          have hz1 := heap_alloc_new W0 (.cells #[.int .i64 E.op, .int .i64 E.n, .string ⟨E.s.toArray⟩, .slice ua E.ks.length uc] 24)
          rw [hs0] at hz1
          generalize W0.alloc (.cells #[.int .i64 E.op, .int .i64 E.n, .string ⟨E.s.toArray⟩, .slice ua E.ks.length uc] 24) = W at *
          have hbW := hbW0.trans (hW1.mono hbW0.size)
          have hcW := (hW1.block _ (by omega)).trans hcW0
          have hkW : KV (gp (fun b => w.heap.size < b) W) (.slice ua E.ks.length uc) E.ks := hkW0.mono (gp_le fun x hx hl => ⟨hx, hW1.block _ hl⟩)
          have hkN : KV (gp (fun b => w.heap.size < b) W) (.slice (some ⟨wr.heap.size, 0, none⟩) 1 1) [E] := KV.one (by unfold gp; rw [if_pos hsz]; exact hz1) hkW
          have c3 : W.cell? ⟨b, off + k, none⟩ = some (.bool bk) := by rw [hbW.cell (p := ⟨b, off + k, none⟩) HBL.out, HC2.out, HBK.out]
          have HHW := Lib.hid hcW
          have HKN := Lib.hid hkN
          have HBWW := Lib.hid hbW
          clear hbW0 hcW0 hs0 hkW0 hW1 hz1 hkW HBW HC HK hcW hkN hbW c0 c1 m0 m1 m2 m3 n0 n1 n2 n3 e0 e1 e2 e3 f0 f1 f2 f3
          cases bk
          · go_wp2
            generalize hcat : (_ ++ _ : ByteArray) = xx
            go_roundg g
            case rel => exact ⟨k + 1, _, by rw [HS.out, ← hcat]; exact cat_str st [45, 32], by go_num, by omega, HBWW.out, by rw [HE.out]; exact HHW.out, by rw [HE.out]; exact HKN.out⟩
            case measure => omega
          · go_wp2
            generalize hcat : (_ ++ _ : ByteArray) = xx
            go_roundg g
            case rel => exact ⟨k + 1, _, by rw [HS.out, ← hcat]; exact cat_str st [33], by go_num, by omega, HBWW.out, by rw [HE.out]; exact HHW.out, by rw [HE.out]; exact HKN.out⟩
            case measure => omega
      · obtain rfl : k = 20 := by omega
        have hlen := signsT_len2 (xs.take 20)
        rw [List.length_take] at hlen
        have hlT : (xs.take 20).length ≤ 20 := by rw [List.length_take]; omega
        have hlaw := signs_law (xs.take 20) hlT
        rw [tailE_all] at hcell hK
        have hlen2 : (signsT (xs.take 20)).length ≤ 40 := by omega
        have hcat : ((⟨(signsT (xs.take 20)).toArray⟩ : ByteArray) ++ ⟨#[120]⟩).data.toList = signsT (xs.take 20) ++ [120] := by simp
        have hsz2 : ((⟨(signsT (xs.take 20)).toArray⟩ : ByteArray) ++ ⟨#[120]⟩).size ≤ 9223372036854775807 := by
          have : ((⟨(signsT (xs.take 20)).toArray⟩ : ByteArray) ++ ⟨#[120]⟩).size = (((⟨(signsT (xs.take 20)).toArray⟩ : ByteArray) ++ ⟨#[120]⟩).data.toList).length := by rw [len_toList]
          rw [this, hcat, List.length_append]; show _ + 1 ≤ _; omega
        have hP := fun W hL => parse_yes ((⟨(signsT (xs.take 20)).toArray⟩ : ByteArray) ++ ⟨#[120]⟩) (signsE (xs.take 20)) W hsz2 (by rw [hcat]; exact hlaw) hL
        have hck := parseM_check hlaw
        have hfx := signsE_fine (xs.take 20)
        generalize signsT (xs.take 20) = st at *
        generalize signsE (xs.take 20) = X at *
        have hsz : w.heap.size < wr.heap.size := (Array.getElem?_eq_some_iff.1 hcell).1
        have HP := Lib.hid hP
        have HCK := Lib.hid hck
        have HF := Lib.hid hfx
        have HC := Lib.hid hcell
        have HK := Lib.hid (hK.mono (gp_gh _ wr))
        have HB := Lib.hid hbw
        clear hlen hlT hlaw hP hck hfx hcell hK hbw hcat hsz2 hB
        go_wp2_with fail
        refine (HP.out _ (HL.out.lay.below HB.out)).mono ?_
        rintro r W1 ⟨hb1, a1, k1, rfl, hK1⟩
        have hbn := (Below.refl W1.heap.size W1).alloc (Nat.le_refl _) (.cells #[.int .i64 X.op, .int .i64 X.n, .string ⟨X.s.toArray⟩, .slice a1 X.ks.length k1] 24)
        have hbA := (HB.out.seq hb1).seq hbn
        have hKA := hK1.keep hbn
        have hKB := (HK.out.keep hb1).keep hbn
        have hc1 := (hbn.block _ (by have := hb1.size; omega)).trans ((hb1.block _ hsz).trans HC.out)
        have hc2 := heap_alloc_new W1 (.cells #[.int .i64 X.op, .int .i64 X.n, .string ⟨X.s.toArray⟩, .slice a1 X.ks.length k1] 24)
        obtain ⟨c0, c1, c2, c3⟩ := four_cells hc1
        clear hb1 hK1 hbn HB HK HC HP
        go_upto_region 18 with fail
        generalize W1.alloc (.cells #[.int .i64 X.op, .int .i64 X.n, .string ⟨X.s.toArray⟩, .slice a1 X.ks.length k1] 24) = WB at *
        obtain ⟨d0, d1, d2, d3⟩ := four_cells hc2
        have hs := parseSame_any X X _ _ WB HF.out HF.out (HL.out.lay.below hbA) hKA hKB
        rw [HCK.out, Bool.true_and, Bool.true_and, (sameX_iff X X).2 rfl] at hs
        have haw := fun W hb => awake7 W (HL.out.below hb)
        unfold exV strV at hs
        have HS := Lib.hid hs
        have HA := Lib.hid haw
        have HBA := Lib.hid hbA
        clear hs hbA hKA hKB hc1 hc2 haw
        go_wp2_with fail
        refine HS.out.mono ?_
        rintro r W3 ⟨rfl, hb3⟩
        have hbC := HBA.out.seq hb3
        clear hb3 c0 c1 c2 c3 d0 d1 d2 d3
        go_wp2_with fail
        refine (HA.out _ hbC).mono ?_
        rintro r W4 ⟨rfl, hb4⟩
        have hbD := hbC.seq hb4
        go_wp2
        go_ret
        exact ⟨rfl, hbD⟩
  · have hq : decide ((20 : Int) < (xs.length : Int)) = false := decide_eq_false (by omega)
    go_enter Tryd.func9, Tryd.ntmps9
    go_wp2
    go_loopg [3, 6] xs.length (fun g s i wr => ∃ (k : Nat) (u : Value), s = .string ⟨(signsT (xs.take k)).toArray⟩ ∧ i = .int .i64 k ∧ k + g = xs.length ∧ Below w.heap.size w wr ∧
      wr.heap[w.heap.size]? = some (.cells #[.int .i64 (tailE xs xs.length k).op, .int .i64 (tailE xs xs.length k).n, .string ⟨(tailE xs xs.length k).s.toArray⟩, u] 24 (0, 0)) ∧ KV (gp (fun b => w.heap.size < b) wr) u (tailE xs xs.length k).ks)
    case atStart => exact ⟨0, .slice none 0 0, rfl, rfl, by omega, HB0.out, by rw [tailE_zero]; exact HE0.out, by rw [tailE_zero]; exact KV.nil _⟩
    case round =>
      obtain ⟨k, u, rfl, rfl, hg, hbw, hcell, hK⟩ := hrel
      obtain ⟨ua, uc, rfl⟩ := hK.form
      by_cases hlt : k < xs.length
      · obtain ⟨g, rfl⟩ : ∃ g, gk = g + 1 := ⟨gk - 1, by omega⟩
        have hkx : k < xs.length := by omega
        obtain ⟨j, hj⟩ : ∃ j : Nat, j = xs.length - 1 - k := ⟨_, rfl⟩
        have hjx : j < xs.length := by omega
        have HTE := tailE_succ xs xs.length k (Nat.le_refl _) hlt
        have HST := signsT_take xs k hkx
        have hsl := signsT_len2 (xs.take k)
        rw [List.length_take] at hsl
        have hsl2 : (signsT (xs.take k)).length ≤ 40 := by omega
        simp only [← hj] at HTE
        obtain ⟨b, off, rfl, c0⟩ := boolsV_at (hB.mono (below_gh hbw)) (List.getElem?_eq_getElem hjx)
        obtain ⟨b', off', hbb, c1⟩ := boolsV_at (hB.mono (below_gh hbw)) (List.getElem?_eq_getElem hkx)
        simp only [Option.some.injEq, Addr.mk.injEq, and_true] at hbb
        obtain ⟨rfl, rfl⟩ := hbb
        generalize signsT (xs.take k) = st at *
        generalize tailE xs xs.length k = E at *
        have hbl := World.block_lt_of_cell? wr _ c0
        obtain ⟨⟨e0, e1, e2, e3⟩, f0, f1, f2, f3⟩ := four_all hcell
        obtain ⟨⟨m0, m1, m2, m3⟩, n0, n1, n2, n3⟩ := four_new hcell
        have hjn : True := trivial
        have hjn2 : (xs.length : Int) - 1 - (k : Int) = (j : Int) := by omega
        have i0 : (0 : Int) ≤ (j : Int) := by omega
        have i1 : (j : Int) < (xs.length : Int) := by omega
        have i2 : (k : Int) < (xs.length : Int) := by omega
        have HK := Lib.hid hK
        have HC := Lib.hid hcell
        have HBW := Lib.hid hbw
        have HJ := Lib.hid hj
        have H20 := Lib.hid h20
        clear hK hcell hbw
        obtain ⟨bj, hbj⟩ : ∃ bj, xs[j] = bj := ⟨_, rfl⟩
        obtain ⟨bk, hbk⟩ : ∃ bk, xs[k] = bk := ⟨_, rfl⟩
        rw [hbj] at c0 HTE
        rw [hbk] at c1 HST
        have HBK := Lib.hid hbk
        have HE := Lib.hid HTE
        have HS := Lib.hid HST
        clear hbj hbk HTE HST hsl hjn hj
        obtain ⟨b'', off'', hbb, c2⟩ := boolsV_at hB (List.getElem?_eq_getElem hkx)
        simp only [Option.some.injEq, Addr.mk.injEq, and_true] at hbb
        obtain ⟨rfl, rfl⟩ := hbb
        have hbw' : b < w.heap.size := World.block_lt_of_cell? w _ c2
        have hsz : w.heap.size < wr.heap.size := (Array.getElem?_eq_some_iff.1 HC.out).1
        have HBL := Lib.hid hbw'
        have HC2 := Lib.hid c2
        clear c2 hbw'
        cases bj
        · go_upto_region 14 with fail
          generalize hW : World.setCell (World.setCell (World.setCell (World.setCell _ _ _) _ _) _ _) _ _ = W0
          have hbW0 : Below w.heap.size w W0 := by rw [← hW]; exact below_set4 HBW.out (Nat.le_refl _) _ _ _ _
          have hcW0 : W0.heap[w.heap.size]? = some (.cells #[.int .i64 5, .int .i64 0, .string ⟨#[]⟩, .slice (some ⟨wr.heap.size, 0, none⟩) 1 1] 24 (0, 0)) := by
            rw [← hW]; exact set4_heap HC.out _ _ _ _
          have hs0 : W0.heap.size = wr.heap.size := by rw [← hW]; exact set4_size _ _ _ _
          have hkW0 : KV (gp (fun b => w.heap.size < b) W0) (.slice ua E.ks.length uc) E.ks := HK.out.mono (gp_le fun x hx hl => ⟨hx, by rw [← hW]; exact set4_other (by omega) _ _ _ _⟩)
          clear hW
          have hW1 : Below W0.heap.size W0 (W0.alloc (.cells #[.int .i64 E.op, .int .i64 E.n, .string ⟨E.s.toArray⟩, .slice ua E.ks.length uc] 24)) := (Below.refl _ _).alloc (Nat.le_refl _) _
          have hz1 := heap_alloc_new W0 (.cells #[.int .i64 E.op, .int .i64 E.n, .string ⟨E.s.toArray⟩, .slice ua E.ks.length uc] 24)
          rw [hs0] at hz1
          generalize W0.alloc (.cells #[.int .i64 E.op, .int .i64 E.n, .string ⟨E.s.toArray⟩, .slice ua E.ks.length uc] 24) = W at *
          have hbW := hbW0.trans (hW1.mono hbW0.size)
          have hcW := (hW1.block _ (by omega)).trans hcW0
          have hkW : KV (gp (fun b => w.heap.size < b) W) (.slice ua E.ks.length uc) E.ks := hkW0.mono (gp_le fun x hx hl => ⟨hx, hW1.block _ hl⟩)
          have hkN : KV (gp (fun b => w.heap.size < b) W) (.slice (some ⟨wr.heap.size, 0, none⟩) 1 1) [E] := KV.one (by unfold gp; rw [if_pos hsz]; exact hz1) hkW
          have c3 : W.cell? ⟨b, off + k, none⟩ = some (.bool bk) := by rw [hbW.cell (p := ⟨b, off + k, none⟩) HBL.out, HC2.out, HBK.out]
          have HHW := Lib.hid hcW
          have HKN := Lib.hid hkN
          have HBWW := Lib.hid hbW
          clear hbW0 hcW0 hs0 hkW0 hW1 hz1 hkW HBW HC HK hcW hkN hbW c0 c1 m0 m1 m2 m3 n0 n1 n2 n3 e0 e1 e2 e3 f0 f1 f2 f3
          cases bk
          · go_wp2
            generalize hcat : (_ ++ _ : ByteArray) = xx
            go_roundg g
            case rel => exact ⟨k + 1, _, by rw [HS.out, ← hcat]; exact cat_str st [45, 32], by go_num, by omega, HBWW.out, by rw [HE.out]; exact HHW.out, by rw [HE.out]; exact HKN.out⟩
            case measure => omega
          · go_wp2
            generalize hcat : (_ ++ _ : ByteArray) = xx
            go_roundg g
            case rel => exact ⟨k + 1, _, by rw [HS.out, ← hcat]; exact cat_str st [33], by go_num, by omega, HBWW.out, by rw [HE.out]; exact HHW.out, by rw [HE.out]; exact HKN.out⟩
            case measure => omega
        · go_upto_region 14 with fail
          generalize hW : World.setCell (World.setCell (World.setCell (World.setCell _ _ _) _ _) _ _) _ _ = W0
          have hbW0 : Below w.heap.size w W0 := by rw [← hW]; exact below_set4 HBW.out (Nat.le_refl _) _ _ _ _
          have hcW0 : W0.heap[w.heap.size]? = some (.cells #[.int .i64 6, .int .i64 0, .string ⟨#[]⟩, .slice (some ⟨wr.heap.size, 0, none⟩) 1 1] 24 (0, 0)) := by
            rw [← hW]; exact set4_heap HC.out _ _ _ _
          have hs0 : W0.heap.size = wr.heap.size := by rw [← hW]; exact set4_size _ _ _ _
          have hkW0 : KV (gp (fun b => w.heap.size < b) W0) (.slice ua E.ks.length uc) E.ks := HK.out.mono (gp_le fun x hx hl => ⟨hx, by rw [← hW]; exact set4_other (by omega) _ _ _ _⟩)
          clear hW
          have hW1 : Below W0.heap.size W0 (W0.alloc (.cells #[.int .i64 E.op, .int .i64 E.n, .string ⟨E.s.toArray⟩, .slice ua E.ks.length uc] 24)) := (Below.refl _ _).alloc (Nat.le_refl _) _
          have hz1 := heap_alloc_new W0 (.cells #[.int .i64 E.op, .int .i64 E.n, .string ⟨E.s.toArray⟩, .slice ua E.ks.length uc] 24)
          rw [hs0] at hz1
          generalize W0.alloc (.cells #[.int .i64 E.op, .int .i64 E.n, .string ⟨E.s.toArray⟩, .slice ua E.ks.length uc] 24) = W at *
          have hbW := hbW0.trans (hW1.mono hbW0.size)
          have hcW := (hW1.block _ (by omega)).trans hcW0
          have hkW : KV (gp (fun b => w.heap.size < b) W) (.slice ua E.ks.length uc) E.ks := hkW0.mono (gp_le fun x hx hl => ⟨hx, hW1.block _ hl⟩)
          have hkN : KV (gp (fun b => w.heap.size < b) W) (.slice (some ⟨wr.heap.size, 0, none⟩) 1 1) [E] := KV.one (by unfold gp; rw [if_pos hsz]; exact hz1) hkW
          have c3 : W.cell? ⟨b, off + k, none⟩ = some (.bool bk) := by rw [hbW.cell (p := ⟨b, off + k, none⟩) HBL.out, HC2.out, HBK.out]
          have HHW := Lib.hid hcW
          have HKN := Lib.hid hkN
          have HBWW := Lib.hid hbW
          clear hbW0 hcW0 hs0 hkW0 hW1 hz1 hkW HBW HC HK hcW hkN hbW c0 c1 m0 m1 m2 m3 n0 n1 n2 n3 e0 e1 e2 e3 f0 f1 f2 f3
          cases bk
          · go_wp2
            generalize hcat : (_ ++ _ : ByteArray) = xx
            go_roundg g
            case rel => exact ⟨k + 1, _, by rw [HS.out, ← hcat]; exact cat_str st [45, 32], by go_num, by omega, HBWW.out, by rw [HE.out]; exact HHW.out, by rw [HE.out]; exact HKN.out⟩
            case measure => omega
          · go_wp2
            generalize hcat : (_ ++ _ : ByteArray) = xx
            go_roundg g
            case rel => exact ⟨k + 1, _, by rw [HS.out, ← hcat]; exact cat_str st [33], by go_num, by omega, HBWW.out, by rw [HE.out]; exact HHW.out, by rw [HE.out]; exact HKN.out⟩
            case measure => omega
      · have hk : k = xs.length := by omega
        subst hk
        have hlen := signsT_len2 (xs.take xs.length)
        rw [List.length_take] at hlen
        have hlT : (xs.take xs.length).length ≤ 20 := by rw [List.length_take]; omega
        have hlaw := signs_law (xs.take xs.length) hlT
        rw [tailE_all] at hcell hK
        have hlen2 : (signsT (xs.take xs.length)).length ≤ 40 := by omega
        have hcat : ((⟨(signsT (xs.take xs.length)).toArray⟩ : ByteArray) ++ ⟨#[120]⟩).data.toList = signsT (xs.take xs.length) ++ [120] := by simp
        have hsz2 : ((⟨(signsT (xs.take xs.length)).toArray⟩ : ByteArray) ++ ⟨#[120]⟩).size ≤ 9223372036854775807 := by
          have : ((⟨(signsT (xs.take xs.length)).toArray⟩ : ByteArray) ++ ⟨#[120]⟩).size = (((⟨(signsT (xs.take xs.length)).toArray⟩ : ByteArray) ++ ⟨#[120]⟩).data.toList).length := by rw [len_toList]
          rw [this, hcat, List.length_append]; show _ + 1 ≤ _; omega
        have hP := fun W hL => parse_yes ((⟨(signsT (xs.take xs.length)).toArray⟩ : ByteArray) ++ ⟨#[120]⟩) (signsE (xs.take xs.length)) W hsz2 (by rw [hcat]; exact hlaw) hL
        have hck := parseM_check hlaw
        have hfx := signsE_fine (xs.take xs.length)
        generalize signsT (xs.take xs.length) = st at *
        generalize signsE (xs.take xs.length) = X at *
        have hsz : w.heap.size < wr.heap.size := (Array.getElem?_eq_some_iff.1 hcell).1
        have HP := Lib.hid hP
        have HCK := Lib.hid hck
        have HF := Lib.hid hfx
        have HC := Lib.hid hcell
        have HK := Lib.hid (hK.mono (gp_gh _ wr))
        have HB := Lib.hid hbw
        clear hlen hlT hlaw hP hck hfx hcell hK hbw hcat hsz2 hB
        go_wp2_with fail
        refine (HP.out _ (HL.out.lay.below HB.out)).mono ?_
        rintro r W1 ⟨hb1, a1, k1, rfl, hK1⟩
        have hbn := (Below.refl W1.heap.size W1).alloc (Nat.le_refl _) (.cells #[.int .i64 X.op, .int .i64 X.n, .string ⟨X.s.toArray⟩, .slice a1 X.ks.length k1] 24)
        have hbA := (HB.out.seq hb1).seq hbn
        have hKA := hK1.keep hbn
        have hKB := (HK.out.keep hb1).keep hbn
        have hc1 := (hbn.block _ (by have := hb1.size; omega)).trans ((hb1.block _ hsz).trans HC.out)
        have hc2 := heap_alloc_new W1 (.cells #[.int .i64 X.op, .int .i64 X.n, .string ⟨X.s.toArray⟩, .slice a1 X.ks.length k1] 24)
        obtain ⟨c0, c1, c2, c3⟩ := four_cells hc1
        clear hb1 hK1 hbn HB HK HC HP
        go_upto_region 18 with fail
        generalize W1.alloc (.cells #[.int .i64 X.op, .int .i64 X.n, .string ⟨X.s.toArray⟩, .slice a1 X.ks.length k1] 24) = WB at *
        obtain ⟨d0, d1, d2, d3⟩ := four_cells hc2
        have hs := parseSame_any X X _ _ WB HF.out HF.out (HL.out.lay.below hbA) hKA hKB
        rw [HCK.out, Bool.true_and, Bool.true_and, (sameX_iff X X).2 rfl] at hs
        have haw := fun W hb => awake7 W (HL.out.below hb)
        unfold exV strV at hs
        have HS := Lib.hid hs
        have HA := Lib.hid haw
        have HBA := Lib.hid hbA
        clear hs hbA hKA hKB hc1 hc2 haw
        go_wp2_with fail
        refine HS.out.mono ?_
        rintro r W3 ⟨rfl, hb3⟩
        have hbC := HBA.out.seq hb3
        clear hb3 c0 c1 c2 c3 d0 d1 d2 d3
        go_wp2_with fail
        refine (HA.out _ hbC).mono ?_
        rintro r W4 ⟨rfl, hb4⟩
        have hbD := hbC.seq hb4
        go_wp2
        go_ret
        exact ⟨rfl, hbD⟩
end Go.Proofs.YtdgcgogeidnmoaaDoor
