/- How long an expression's text is; the walks of parse.Text, parse.Same. Conditions: the tables hold what they are laid with; an expression's numbers are an int64's, its texts as long as any may be. -/
import Derived.Test.YtoklhppalkgdeaaGreatDoorS3
import Derived.Test.YtoklhppalkgdeaaGreatDoorVe
import Derived.Lib.ItoaLen
set_option linter.unusedSimpArgs false
set_option linter.unusedVariables false
namespace Go.Proofs.YtoklhppalkgdeaaGreatDoor
open Go.RowKit Pal
theorem quote1_len (r : Int) : (quote1 r).length ≤ 6 := by
  have := (enc_len r).2
  unfold quote1
  split
  · simp; omega
  · split
    · simp
    · omega
theorem quoteF_len : ∀ (f : Nat) (l : Bs), (quoteF f l).length ≤ 6 * l.length := by
  intro f
  induction f with
  | zero => intro l; simp [quoteF]
  | succ f ih =>
    intro l
    unfold quoteF
    split
    · simp
    · rename_i h
      have h1 := ih (l.drop (wd l))
      have h2 := quote1_len (rn l)
      have h3 := wd_pos l
      have h4 := wd_le h
      rw [List.length_append]
      rw [List.length_drop] at h1
      omega
theorem join_sum (l : List Bs) : (Lib.join l [44, 32]).length ≤ (l.map List.length).sum + 2 * l.length := by
  have ht : ∀ l : List Bs, (Lib.joinTail [44, 32] l).length ≤ (l.map List.length).sum + 2 * l.length := by
    intro l
    induction l with
    | nil => simp [Lib.joinTail]
    | cons a t ih => simp [Lib.joinTail] at ih ⊢; omega
  cases l with
  | nil => simp [Lib.join]
  | cons a t =>
    have h := ht t
    have e : Lib.join (a :: t) [44, 32] = a ++ Lib.joinTail [44, 32] t := Lib.join_cons _ _ _
    rw [e, List.length_append]
    simp only [List.map_cons, List.sum_cons, List.length_cons]
    omega
theorem alone_s4 {op n : Int} {s : Bs} {ks : List Ex} (h : alone op n s ks = true) (h2 : op = 2 ∨ op = 4) : s.length ≤ 400 := by
  rcases h2 with rfl | rfl
  · exact alone_s h rfl
  · unfold alone at h
    rw [Bool.and_eq_true] at h
    have := h.2
    simp only [show ¬ ((4 : Int) = 1) by decide, show ¬ ((4 : Int) = 2) by decide, show ¬ ((4 : Int) = 3) by decide, if_false, if_true, Bool.and_eq_true] at this
    unfold isName at this
    simp only [Bool.and_eq_true, decide_eq_true_eq] at this
    exact this.2.1
theorem sgn_len (op : Int) : (sgn op).length ≤ 2 := by
  unfold sgn
  repeat' split
  all_goals decide
theorem wordOf_len (op : Int) : (wordOf op).length ≤ 3 := by
  unfold wordOf
  repeat' split
  all_goals decide
theorem textOp_len (op n : Int) (s : Bs) (l : List Bs) (ks : List Ex) (hl : l.length = ks.length) (ha : alone op n s ks = true) (hn : -9223372036854775808 ≤ n ∧ n ≤ 9223372036854775807) :
    (textOp op n s l).length ≤ 2500 + (l.map List.length).sum := by
  have har := alone_ar2 ha
  have h3 := arity_le2 har
  have hj := join_sum l
  have hs := alone_s4 ha
  unfold textOp
  split
  · have := Lib.itoa_length_le n hn.1 hn.2; omega
  · split
    · rename_i h2
      have h4 := hs (.inl h2)
      have := quoteF_len s.length s
      unfold quoteB
      simp; omega
    · split
      · have hb : ∀ b, (Lib.formatBool b).length ≤ 5 := by decide
        have := hb (n == 1); omega
      · split
        · rename_i h4
          have := hs (.inr h4); omega
        · split
          · simp; omega
          · split
            · simp; omega
            · split
              · have hw := wordOf_len op
                simp; omega
              · rename_i h0 h1 h2 h4 h5 h6 h7
                have h2' : arity op = 2 := by unfold arity; rw [if_neg (by omega), if_neg (by omega), if_pos (by omega)]
                match l, (by omega : l.length = 2) with
                | [x, y], _ =>
                  have hw := sgn_len op
                  have e : ([40] ++ [x, y].getD 0 [] ++ [32] ++ sgn op ++ [32] ++ [x, y].getD 1 [] ++ [41] : Bs) = [40] ++ x ++ [32] ++ sgn op ++ [32] ++ y ++ [41] := rfl
                  rw [e]
                  simp only [List.length_append, List.length_cons, List.length_nil, List.map_cons, List.map_nil, List.sum_cons, List.sum_nil]
                  omega
theorem chk_text : ∀ (e : Ex), Fine e → ∀ (deep left m : Nat), left ≤ 128 → chk e deep left = some m → m < left ∧ (textX e).length ≤ 2500 * (left - m) ∧ Tz e := by
  intro e
  refine Ex.ind (P := fun e => Fine e → ∀ (deep left m : Nat), left ≤ 128 → chk e deep left = some m → m < left ∧ (textX e).length ≤ 2500 * (left - m) ∧ Tz e) ?_ e
  intro op n s ks ih hF deep left m hl hc
  have hFk : (-9223372036854775808 ≤ n ∧ n ≤ 9223372036854775807) ∧ ∀ k ∈ ks, Fine k := by cases hF with | mk _ _ _ _ _ h1 _ h2 => exact ⟨h1, h2⟩
  by_cases hb : left = 0 ∨ 24 < deep ∨ alone op n s ks = false
  · rw [chk_no hb] at hc; cases hc
  · rw [chk_yes hb] at hc
    have ha : alone op n s ks = true := by
      cases hh : alone op n s ks with
      | true => rfl
      | false => exact absurd (.inr (.inr hh)) hb
    have go : ∀ (l : List Ex), (∀ k ∈ l, k ∈ ks) → ∀ left m, left ≤ 128 → chkL l (deep + 1) left = some m → m ≤ left ∧ ((textL l).map List.length).sum ≤ 2500 * (left - m) ∧ ∀ k ∈ l, Tz k := by
      intro l
      induction l with
      | nil => intro _ left m _ h; rw [chkL_nil] at h; cases h; rw [textL_nil]; simp
      | cons a t iht =>
        intro hm left m hl h
        rw [chkL_cons] at h
        cases hca : chk a (deep + 1) left with
        | none => rw [hca] at h; cases h
        | some x =>
          rw [hca, Option.bind_some] at h
          have h1 := ih a (hm a (by simp)) (hFk.2 a (hm a (by simp))) _ _ _ hl hca
          have h2 := iht (fun k hk => hm k (by simp [hk])) x m (by omega) h
          refine ⟨by omega, ?_, fun k hk => ?_⟩
          · rw [textL_cons]; simp only [List.map_cons, List.sum_cons]; omega
          · rcases List.mem_cons.1 hk with rfl | hk
            · exact h1.2.2
            · exact h2.2.2 k hk
    have hg := go ks (fun _ h => h) (left - 1) m (by omega) hc
    have hlen : (textX (.mk op n s ks)).length ≤ 2500 * (left - m) := by
      rw [textX_mk]
      have := textOp_len op n s (textL ks) ks (textL_len ks) ha hFk.1
      omega
    exact ⟨by omega, hlen, .mk op n s ks ha hFk.1 (by omega) hg.2.2⟩
theorem check_tz {e : Ex} (hF : Fine e) (h : check e = true) : Tz e := by
  unfold check at h
  obtain ⟨m, hm⟩ := Option.isSome_iff_exists.1 h
  exact (chk_text e hF 1 128 m (Nat.le_refl _) hm).2.2
theorem ptext_any (e : Ex) : TextW e := Ex.ind (P := TextW) (fun op n s ks ih => text_walk op n s ks ih) e
set_option maxRecDepth 1000000 in
set_option maxHeartbeats 4000000 in
theorem parseText_any (e : Ex) (v : Value) (w : World) (hF : Fine e) (hL : Lay2 w) (hK : KV (gh w) v e.ks) (hc : check e = true) :
    Calls Tryz.prog 27 #[exV e.op e.n e.s v] w (strPost (textX e) w) := by
  obtain ⟨a, cap, rfl⟩ := hK.form
  have hb := (Below.refl w.heap.size w).alloc (Nat.le_refl _) (.cells #[.int .i64 e.op, .int .i64 e.n, .string ⟨e.s.toArray⟩, .slice a e.ks.length cap] 28)
  have hck := parseCheck_any e (exV e.op e.n e.s (.slice a e.ks.length cap)) _ hF (hL.lay.below hb) ⟨_, rfl, hK.keep hb⟩
  rw [hc] at hck
  have htx := fun W hb => ptext_any e (.slice a e.ks.length cap) W (check_tz hF hc) (hL.below hb) (hK.keep hb)
  unfold exV strV at hck htx
  have HC := Lib.hid hck
  have HB := Lib.hid hb
  have HT := Lib.hid htx
  clear hck htx hb hc
  unfold exV strV
  go_enter Tryz.func27, Tryz.ntmps27
  go_wp2_with fail
  refine HC.out.mono ?_
  rintro r W1 ⟨rfl, hb1⟩
  have hb2 := HB.out.seq hb1
  have hblk : W1.heap[w.heap.size]? = some (.cells #[.int .i64 e.op, .int .i64 e.n, .string ⟨e.s.toArray⟩, .slice a e.ks.length cap] 28 (0, 0)) := by
    rw [hb1.block _ (by simp)]; exact heap_alloc_new w _
  obtain ⟨c0, c1, c2, c3⟩ := four_cells hblk
  clear HC HB hb1 hblk
  go_wp2_with fail
  refine (HT.out _ hb2).mono ?_
  rintro r W2 ⟨rfl, hb3⟩
  have hb4 := hb2.seq hb3
  go_wp2
  go_ret
  exact ⟨rfl, hb4⟩
end Go.Proofs.YtoklhppalkgdeaaGreatDoor
