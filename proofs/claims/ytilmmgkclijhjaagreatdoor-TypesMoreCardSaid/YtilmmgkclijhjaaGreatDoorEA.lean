/- What expressions come to: it may be a value always; texts put together, cut off, folded: plain laws of eval. Condition where it is said: the expression may be. Values in boxes, rows of values, what eval is handed: how they lie. No condition. -/
import Derived.Test.YtilmmgkclijhjaaGreatDoorVc
import Derived.Test.YtilmmgkclijhjaaGreatDoorT1
import Derived.Lib.MapLaws
set_option linter.unusedSimpArgs false
set_option linter.unusedVariables false
set_option linter.unusedSectionVars false
namespace Go.Proofs.YtilmmgkclijhjaaGreatDoor
open Go.RowKit Pal
theorem alone_kids {op n : Int} {s : Bs} {ks : List Ex} (h : alone op n s ks = true) : (ks.length : Int) = arity op := by
  unfold alone at h
  rw [Bool.and_eq_true, decide_eq_true_eq] at h
  exact h.1
theorem enc_take {l : Bs} (hn : l ≠ []) (h : ¬ (rn l = 65533 ∧ wd l = 1)) : Lib.encodeRune (rn l) = l.take (wd l) := by
  have := Lib.encode_decode l hn (by rw [decodeL_eq]; intro hh; exact h ⟨by unfold rn; omega, hh.2⟩)
  rw [decodeL_eq] at this
  exact this
theorem val_step {l : Bs} (hn : l ≠ []) (h : val l = true) : Lib.encodeRune (rn l) = l.take (wd l) ∧ l = Lib.encodeRune (rn l) ++ l.drop (wd l) ∧ val (l.drop (wd l)) = true ∧ scalar (rn l) := by
  rw [val_cons hn] at h
  by_cases hc : rn l = 65533 ∧ wd l = 1
  · rw [if_pos hc] at h; cases h
  · rw [if_neg hc] at h
    have e := enc_take hn hc
    exact ⟨e, by rw [e, List.take_append_drop], h, scalar_rn l⟩
theorem len_cnt : ∀ (n : Nat) (l : Bs), l.length ≤ n → l.length ≤ 4 * cnt l := by
  intro n
  induction n with
  | zero => intro l h; omega
  | succ n ih =>
    intro l h
    by_cases hn : l = []
    · subst hn; simp
    have h1 := ih (l.drop (wd l)) (by have := drop_len hn; omega)
    have h2 := wd_le4 l
    rw [cnt_cons hn]
    rw [List.length_drop] at h1
    omega
theorem val_app_n : ∀ (n : Nat) (a : Bs), a.length ≤ n → val a = true → ∀ b, val (a ++ b) = val b ∧ cnt (a ++ b) = cnt a + cnt b := by
  intro n
  induction n with
  | zero => intro a ha _ b; obtain rfl := List.length_eq_zero_iff.1 (Nat.le_zero.1 ha); simp [cnt_nil]
  | succ n ih =>
    intro a ha hv b
    by_cases hn : a = []
    · subst hn; simp [cnt_nil]
    obtain ⟨-, he, hv', hs⟩ := val_step hn hv
    have hlt := drop_len hn
    obtain ⟨i1, i2⟩ := ih (a.drop (wd a)) (by omega) hv' b
    have e : a ++ b = Lib.encodeRune (rn a) ++ (a.drop (wd a) ++ b) := by rw [← List.append_assoc, ← he]
    rw [e, val_enc hs, cnt_enc hs, i1, i2, cnt_cons hn]
    exact ⟨rfl, by omega⟩
theorem val_app {a : Bs} (h : val a = true) (b : Bs) : val (a ++ b) = val b := (val_app_n _ a (Nat.le_refl _) h b).1
theorem cnt_app {a : Bs} (h : val a = true) (b : Bs) : cnt (a ++ b) = cnt a + cnt b := (val_app_n _ a (Nat.le_refl _) h b).2
theorem takeP_nil (n : Nat) : takeP n [] = [] := by cases n <;> simp [takeP]
theorem takeP_go {n : Nat} {l : Bs} (hn : l ≠ []) : takeP (n + 1) l = l.take (wd l) ++ takeP n (l.drop (wd l)) := by rw [takeP, if_neg hn]
theorem takeP_law : ∀ (n : Nat) (l : Bs), val l = true → val (takeP n l) = true ∧ cnt (takeP n l) ≤ n ∧ cnt (takeP n l) ≤ cnt l
  | 0, l, _ => by simp [takeP, val_nil, cnt_nil]
  | n + 1, l, hv => by
    by_cases hn : l = []
    · subst hn; rw [takeP_nil]; simp [val_nil, cnt_nil]
    obtain ⟨he, -, hv', hs⟩ := val_step hn hv
    obtain ⟨i1, i2, i3⟩ := takeP_law n _ hv'
    rw [takeP_go hn, ← he, val_enc hs, cnt_enc hs, cnt_cons hn]
    exact ⟨i1, by omega, by omega⟩
theorem takeP_pre : ∀ (n : Nat) (l : Bs), ∃ t, l = takeP n l ++ t
  | 0, l => ⟨l, by simp [takeP]⟩
  | n + 1, l => by
    by_cases hn : l = []
    · subst hn; exact ⟨[], by rw [takeP_nil]; rfl⟩
    obtain ⟨t, ht⟩ := takeP_pre n (l.drop (wd l))
    refine ⟨t, ?_⟩
    rw [takeP_go hn, List.append_assoc, ← ht, List.take_append_drop]
theorem takeP_all : ∀ (n : Nat) (a b : Bs), a.length ≤ n → val a = true → takeP (cnt a) (a ++ b) = a := by
  intro n
  induction n with
  | zero => intro a b ha _; obtain rfl := List.length_eq_zero_iff.1 (Nat.le_zero.1 ha); simp [cnt_nil, takeP]
  | succ n ih =>
    intro a b ha hv
    by_cases hn : a = []
    · subst hn; simp [cnt_nil, takeP]
    obtain ⟨he, hc, hv', hs⟩ := val_step hn hv
    have hlt := drop_len hn
    have i1 := ih (a.drop (wd a)) b (by omega) hv'
    have e : a ++ b = Lib.encodeRune (rn a) ++ (a.drop (wd a) ++ b) := by rw [← List.append_assoc, ← hc]
    have hd := dec_enc hs (a.drop (wd a) ++ b)
    have hl : (Lib.encodeRune (rn a)).length = wd a := by rw [he, List.length_take]; have := wd_le hn; omega
    rw [cnt_cons hn, Nat.add_comm, e, takeP_go (enc_ne _ _), hd.2]
    rw [List.take_left', List.drop_left', i1]
    · exact hc.symm
    · rfl
    · rfl
theorem upr_scalar {r : Int} (h : scalar r) : scalar (upr r) := by
  unfold upr scalar at *
  split
  · omega
  · split <;> omega
theorem fold_law : ∀ (f : Nat) (l : Bs), l.length ≤ f → val l = true → val (foldF f l) = true ∧ cnt (foldF f l) = cnt l := by
  intro f
  induction f with
  | zero => intro l hl _; obtain rfl := List.length_eq_zero_iff.1 (Nat.le_zero.1 hl); simp [foldF, val_nil, cnt_nil]
  | succ f ih =>
    intro l hl hv
    by_cases hn : l = []
    · subst hn; simp [foldF, val_nil, cnt_nil]
    obtain ⟨-, -, hv', hs⟩ := val_step hn hv
    have hlt := drop_len hn
    obtain ⟨i1, i2⟩ := ih (l.drop (wd l)) (by omega) hv'
    have hne : ¬ (rn l = 65533 ∧ wd l = 1) := by
      intro hc
      rw [val_cons hn, if_pos hc] at hv
      cases hv
    unfold foldF
    rw [if_neg hn, if_neg hne, val_enc (upr_scalar hs), cnt_enc (upr_scalar hs), i1, i2, cnt_cons hn]
    exact ⟨rfl, rfl⟩
theorem textOk_mk {s : Bs} (hv : val s = true) (hc : cnt s ≤ 100) : textOk s = true := by
  unfold textOk
  have := len_cnt _ s (Nat.le_refl _)
  simp [hv, hc]
  omega
theorem textOk_iff {s : Bs} (h : textOk s = true) : s.length ≤ 400 ∧ val s = true ∧ cnt s ≤ 100 := by
  unfold textOk at h
  simp at h
  exact ⟨h.1.1, h.1.2, h.2⟩
/-- A value that may be. -/
inductive VOk : Val → Prop
  | nil : VOk vNil
  | int (n : Int) (h : -9223372036854775808 ≤ n ∧ n ≤ 9223372036854775807) : VOk (vInt n)
  | bool (b : Bool) : VOk (vBool b)
  | text (s : Bs) (h : textOk s = true) : VOk (vText s)
  | bad (n : Int) (h : 1 ≤ n ∧ n ≤ 4) : VOk (vBad n)
theorem VOk.of {v : Val} (h : okV v = true) (hn : -9223372036854775808 ≤ v.n ∧ v.n ≤ 9223372036854775807) : VOk v := by
  obtain ⟨k, n, s⟩ := v
  unfold okV at h
  simp only at h hn
  by_cases h0 : k = 0
  · subst h0; simp at h; obtain ⟨rfl, rfl⟩ := h; exact .nil
  by_cases h1 : k = 1
  · subst h1; simp at h; subst h; exact .int n hn
  by_cases h2 : k = 2
  · subst h2; simp at h; obtain ⟨h, rfl⟩ := h
    rcases h with rfl | rfl
    · exact .bool false
    · exact .bool true
  by_cases h3 : k = 3
  · subst h3; simp at h; obtain ⟨rfl, h⟩ := h; exact .text s h
  by_cases h4 : k = 4
  · subst h4; simp at h; obtain ⟨h, h', rfl⟩ := h; exact .bad n ⟨h, h'⟩
  rw [if_neg h0, if_neg h1, if_neg h2, if_neg h3, if_neg h4] at h
  cases h
theorem VOk.ok {v : Val} (h : VOk v) : okV v = true := by
  cases h with
  | nil => rfl
  | int n h => simp [okV, vInt]
  | bool b => cases b <;> simp [okV, vBool]
  | text s h => simp [okV, vText, h]
  | bad n h => simp [okV, vBad, h]
theorem look_ok (names : List Bs) : ∀ (vals : List Val) (s : Bs), (∀ v ∈ vals, -9223372036854775808 ≤ v.n ∧ v.n ≤ 9223372036854775807) → VOk (look names vals s) := by
  induction names with
  | nil => intro vals s _; unfold look; exact .nil
  | cons m ms ih =>
    intro vals s h
    unfold look
    split
    · cases vals with
      | nil => exact .nil
      | cons v vs =>
        simp only
        split
        · exact .of (by assumption) (h v (by simp))
        · exact .nil
    · exact ih _ _ (fun v hv => h v (List.mem_of_mem_tail hv))
/-- An expression that may be, but for how deep and how great it is. -/
inductive Good : Ex → Prop
  | mk (op n : Int) (s : Bs) (ks : List Ex) (ha : alone op n s ks = true) (hn : -9223372036854775808 ≤ n ∧ n ≤ 9223372036854775807) (hk : ∀ k ∈ ks, Good k) : Good (.mk op n s ks)
theorem chk_good : ∀ (e : Ex) (deep left : Nat), Fine e → (chk e deep left).isSome = true → Good e := by
  intro e
  refine Ex.ind (P := fun e => ∀ (deep left : Nat), Fine e → (chk e deep left).isSome = true → Good e) ?_ e
  intro op n s ks ih deep left hF h
  by_cases hc : left = 0 ∨ 24 < deep ∨ alone op n s ks = false
  · rw [chk_no hc] at h; cases h
  · rw [chk_yes hc] at h
    have ha : alone op n s ks = true := by
      cases hb : alone op n s ks with
      | true => rfl
      | false => exact absurd (.inr (.inr hb)) hc
    have hFk := hF.kids.2
    have hFn : -9223372036854775808 ≤ n ∧ n ≤ 9223372036854775807 := by cases hF; assumption
    refine .mk op n s ks ha hFn ?_
    have go : ∀ (l : List Ex), (∀ k ∈ l, k ∈ ks) → ∀ left, (chkL l (deep + 1) left).isSome = true → ∀ k ∈ l, Good k := by
      intro l
      induction l with
      | nil => intro _ _ _ k hk; cases hk
      | cons a t iht =>
        intro hm left h k hk
        rw [chkL_cons] at h
        cases hca : chk a (deep + 1) left with
        | none => rw [hca] at h; cases h
        | some m =>
          rw [hca, Option.bind_some] at h
          rcases List.mem_cons.1 hk with rfl | hk
          · exact ih k (hm k (by simp)) _ _ (hFk k (hm k (by simp))) (by rw [hca]; rfl)
          · exact iht (fun x hx => hm x (by simp [hx])) m h k hk
    exact go ks (fun _ h => h) _ h
theorem check_good {e : Ex} (hF : Fine e) (h : check e = true) : Good e := chk_good e 1 128 hF h
theorem need_ok {v : Val} (h : VOk v) (ks : List Int) : (∃ u, need v ks = .error u ∧ VOk u) ∨ (need v ks = .ok v ∧ v.k ∈ ks) := by
  unfold need
  split
  · exact .inl ⟨v, rfl, h⟩
  · split
    · rename_i h1 h2; exact .inr ⟨rfl, by simpa using h2⟩
    · exact .inl ⟨_, rfl, .bad 3 (by decide)⟩
theorem VOk.k1 {v : Val} (h : VOk v) (hk : v.k = 1) : ∃ n, v = vInt n ∧ -9223372036854775808 ≤ n ∧ n ≤ 9223372036854775807 := by
  cases h with
  | int n h => exact ⟨n, rfl, h⟩
  | nil => cases hk
  | bool b => cases hk
  | text s h => cases hk
  | bad n h => cases hk
theorem VOk.k2 {v : Val} (h : VOk v) (hk : v.k = 2) : ∃ b, v = vBool b := by
  cases h with
  | bool b => exact ⟨b, rfl⟩
  | nil => cases hk
  | int n h => cases hk
  | text s h => cases hk
  | bad n h => cases hk
theorem VOk.k3 {v : Val} (h : VOk v) (hk : v.k = 3) : ∃ s, v = vText s ∧ textOk s = true := by
  cases h with
  | text s h => exact ⟨s, rfl, h⟩
  | nil => cases hk
  | int n h => cases hk
  | bool b => cases hk
  | bad n h => cases hk
theorem fitM_ok (x : Int) : VOk (fitM x) := by
  unfold fitM
  split
  · exact .int x (by assumption)
  · exact .bad 1 (by decide)
theorem tmod_fits {a : Int} (b : Int) (h : -9223372036854775808 ≤ a ∧ a ≤ 9223372036854775807) : -9223372036854775808 ≤ a.tmod b ∧ a.tmod b ≤ 9223372036854775807 := by
  have h1 : (a.tmod b).natAbs ≤ a.natAbs := by rw [Int.natAbs_tmod]; exact Nat.mod_le _ _
  by_cases ha : 0 ≤ a
  · have h2 := Int.tmod_nonneg b ha
    omega
  · have h2 := Int.tmod_nonneg b (a := -a) (by omega)
    rw [Int.neg_tmod] at h2
    omega
theorem arith_ok {op a b : Int} (ha : -9223372036854775808 ≤ a ∧ a ≤ 9223372036854775807) : VOk (arith op a b) := by
  unfold arith
  split
  · exact fitM_ok _
  split
  · exact fitM_ok _
  split
  · exact fitM_ok _
  split
  · exact .bad 2 (by decide)
  split
  · exact fitM_ok _
  · exact .int _ (tmod_fits b ha)
theorem numM_ok {op : Int} {a b : Val} (ha : VOk a) (hb : VOk b) : VOk (numM op a b) := by
  unfold numM
  rcases need_ok ha [1] with ⟨u, hu, hk⟩ | ⟨hu, hk⟩
  · rw [hu]; exact hk
  rw [hu]
  simp only
  split
  · exact fitM_ok _
  rcases need_ok hb [1] with ⟨u, hu, hk'⟩ | ⟨hu, hk'⟩
  · rw [hu]; exact hk'
  rw [hu]
  simp only
  obtain ⟨n, rfl, hn⟩ := ha.k1 (by simpa using hk)
  exact arith_ok hn
theorem longM_ok {s : Bs} (h : val s = true) : VOk (longM s) := by
  unfold longM
  split
  · exact .bad 4 (by decide)
  · exact .text s (textOk_mk h (by omega))
theorem textM_ok {op : Int} {a b : Val} (ha : VOk a) (hb : VOk b) : VOk (textM op a b) := by
  unfold textM
  rcases need_ok ha [3] with ⟨u, hu, hk⟩ | ⟨hu, hk⟩
  · rw [hu]; exact hk
  rw [hu]
  simp only
  obtain ⟨s, rfl, hs⟩ := ha.k3 (by simpa using hk)
  obtain ⟨s1, s2, s3⟩ := textOk_iff hs
  split
  · refine .int _ ?_
    simp only [vText]
    omega
  split
  · exact longM_ok (fold_law _ _ (Nat.le_refl _) s2).1
  split
  · rcases need_ok hb [1] with ⟨u, hu, hk'⟩ | ⟨hu, hk'⟩
    · rw [hu]; exact hk'
    rw [hu]
    exact longM_ok (takeP_law _ _ s2).1
  · rcases need_ok hb [3] with ⟨u, hu, hk'⟩ | ⟨hu, hk'⟩
    · rw [hu]; exact hk'
    rw [hu]
    obtain ⟨t, rfl, ht⟩ := hb.k3 (by simpa using hk')
    exact longM_ok ((val_app s2 t).trans (textOk_iff ht).2.1)
theorem truthM_ok {op : Int} {a b c : Val} (ha : VOk a) (hb : VOk b) (hc : VOk c) : VOk (truthM op a b c) := by
  unfold truthM
  split
  · rcases need_ok ha [2] with ⟨u, hu, hk⟩ | ⟨hu, hk⟩
    · rw [hu]; exact hk
    rw [hu]
    simp only
    split
    · exact .bool _
    split
    · split
      · exact hb
      · exact hc
    split
    · exact .bool _
    · rcases need_ok hb [2] with ⟨u, hu, hk'⟩ | ⟨hu, hk'⟩
      · rw [hu]; exact hk'
      · rw [hu]; exact hb
  · rcases need_ok ha (if op = 14 ∨ op = 15 then [1, 3] else [1, 3, 2]) with ⟨u, hu, hk⟩ | ⟨hu, hk⟩
    · rw [hu]; exact hk
    rw [hu]
    simp only
    rcases need_ok hb [a.k] with ⟨u, hu, hk'⟩ | ⟨hu, hk'⟩
    · rw [hu]; exact hk'
    rw [hu]
    simp only
    repeat' split
    all_goals exact .bool _
theorem ev_mk (ρ : Bs → Val) (op n : Int) (s : Bs) (ks : List Ex) : ev ρ (.mk op n s ks) = evOp ρ op n s ks ((evL ρ ks).getD 0 vNil) ((evL ρ ks).getD 1 vNil) ((evL ρ ks).getD 2 vNil) := by rw [ev]
theorem evL_nil (ρ : Bs → Val) : evL ρ [] = [] := by rw [evL]
theorem evL_cons (ρ : Bs → Val) (k : Ex) (ks : List Ex) : evL ρ (k :: ks) = ev ρ k :: evL ρ ks := by rw [evL]
theorem ev_ok {ρ : Bs → Val} (hρ : ∀ s, VOk (ρ s)) (e : Ex) : Good e → VOk (ev ρ e) := by
  refine Ex.ind (P := fun e => Good e → VOk (ev ρ e)) ?_ e
  intro op n s ks ih hG
  cases hG with
  | mk _ _ _ _ ha hn hk =>
  have hkid : ∀ (l : List Ex), (∀ k ∈ l, k ∈ ks) → ∀ i, VOk ((evL ρ l).getD i vNil) := by
    intro l
    induction l with
    | nil => intro _ i; rw [evL_nil]; simp; exact .nil
    | cons a t iht =>
      intro hm i
      rw [evL_cons]
      cases i with
      | zero => simpa using ih a (hm a (by simp)) (hk a (hm a (by simp)))
      | succ i => simpa using iht (fun x hx => hm x (by simp [hx])) i
  have h0 := hkid ks (fun _ h => h) 0
  have h1 := hkid ks (fun _ h => h) 1
  have h2 := hkid ks (fun _ h => h) 2
  rw [ev_mk]
  generalize (evL ρ ks).getD 0 vNil = a at *
  generalize (evL ρ ks).getD 1 vNil = b at *
  generalize (evL ρ ks).getD 2 vNil = c at *
  unfold evOp
  have hl := alone_kids ha
  split
  · exact .int n hn
  split
  · rename_i h; subst h
    rw [alone_2 hl, Bool.and_eq_true] at ha
    exact .text s ha.2
  split
  · exact .bool _
  split
  · exact hρ s
  split
  · exact .bool _
  split
  · exact numM_ok h0 h1
  split
  · exact textM_ok h0 h1
  · exact truthM_ok h0 h1 h2
/-- A sign between two names. -/
def twoX (op : Int) (x y : Bs) : Ex := .mk op 0 [] [.mk 4 0 x [], .mk 4 0 y []]
theorem ev_name (ρ : Bs → Val) (n : Int) (x : Bs) : ev ρ (.mk 4 n x []) = ρ x := by rw [ev_mk]; unfold evOp; simp
theorem ev_two (ρ : Bs → Val) (op : Int) (x y : Bs) : ev ρ (twoX op x y) = evOp ρ op 0 [] [.mk 4 0 x [], .mk 4 0 y []] (ρ x) (ρ y) vNil := by
  unfold twoX
  rw [ev_mk, evL_cons, evL_cons, evL_nil, ev_name, ev_name]
  rfl
theorem check_ab (op : Nat) (h : 7 ≤ op ∧ op ≤ 17) : check (twoX op [97] [98]) = true ∧ check (twoX op [98] [97]) = true ∧ check (twoX op [112] [113]) = true := by
  rcases (by omega : op = 7 ∨ op = 8 ∨ op = 9 ∨ op = 10 ∨ op = 11 ∨ op = 12 ∨ op = 13 ∨ op = 14 ∨ op = 15 ∨ op = 16 ∨ op = 17) with rfl | rfl | rfl | rfl | rfl | rfl | rfl | rfl | rfl | rfl | rfl <;>
    exact ⟨by kernel_rfl, by kernel_rfl, by kernel_rfl⟩
end Go.Proofs.YtilmmgkclijhjaaGreatDoor
namespace Go.Proofs.YtilmmgkclijhjaaGreatDoor
open Go.RowKit Pal
def strRet (l : Bs) (w : World) (e : Ending) (w' : World) : Prop := e = .returned (strV l) ∧ Below w.heap.size w w'
theorem intsV_row {w : World} {b : Nat} (l : List Int) (T : TypeId) (h : w.heap[b]? = some (.cells (l.map (Value.int .i64)).toArray T (0, 0))) (hm : l.length ≤ 17592186044416) : IntsV (gh w) (.slice (some ⟨b, 0, none⟩) l.length l.length) l := by
  refine ⟨_, _, rfl, fun h => (by cases h), hm, fun j s hj => ⟨b, 0, rfl, ?_⟩⟩
  rw [gh_cell]
  simp [World.cell?, h, hj]
/-- A value in a box. -/
def boxV (v : Val) : Value :=
  if v.k = 0 then .nilIface
  else if v.k = 1 then .iface 2 (.int .i64 v.n)
  else if v.k = 2 then .iface 4 (.bool (decide (v.n = 1)))
  else if v.k = 3 then .iface 9 (strV v.s)
  else .iface 55 (valV v)
theorem boxV_nil : boxV vNil = .nilIface := rfl
theorem boxV_int (n : Int) : boxV (vInt n) = .iface 2 (.int .i64 n) := rfl
theorem boxV_bool (b : Bool) : boxV (vBool b) = .iface 4 (.bool b) := by cases b <;> rfl
theorem boxV_text (s : Bs) : boxV (vText s) = .iface 9 (strV s) := rfl
theorem boxV_bad (n : Int) : boxV (vBad n) = .iface 55 (.agg #[.int .i64 4, .int .i64 n, .string ⟨#[]⟩]) := rfl
/-- Values, as a slice reads. -/
def ValsV (h : GH) (v : Value) (l : List Val) : Prop := ∃ a cap, v = .slice a l.length cap ∧ (a = none → l = []) ∧ l.length ≤ cap ∧ cap ≤ maxLen ∧
  ∀ j x, l[j]? = some x → ∃ b off, a = some ⟨b, off, none⟩ ∧ h.cell b (off + j * 3) = some (.int .i64 x.k) ∧ h.cell b (off + j * 3 + 1) = some (.int .i64 x.n) ∧ h.cell b (off + j * 3 + 2) = some (strV x.s)
theorem ValsV.mono {h h' : GH} (l : h.le h') {v : Value} {ss : List Val} (s : ValsV h v ss) : ValsV h' v ss := by
  obtain ⟨a, cap, hv, hn, hc, hm, hx⟩ := s
  exact ⟨a, cap, hv, hn, hc, hm, fun j s hj => let ⟨b, off, ha, h1, h2, h3⟩ := hx j s hj; ⟨b, off, ha, l.cell h1, l.cell h2, l.cell h3⟩⟩
theorem ValsV.form {h : GH} {v : Value} {ss : List Val} (t : ValsV h v ss) : ∃ a cap, v = .slice a ss.length cap ∧ ss.length ≤ cap ∧ cap ≤ 9223372036854775807 := by
  obtain ⟨a, cap, hv, _, h1, h2, _⟩ := t
  unfold maxLen at h2
  exact ⟨a, cap, hv, h1, by omega⟩
theorem ValsV.at {w : World} {a : Option Addr} {n cap : Nat} {ss : List Val} (t : ValsV (gh w) (.slice a n cap) ss) {j : Nat} {x : Val} (hj : ss[j]? = some x) :
    ∃ b off, a = some ⟨b, off, none⟩ ∧ w.cell? ⟨b, off + j * 3, none⟩ = some (.int .i64 x.k) ∧ w.cell? ⟨b, off + j * 3 + 1, none⟩ = some (.int .i64 x.n) ∧ w.cell? ⟨b, off + j * 3 + 2, none⟩ = some (strV x.s) := by
  obtain ⟨a', cap', hv, hn, hc, hm, hx⟩ := t
  simp only [Value.slice.injEq] at hv
  obtain ⟨rfl, rfl, rfl⟩ := hv
  obtain ⟨b, off, ha, h1, h2, h3⟩ := hx j x hj
  rw [gh_cell] at h1 h2 h3
  exact ⟨b, off, ha, h1, h2, h3⟩
theorem ValsV_nil (h : GH) : ValsV h (.slice none 0 0) [] := ⟨none, 0, rfl, fun _ => rfl, Nat.le_refl _, by simp [maxLen], fun j x hj => by simp at hj⟩
/-- One value, two values in a new row. -/
theorem ValsV.one {w : World} {b : Nat} {x : Val} {T : TypeId} (h : w.heap[b]? = some (.cells #[.int .i64 x.k, .int .i64 x.n, strV x.s] T (0, 0))) : ValsV (gh w) (.slice (some ⟨b, 0, none⟩) 1 1) [x] := by
  refine ⟨_, 1, rfl, fun h => (by cases h), Nat.le_refl _, by simp [maxLen], fun j y hj => ⟨b, 0, rfl, ?_⟩⟩
  match j, hj with
  | 0, hj => simp at hj; subst hj; simp [GH.cell, gh, h]
theorem ValsV.two {w : World} {b : Nat} {x y : Val} {T : TypeId} (h : w.heap[b]? = some (.cells #[.int .i64 x.k, .int .i64 x.n, strV x.s, .int .i64 y.k, .int .i64 y.n, strV y.s] T (0, 0))) : ValsV (gh w) (.slice (some ⟨b, 0, none⟩) 2 2) [x, y] := by
  refine ⟨_, 2, rfl, fun h => (by cases h), Nat.le_refl _, by simp [maxLen], fun j z hj => ⟨b, 0, rfl, ?_⟩⟩
  match j, hj with
  | 0, hj => simp at hj; subst hj; simp [GH.cell, gh, h]
  | 1, hj => simp at hj; subst hj; simp [GH.cell, gh, h]
/-- No value is longer than any may be. -/
def VFine (l : List Val) : Prop := ∀ v ∈ l, (-9223372036854775808 ≤ v.n ∧ v.n ≤ 9223372036854775807) ∧ v.s.length ≤ 9223372036854775806
theorem two_cells {W : World} {B : Nat} {x0 x1 : Value} {T : TypeId} (h : W.heap[B]? = some (.cells #[x0, x1] T (0, 0))) :
    W.cell? ⟨B, 0, none⟩ = some x0 ∧ W.cell? ⟨B, 1, none⟩ = some x1 ∧ B < W.heap.size := by
  refine ⟨by simp [World.cell?, h], by simp [World.cell?, h], (Array.getElem?_eq_some_iff.1 h).1⟩
/-- It comes to this value, boxed. -/
def boxPost (v : Val) (w : World) (e : Ending) (w' : World) : Prop := e = .returned (boxV v) ∧ Below w.heap.size w w'
def needV (r : Except Val Val) : Val := match r with | .ok v => v | .error v => v
def needB (r : Except Val Val) : Bool := match r with | .ok _ => true | .error _ => false
def needPost (r : Except Val Val) (w : World) (e : Ending) (w' : World) : Prop := e = .returned (.tuple #[boxV (needV r), .bool (needB r)]) ∧ Below w.heap.size w w'
theorem three_all {W : World} {B : Nat} {x0 x1 x2 : Value} {T : TypeId} (h : W.heap[B]? = some (.cells #[x0, x1, x2] T (0, 0))) :
    (W.cell? ⟨B, 0, none⟩ = some x0 ∧ W.cell? ⟨B, 1, none⟩ = some x1 ∧ W.cell? ⟨B, 2, none⟩ = some x2) ∧ (W.frozen? ⟨B, 0, none⟩ = false ∧ W.frozen? ⟨B, 1, none⟩ = false ∧ W.frozen? ⟨B, 2, none⟩ = false) := by
  simp [World.cell?, World.frozen?, h]
theorem set3_heap {W : World} {B : Nat} {x0 x1 x2 : Value} {T : TypeId} (h : W.heap[B]? = some (.cells #[x0, x1, x2] T (0, 0))) (y0 y1 y2 : Value) :
    (((W.setCell ⟨B, 0, none⟩ y0).setCell ⟨B, 1, none⟩ y1).setCell ⟨B, 2, none⟩ y2).heap[B]? = some (.cells #[y0, y1, y2] T (0, 0)) := by
  simp [World.setCell, Array.getElem?_modify, h]
theorem set3_other {W : World} {B b : Nat} (hb : b ≠ B) (y0 y1 y2 : Value) :
    (((W.setCell ⟨B, 0, none⟩ y0).setCell ⟨B, 1, none⟩ y1).setCell ⟨B, 2, none⟩ y2).heap[b]? = W.heap[b]? := by
  simp [World.setCell, Array.getElem?_modify, Ne.symm hb]
theorem below_set3 {n : Nat} {a W : World} (h : Below n a W) {B : Nat} (hB : n ≤ B) (y0 y1 y2 : Value) : Below n a (((W.setCell ⟨B, 0, none⟩ y0).setCell ⟨B, 1, none⟩ y1).setCell ⟨B, 2, none⟩ y2) :=
  ((h.setCell (p := ⟨B, 0, none⟩) hB _).setCell (p := ⟨B, 1, none⟩) hB _).setCell (p := ⟨B, 2, none⟩) hB _
/-- An empty value's block, ahead of all. -/
def vz : Obj := .cells #[.int .i64 0, .int .i64 0, .string ⟨#[]⟩] 55 (0, 0)
end Go.Proofs.YtilmmgkclijhjaaGreatDoor
