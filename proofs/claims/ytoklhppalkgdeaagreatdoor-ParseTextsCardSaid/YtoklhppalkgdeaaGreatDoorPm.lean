/- A text behind which a byte comes that ends every token: plain law of the lexer. No condition. What is parsed hangs neither on places nor on fuel; what may stand behind it: plain law of the parser. No condition. What is parsed of a whole text is parsed of it ahead of other tokens too: plain law of the parser. No condition. Texts in parentheses, put together by a sign, behind signs of one: plain law of what ParseBlanks, ParseParts, ParseSigns ask. No condition. An expression's text reads az that expression: plain law of what ParseBack asks. Condition: each part may be, its number is no greater than an int64. An expression's text reads az that expression, put together: plain law of what ParseBack asks. Condition: each part may be, its number is no greater than an int64. -/
import Derived.Test.YtoklhppalkgdeaaGreatDoorPl
import Derived.Lib.MapLaws
import Derived.Lib.ItoaMem
set_option linter.unusedSimpArgs false
set_option linter.unusedVariables false
set_option linter.unusedSectionVars false
namespace Go.Proofs.YtoklhppalkgdeaaGreatDoor
open Go.RowKit Pal

/-- A byte that ends every token. -/
structure Stop (c : UInt8) : Prop where
  low : c.toNat < 128
  c1 : cls (c.toNat : Int) ≠ 1
  c2 : cls (c.toNat : Int) ≠ 2
  eq : c.toNat ≠ 61
theorem stop_32 : Stop 32 := ⟨by decide, by decide, by decide, by decide⟩
theorem stop_41 : Stop 41 := ⟨by decide, by decide, by decide, by decide⟩
theorem stop_44 : Stop 44 := ⟨by decide, by decide, by decide, by decide⟩
theorem bk_app_lt {l x : Bs} {k : Nat} (h : k < l.length) : bk (l ++ x) k = bk l k := by
  unfold bk; rw [List.getD_eq_getElem?_getD, List.getD_eq_getElem?_getD, List.getElem?_append_left h]
theorem bk_app_at (l : Bs) (c : UInt8) (x : Bs) : bk (l ++ c :: x) l.length = c.toNat := by
  unfold bk; rw [List.getD_eq_getElem?_getD, List.getElem?_append_right (Nat.le_refl _)]; simp
theorem dN_app (n m b0 b1 b2 b3 c1 c2 c3 : Nat) (hn : 1 ≤ n) (hm : n < m) (h1 : 1 < n → c1 = b1) (h2 : 2 < n → c2 = b2) (h3 : 3 < n → c3 = b3) (g1 : n = 1 → c1 < 128) (g2 : n = 2 → c2 < 128) (g3 : n = 3 → c3 < 128) :
    Lib.decodeN m b0 c1 c2 c3 = Lib.decodeN n b0 b1 b2 b3 := by
  unfold Lib.decodeN
  rcases (by omega : n = 1 ∨ n = 2 ∨ n = 3 ∨ 4 ≤ n) with h | h | h | h
  · have := g1 h
    subst h
    by_cases e : b0 < 128
    · rw [if_pos e, if_pos e]
    · rw [if_neg e, if_neg e, if_neg (by omega), if_neg (by omega), if_neg (by omega), if_neg (by omega), if_neg (by omega), if_neg (by omega)]
  · have := g2 h
    subst h
    have e1 := h1 (by omega)
    subst e1
    by_cases e : b0 < 128
    · rw [if_pos e, if_pos e]
    · rw [if_neg e, if_neg e]
      by_cases e2 : b0 / 32 = 6 ∧ (1 < 2 ∧ c1 / 64 = 2)
      · rw [if_pos e2, if_pos (by omega)]
      · rw [if_neg e2, if_neg (by omega), if_neg (by omega), if_neg (by omega), if_neg (by omega), if_neg (by omega)]
  · have := g3 h
    subst h
    have e1 := h1 (by omega)
    have e2 := h2 (by omega)
    subst e1; subst e2
    by_cases e : b0 < 128
    · rw [if_pos e, if_pos e]
    · rw [if_neg e, if_neg e]
      by_cases e2 : b0 / 32 = 6 ∧ (1 < 3 ∧ c1 / 64 = 2)
      · rw [if_pos e2, if_pos (by omega)]
      · rw [if_neg e2, if_neg (by omega)]
        by_cases e3 : b0 / 16 = 14 ∧ (1 < 3 ∧ c1 / 64 = 2) ∧ (2 < 3 ∧ c2 / 64 = 2)
        · rw [if_pos e3, if_pos (by omega)]
        · rw [if_neg e3, if_neg (by omega), if_neg (by omega), if_neg (by omega)]
  · have e1 := h1 (by omega)
    have e2 := h2 (by omega)
    have e3 := h3 (by omega)
    subst e1; subst e2; subst e3
    have t1 : (1 < m) = (1 < n) := propext ⟨fun _ => by omega, fun _ => by omega⟩
    have t2 : (2 < m) = (2 < n) := propext ⟨fun _ => by omega, fun _ => by omega⟩
    have t3 : (3 < m) = (3 < n) := propext ⟨fun _ => by omega, fun _ => by omega⟩
    simp only [t1, t2, t3]
theorem dec_app {l : Bs} (hn : l ≠ []) {c : UInt8} (hc : c.toNat < 128) (x : Bs) : decL (l ++ c :: x) = decL l := by
  have hl : 1 ≤ l.length := by cases l with | nil => exact absurd rfl hn | cons a b => simp
  unfold decL
  rw [bk_app_lt (show 0 < l.length by omega)]
  have hm : l.length < (l ++ c :: x).length := by simp
  have at' : ∀ k, l.length = k → bk (l ++ c :: x) k < 128 := fun k h => by rw [← h, bk_app_at]; exact hc
  exact dN_app _ _ _ _ _ _ _ _ _ hl hm (fun h => bk_app_lt h) (fun h => bk_app_lt h) (fun h => bk_app_lt h) (at' 1) (at' 2) (at' 3)
theorem rn_app {l : Bs} (hn : l ≠ []) {c : UInt8} (hc : c.toNat < 128) (x : Bs) : rn (l ++ c :: x) = rn l := by unfold rn; rw [dec_app hn hc]
theorem wd_app {l : Bs} (hn : l ≠ []) {c : UInt8} (hc : c.toNat < 128) (x : Bs) : wd (l ++ c :: x) = wd l := by unfold wd; rw [dec_app hn hc]
theorem drop_app {l : Bs} {k : Nat} (h : k ≤ l.length) (y : Bs) : (l ++ y).drop k = l.drop k ++ y := List.drop_append_of_le_length h
theorem rn_stop {c : UInt8} (hc : c.toNat < 128) (x : Bs) : rn (c :: x) = c.toNat ∧ wd (c :: x) = 1 := dec_low (l := c :: x) hc
theorem run_app {a b : Int} {c : UInt8} (hc : c.toNat < 128) (ha : cls (c.toNat : Int) ≠ a) (hb : cls (c.toNat : Int) ≠ b) (x : Bs) : ∀ (k : Nat) (l : Bs), l.length ≤ k → run a b (l ++ c :: x) = run a b l := by
  have h0 : run a b ([] ++ c :: x) = run a b [] := by
    rw [List.nil_append, run_nil]
    refine run_stop ?_
    rw [(rn_stop hc x).1]
    rintro (h | h)
    · exact ha h
    · exact hb h
  intro k
  induction k with
  | zero => intro l h; have : l = [] := List.eq_nil_of_length_eq_zero (by omega)
            subst this; exact h0
  | succ k ih =>
    intro l h
    by_cases hn : l = []
    · subst hn; exact h0
    · have hna : l ++ c :: x ≠ [] := by simp
      by_cases hk : cls (rn l) = a ∨ cls (rn l) = b
      · rw [run_go hn hk, run_go hna (by rw [rn_app hn hc]; exact hk), wd_app hn hc, drop_app (wd_le hn), ih _ (by have := drop_len hn; omega)]
      · rw [run_stop hk, run_stop (by rw [rn_app hn hc]; exact hk)]
theorem hexD_ne {c : Nat} {v : Int} (h : hexD c = some v) : c ≠ 0 := by have := hexD_lt h; omega
theorem escL_app {l : Bs} {r : Int} {z : Nat} (h : escL l = some (r, z)) (y : Bs) : escL (l ++ y) = some (r, z) := by
  have keep : ∀ k, bk l k ≠ 0 → bk (l ++ y) k = bk l k := fun k hk => bk_app_lt (bk_in hk)
  unfold escL at h
  by_cases h1 : bk l 1 = 34 ∨ bk l 1 = 92
  · rw [if_pos h1] at h
    unfold escL
    rw [keep 1 (by omega), if_pos h1]; exact h
  · rw [if_neg h1] at h
    by_cases h2 : bk l 1 = 117
    · rw [if_pos h2] at h
      unfold escL
      rw [keep 1 (by omega), if_neg h1, if_pos h2]
      cases e2 : hexD (bk l 2) with
      | none => simp [e2] at h
      | some a =>
        cases e3 : hexD (bk l 3) with
        | none => simp [e2, e3] at h
        | some b =>
          cases e4 : hexD (bk l 4) with
          | none => simp [e2, e3, e4] at h
          | some c =>
            cases e5 : hexD (bk l 5) with
            | none => simp [e2, e3, e4, e5] at h
            | some d =>
              rw [keep 2 (hexD_ne e2), keep 3 (hexD_ne e3), keep 4 (hexD_ne e4), keep 5 (hexD_ne e5), e2, e3, e4, e5]
              rw [e2, e3, e4, e5] at h
              exact h
    · rw [if_neg h2] at h; cases h
theorem badIn_app {l : Bs} (hn : l ≠ []) {c : UInt8} (hc : c.toNat < 128) (x : Bs) : badIn (l ++ c :: x) ↔ badIn l := by unfold badIn; rw [rn_app hn hc, wd_app hn hc]
theorem unqL_app {c : UInt8} (hc : c.toNat < 128) (x : Bs) : ∀ (f : Nat) (l t : Bs) (n z : Nat), unqL f l = some (t, n, z) → ∀ g, f ≤ g → unqL g (l ++ c :: x) = some (t, n, z) := by
  intro f
  induction f with
  | zero => intro l t n z h; cases h
  | succ f ih =>
    intro l t n z h g hg
    obtain ⟨g, rfl⟩ : ∃ g', g = g' + 1 := ⟨g - 1, by omega⟩
    unfold unqL at h
    by_cases hn : l = []
    · rw [if_pos hn] at h; cases h
    rw [if_neg hn] at h
    have hna : ¬ l ++ c :: x = [] := by simp
    unfold unqL
    rw [if_neg hna, rn_app hn hc]
    by_cases h34 : rn l = 34
    · rw [if_pos h34] at h ⊢; exact h
    rw [if_neg h34] at h ⊢
    by_cases h92 : rn l = 92
    · rw [if_pos h92] at h ⊢
      cases he : escL l with
      | none => rw [he] at h; cases h
      | some rz =>
        obtain ⟨r, y⟩ := rz
        rw [he] at h
        have hy := (escL_reach (rn_92.1 h92) he).1.le
        simp only at h
        cases hu : unqL f (l.drop y) with
        | none => rw [hu] at h; cases h
        | some tny =>
          obtain ⟨t', n', y'⟩ := tny
          rw [hu] at h
          rw [escL_app he]
          simp only
          rw [drop_app hy, ih _ _ _ _ hu g (by omega)]
          exact h
    rw [if_neg h92] at h ⊢
    by_cases hb : badIn l
    · rw [if_pos hb] at h; cases h
    rw [if_neg hb] at h
    rw [if_neg (fun hh => hb ((badIn_app hn hc x).1 hh)), wd_app hn hc, drop_app (wd_le hn)]
    cases hu : unqL f (l.drop (wd l)) with
    | none => rw [hu] at h; cases h
    | some tny =>
      obtain ⟨t', n', y'⟩ := tny
      rw [hu] at h
      rw [ih _ _ _ _ hu g (by omega)]
      exact h
theorem take_app {l : Bs} {k : Nat} (h : k ≤ l.length) (y : Bs) : (l ++ y).take k = l.take k := List.take_append_of_le_length h
theorem tok1_app {c : UInt8} (hc : Stop c) (x : Bs) {l : Bs} (hn : l ≠ []) {k : Int} {s : Bs} {n : Int} {z : Nat} (h : tok1 l = some (k, s, n, z)) : tok1 (l ++ c :: x) = some (k, s, n, z) := by
  have hl : 0 < l.length := List.length_pos_iff.2 hn
  have h0 : bk (l ++ c :: x) 0 = bk l 0 := bk_app_lt hl
  have r22 := run_app (a := 2) (b := 2) hc.low hc.c2 hc.c2 x l.length l (Nat.le_refl _)
  have r12 := run_app (a := 1) (b := 2) hc.low hc.c1 hc.c2 x l.length l (Nat.le_refl _)
  unfold tok1 at h ⊢
  rw [rn_app hn hc.low, h0, r22, r12, take_app (run_le _ _ _), take_app (run_le _ _ _)]
  by_cases a1 : cls (rn l) = 2
  · rw [if_pos a1] at h ⊢; exact h
  rw [if_neg a1] at h ⊢
  by_cases a2 : cls (rn l) = 1
  · rw [if_pos a2] at h ⊢; exact h
  rw [if_neg a2] at h ⊢
  by_cases a3 : bk l 0 = 34
  · rw [if_pos a3] at h ⊢
    cases hu : unqL l.length (l.drop 1) with
    | none => rw [hu] at h; cases h
    | some tny =>
      obtain ⟨t', n', y'⟩ := tny
      rw [hu] at h
      rw [drop_app (show 1 ≤ l.length by omega), unqL_app hc.low x _ _ _ _ _ hu _ (by simp)]
      exact h
  rw [if_neg a3] at h ⊢
  by_cases a4 : (bk l 0 = 60 ∨ bk l 0 = 62 ∨ bk l 0 = 33) ∧ bk l 1 = 61
  · have h1 : 1 < l.length := bk_in (by omega)
    rw [if_pos a4] at h
    rw [bk_app_lt h1, if_pos a4, take_app (show 2 ≤ l.length by omega)]; exact h
  · rw [if_neg a4] at h
    have h1 : ¬ ((bk l 0 = 60 ∨ bk l 0 = 62 ∨ bk l 0 = 33) ∧ bk (l ++ c :: x) 1 = 61) := by
      by_cases hl1 : 1 < l.length
      · rw [bk_app_lt hl1]; exact a4
      · have e := bk_app_at l c x
        rw [show l.length = 1 by omega] at e
        rw [e]
        exact fun hh => hc.eq hh.2
    rw [if_neg h1, take_app (show 1 ≤ l.length by omega)]; exact h

/-! Lexing, without places. -/
inductive Lx : Bs → List Tok → Prop
  | nil : Lx [] [noTok]
  | sp {l : Bs} {ts : List Tok} (hn : l ≠ []) (hc : cls (rn l) = 3) (h : Lx (l.drop (wd l)) ts) : Lx l ts
  | tok {l : Bs} {k : Int} {s : Bs} {n : Int} {z : Nat} {ts : List Tok} (hn : l ≠ []) (hc : cls (rn l) ≠ 3) (ht : tok1 l = some (k, s, n, z)) (h : Lx (l.drop z) ts) : Lx l (⟨k, s, n, 0⟩ :: ts)
def noP (t : Tok) : Tok := ⟨t.k, t.s, t.n, 0⟩
theorem lexL_lx : ∀ (f p : Nat) (l : Bs) (ts : List Tok), lexL f p l = .ok ts → Lx l (ts.map noP) := by
  intro f
  induction f with
  | zero => intro p l ts h; cases h
  | succ f ih =>
    intro p l ts h
    unfold lexL at h
    by_cases hn : l = []
    · rw [if_pos hn] at h; cases h; subst hn; exact .nil
    rw [if_neg hn] at h
    by_cases h3 : cls (rn l) = 3
    · rw [if_pos h3] at h
      exact .sp hn h3 (ih _ _ _ h)
    rw [if_neg h3] at h
    cases ht : tok1 l with
    | none => rw [ht] at h; cases h
    | some q =>
      obtain ⟨k, s, n, z⟩ := q
      rw [ht] at h
      simp only at h
      cases hr : lexL f (p + z) (l.drop z) with
      | error e => rw [hr] at h; cases h
      | ok us =>
        rw [hr] at h
        simp only [Except.ok.injEq] at h
        subst h
        exact .tok hn h3 ht (ih _ _ _ hr)
theorem Lx.lex {l : Bs} {cs : List Tok} (h : Lx l cs) : ∀ (f p : Nat), l.length < f → ∃ ts, lexL f p l = .ok ts ∧ ts.map noP = cs := by
  induction h with
  | nil => intro f p hf
           obtain ⟨f, rfl⟩ : ∃ f', f = f' + 1 := ⟨f - 1, by omega⟩
           exact ⟨[⟨0, [], 0, p⟩], by unfold lexL; rw [if_pos rfl], rfl⟩
  | sp hn hc h ih =>
    intro f p hf
    obtain ⟨f, rfl⟩ : ∃ f', f = f' + 1 := ⟨f - 1, by omega⟩
    obtain ⟨ts, h1, h2⟩ := ih f (p + wd _) (by have := drop_len hn; omega)
    exact ⟨ts, by unfold lexL; rw [if_neg hn, if_pos hc]; exact h1, h2⟩
  | @tok l k s n z ts hn hc ht h ih =>
    intro f p hf
    obtain ⟨f, rfl⟩ : ∃ f', f = f' + 1 := ⟨f - 1, by omega⟩
    have hz := tok1_reach hn ht
    have hw := wd_pos l
    obtain ⟨us, h1, h2⟩ := ih f (p + z) (by rw [List.length_drop]; have := List.length_pos_iff.2 hn; omega)
    refine ⟨⟨k, s, n, p⟩ :: us, ?_, by rw [List.map_cons, h2]; rfl⟩
    unfold lexL
    rw [if_neg hn, if_neg hc, ht]
    simp only
    rw [h1]
theorem lexAll_lx {l : Bs} {ts : List Tok} (h : lexAll l = .ok ts) : Lx l (ts.map noP) := lexL_lx _ _ _ _ h
theorem Lx.all {l : Bs} {cs : List Tok} (h : Lx l cs) : ∃ ts, lexAll l = .ok ts ∧ ts.map noP = cs := h.lex _ _ (Nat.lt_succ_self _)
/-- Two texts, one behind the other. -/
theorem Lx.app {c : UInt8} (hc : Stop c) {x : Bs} {us : List Tok} (hx : Lx (c :: x) us) {l : Bs} {cs : List Tok} (h : Lx l cs) : ∃ az, cs = az ++ [noTok] ∧ Lx (l ++ c :: x) (az ++ us) := by
  induction h with
  | nil => exact ⟨[], rfl, hx⟩
  | sp hn h3 h ih =>
    obtain ⟨az, e, g⟩ := ih
    refine ⟨az, e, .sp (by simp) (by rw [rn_app hn hc.low]; exact h3) ?_⟩
    rw [wd_app hn hc.low, drop_app (wd_le hn)]; exact g
  | @tok l k s n z ts hn h3 ht h ih =>
    obtain ⟨az, e, g⟩ := ih
    refine ⟨⟨k, s, n, 0⟩ :: az, by rw [e]; rfl, ?_⟩
    refine .tok (by simp) (by rw [rn_app hn hc.low]; exact h3) (tok1_app hc x hn ht) ?_
    rw [drop_app (tok1_reach hn ht).1.le]; exact g
/-- A blank ahead. -/
theorem Lx.blank {l : Bs} {cs : List Tok} (h : Lx l cs) : Lx (32 :: l) cs := by
  have e := rn_stop (c := 32) (by decide) l
  refine .sp (by simp) (by rw [e.1]; decide) ?_
  rw [e.2]; exact h
def sgT (s : Bs) : Tok := ⟨4, s, 0, 0⟩
/-- One sign of one byte ahead. -/
theorem Lx.sign {c : UInt8} {l : Bs} {cs : List Tok} (hs : isSign1 c.toNat = true) (hl : ¬ ((c.toNat = 60 ∨ c.toNat = 62 ∨ c.toNat = 33) ∧ bk l 0 = 61)) (h : Lx l cs) : Lx (c :: l) (sgT [c] :: cs) := by
  have hlt : c.toNat < 128 := by
    simp only [isSign1, List.contains_eq_mem, List.mem_cons, List.mem_nil_iff, or_false, decide_eq_true_eq] at hs
    omega
  have e := rn_stop (c := c) hlt l
  have hcl : cls (c.toNat : Int) = 0 ∧ c.toNat ≠ 34 := by
    simp only [isSign1, List.contains_eq_mem, List.mem_cons, List.mem_nil_iff, or_false, decide_eq_true_eq] at hs
    rcases hs with h | h | h | h | h | h | h | h | h | h | h | h | h | h <;> rw [h] <;> exact ⟨by decide, by decide⟩
  refine .tok (z := 1) (by simp) (by rw [e.1, hcl.1]; decide) ?_ h
  unfold tok1
  rw [e.1, hcl.1, if_neg (by decide), if_neg (by decide), bk_cons, if_neg hcl.2, bk_succ, if_neg hl, if_pos hs]
  rfl
end Go.Proofs.YtoklhppalkgdeaaGreatDoor
namespace Go.Proofs.YtoklhppalkgdeaaGreatDoor
open Go.RowKit Pal

/-! Places play no part. -/
def PR.noP : PR → PR | .out => .out | .bad _ => .bad 0 | .ok e r => .ok e (r.map Proofs.YtoklhppalkgdeaaGreatDoor.noP)
theorem hd_noP (ts : List Tok) : hd (ts.map noP) = noP (hd ts) := by cases ts <;> rfl
theorem tail_noP (ts : List Tok) : (ts.map noP).tail = ts.tail.map noP := by cases ts <;> rfl
theorem isSg_noP (s : Bs) (t : Tok) : isSg s (noP t) = isSg s t := rfl
theorem lvT_noP (n : Nat) (t : Tok) : lvT n (noP t) = lvT n t := rfl
theorem then_noP (x : PR) (k k' : Ex → List Tok → PR) (h : ∀ e r, (k e r).noP = k' e (r.map noP)) : (x.then k).noP = x.noP.then k' := by
  cases x with
  | out => rfl
  | bad p => rfl
  | ok e r => exact h e r
theorem parseJ_noP : ∀ (f : Nat) (j : Job) (ts : List Tok), parseJ f j (ts.map noP) = (parseJ f j ts).noP := by
  intro f
  induction f with
  | zero => intro j ts; rfl
  | succ f ih =>
    intro j ts
    cases j with
    | two n =>
      unfold parseJ
      by_cases h : 4 < n
      · rw [if_pos h, if_pos h, ih]
      · rw [if_neg h, if_neg h, ih]
        exact (then_noP _ (fun e r => parseJ f (.loop n e) r) (fun e r => parseJ f (.loop n e) r) (fun e r => (ih _ _).symm)).symm
    | loop n e0 =>
      unfold parseJ
      rw [hd_noP, lvT_noP, tail_noP]
      cases lvT n (hd ts) with
      | none => rfl
      | some x =>
        obtain ⟨op, sw⟩ := x
        simp only
        rw [ih]
        refine (then_noP _ _ _ (fun e r => ?_)).symm
        by_cases h : n = 2
        · rw [if_pos h, if_pos h]; rfl
        · rw [if_neg h, if_neg h, ih]
    | one =>
      unfold parseJ
      simp only [hd_noP, isSg_noP, tail_noP, ih]
      by_cases h1 : isSg [45] (hd ts) = true
      · rw [if_pos h1, if_pos h1]; exact (then_noP _ _ _ (fun e r => rfl)).symm
      rw [if_neg h1, if_neg h1]
      by_cases h2 : isSg [33] (hd ts) = true
      · rw [if_pos h2, if_pos h2]; exact (then_noP _ _ _ (fun e r => rfl)).symm
      rw [if_neg h2, if_neg h2]
      by_cases h3 : isSg [40] (hd ts) = true
      · rw [if_pos h3, if_pos h3]
        refine (then_noP _ _ _ (fun e r => ?_)).symm
        rw [hd_noP, isSg_noP, tail_noP]
        split <;> rfl
      rw [if_neg h3, if_neg h3]
      show (if (hd ts).k = 1 then _ else if (hd ts).k = 2 then _ else if (hd ts).k = 3 then (if word (hd ts).s = false then _ else if (hd ts).s = wTrue then _ else if (hd ts).s = wFalse then _ else if isSg [40] (hd ts.tail) = true then _ else _) else _) = _
      repeat' split
      all_goals rfl
    | args op left ks =>
      unfold parseJ
      cases left with
      | zero =>
        simp only [hd_noP, isSg_noP, tail_noP]
        split <;> rfl
      | succ left =>
        simp only [hd_noP, isSg_noP, tail_noP]
        by_cases hc : ks ≠ [] ∧ isSg [44] (hd ts) = false
        · rw [if_pos hc, if_pos hc]; rfl
        rw [if_neg hc, if_neg hc]
        have e1 : (if ks = [] then ts.map noP else ts.tail.map noP) = (if ks = [] then ts else ts.tail).map noP := by split <;> rfl
        rw [e1]
        generalize (if ks = [] then ts else ts.tail) = t1
        simp only [hd_noP, tail_noP, ih]
        by_cases h22 : op = 22
        · rw [if_pos h22, if_pos h22]
          show (if (hd t1).k ≠ 3 ∨ word (hd t1).s = true then _ else _) = _
          split <;> rfl
        · rw [if_neg h22, if_neg h22]
          exact (then_noP _ (fun e r => parseJ f (.args op left (ks ++ [e])) r) (fun e r => parseJ f (.args op left (ks ++ [e])) r) (fun e r => (ih _ _).symm)).symm
theorem readL_noP {ts : List Tok} {e : Ex} : readL (ts.map noP) = .ok e ↔ readL ts = .ok e := by
  unfold readL
  rw [List.length_map, parseJ_noP]
  cases parseJ (8 * ts.length + 8) (.two 0) ts with
  | out => exact ⟨fun h => (by cases h), fun h => by cases h⟩
  | bad p => exact ⟨fun h => (by cases h), fun h => by cases h⟩
  | ok e' r =>
    simp only [PR.noP, hd_noP]
    show (if (hd r).k = 0 then Except.ok e' else _) = _ ↔ _
    by_cases h0 : (hd r).k = 0
    · rw [if_pos h0, if_pos h0]
    · rw [if_neg h0, if_neg h0]; exact ⟨fun h => (by cases h), fun h => by cases h⟩

/-! More fuel turns nothing. -/
theorem parseJ_more' : ∀ (f : Nat) (j : Job) (ts : List Tok), parseJ f j ts ≠ .out → ∀ g, f ≤ g → parseJ g j ts = parseJ f j ts := by
  intro f
  induction f with
  | zero => intro j ts h; exact absurd rfl h
  | succ f ih =>
    intro j ts h g hg
    obtain ⟨g, rfl⟩ : ∃ g', g = g' + 1 := ⟨g - 1, by omega⟩
    have hfg : f ≤ g := by omega
    have thn : ∀ {j1 : Job} {t1 : List Tok} {k k' : Ex → List Tok → PR}, (parseJ f j1 t1).then k ≠ .out → (∀ e1 r1, k e1 r1 ≠ .out → k' e1 r1 = k e1 r1) → (parseJ g j1 t1).then k' = (parseJ f j1 t1).then k := by
      intro j1 t1 k k' h1 hk
      have hx : parseJ f j1 t1 ≠ .out := fun hh => h1 (by rw [hh]; rfl)
      rw [ih _ _ hx g hfg]
      cases hp : parseJ f j1 t1 with
      | out => rfl
      | bad p => rfl
      | ok e1 r1 => rw [hp] at h1; exact hk _ _ h1
    cases j with
    | two n =>
      unfold parseJ at h ⊢
      by_cases h4 : 4 < n
      · rw [if_pos h4] at h; rw [if_pos h4, if_pos h4]; exact ih _ _ h g hfg
      · rw [if_neg h4] at h; rw [if_neg h4, if_neg h4]
        exact thn h (fun e1 r1 h3 => ih _ _ h3 g hfg)
    | loop n e0 =>
      unfold parseJ at h ⊢
      cases hl : lvT n (hd ts) with
      | none => rfl
      | some x =>
        obtain ⟨op, sw⟩ := x
        rw [hl] at h
        simp only at h ⊢
        refine thn h (fun e1 r1 h3 => ?_)
        by_cases h2 : n = 2
        · rw [if_pos h2, if_pos h2]
        · rw [if_neg h2] at h3; rw [if_neg h2, if_neg h2]; exact ih _ _ h3 g hfg
    | one =>
      unfold parseJ at h ⊢
      by_cases h1 : isSg [45] (hd ts) = true
      · rw [if_pos h1] at h; rw [if_pos h1, if_pos h1]; exact thn h (fun _ _ _ => rfl)
      rw [if_neg h1] at h; rw [if_neg h1, if_neg h1]
      by_cases h2 : isSg [33] (hd ts) = true
      · rw [if_pos h2] at h; rw [if_pos h2, if_pos h2]; exact thn h (fun _ _ _ => rfl)
      rw [if_neg h2] at h; rw [if_neg h2, if_neg h2]
      by_cases h3 : isSg [40] (hd ts) = true
      · rw [if_pos h3] at h; rw [if_pos h3, if_pos h3]; exact thn h (fun _ _ _ => rfl)
      rw [if_neg h3] at h; rw [if_neg h3, if_neg h3]
      by_cases k1 : (hd ts).k = 1
      · rw [if_pos k1, if_pos k1]
      rw [if_neg k1] at h; rw [if_neg k1, if_neg k1]
      by_cases k2 : (hd ts).k = 2
      · rw [if_pos k2, if_pos k2]
      rw [if_neg k2] at h; rw [if_neg k2, if_neg k2]
      by_cases k3 : (hd ts).k = 3
      · rw [if_pos k3] at h; rw [if_pos k3, if_pos k3]
        by_cases w1 : word (hd ts).s = false
        · rw [if_pos w1, if_pos w1]
        rw [if_neg w1] at h; rw [if_neg w1, if_neg w1]
        by_cases w2 : (hd ts).s = wTrue
        · rw [if_pos w2, if_pos w2]
        rw [if_neg w2] at h; rw [if_neg w2, if_neg w2]
        by_cases w3 : (hd ts).s = wFalse
        · rw [if_pos w3, if_pos w3]
        rw [if_neg w3] at h; rw [if_neg w3, if_neg w3]
        by_cases w4 : isSg [40] (hd ts.tail) = true
        · rw [if_pos w4] at h; rw [if_pos w4, if_pos w4]; exact ih _ _ h g hfg
        · rw [if_neg w4, if_neg w4]
      · rw [if_neg k3, if_neg k3]
    | args op left ks =>
      unfold parseJ at h ⊢
      cases left with
      | zero => rfl
      | succ left =>
        simp only at h ⊢
        by_cases hc : ks ≠ [] ∧ isSg [44] (hd ts) = false
        · rw [if_pos hc, if_pos hc]
        rw [if_neg hc] at h; rw [if_neg hc, if_neg hc]
        generalize (if ks = [] then ts else ts.tail) = t1 at h ⊢
        by_cases h22 : op = 22
        · rw [if_pos h22] at h; rw [if_pos h22, if_pos h22]
          by_cases hk : (hd t1).k ≠ 3 ∨ word (hd t1).s = true
          · rw [if_pos hk, if_pos hk]
          · rw [if_neg hk] at h; rw [if_neg hk, if_neg hk]; exact ih _ _ h g hfg
        · rw [if_neg h22] at h; rw [if_neg h22, if_neg h22]
          exact thn h (fun e1 r1 h3 => ih _ _ h3 g hfg)
theorem parseJ_more {f : Nat} {j : Job} {ts : List Tok} {e : Ex} {r : List Tok} (h : parseJ f j ts = .ok e r) (g : Nat) (hg : f ≤ g) : parseJ g j ts = .ok e r := by
  rw [parseJ_more' f j ts (by rw [h]; intro x; cases x) g hg, h]
theorem then_ok' {x : PR} {k : Ex → List Tok → PR} {e : Ex} {r : List Tok} (h : x.then k = .ok e r) : ∃ e1 r1, x = .ok e1 r1 ∧ k e1 r1 = .ok e r := by
  cases x with
  | out => cases h
  | bad p => cases h
  | ok e1 r1 => exact ⟨e1, r1, rfl, h⟩
/-- With some fuel. -/
def PJ (j : Job) (ts : List Tok) (e : Ex) (r : List Tok) : Prop := ∃ f, parseJ f j ts = .ok e r
theorem PJ.join {j1 j2 : Job} {t1 t2 r1 r2 : List Tok} {e1 e2 : Ex} (h : PJ j1 t1 e1 r1) (g : PJ j2 t2 e2 r2) : ∃ f, parseJ f j1 t1 = .ok e1 r1 ∧ parseJ f j2 t2 = .ok e2 r2 := by
  obtain ⟨f1, h1⟩ := h
  obtain ⟨f2, h2⟩ := g
  exact ⟨f1 + f2, parseJ_more h1 _ (by omega), parseJ_more h2 _ (by omega)⟩
theorem readL_PJ {ts : List Tok} {e : Ex} (he : Ended ts) : readL ts = .ok e ↔ ∃ r, PJ (.two 0) ts e r ∧ (hd r).k = 0 := by
  have hne := parseJ_enough (8 * ts.length + 8) (.two 0) ts he (by simp only [Job.need]; omega) (fun n h => by cases h; omega) (fun _ _ h => by cases h)
  constructor
  · intro h
    unfold readL at h
    cases hp : parseJ (8 * ts.length + 8) (.two 0) ts with
    | out => exact absurd hp hne
    | bad p => rw [hp] at h; cases h
    | ok e' r =>
      rw [hp] at h
      simp only at h
      by_cases h0 : (hd r).k = 0
      · rw [if_pos h0] at h; cases h; exact ⟨r, ⟨_, hp⟩, h0⟩
      · rw [if_neg h0] at h; cases h
  · rintro ⟨r, ⟨f, hf⟩, h0⟩
    have h1 := parseJ_more hf (f + (8 * ts.length + 8)) (by omega)
    rw [parseJ_more' _ _ _ hne _ (by omega)] at h1
    unfold readL
    rw [h1]
    simp only
    rw [if_pos h0]
/-- How parts are put together. -/
theorem PJ.up {n : Nat} (h4 : ¬ 4 < n) {ts r r2 : List Tok} {e e2 : Ex} (h : PJ (.two (n + 1)) ts e r) (g : PJ (.loop n e) r e2 r2) : PJ (.two n) ts e2 r2 := by
  obtain ⟨f, h1, h2⟩ := h.join g
  refine ⟨f + 1, ?_⟩
  unfold parseJ
  rw [if_neg h4, h1]; exact h2
theorem PJ.top {ts r : List Tok} {e : Ex} {n : Nat} (h4 : 4 < n) (h : PJ .one ts e r) : PJ (.two n) ts e r := by
  obtain ⟨f, h1⟩ := h
  refine ⟨f + 1, ?_⟩
  unfold parseJ
  rw [if_pos h4, h1]
theorem PJ.stop {n : Nat} {e : Ex} {r : List Tok} (h : lvT n (hd r) = none) : PJ (.loop n e) r e r := ⟨1, by unfold parseJ; rw [h]⟩
/-- No sign of two stands there, at whatever level. -/
def NoOp (t : Tok) : Prop := ∀ n, lvT n t = none
theorem PJ.two {ts r : List Tok} {e : Ex} (h : PJ .one ts e r) (m : Nat) (hr : ∀ n, m ≤ n → n ≤ 4 → lvT n (hd r) = none) : PJ (.two m) ts e r := by
  by_cases h4 : 4 < m
  · exact .top h4 h
  · obtain ⟨d, hd⟩ : ∃ d, m + d = 4 := ⟨4 - m, by omega⟩
    induction d generalizing m with
    | zero => exact .up h4 (.top (by omega) h) (.stop (hr m (Nat.le_refl _) (by omega)))
    | succ d ih => exact .up h4 (ih (m + 1) (fun n h1 h2 => hr n (by omega) h2) (by omega) (by omega)) (.stop (hr m (Nat.le_refl _) (by omega)))
theorem PJ.op {n : Nat} {op : Int} {sw : Bool} {t : Tok} {ts r r2 : List Tok} {a b e : Ex} (hl : lvT n t = some (op, sw)) (h : PJ (.two (n + 1)) ts b r)
    (g : if n = 2 then e = .mk op 0 [] (kidsOf sw a b) ∧ r = r2 else PJ (.loop n (.mk op 0 [] (kidsOf sw a b))) r e r2) : PJ (.loop n a) (t :: ts) e r2 := by
  by_cases h2 : n = 2
  · rw [if_pos h2] at g
    obtain ⟨rfl, rfl⟩ := g
    obtain ⟨f, hf⟩ := h
    refine ⟨f + 1, ?_⟩
    unfold parseJ
    show (match lvT n t with | none => PR.ok a (t :: ts) | some (op, sw) => (parseJ f (.two (n + 1)) ts).then fun e2 r => if n = 2 then .ok (.mk op 0 [] (kidsOf sw a e2)) r else parseJ f (.loop n (.mk op 0 [] (kidsOf sw a e2))) r) = _
    rw [hl]
    simp only
    rw [hf]
    show (if n = 2 then PR.ok _ r else _) = _
    rw [if_pos h2]
  · rw [if_neg h2] at g
    obtain ⟨f, h1, h3⟩ := h.join g
    refine ⟨f + 1, ?_⟩
    unfold parseJ
    show (match lvT n t with | none => PR.ok a (t :: ts) | some (op, sw) => (parseJ f (.two (n + 1)) ts).then fun e2 r => if n = 2 then .ok (.mk op 0 [] (kidsOf sw a e2)) r else parseJ f (.loop n (.mk op 0 [] (kidsOf sw a e2))) r) = _
    rw [hl]
    simp only
    rw [h1]
    show (if n = 2 then PR.ok _ r else _) = _
    rw [if_neg h2]; exact h3
theorem PJ.paren {ts r : List Tok} {e : Ex} (h : PJ (.two 0) ts e (sgT [41] :: r)) : PJ .one (sgT [40] :: ts) e r := by
  obtain ⟨f, hf⟩ := h
  exact ⟨f + 1, by
    unfold parseJ
    rw [if_neg (by show ¬ isSg [45] (sgT [40]) = true; decide), if_neg (by show ¬ isSg [33] (sgT [40]) = true; decide), if_pos (by show isSg [40] (sgT [40]) = true; decide)]
    rw [List.tail_cons, hf]; rfl⟩
theorem PJ.neg {ts r : List Tok} {e : Ex} (h : PJ .one ts e r) : PJ .one (sgT [45] :: ts) (.mk 5 0 [] [e]) r := by
  obtain ⟨f, hf⟩ := h
  exact ⟨f + 1, by
    unfold parseJ
    rw [if_pos (by show isSg [45] (sgT [45]) = true; decide), List.tail_cons, hf]; rfl⟩
theorem PJ.not {ts r : List Tok} {e : Ex} (h : PJ .one ts e r) : PJ .one (sgT [33] :: ts) (.mk 6 0 [] [e]) r := by
  obtain ⟨f, hf⟩ := h
  exact ⟨f + 1, by
    unfold parseJ
    rw [if_neg (by show ¬ isSg [45] (sgT [33]) = true; decide), if_pos (by show isSg [33] (sgT [33]) = true; decide), List.tail_cons, hf]; rfl⟩
theorem noOp_end : NoOp noTok := fun _ => rfl
theorem noOp_41 : NoOp (sgT [41]) := fun n => by
  unfold lvT lv
  simp [sgT]
end Go.Proofs.YtoklhppalkgdeaaGreatDoor
namespace Go.Proofs.YtoklhppalkgdeaaGreatDoor
open Go.RowKit Pal
theorem hd_app {a : List Tok} (h : a ≠ []) (x y : List Tok) : hd (a ++ x) = hd (a ++ y) := by cases a with | nil => exact absurd rfl h | cons t u => rfl
theorem tail_app {a : List Tok} (h : a ≠ []) (x : List Tok) : (a ++ x).tail = a.tail ++ x := by cases a with | nil => exact absurd rfl h | cons t u => rfl
theorem parseJ_ext : ∀ (f : Nat) (j : Job) (a : List Tok) (e : Ex) (r : List Tok), parseJ f j (a ++ [noTok]) = .ok e r →
    ∃ b, r = b ++ [noTok] ∧ ∀ us, NoOp (hd us) → parseJ f j (a ++ us) = .ok e (b ++ us) := by
  intro f
  induction f with
  | zero => intro j a e r h; cases h
  | succ f ih =>
    intro j a e r h
    cases j with
    | two n =>
      unfold parseJ at h
      by_cases h4 : 4 < n
      · rw [if_pos h4] at h
        obtain ⟨b, hb, hu⟩ := ih _ _ _ _ h
        exact ⟨b, hb, fun us hs => by unfold parseJ; rw [if_pos h4]; exact hu us hs⟩
      · rw [if_neg h4] at h
        obtain ⟨e1, r1, h1, h2⟩ := then_ok' h
        obtain ⟨b1, rfl, hu1⟩ := ih _ _ _ _ h1
        obtain ⟨b2, hb, hu2⟩ := ih _ _ _ _ h2
        exact ⟨b2, hb, fun us hs => by unfold parseJ; rw [if_neg h4, hu1 us hs]; exact hu2 us hs⟩
    | loop n e0 =>
      unfold parseJ at h
      by_cases ha : a = []
      · subst ha
        rw [show lvT n (hd ([] ++ [noTok])) = none from rfl] at h
        simp only [PR.ok.injEq] at h
        obtain ⟨rfl, rfl⟩ := h
        exact ⟨[], rfl, fun us hs => by unfold parseJ; rw [List.nil_append, hs n]⟩
      · cases hl : lvT n (hd (a ++ [noTok])) with
        | none =>
          rw [hl] at h
          simp only [PR.ok.injEq] at h
          obtain ⟨rfl, rfl⟩ := h
          exact ⟨a, rfl, fun us hs => by unfold parseJ; rw [hd_app ha us [noTok], hl]⟩
        | some x =>
          obtain ⟨op, sw⟩ := x
          rw [hl, tail_app ha] at h
          simp only at h
          obtain ⟨e1, r1, h1, h2⟩ := then_ok' h
          obtain ⟨b1, rfl, hu1⟩ := ih _ _ _ _ h1
          by_cases hn : n = 2
          · rw [if_pos hn] at h2
            simp only [PR.ok.injEq] at h2
            obtain ⟨rfl, rfl⟩ := h2
            exact ⟨b1, rfl, fun us hs => by
              unfold parseJ
              rw [hd_app ha us [noTok], hl, tail_app ha]
              simp only
              rw [hu1 us hs]
              show (if n = 2 then PR.ok _ _ else _) = _
              rw [if_pos hn]⟩
          · rw [if_neg hn] at h2
            obtain ⟨b2, hb, hu2⟩ := ih _ _ _ _ h2
            exact ⟨b2, hb, fun us hs => by
              unfold parseJ
              rw [hd_app ha us [noTok], hl, tail_app ha]
              simp only
              rw [hu1 us hs]
              show (if n = 2 then PR.ok _ _ else _) = _
              rw [if_neg hn]; exact hu2 us hs⟩
    | one =>
      by_cases ha : a = []
      · subst ha; unfold parseJ at h; cases h
      unfold parseJ at h
      rw [tail_app ha] at h
      have goal : ∀ us, parseJ (f + 1) .one (a ++ us) =
          if isSg [45] (hd (a ++ [noTok])) then (parseJ f .one (a.tail ++ us)).then fun e r => .ok (.mk 5 0 [] [e]) r
          else if isSg [33] (hd (a ++ [noTok])) then (parseJ f .one (a.tail ++ us)).then fun e r => .ok (.mk 6 0 [] [e]) r
          else if isSg [40] (hd (a ++ [noTok])) then (parseJ f (.two 0) (a.tail ++ us)).then fun e r => if isSg [41] (hd r) then .ok e r.tail else .bad (hd r).p
          else if (hd (a ++ [noTok])).k = 1 then .ok (.mk 1 (hd (a ++ [noTok])).n [] []) (a.tail ++ us)
          else if (hd (a ++ [noTok])).k = 2 then .ok (.mk 2 0 (hd (a ++ [noTok])).s []) (a.tail ++ us)
          else if (hd (a ++ [noTok])).k = 3 then
            if word (hd (a ++ [noTok])).s = false then .ok (.mk 4 0 (hd (a ++ [noTok])).s []) (a.tail ++ us)
            else if (hd (a ++ [noTok])).s = wTrue then .ok (.mk 3 1 [] []) (a.tail ++ us)
            else if (hd (a ++ [noTok])).s = wFalse then .ok (.mk 3 0 [] []) (a.tail ++ us)
            else if isSg [40] (hd (a.tail ++ us)) then parseJ f (.args (opOf (hd (a ++ [noTok])).s) (arOf (hd (a ++ [noTok])).s) []) (a.tail ++ us).tail
            else .bad (hd (a.tail ++ us)).p
          else .bad (hd (a ++ [noTok])).p := by
        intro us
        conv => lhs; unfold parseJ
        rw [hd_app ha us [noTok], tail_app ha]
      generalize hd (a ++ [noTok]) = t at h goal
      by_cases h1 : isSg [45] t = true
      · rw [if_pos h1] at h
        obtain ⟨e1, r1, h2, h3⟩ := then_ok' h
        simp only [PR.ok.injEq] at h3
        obtain ⟨rfl, rfl⟩ := h3
        obtain ⟨b, rfl, hu⟩ := ih _ _ _ _ h2
        exact ⟨b, rfl, fun us hs => by rw [goal, if_pos h1, hu us hs]; rfl⟩
      rw [if_neg h1] at h
      by_cases h2 : isSg [33] t = true
      · rw [if_pos h2] at h
        obtain ⟨e1, r1, h3, h4⟩ := then_ok' h
        simp only [PR.ok.injEq] at h4
        obtain ⟨rfl, rfl⟩ := h4
        obtain ⟨b, rfl, hu⟩ := ih _ _ _ _ h3
        exact ⟨b, rfl, fun us hs => by rw [goal, if_neg h1, if_pos h2, hu us hs]; rfl⟩
      rw [if_neg h2] at h
      by_cases h3 : isSg [40] t = true
      · rw [if_pos h3] at h
        obtain ⟨e1, r1, h4, h5⟩ := then_ok' h
        obtain ⟨b, rfl, hu⟩ := ih _ _ _ _ h4
        by_cases h6 : isSg [41] (hd (b ++ [noTok])) = true
        · rw [if_pos h6] at h5
          simp only [PR.ok.injEq] at h5
          obtain ⟨rfl, rfl⟩ := h5
          have hb : b ≠ [] := fun hh => by rw [hh] at h6; exact absurd h6 (by decide)
          exact ⟨b.tail, tail_app hb _, fun us hs => by
            rw [goal, if_neg h1, if_neg h2, if_pos h3, hu us hs]
            show (if isSg [41] (hd (b ++ us)) = true then PR.ok _ _ else _) = _
            rw [hd_app hb us [noTok], if_pos h6, tail_app hb]⟩
        · rw [if_neg h6] at h5; cases h5
      rw [if_neg h3] at h
      by_cases k1 : t.k = 1
      · rw [if_pos k1] at h
        simp only [PR.ok.injEq] at h
        obtain ⟨rfl, rfl⟩ := h
        exact ⟨a.tail, rfl, fun us hs => by rw [goal, if_neg h1, if_neg h2, if_neg h3, if_pos k1]⟩
      rw [if_neg k1] at h
      by_cases k2 : t.k = 2
      · rw [if_pos k2] at h
        simp only [PR.ok.injEq] at h
        obtain ⟨rfl, rfl⟩ := h
        exact ⟨a.tail, rfl, fun us hs => by rw [goal, if_neg h1, if_neg h2, if_neg h3, if_neg k1, if_pos k2]⟩
      rw [if_neg k2] at h
      by_cases k3 : t.k = 3
      · rw [if_pos k3] at h
        by_cases w1 : word t.s = false
        · rw [if_pos w1] at h
          simp only [PR.ok.injEq] at h
          obtain ⟨rfl, rfl⟩ := h
          exact ⟨a.tail, rfl, fun us hs => by rw [goal, if_neg h1, if_neg h2, if_neg h3, if_neg k1, if_neg k2, if_pos k3, if_pos w1]⟩
        rw [if_neg w1] at h
        by_cases w2 : t.s = wTrue
        · rw [if_pos w2] at h
          simp only [PR.ok.injEq] at h
          obtain ⟨rfl, rfl⟩ := h
          exact ⟨a.tail, rfl, fun us hs => by rw [goal, if_neg h1, if_neg h2, if_neg h3, if_neg k1, if_neg k2, if_pos k3, if_neg w1, if_pos w2]⟩
        rw [if_neg w2] at h
        by_cases w3 : t.s = wFalse
        · rw [if_pos w3] at h
          simp only [PR.ok.injEq] at h
          obtain ⟨rfl, rfl⟩ := h
          exact ⟨a.tail, rfl, fun us hs => by rw [goal, if_neg h1, if_neg h2, if_neg h3, if_neg k1, if_neg k2, if_pos k3, if_neg w1, if_neg w2, if_pos w3]⟩
        rw [if_neg w3] at h
        by_cases w4 : isSg [40] (hd (a.tail ++ [noTok])) = true
        · rw [if_pos w4] at h
          have ha2 : a.tail ≠ [] := fun hh => by rw [hh] at w4; exact absurd w4 (by decide)
          rw [tail_app ha2] at h
          obtain ⟨b, hb, hu⟩ := ih _ _ _ _ h
          exact ⟨b, hb, fun us hs => by
            rw [goal, if_neg h1, if_neg h2, if_neg h3, if_neg k1, if_neg k2, if_pos k3, if_neg w1, if_neg w2, if_neg w3, hd_app ha2 us [noTok], if_pos w4, tail_app ha2]
            exact hu us hs⟩
        · rw [if_neg w4] at h; cases h
      · rw [if_neg k3] at h; cases h
    | args op left ks =>
      unfold parseJ at h
      cases left with
      | zero =>
        simp only at h
        by_cases h1 : isSg [41] (hd (a ++ [noTok])) = true
        · rw [if_pos h1] at h
          have ha : a ≠ [] := fun hh => by rw [hh] at h1; exact absurd h1 (by decide)
          rw [tail_app ha] at h
          simp only [PR.ok.injEq] at h
          obtain ⟨rfl, rfl⟩ := h
          exact ⟨a.tail, rfl, fun us hs => by unfold parseJ; simp only; rw [hd_app ha us [noTok], if_pos h1, tail_app ha]⟩
        · rw [if_neg h1] at h; cases h
      | succ left =>
        simp only at h
        by_cases hc : ks ≠ [] ∧ isSg [44] (hd (a ++ [noTok])) = false
        · rw [if_pos hc] at h; cases h
        rw [if_neg hc] at h
        obtain ⟨a1, ha1, hc1⟩ : ∃ a1, (if ks = [] then a ++ [noTok] else (a ++ [noTok]).tail) = a1 ++ [noTok] ∧ ∀ us, ¬ (ks ≠ [] ∧ isSg [44] (hd (a ++ us)) = false) ∧ (if ks = [] then a ++ us else (a ++ us).tail) = a1 ++ us := by
          by_cases hk : ks = []
          · exact ⟨a, by rw [if_pos hk], fun us => ⟨fun hh => hh.1 hk, by rw [if_pos hk]⟩⟩
          · have h44 : isSg [44] (hd (a ++ [noTok])) = true := by
              cases hb : isSg [44] (hd (a ++ [noTok])) with
              | true => rfl
              | false => exact absurd ⟨hk, hb⟩ hc
            have ha : a ≠ [] := fun hh => by rw [hh] at h44; exact absurd h44 (by decide)
            exact ⟨a.tail, by rw [if_neg hk, tail_app ha], fun us => ⟨(fun hh => by rw [hd_app ha us [noTok], h44] at hh; exact absurd hh.2 (by simp)), by rw [if_neg hk, tail_app ha]⟩⟩
        rw [ha1] at h
        have goal : ∀ us, parseJ (f + 1) (.args op (left + 1) ks) (a ++ us) =
            if op = 22 then
              if (hd (a1 ++ us)).k ≠ 3 ∨ word (hd (a1 ++ us)).s = true then .bad (hd (a1 ++ us)).p
              else parseJ f (.args op left (ks ++ [.mk 4 0 (hd (a1 ++ us)).s []])) (a1 ++ us).tail
            else (parseJ f (.two 0) (a1 ++ us)).then fun e r => parseJ f (.args op left (ks ++ [e])) r := by
          intro us
          conv => lhs; unfold parseJ
          simp only
          rw [if_neg (hc1 us).1, (hc1 us).2]
        by_cases h22 : op = 22
        · rw [if_pos h22] at h
          by_cases hk : (hd (a1 ++ [noTok])).k ≠ 3 ∨ word (hd (a1 ++ [noTok])).s = true
          · rw [if_pos hk] at h; cases h
          · rw [if_neg hk] at h
            have ha : a1 ≠ [] := fun hh => hk (.inl (by rw [hh]; decide))
            rw [tail_app ha] at h
            obtain ⟨b, hb, hu⟩ := ih _ _ _ _ h
            exact ⟨b, hb, fun us hs => by
              rw [goal, if_pos h22, hd_app ha us [noTok], if_neg hk, tail_app ha]
              exact hu us hs⟩
        · rw [if_neg h22] at h
          obtain ⟨e1, r1, h1, h2⟩ := then_ok' h
          obtain ⟨b1, rfl, hu1⟩ := ih _ _ _ _ h1
          obtain ⟨b2, hb, hu2⟩ := ih _ _ _ _ h2
          exact ⟨b2, hb, fun us hs => by
            rw [goal, if_neg h22, hu1 us hs]
            exact hu2 us hs⟩
/-- Lexed tokens end with the end's. -/
theorem Lx.ended {l : Bs} {cs : List Tok} (h : Lx l cs) : Ended cs := by
  induction h with
  | nil => exact .last _ rfl
  | sp hn hc h ih => exact ih
  | tok hn hc ht h ih => exact .cons _ ih
theorem tok1_k {l : Bs} {k : Int} {s : Bs} {n : Int} {z : Nat} (h : tok1 l = some (k, s, n, z)) : k ≠ 0 := by
  intro h0
  subst h0
  unfold tok1 at h
  repeat' split at h
  all_goals (first | (cases h; done) | (simp only [Option.some.injEq, Prod.mk.injEq] at h; omega))
/-- The end's token stands at the end alone. -/
theorem Lx.form {l : Bs} {cs : List Tok} (h : Lx l cs) : ∃ az, cs = az ++ [noTok] ∧ ∀ t ∈ az, t.k ≠ 0 := by
  induction h with
  | nil => exact ⟨[], rfl, fun t h => by cases h⟩
  | sp hn hc h ih => exact ih
  | @tok l k s n z ts hn hc ht h ih =>
    obtain ⟨az, e, g⟩ := ih
    exact ⟨⟨k, s, n, 0⟩ :: az, by rw [e]; rfl, fun t hm => by
      rcases List.mem_cons.1 hm with rfl | hm
      · exact tok1_k ht
      · exact g t hm⟩
/-- What is left is an end of what there was. -/
theorem parseJ_suf : ∀ (f : Nat) (j : Job) (ts : List Tok) (e : Ex) (r : List Tok), parseJ f j ts = .ok e r → r <:+ ts := by
  intro f
  induction f with
  | zero => intro j ts e r h; cases h
  | succ f ih =>
    intro j ts e r h
    have tl : ∀ {x : List Tok}, x <:+ ts.tail → x <:+ ts := fun hx => hx.trans (List.tail_suffix ts)
    have tl2 : ∀ {x : List Tok}, x <:+ ts.tail.tail → x <:+ ts := fun hx => (hx.trans (List.tail_suffix _)).trans (List.tail_suffix ts)
    cases j with
    | two n =>
      unfold parseJ at h
      split at h
      · exact ih _ _ _ _ h
      · obtain ⟨e1, r1, h1, h2⟩ := then_ok' h
        exact (ih _ _ _ _ h2).trans (ih _ _ _ _ h1)
    | loop n e0 =>
      unfold parseJ at h
      split at h
      · simp only [PR.ok.injEq] at h
        obtain ⟨rfl, rfl⟩ := h
        exact List.suffix_refl _
      · obtain ⟨e1, r1, h1, h2⟩ := then_ok' h
        have g1 := tl (ih _ _ _ _ h1)
        split at h2
        · simp only [PR.ok.injEq] at h2
          obtain ⟨rfl, rfl⟩ := h2
          exact g1
        · exact (ih _ _ _ _ h2).trans g1
    | one =>
      unfold parseJ at h
      split at h
      · obtain ⟨e1, r1, h1, h2⟩ := then_ok' h
        simp only [PR.ok.injEq] at h2
        obtain ⟨rfl, rfl⟩ := h2
        exact tl (ih _ _ _ _ h1)
      · split at h
        · obtain ⟨e1, r1, h1, h2⟩ := then_ok' h
          simp only [PR.ok.injEq] at h2
          obtain ⟨rfl, rfl⟩ := h2
          exact tl (ih _ _ _ _ h1)
        · split at h
          · obtain ⟨e1, r1, h1, h2⟩ := then_ok' h
            split at h2
            · simp only [PR.ok.injEq] at h2
              obtain ⟨rfl, rfl⟩ := h2
              exact tl ((List.tail_suffix _).trans (ih _ _ _ _ h1))
            · cases h2
          · split at h
            · simp only [PR.ok.injEq] at h
              obtain ⟨rfl, rfl⟩ := h
              exact List.tail_suffix _
            · split at h
              · simp only [PR.ok.injEq] at h
                obtain ⟨rfl, rfl⟩ := h
                exact List.tail_suffix _
              · split at h
                · split at h
                  · simp only [PR.ok.injEq] at h
                    obtain ⟨rfl, rfl⟩ := h
                    exact List.tail_suffix _
                  · split at h
                    · simp only [PR.ok.injEq] at h
                      obtain ⟨rfl, rfl⟩ := h
                      exact List.tail_suffix _
                    · split at h
                      · simp only [PR.ok.injEq] at h
                        obtain ⟨rfl, rfl⟩ := h
                        exact List.tail_suffix _
                      · split at h
                        · exact tl2 (ih _ _ _ _ h)
                        · cases h
                · cases h
    | args op left ks =>
      unfold parseJ at h
      cases left with
      | zero =>
        simp only at h
        split at h
        · simp only [PR.ok.injEq] at h
          obtain ⟨rfl, rfl⟩ := h
          exact List.tail_suffix _
        · cases h
      | succ left =>
        simp only at h
        split at h
        · cases h
        · have hx : (if ks = [] then ts else ts.tail) <:+ ts := by split; exact List.suffix_refl _; exact List.tail_suffix _
          generalize (if ks = [] then ts else ts.tail) = t1 at h hx
          split at h
          · split at h
            · cases h
            · exact ((ih _ _ _ _ h).trans (List.tail_suffix _)).trans hx
          · obtain ⟨e1, r1, h1, h2⟩ := then_ok' h
            exact ((ih _ _ _ _ h2).trans (ih _ _ _ _ h1)).trans hx
/-- What a text reads az, whatever it is checked for. -/
def Reads (l : Bs) (e : Ex) : Prop := ∃ az, Lx l (az ++ [noTok]) ∧ PJ (.two 0) (az ++ [noTok]) e [noTok]
theorem reads_of {l : Bs} {ts : List Tok} {e : Ex} (hl : lexAll l = .ok ts) (hr : readL ts = .ok e) : Reads l e := by
  have hx := lexAll_lx hl
  have hr2 := readL_noP.2 hr
  obtain ⟨az, e1, hk⟩ := hx.form
  rw [e1] at hx hr2
  obtain ⟨r, ⟨f, hf⟩, h0⟩ := (readL_PJ hx.ended).1 hr2
  obtain ⟨b, rfl, hu⟩ := parseJ_ext _ _ _ _ _ hf
  obtain ⟨pre, hp⟩ := parseJ_suf _ _ _ _ _ hf
  have hb : b = [] := by
    cases b with
    | nil => rfl
    | cons t u =>
      exfalso
      have hp2 : pre ++ (t :: u) = az := by
        rw [← List.append_assoc] at hp
        exact List.append_cancel_right hp
      exact hk t (by rw [← hp2]; simp) h0
  subst hb
  exact ⟨az, hx, f, hf⟩
theorem Reads.read {l : Bs} {e : Ex} (h : Reads l e) : ∃ ts, lexAll l = .ok ts ∧ readL ts = .ok e := by
  obtain ⟨az, hx, hp⟩ := h
  obtain ⟨ts, hl, hm⟩ := hx.all
  refine ⟨ts, hl, readL_noP.1 ?_⟩
  rw [hm]
  exact (readL_PJ hx.ended).2 ⟨_, hp, rfl⟩
end Go.Proofs.YtoklhppalkgdeaaGreatDoor
namespace Go.Proofs.YtoklhppalkgdeaaGreatDoor
open Go.RowKit Pal
theorem parseM_reads {l : Bs} {e : Ex} : parseM l = .ok e ↔ l.length ≤ 400 ∧ Reads l e ∧ check e = true := by
  constructor
  · intro h
    unfold parseM at h
    by_cases hl : 400 < l.length
    · rw [if_pos hl] at h; cases h
    rw [if_neg hl] at h
    cases hx : lexAll l with
    | error p => rw [hx] at h; cases h
    | ok ts =>
      rw [hx] at h
      simp only at h
      cases hr : readL ts with
      | error q => rw [hr] at h; cases h
      | ok e' =>
        rw [hr] at h
        simp only at h
        by_cases hc : check e' = true
        · rw [if_pos hc] at h; cases h
          exact ⟨by omega, reads_of hx hr, hc⟩
        · rw [if_neg hc] at h; cases h
  · rintro ⟨hl, hr, hc⟩
    obtain ⟨ts, h1, h2⟩ := hr.read
    unfold parseM
    rw [if_neg (by omega), h1]
    simp only
    rw [h2]
    simp only
    rw [if_pos hc]
theorem parseM_deep {l : Bs} {e : Ex} (hl : l.length ≤ 400) (hr : Reads l e) (hc : check e = false) : parseM l = .error (0, 7) := by
  obtain ⟨ts, h1, h2⟩ := hr.read
  unfold parseM
  rw [if_neg (by omega), h1]
  simp only
  rw [h2]
  simp only
  rw [hc]; rfl
/-- The end's token may be another one's place. -/
theorem PJ.into {az : List Tok} {e : Ex} (h : PJ (.two 0) (az ++ [noTok]) e [noTok]) {us : List Tok} (hs : NoOp (hd us)) : PJ (.two 0) (az ++ us) e us := by
  obtain ⟨f, hf⟩ := h
  obtain ⟨b, hb, hu⟩ := parseJ_ext _ _ _ _ _ hf
  have : b = [] := by simpa using hb
  subst this
  exact ⟨f, hu us hs⟩
/-- In parentheses, ahead of whatever begins with a byte that ends a token: the tokens. -/
theorem lx_paren {l : Bs} {az : List Tok} (h : Lx l (az ++ [noTok])) {x : Bs} {us : List Tok} (hx : Lx x us) : Lx (40 :: (l ++ 41 :: x)) (sgT [40] :: (az ++ sgT [41] :: us)) := by
  have h41 : Lx (41 :: x) (sgT [41] :: us) := Lx.sign (c := 41) (by decide) (by rintro ⟨h, -⟩; revert h; decide) hx
  obtain ⟨bs, e, g⟩ := Lx.app stop_41 h41 h
  have : az = bs := List.append_cancel_right e
  subst this
  exact Lx.sign (c := 40) (by decide) (by rintro ⟨h, -⟩; revert h; decide) g
theorem one_paren_m {az : List Tok} {e : Ex} (h : PJ (.two 0) (az ++ [noTok]) e [noTok]) (us : List Tok) : PJ .one (sgT [40] :: (az ++ sgT [41] :: us)) e us :=
  PJ.paren (h.into noOp_41)
/-- ' ( ' ahead, ' ) ' behind. -/
def wrap (l : Bs) : Bs := [32, 40, 32] ++ l ++ [32, 41]
theorem reads_wrap {l : Bs} {e : Ex} (h : Reads l e) : Reads (wrap l) e := by
  obtain ⟨az, hx, hp⟩ := h
  have h2 : Lx [41] [sgT [41], noTok] := Lx.sign (c := 41) (by decide) (by rintro ⟨h, -⟩; revert h; decide) .nil
  obtain ⟨bs, e1, g⟩ := Lx.app stop_32 (Lx.blank h2) hx
  have : az = bs := List.append_cancel_right e1
  subst this
  have h3 : Lx (32 :: (l ++ 32 :: [41])) (az ++ [sgT [41], noTok]) := Lx.blank g
  have h4 := Lx.blank (Lx.sign (c := 40) (by decide) (by rintro ⟨h, -⟩; revert h; decide) h3)
  refine ⟨sgT [40] :: (az ++ [sgT [41]]), ?_, ?_⟩
  · have : wrap l = 32 :: 40 :: 32 :: (l ++ 32 :: [41]) := by unfold wrap; simp
    rw [this]
    simpa using h4
  · have := (one_paren_m hp [noTok]).two 0 (fun n _ _ => noOp_end n)
    simpa using this
def wrapN : Nat → Bs → Bs
  | 0, l => l
  | n + 1, l => wrapN n (wrap l)
theorem wrapN_succ (n : Nat) (l : Bs) : wrapN (n + 1) l = wrap (wrapN n l) := by
  induction n generalizing l with
  | zero => rfl
  | succ n ih => exact ih (wrap l)
theorem reads_wrapN {l : Bs} {e : Ex} (n : Nat) (h : Reads l e) : Reads (wrapN n l) e := by
  induction n with
  | zero => exact h
  | succ n ih => rw [wrapN_succ]; exact reads_wrap ih
theorem wrapN_len (n : Nat) (l : Bs) : (wrapN n l).length = l.length + 5 * n := by
  induction n with
  | zero => rfl
  | succ n ih => rw [wrapN_succ]; unfold wrap; simp [ih]; omega
/-- ParseBlanks. -/
theorem blanks_law {l : Bs} {e : Ex} (h : parseM l = .ok e) (hl : l.length ≤ 300) (n : Nat) (hn : n ≤ 7) : parseM (wrapN n l) = .ok e := by
  obtain ⟨-, hr, hc⟩ := parseM_reads.1 h
  exact parseM_reads.2 ⟨by rw [wrapN_len]; omega, reads_wrapN n hr, hc⟩

/-! Signs of one. -/
def signsT : List Bool → Bs
  | [] => []
  | b :: r => (if b then [33] else [45, 32]) ++ signsT r
def signsE : List Bool → Ex
  | [] => .mk 4 0 [120] []
  | b :: r => .mk (if b then 6 else 5) 0 [] [signsE r]
theorem signs_reads (l : List Bool) : ∃ az, Lx (signsT l ++ [120]) (az ++ [noTok]) ∧ PJ .one (az ++ [noTok]) (signsE l) [noTok] ∧ bk (signsT l ++ [120]) 0 ≠ 61 := by
  induction l with
  | nil =>
    refine ⟨[⟨3, [120], 0, 0⟩], ?_, ⟨1, rfl⟩, by decide⟩
    exact .tok (z := 1) (by simp [signsT]) (by decide) (by kernel_rfl) (by exact .nil)
  | cons b r ih =>
    obtain ⟨az, hx, hp, h61⟩ := ih
    cases b with
    | true =>
      refine ⟨sgT [33] :: az, ?_, hp.not, by show (33 : UInt8).toNat ≠ 61; decide⟩
      exact Lx.sign (c := 33) (by decide) (fun h => h61 h.2) hx
    | false =>
      refine ⟨sgT [45] :: az, ?_, hp.neg, by show (45 : UInt8).toNat ≠ 61; decide⟩
      exact Lx.sign (c := 45) (by decide) (by rintro ⟨h, -⟩; revert h; decide) hx.blank
theorem signs_len (l : List Bool) : (signsT l).length ≤ 2 * l.length := by
  induction l with
  | nil => simp [signsT]
  | cons b r ih => unfold signsT; rw [List.length_append, List.length_cons]; cases b <;> simp <;> omega
theorem signs_chk (l : List Bool) : ∀ (deep left : Nat), l.length + deep ≤ 24 → l.length + 1 ≤ left → chk (signsE l) deep left = some (left - (l.length + 1)) := by
  induction l with
  | nil =>
    intro deep left h1 h2
    have ha : alone 4 0 [120] [] = true := by kernel_rfl
    unfold signsE
    rw [chk, if_neg (by rw [ha]; simp at *; omega), chkL]
    rfl
  | cons b r ih =>
    intro deep left h1 h2
    simp only [List.length_cons] at h1 h2 ⊢
    have ha : alone (if b then 6 else 5) 0 [] [signsE r] = true := by
      cases b <;> (unfold alone; simp [arity])
    unfold signsE
    rw [chk, if_neg (by rw [ha]; simp; omega), chkL, ih (deep + 1) (left - 1) (by omega) (by omega)]
    rw [Option.bind_some, chkL]
    congr 1; omega
theorem signs_law (l : List Bool) (hl : l.length ≤ 20) : parseM (signsT l ++ [120]) = .ok (signsE l) := by
  obtain ⟨az, hx, hp, -⟩ := signs_reads l
  refine parseM_reads.2 ⟨?_, ⟨az, hx, hp.two 0 (fun n _ _ => noOp_end n)⟩, ?_⟩
  · have := signs_len l
    rw [List.length_append, List.length_singleton]; omega
  · unfold check
    rw [signs_chk l 1 128 (by omega) (by omega)]; rfl

/-! Two in parentheses, put together. -/
def sgOf (k : Nat) : Bs := [[43], [45], [42], [47], [37], [61], [33, 61], [60], [60, 61], [38], [124]].getD k []
def lvOf (k : Nat) : Nat := [3, 3, 4, 4, 4, 2, 2, 2, 2, 1, 0].getD k 0
theorem lv_of (k : Nat) (h : k < 11) : lvT (lvOf k) (sgT (sgOf k)) = some ((7 : Int) + k, false) ∧ ∀ n, lvOf k < n → n ≤ 4 → lvT n (sgT (sgOf k)) = none := by
  rcases (by omega : k = 0 ∨ k = 1 ∨ k = 2 ∨ k = 3 ∨ k = 4 ∨ k = 5 ∨ k = 6 ∨ k = 7 ∨ k = 8 ∨ k = 9 ∨ k = 10) with rfl | rfl | rfl | rfl | rfl | rfl | rfl | rfl | rfl | rfl | rfl
  all_goals
    refine ⟨by decide, fun n hn h4 => ?_⟩
    simp only [lvOf, List.getD_cons_zero, List.getD_cons_succ] at hn
    rcases (by omega : n = 0 ∨ n = 1 ∨ n = 2 ∨ n = 3 ∨ n = 4) with rfl | rfl | rfl | rfl | rfl <;> first | (exfalso; omega) | decide
theorem lvOf_le (k : Nat) (h : k < 11) : lvOf k ≤ 4 := by
  rcases (by omega : k = 0 ∨ k = 1 ∨ k = 2 ∨ k = 3 ∨ k = 4 ∨ k = 5 ∨ k = 6 ∨ k = 7 ∨ k = 8 ∨ k = 9 ∨ k = 10) with rfl | rfl | rfl | rfl | rfl | rfl | rfl | rfl | rfl | rfl | rfl <;> decide
/-- A sign of two, ahead of a parenthesis. -/
theorem lx_sign (k : Nat) (h : k < 11) {x : Bs} {us : List Tok} (hx : Lx (40 :: x) us) : Lx (sgOf k ++ 40 :: x) (sgT (sgOf k) :: us) := by
  have h40 : bk (40 :: x) 0 ≠ 61 := by show (40 : UInt8).toNat ≠ 61; decide
  have two : ∀ c : UInt8, (c.toNat = 60 ∨ c.toNat = 62 ∨ c.toNat = 33) → Lx (c :: 61 :: 40 :: x) (sgT [c, 61] :: us) := by
    intro c hc
    have e := rn_stop (c := c) (by omega) (61 :: 40 :: x)
    have hcl : cls (c.toNat : Int) = 0 ∧ c.toNat ≠ 34 := by rcases hc with h | h | h <;> rw [h] <;> exact ⟨by decide, by decide⟩
    refine .tok (z := 2) (by simp) (by rw [e.1, hcl.1]; decide) ?_ hx
    unfold tok1
    rw [e.1, hcl.1, if_neg (by decide), if_neg (by decide), bk_cons, if_neg hcl.2, if_pos ⟨hc, by rw [bk_succ]; rfl⟩]
    rfl
  rcases (by omega : k = 0 ∨ k = 1 ∨ k = 2 ∨ k = 3 ∨ k = 4 ∨ k = 5 ∨ k = 6 ∨ k = 7 ∨ k = 8 ∨ k = 9 ∨ k = 10) with rfl | rfl | rfl | rfl | rfl | rfl | rfl | rfl | rfl | rfl | rfl
  case inr.inr.inr.inr.inr.inr.inl => exact two 33 (by decide)
  case inr.inr.inr.inr.inr.inr.inr.inr.inl => exact two 60 (by decide)
  all_goals exact Lx.sign (by decide) (fun h => h40 h.2) hx
theorem parts_reads {s t : Bs} {a b : Ex} (ha : Reads s a) (hb : Reads t b) (k : Nat) (hk : k < 11) : Reads (40 :: (s ++ 41 :: (sgOf k ++ 40 :: (t ++ [41])))) (.mk (7 + k) 0 [] [a, b]) := by
  obtain ⟨az, hxa, hpa⟩ := ha
  obtain ⟨bs, hxb, hpb⟩ := hb
  have h1 := lx_paren hxb (x := []) .nil
  have h2 := lx_paren hxa (lx_sign k hk h1)
  refine ⟨sgT [40] :: (az ++ sgT [41] :: (sgT (sgOf k) :: (sgT [40] :: (bs ++ [sgT [41]])))), by simpa using h2, ?_⟩
  have hl := lv_of k hk
  have p1 : PJ (.two (lvOf k + 1)) (sgT [40] :: (az ++ sgT [41] :: (sgT (sgOf k) :: (sgT [40] :: (bs ++ sgT [41] :: [noTok]))))) a (sgT (sgOf k) :: (sgT [40] :: (bs ++ sgT [41] :: [noTok]))) :=
    (one_paren_m hpa _).two _ (fun n h h4 => hl.2 n (by omega) h4)
  have p2 : PJ (.two (lvOf k + 1)) (sgT [40] :: (bs ++ sgT [41] :: [noTok])) b [noTok] := (one_paren_m hpb _).two _ (fun n _ _ => noOp_end n)
  have p3 : PJ (.loop (lvOf k) a) (sgT (sgOf k) :: (sgT [40] :: (bs ++ sgT [41] :: [noTok]))) (.mk (7 + k) 0 [] [a, b]) [noTok] := by
    refine PJ.op hl.1 p2 ?_
    by_cases h2 : lvOf k = 2
    · rw [if_pos h2]; exact ⟨rfl, rfl⟩
    · rw [if_neg h2]; exact .stop (noOp_end _)
  have p4 := PJ.up (by have := lvOf_le k hk; omega) p1 p3
  have down : ∀ m, m ≤ lvOf k → PJ (.two (lvOf k - m)) (sgT [40] :: (az ++ sgT [41] :: (sgT (sgOf k) :: (sgT [40] :: (bs ++ sgT [41] :: [noTok]))))) (.mk (7 + k) 0 [] [a, b]) [noTok] := by
    intro m
    induction m with
    | zero => intro _; exact p4
    | succ m ih =>
      intro hm
      have e : lvOf k - m = (lvOf k - (m + 1)) + 1 := by omega
      have g := ih (by omega)
      rw [e] at g
      exact PJ.up (by have := lvOf_le k hk; omega) g (.stop (noOp_end _))
  have := down (lvOf k) (Nat.le_refl _)
  rw [Nat.sub_self] at this
  simpa using this
/-- ParseParts. -/
theorem parts_law {s t : Bs} {a b : Ex} (ha : parseM s = .ok a) (hb : parseM t = .ok b) (hs : s.length ≤ 150) (ht : t.length ≤ 150) (k : Nat) (hk : k < 11) :
    parseM (40 :: (s ++ 41 :: (sgOf k ++ 40 :: (t ++ [41])))) = if check (.mk (7 + k) 0 [] [a, b]) = true then .ok (.mk (7 + k) 0 [] [a, b]) else .error (0, 7) := by
  have hr := parts_reads (parseM_reads.1 ha).2.1 (parseM_reads.1 hb).2.1 k hk
  have hlen : (40 :: (s ++ 41 :: (sgOf k ++ 40 :: (t ++ [41])))).length ≤ 400 := by
    have : (sgOf k).length ≤ 2 := by
      rcases (by omega : k = 0 ∨ k = 1 ∨ k = 2 ∨ k = 3 ∨ k = 4 ∨ k = 5 ∨ k = 6 ∨ k = 7 ∨ k = 8 ∨ k = 9 ∨ k = 10) with rfl | rfl | rfl | rfl | rfl | rfl | rfl | rfl | rfl | rfl | rfl <;> decide
    simp; omega
  by_cases hc : check (.mk (7 + k) 0 [] [a, b]) = true
  · rw [if_pos hc]; exact parseM_reads.2 ⟨hlen, hr, hc⟩
  · rw [if_neg hc]; exact parseM_deep hlen hr (by simpa using hc)
end Go.Proofs.YtoklhppalkgdeaaGreatDoor
namespace Go.Proofs.YtoklhppalkgdeaaGreatDoor
open Go.RowKit Pal

/-! Numbers. -/
theorem uintM_snoc (M : Nat) (c : UInt8) : ∀ (l : Bs) (acc u : Nat), Lib.parseUintM M acc l = .ok u → Lib.parseUintM M acc (l ++ [c]) = Lib.parseUintM M u [c] := by
  intro l
  induction l with
  | nil => intro acc u h; unfold Lib.parseUintM at h; cases h; rfl
  | cons d t ih =>
    intro acc u h
    rw [List.cons_append]
    unfold Lib.parseUintM at h ⊢
    by_cases h1 : 48 ≤ d.toNat ∧ d.toNat ≤ 57
    · rw [if_pos h1] at h ⊢
      by_cases h2 : 1844674407370955162 ≤ acc
      · rw [if_pos h2] at h; cases h
      rw [if_neg h2] at h ⊢
      by_cases h3 : M < acc * 10 + (d.toNat - 48)
      · rw [if_pos h3] at h; cases h
      rw [if_neg h3] at h ⊢
      exact ih _ _ h
    · rw [if_neg h1] at h; cases h
theorem digB (d : Nat) (h : d < 10) : (UInt8.ofNat (48 + d)).toNat = 48 + d := by
  rw [UInt8.toNat_ofNat']; omega
theorem digits_all (u : Nat) : ∀ c ∈ Lib.decDigits u, 48 ≤ c.toNat ∧ c.toNat ≤ 57 := by
  induction u using Nat.strongRecOn with
  | ind u ih =>
    intro c hc
    rw [Lib.decDigits] at hc
    by_cases h : u < 10
    · rw [dif_pos h] at hc
      obtain rfl := List.mem_singleton.1 hc
      rw [digB u h]; omega
    · rw [dif_neg h] at hc
      rcases List.mem_append.1 hc with hc | hc
      · exact ih (u / 10) (by omega) c hc
      · obtain rfl := List.mem_singleton.1 hc
        rw [digB _ (by omega)]; omega
theorem digits_ne (u : Nat) : Lib.decDigits u ≠ [] := by
  rw [Lib.decDigits]
  split <;> simp
theorem digits_num (u : Nat) : u < 9223372036854775808 → Lib.parseUintM 18446744073709551615 0 (Lib.decDigits u) = .ok u := by
  induction u using Nat.strongRecOn with
  | ind u ih =>
    intro hu
    rw [Lib.decDigits]
    by_cases h : u < 10
    · rw [dif_pos h]
      unfold Lib.parseUintM
      have e := digB u h
      rw [if_pos (by omega), if_neg (by omega), if_neg (by omega), e]
      unfold Lib.parseUintM
      congr 1; omega
    · rw [dif_neg h, uintM_snoc _ _ _ _ _ (ih (u / 10) (by omega) (by omega))]
      unfold Lib.parseUintM
      have e := digB (u % 10) (by omega)
      rw [if_pos (by omega), if_neg (by omega), if_neg (by omega), e]
      unfold Lib.parseUintM
      congr 1; omega
theorem num_itoa (n : Int) (h0 : 0 ≤ n) (h1 : n ≤ 9223372036854775807) : numOf (Lib.itoa n) = some n := by
  obtain ⟨u, rfl⟩ : ∃ u : Nat, n = u := ⟨n.toNat, by omega⟩
  rw [Lib.itoa_nonneg]
  have hp := digits_num u (by omega)
  have ha := digits_all u
  have hne := digits_ne u
  generalize Lib.decDigits u = l at *
  cases l with
  | nil => exact absurd rfl hne
  | cons c r =>
    have hc := ha c (by simp)
    unfold numOf Lib.parseIntB
    simp only
    rw [if_neg (by omega)]
    unfold Lib.parseUintB
    rw [if_neg (by simp), show (2 ^ 64 - 1 : Nat) = 18446744073709551615 from rfl, hp]
    simp only
    rw [if_neg (by omega), if_neg (by omega), if_neg (by omega)]

/-! What may follow. -/
def Follow (x : Bs) : Prop := x = [] ∨ ∃ c y, x = c :: y ∧ Stop c
theorem follow_cons {c : UInt8} (h : Stop c) (y : Bs) : Follow (c :: y) := .inr ⟨c, y, rfl, h⟩
/-- One token that is lexed alone is lexed ahead of whatever may follow. -/
theorem lx_one {l : Bs} {t : Tok} (h : Lx l [t, noTok]) {x : Bs} {us : List Tok} (hf : Follow x) (hx : Lx x us) : Lx (l ++ x) (t :: us) := by
  rcases hf with rfl | ⟨c, y, rfl, hc⟩
  · have : us = [noTok] := by
      cases hx with
      | nil => rfl
      | sp hn => exact absurd rfl hn
      | tok hn => exact absurd rfl hn
    subst this
    simpa using h
  · obtain ⟨az, e, g⟩ := Lx.app hc hx h
    have : az = [t] := by
      have e2 : [t] ++ [noTok] = az ++ [noTok] := e
      exact (List.append_cancel_right e2).symm
    subst this
    exact g
theorem run_digits : ∀ (l : Bs), (∀ c ∈ l, 48 ≤ c.toNat ∧ c.toNat ≤ 57) → run 2 2 l = l.length := by
  intro l
  induction l with
  | nil => intro _; rfl
  | cons c t ih =>
    intro h
    have hc := h c (by simp)
    have e := rn_stop (c := c) (by omega) t
    rw [run_go (by simp) (.inl (by rw [e.1]; exact cls_dig (by omega))), e.2, List.drop_one, List.tail_cons, ih (fun x hx => h x (by simp [hx]))]
    simp; omega
theorem lx_num (n : Int) (h0 : 0 ≤ n) (h1 : n ≤ 9223372036854775807) : Lx (Lib.itoa n) [⟨1, [], n, 0⟩, noTok] ∧ bk (Lib.itoa n) 0 ≠ 61 ∧ Lib.itoa n ≠ [] := by
  have hn := num_itoa n h0 h1
  obtain ⟨u, rfl⟩ : ∃ u : Nat, n = u := ⟨n.toNat, by omega⟩
  rw [Lib.itoa_nonneg] at hn ⊢
  have ha := digits_all u
  have hne := digits_ne u
  generalize Lib.decDigits u = l at *
  have hr := run_digits l ha
  cases l with
  | nil => exact absurd rfl hne
  | cons c r =>
    have hc := ha c (by simp)
    have e := rn_stop (c := c) (by omega) r
    have h2 : cls (rn (c :: r)) = 2 := by rw [e.1]; exact cls_dig (by omega)
    refine ⟨.tok (z := (c :: r).length) hne (by rw [h2]; decide) ?_ (by rw [List.drop_length]; exact .nil), by rw [bk_cons]; omega, hne⟩
    unfold tok1
    rw [if_pos h2, hr, List.take_length, hn]

/-! Texts. -/
theorem hexB_ok : ∀ n : Fin 16, hexD (hexB n.val).toNat = some ((n.val : Nat) : Int) := by decide
theorem hexB_lo : ∀ n : Fin 16, (hexB n.val).toNat < 128 := by decide
theorem enc_dec {l : Bs} (hne : l ≠ []) (hv : ¬ (rn l = 65533 ∧ wd l = 1)) : Lib.encodeRune (rn l) = l.take (wd l) := by
  have := Lib.encode_decode l hne (by rw [decodeL_eq]; unfold rn wd at hv; omega)
  rw [decodeL_eq] at this
  exact this
theorem enc_low {r : Int} (h0 : 0 ≤ r) (h1 : r ≤ 127) : Lib.encodeRune r = [r.toNat.toUInt8] := by
  unfold Lib.encodeRune; rw [Lib.encodeRuneZ_one h0 h1]; rfl
theorem quoteF_nil' (f : Nat) : quoteF f [] = [] := by cases f <;> simp [quoteF]
theorem quoteF_go' {f : Nat} {l : Bs} (h : l ≠ []) : quoteF (f + 1) l = quote1 (rn l) ++ quoteF f (l.drop (wd l)) := by
  conv => lhs; unfold quoteF
  rw [if_neg h]
theorem unq_quote (y : Bs) : ∀ (g : Nat) (s : Bs), s.length ≤ g → val s = true → ∀ f, (quoteF g s).length < f → unqL f (quoteF g s ++ 34 :: y) = some (s, cnt s, (quoteF g s).length + 1) := by
  have nil : ∀ (g f : Nat), (quoteF g []).length < f → unqL f (quoteF g [] ++ 34 :: y) = some ([], cnt [], (quoteF g []).length + 1) := by
    intro g f hf
    obtain ⟨f, rfl⟩ : ∃ f', f = f' + 1 := ⟨f - 1, by omega⟩
    rw [quoteF_nil', List.nil_append]
    have e := rn_stop (c := 34) (by decide) y
    unfold unqL
    rw [if_neg (by simp), e.1, if_pos (by decide)]
    rfl
  intro g
  induction g with
  | zero => intro s h _ f hf; have : s = [] := List.eq_nil_of_length_eq_zero (by omega)
            subst this; exact nil 0 f hf
  | succ g ih =>
    intro s h hv f hf
    by_cases hn : s = []
    · subst hn; exact nil _ f hf
    have hvc := val_cons hn
    rw [hv] at hvc
    have hb : ¬ (rn s = 65533 ∧ wd s = 1) := fun hh => by rw [if_pos hh] at hvc; cases hvc
    rw [if_neg hb] at hvc
    have hd := drop_len hn
    have hed := enc_dec hn hb
    have hsc := scalar_rn s
    have hcat : Lib.encodeRune (rn s) ++ s.drop (wd s) = s := by rw [hed]; exact List.take_append_drop _ _
    have hcnt := cnt_cons hn
    rw [quoteF_go' hn] at hf ⊢
    obtain ⟨f, rfl⟩ : ∃ f', f = f' + 1 := ⟨f - 1, by omega⟩
    rw [List.length_append] at hf ⊢
    have IH := fun f' hf' => ih (s.drop (wd s)) (by omega) hvc.symm f' hf'
    generalize hq : quoteF g (s.drop (wd s)) = q at *
    generalize hr : rn s = r at *
    rw [List.append_assoc]
    have hr0 := hsc.1
    by_cases c1 : r = 34 ∨ r = 92
    · have hq1 : quote1 r = [92, r.toNat.toUInt8] := by unfold quote1; rw [if_pos c1, enc_low hr0 (by omega)]
      rw [hq1] at hf ⊢
      have e := rn_stop (c := 92) (by decide) (r.toNat.toUInt8 :: (q ++ 34 :: y))
      have hl : ([92, r.toNat.toUInt8] : Bs) ++ (q ++ 34 :: y) = 92 :: r.toNat.toUInt8 :: (q ++ 34 :: y) := rfl
      rw [hl]
      have hbk : bk (92 :: r.toNat.toUInt8 :: (q ++ 34 :: y)) 1 = r.toNat := by
        rw [bk_succ, bk_cons]; exact toU8 hr0 (by omega)
      have hesc : escL (92 :: r.toNat.toUInt8 :: (q ++ 34 :: y)) = some (r, 2) := by
        unfold escL
        rw [hbk, if_pos (by omega)]
        congr 2; omega
      unfold unqL
      rw [if_neg (by simp), e.1, if_neg (by decide), if_pos (by decide), hesc]
      simp only
      rw [show (92 :: r.toNat.toUInt8 :: (q ++ 34 :: y)).drop 2 = q ++ 34 :: y from rfl, IH f (by simp at hf; omega)]
      simp only
      rw [hcat, hcnt]
      simp only [List.length_cons, List.length_nil, Option.some.injEq, Prod.mk.injEq, true_and]
      omega
    by_cases c2 : r < 32 ∨ (127 ≤ r ∧ r ≤ 159)
    · have hq1 : quote1 r = [92, 117, 48, 48, hexB (r.toNat / 16), hexB (r.toNat % 16)] := by unfold quote1; rw [if_neg c1, if_pos c2]
      rw [hq1] at hf ⊢
      have e := rn_stop (c := 92) (by decide) (117 :: 48 :: 48 :: hexB (r.toNat / 16) :: hexB (r.toNat % 16) :: (q ++ 34 :: y))
      have hl : ([92, 117, 48, 48, hexB (r.toNat / 16), hexB (r.toNat % 16)] : Bs) ++ (q ++ 34 :: y) = 92 :: 117 :: 48 :: 48 :: hexB (r.toNat / 16) :: hexB (r.toNat % 16) :: (q ++ 34 :: y) := rfl
      rw [hl]
      have ha := hexB_ok ⟨r.toNat / 16, by omega⟩
      have hb := hexB_ok ⟨r.toNat % 16, by omega⟩
      have hesc : escL (92 :: 117 :: 48 :: 48 :: hexB (r.toNat / 16) :: hexB (r.toNat % 16) :: (q ++ 34 :: y)) = some (r, 6) := by
        have k1 : bk (92 :: 117 :: 48 :: 48 :: hexB (r.toNat / 16) :: hexB (r.toNat % 16) :: (q ++ 34 :: y)) 1 = 117 := rfl
        have k2 : bk (92 :: 117 :: 48 :: 48 :: hexB (r.toNat / 16) :: hexB (r.toNat % 16) :: (q ++ 34 :: y)) 2 = 48 := rfl
        have k3 : bk (92 :: 117 :: 48 :: 48 :: hexB (r.toNat / 16) :: hexB (r.toNat % 16) :: (q ++ 34 :: y)) 3 = 48 := rfl
        have k4 : bk (92 :: 117 :: 48 :: 48 :: hexB (r.toNat / 16) :: hexB (r.toNat % 16) :: (q ++ 34 :: y)) 4 = (hexB (r.toNat / 16)).toNat := rfl
        have k5 : bk (92 :: 117 :: 48 :: 48 :: hexB (r.toNat / 16) :: hexB (r.toNat % 16) :: (q ++ 34 :: y)) 5 = (hexB (r.toNat % 16)).toNat := rfl
        have h48 : hexD 48 = some 0 := rfl
        unfold escL
        rw [k1, if_neg (by omega), if_pos rfl, k2, k3, k4, k5, h48, ha, hb]
        simp only
        have e4 : hex4 0 0 ((r.toNat / 16 : Nat) : Int) ((r.toNat % 16 : Nat) : Int) = r := by unfold hex4; omega
        rw [e4, if_neg (by omega)]
      unfold unqL
      rw [if_neg (by simp), e.1, if_neg (by decide), if_pos (by decide), hesc]
      simp only
      rw [show (92 :: 117 :: 48 :: 48 :: hexB (r.toNat / 16) :: hexB (r.toNat % 16) :: (q ++ 34 :: y)).drop 6 = q ++ 34 :: y from rfl, IH f (by simp at hf; omega)]
      simp only
      rw [hcat, hcnt]
      simp only [List.length_cons, List.length_nil, Option.some.injEq, Prod.mk.injEq, true_and]
      omega
    · have hq1 : quote1 r = Lib.encodeRune r := by unfold quote1; rw [if_neg c1, if_neg c2]
      rw [hq1] at hf ⊢
      have hde := dec_enc hsc (q ++ 34 :: y)
      have hlen := enc_len r
      have hnb : ¬ badIn (Lib.encodeRune r ++ (q ++ 34 :: y)) := by
        unfold badIn
        rw [hde.1, hde.2]
        rintro (⟨h1, h2⟩ | h1 | h1)
        · subst h1
          exact absurd h2 (by decide)
        · exact c2 (.inl h1)
        · exact c2 (.inr h1)
      unfold unqL
      rw [if_neg (enc_ne _ _), hde.1, if_neg (fun hh => c1 (.inl hh)), if_neg (fun hh => c1 (.inr hh)), if_neg hnb, hde.2, List.drop_left, IH f (by omega)]
      simp only
      rw [hcat, hcnt]
      simp only [Option.some.injEq, Prod.mk.injEq, true_and]
      omega
theorem lx_text (s : Bs) (h : textOk s = true) : Lx (quoteB s) [⟨2, s, 0, 0⟩, noTok] := by
  unfold textOk at h
  simp only [Bool.and_eq_true, decide_eq_true_eq] at h
  obtain ⟨⟨h1, h2⟩, h3⟩ := h
  have hu := unq_quote [] s.length s (Nat.le_refl _) h2 ((quoteF s.length s ++ [34]).length + 1) (by simp; omega)
  unfold quoteB
  generalize quoteF s.length s = q at *
  have e := rn_stop (c := 34) (by decide) (q ++ [34])
  have c0 : cls (((34 : UInt8).toNat : Nat) : Int) = 0 := by decide
  refine .tok (z := 1 + (q.length + 1)) (by simp) (by rw [e.1, c0]; decide) ?_ ?_
  · unfold tok1
    rw [e.1, c0, if_neg (by decide), if_neg (by decide), bk_cons, if_pos (by decide), List.length_cons, List.drop_one, List.tail_cons, hu]
    simp only
    rw [if_pos h3]
  · rw [List.drop_eq_nil_of_le (by simp; omega)]
    exact .nil
theorem name_first {l : Bs} {cs : List Tok} (h : Lx l cs) : ∀ tk us, cs = tk :: us → tk.k = 3 → tk.n = 0 ∧ bk tk.s 0 ≠ 61 ∧ tk.s ≠ [] := by
  induction h with
  | nil => intro tk us e hk; simp only [List.cons.injEq] at e; obtain ⟨rfl, -⟩ := e; cases hk
  | sp hn hc h ih => exact ih
  | @tok l k s n z ts hn hc ht h ih =>
    intro tk us e hk
    simp only [List.cons.injEq] at e
    obtain ⟨rfl, -⟩ := e
    simp only at hk
    subst hk
    unfold tok1 at ht
    by_cases c2 : cls (rn l) = 2
    · rw [if_pos c2] at ht
      split at ht
      · simp only [Option.some.injEq, Prod.mk.injEq] at ht; omega
      · cases ht
    rw [if_neg c2] at ht
    by_cases c1 : cls (rn l) = 1
    · rw [if_pos c1] at ht
      split at ht
      · simp only [Option.some.injEq, Prod.mk.injEq, true_and] at ht
        obtain ⟨rfl, rfl, rfl⟩ := ht
        have hr : 1 ≤ run 1 2 l := by rw [run_go hn (.inl c1)]; have := wd_pos l; omega
        have hb : bk (l.take (run 1 2 l)) 0 = bk l 0 := by
          cases l with
          | nil => exact absurd rfl hn
          | cons c r =>
            obtain ⟨m, hm⟩ : ∃ m, run 1 2 (c :: r) = m + 1 := ⟨run 1 2 (c :: r) - 1, by omega⟩
            rw [hm, List.take_succ_cons]; rfl
        refine ⟨rfl, ?_, ?_⟩
        · show bk (l.take (run 1 2 l)) 0 ≠ 61
          rw [hb]
          intro h61
          have := (dec_low (l := l) (by omega)).1
          rw [this, h61] at c1
          exact absurd c1 (by decide)
        · show l.take (run 1 2 l) ≠ []
          cases l with
          | nil => exact absurd rfl hn
          | cons c r =>
            obtain ⟨m, hm⟩ : ∃ m, run 1 2 (c :: r) = m + 1 := ⟨run 1 2 (c :: r) - 1, by omega⟩
            rw [hm, List.take_succ_cons]; simp
      · cases ht
    rw [if_neg c1] at ht
    repeat' split at ht
    all_goals (first | (cases ht; done) | (simp only [Option.some.injEq, Prod.mk.injEq] at ht; omega))
theorem lx_name (s : Bs) (h : isName s = true) : Lx s [⟨3, s, 0, 0⟩, noTok] ∧ word s = false ∧ bk s 0 ≠ 61 ∧ s ≠ [] := by
  unfold isName at h
  rw [Bool.and_eq_true] at h
  obtain ⟨-, h⟩ := h
  cases hl : lexAll s with
  | error p => rw [hl] at h; cases h
  | ok ts =>
    rw [hl] at h
    match ts, h with
    | [t, u], h =>
      simp only [Bool.and_eq_true, decide_eq_true_eq, Bool.not_eq_true'] at h
      obtain ⟨⟨hk, hs⟩, hw⟩ := h
      have hx := lexAll_lx hl
      obtain ⟨az, e, hne⟩ := hx.form
      have e2 : az = [noP t] ∧ noP u = noTok := by
        match az, e with
        | [], e => simp at e
        | [x], e => simp at e; exact ⟨by rw [e.1], e.2⟩
        | x :: y :: z, e => simp at e
      have hmap : List.map noP [t, u] = [noP t, noP u] := rfl
      rw [hmap, e2.2] at hx
      have hn0 : t.n = 0 ∧ bk s 0 ≠ 61 ∧ s ≠ [] := by
        have := name_first hx _ _ rfl hk
        rw [← hs]; exact this
      refine ⟨?_, hw, hn0.2⟩
      have : noP t = ⟨3, s, 0, 0⟩ := by unfold noP; rw [hk, hs, hn0.1]
      rw [this] at hx; exact hx
end Go.Proofs.YtoklhppalkgdeaaGreatDoor
namespace Go.Proofs.YtoklhppalkgdeaaGreatDoor
open Go.RowKit Pal
/-- Each part may be, but for how many and how deep. -/
inductive Al : Ex → Prop
  | mk (op n : Int) (s : Bs) (ks : List Ex) (h : alone op n s ks = true) (hn : n ≤ 9223372036854775807) (hk : ∀ k ∈ ks, Al k) : Al (.mk op n s ks)
theorem chk_al : ∀ (e : Ex), Fine e → ∀ (deep left : Nat), (chk e deep left).isSome = true → Al e := by
  intro e
  refine Ex.ind (P := fun e => Fine e → ∀ (deep left : Nat), (chk e deep left).isSome = true → Al e) ?_ e
  intro op n s ks ih hF deep left h
  cases hF with
  | mk _ _ _ _ ho hn hs hfk =>
    rw [chk] at h
    by_cases hc : left = 0 ∨ 24 < deep ∨ alone op n s ks = false
    · rw [if_pos hc] at h; cases h
    rw [if_neg hc] at h
    refine .mk op n s ks ?_ hn.2 ?_
    · cases hb : alone op n s ks with
      | true => rfl
      | false => exact absurd (.inr (.inr hb)) hc
    · have go : ∀ (l : List Ex), (∀ k ∈ l, k ∈ ks) → ∀ left, (chkL l (deep + 1) left).isSome = true → ∀ k ∈ l, Al k := by
        intro l
        induction l with
        | nil => intro _ _ _ k hk; cases hk
        | cons a t iht =>
          intro hm left h k hk
          rw [chkL] at h
          cases hca : chk a (deep + 1) left with
          | none => rw [hca] at h; cases h
          | some m =>
            rw [hca, Option.bind_some] at h
            rcases List.mem_cons.1 hk with rfl | hk
            · exact ih k (hm k (by simp)) (hfk k (hm k (by simp))) _ _ (by rw [hca]; rfl)
            · exact iht (fun x hx => hm x (by simp [hx])) m h k hk
      exact go ks (fun _ h => h) _ h

/-! Words. -/
theorem stop_40 : Stop 40 := ⟨by decide, by decide, by decide, by decide⟩
theorem lx_word (w : Bs) (h : w = wTrue ∨ w = wFalse ∨ w = wIf ∨ w = wLen ∨ w = wCat ∨ w = wCut ∨ w = wHas ∨ w = wUp) : Lx w [⟨3, w, 0, 0⟩, noTok] := by
  rcases h with rfl | rfl | rfl | rfl | rfl | rfl | rfl | rfl
  · exact .tok (z := 4) (by simp [wTrue]) (by decide) (by kernel_rfl) .nil
  · exact .tok (z := 5) (by simp [wFalse]) (by decide) (by kernel_rfl) .nil
  · exact .tok (z := 2) (by simp [wIf]) (by decide) (by kernel_rfl) .nil
  · exact .tok (z := 3) (by simp [wLen]) (by decide) (by kernel_rfl) .nil
  · exact .tok (z := 3) (by simp [wCat]) (by decide) (by kernel_rfl) .nil
  · exact .tok (z := 3) (by simp [wCut]) (by decide) (by kernel_rfl) .nil
  · exact .tok (z := 3) (by simp [wHas]) (by decide) (by kernel_rfl) .nil
  · exact .tok (z := 2) (by simp [wUp]) (by decide) (by kernel_rfl) .nil
def wdT (s : Bs) : Tok := ⟨3, s, 0, 0⟩
theorem PJ.args0 (op : Int) (ks : List Ex) (us : List Tok) : PJ (.args op 0 ks) (sgT [41] :: us) (.mk op 0 [] ks) us := ⟨1, by
  unfold parseJ
  simp only
  rw [if_pos (by show isSg [41] (sgT [41]) = true; decide)]; rfl⟩
theorem PJ.args1 {op : Int} (h22 : op ≠ 22) {left : Nat} {ts r r2 : List Tok} {e x : Ex} (h : PJ (.two 0) ts e r) (g : PJ (.args op left [e]) r x r2) : PJ (.args op (left + 1) []) ts x r2 := by
  obtain ⟨f, h1, h2⟩ := h.join g
  refine ⟨f + 1, ?_⟩
  unfold parseJ
  simp only [if_true, ne_eq, not_true_eq_false, false_and, if_false]
  rw [if_neg h22, h1]
  exact h2
theorem PJ.argsC {op : Int} (h22 : op ≠ 22) {left : Nat} {ks : List Ex} (hk : ks ≠ []) {ts r r2 : List Tok} {e x : Ex} (h : PJ (.two 0) ts e r) (g : PJ (.args op left (ks ++ [e])) r x r2) : PJ (.args op (left + 1) ks) (sgT [44] :: ts) x r2 := by
  obtain ⟨f, h1, h2⟩ := h.join g
  refine ⟨f + 1, ?_⟩
  unfold parseJ
  simp only
  rw [if_neg (by rintro ⟨-, hh⟩; exact absurd hh (by show ¬ isSg [44] (sgT [44]) = false; decide)), if_neg hk, if_neg h22, List.tail_cons, h1]
  exact h2
theorem PJ.argsH {s : Bs} (hw : word s = false) {us : List Tok} : PJ (.args 22 1 []) (wdT s :: sgT [41] :: us) (.mk 22 0 [] [.mk 4 0 s []]) us := by
  obtain ⟨f, hf⟩ := PJ.args0 22 [.mk 4 0 s []] us
  refine ⟨f + 1, ?_⟩
  unfold parseJ
  simp only [if_true, ne_eq, not_true_eq_false, false_and, if_false]
  rw [if_neg (by show ¬ ((wdT s).k ≠ 3 ∨ word (wdT s).s = true); unfold wdT; rw [hw]; simp)]
  exact hf
theorem PJ.call {w : Bs} (h : w = wIf ∨ w = wLen ∨ w = wCat ∨ w = wCut ∨ w = wHas ∨ w = wUp) {ts r : List Tok} {e : Ex} (g : PJ (.args (opOf w) (arOf w) []) ts e r) : PJ .one (wdT w :: sgT [40] :: ts) e r := by
  obtain ⟨f, hf⟩ := g
  have hw : word w = true ∧ w ≠ wTrue ∧ w ≠ wFalse := by rcases h with rfl | rfl | rfl | rfl | rfl | rfl <;> decide
  refine ⟨f + 1, ?_⟩
  unfold parseJ
  rw [if_neg (by show ¬ isSg [45] (wdT w) = true; simp [isSg, wdT]), if_neg (by show ¬ isSg [33] (wdT w) = true; simp [isSg, wdT]), if_neg (by show ¬ isSg [40] (wdT w) = true; simp [isSg, wdT]),
    if_neg (by show ¬ (wdT w).k = 1; simp [wdT]), if_neg (by show ¬ (wdT w).k = 2; simp [wdT]), if_pos (by rfl), if_neg (by show ¬ word w = false; rw [hw.1]; simp),
    if_neg (by exact hw.2.1), if_neg (by exact hw.2.2), if_pos (by show isSg [40] (sgT [40]) = true; decide)]
  exact hf
theorem noOp_44 : NoOp (sgT [44]) := fun n => by
  unfold lvT lv; simp [sgT]
/-- What is said of an expression's text. -/
def TextOK (e : Ex) : Prop := ∃ tk : List Tok, (∀ x us, Follow x → Lx x us → Lx (textX e ++ x) (tk ++ us)) ∧ (∀ us, PJ .one (tk ++ us) e us) ∧ bk (textX e) 0 ≠ 61 ∧ textX e ≠ [] ∧ (e.op = 4 → ∃ s, e = .mk 4 0 s [] ∧ tk = [wdT s] ∧ word s = false)
/-- The further parts of a call. -/
theorem args_tail (op : Int) (h22 : op ≠ 22) : ∀ (ks : List Ex), (∀ k ∈ ks, TextOK k) → ∃ tk, (∀ x us, Lx x us → Lx (Lib.joinTail [44, 32] (textL ks) ++ 41 :: x) (tk ++ sgT [41] :: us)) ∧
    (∀ x, Follow (Lib.joinTail [44, 32] (textL ks) ++ 41 :: x)) ∧ (∀ us, NoOp (hd (tk ++ sgT [41] :: us))) ∧ ∀ (pre : List Ex) (us : List Tok), pre ≠ [] → PJ (.args op ks.length pre) (tk ++ sgT [41] :: us) (.mk op 0 [] (pre ++ ks)) us := by
  intro ks
  induction ks with
  | nil =>
    intro _
    refine ⟨[], fun x us hx => ?_, fun x => ?_, fun us => noOp_41, fun pre us hp => ?_⟩
    · exact Lx.sign (c := 41) (by decide) (by rintro ⟨h, -⟩; revert h; decide) hx
    · exact follow_cons stop_41 _
    · rw [List.append_nil]; exact PJ.args0 _ _ _
  | cons k ks ih =>
    intro hall
    obtain ⟨tk', a1, a2, a3, a4⟩ := ih (fun x hx => hall x (by simp [hx]))
    obtain ⟨tk, b1, b2, -, -, -⟩ := hall k (by simp)
    have ej : ∀ x, Lib.joinTail [44, 32] (textL (k :: ks)) ++ 41 :: x = 44 :: 32 :: (textX k ++ (Lib.joinTail [44, 32] (textL ks) ++ 41 :: x)) := by
      intro x
      rw [textL]
      unfold Lib.joinTail
      simp
    refine ⟨sgT [44] :: (tk ++ tk'), fun x us hx => ?_, fun x => ?_, fun us => noOp_44, fun pre us hp => ?_⟩
    · rw [ej]
      have := Lx.sign (c := 44) (by decide) (by rintro ⟨h, -⟩; revert h; decide) (b1 _ _ (a2 x) (a1 x us hx)).blank
      simpa using this
    · rw [ej]; exact follow_cons stop_44 _
    · have h1 := (b2 (tk' ++ sgT [41] :: us)).two 0 (fun n _ _ => a3 us n)
      have h2 := a4 (pre ++ [k]) us (by simp)
      have := PJ.argsC (op := op) h22 hp h1 h2
      simpa using this
theorem word_lx {w : Bs} (h : Lx w [⟨3, w, 0, 0⟩, noTok]) {x : Bs} {us : List Tok} (hx : Lx (40 :: x) us) : Lx (w ++ 40 :: x) (wdT w :: us) := lx_one h (follow_cons stop_40 _) hx
/-- A call of a word. -/
theorem call_ok (op : Int) (h22 : op ≠ 22) (w : Bs) (hw : w = wIf ∨ w = wLen ∨ w = wCat ∨ w = wCut ∨ w = wHas ∨ w = wUp) (ho : opOf w = op) (ks : List Ex) (ha : arOf w = ks.length) (hk : ks ≠ []) (hall : ∀ k ∈ ks, TextOK k)
    (ht : textX (.mk op 0 [] ks) = w ++ [40] ++ Lib.join (textL ks) [44, 32] ++ [41]) (h4 : op ≠ 4) (h61 : bk w 0 ≠ 61) (hne : w ≠ []) : TextOK (.mk op 0 [] ks) := by
  cases ks with
  | nil => exact absurd rfl hk
  | cons k ks =>
    obtain ⟨tk', a1, a2, a3, a4⟩ := args_tail op h22 ks (fun x hx => hall x (by simp [hx]))
    obtain ⟨tk, b1, b2, -, -, -⟩ := hall k (by simp)
    have ej : ∀ x, textX (.mk op 0 [] (k :: ks)) ++ x = w ++ 40 :: (textX k ++ (Lib.joinTail [44, 32] (textL ks) ++ 41 :: x)) := by
      intro x
      rw [ht, textL, Lib.join_cons]
      simp
    refine ⟨wdT w :: sgT [40] :: (tk ++ (tk' ++ [sgT [41]])), fun x us hf hx => ?_, fun us => ?_, ?_, ?_, fun h => absurd h h4⟩
    · rw [ej]
      have h1 := b1 _ _ (a2 x) (a1 x us hx)
      have h2 := word_lx (lx_word w (by rcases hw with h | h | h | h | h | h <;> simp [h])) (Lx.sign (c := 40) (by decide) (by rintro ⟨h, -⟩; revert h; decide) h1)
      simpa using h2
    · have h1 := (b2 (tk' ++ sgT [41] :: us)).two 0 (fun n _ _ => a3 us n)
      have h2 := a4 [k] us (by simp)
      have h3 := PJ.args1 (op := op) h22 h1 h2
      have h4 := PJ.call hw (by rw [ho, ha]; exact h3)
      simpa using h4
    · have e := ej []
      rw [List.append_nil] at e
      rw [e, bk_app_lt (List.length_pos_iff.2 hne)]; exact h61
    · have e := ej []
      rw [List.append_nil] at e
      rw [e]; simp
/-- Two, and a sign between them. -/
theorem two_op {A B r : List Tok} {a b : Ex} (k : Nat) (hk : k < 11) (pa : PJ .one A a (sgT (sgOf k) :: B)) (pb : PJ .one B b r) (hr : NoOp (hd r)) : PJ (.two 0) A (.mk (7 + k) 0 [] [a, b]) r := by
  have hl := lv_of k hk
  have p1 : PJ (.two (lvOf k + 1)) A a (sgT (sgOf k) :: B) := pa.two _ (fun n h h4 => hl.2 n (by omega) h4)
  have p2 : PJ (.two (lvOf k + 1)) B b r := pb.two _ (fun n _ _ => hr n)
  have p3 : PJ (.loop (lvOf k) a) (sgT (sgOf k) :: B) (.mk (7 + k) 0 [] [a, b]) r := by
    refine PJ.op hl.1 p2 ?_
    by_cases h2 : lvOf k = 2
    · rw [if_pos h2]; exact ⟨rfl, rfl⟩
    · rw [if_neg h2]; exact .stop (hr _)
  have p4 := PJ.up (by have := lvOf_le k hk; omega) p1 p3
  have down : ∀ m, m ≤ lvOf k → PJ (.two (lvOf k - m)) A (.mk (7 + k) 0 [] [a, b]) r := by
    intro m
    induction m with
    | zero => intro _; exact p4
    | succ m ih =>
      intro hm
      have e : lvOf k - m = (lvOf k - (m + 1)) + 1 := by omega
      have g := ih (by omega)
      rw [e] at g
      exact PJ.up (by have := lvOf_le k hk; omega) g (.stop (hr _))
  have := down (lvOf k) (Nat.le_refl _)
  rw [Nat.sub_self] at this
  exact this
/-- A sign of two, ahead of a blank. -/
theorem lx_sign32 (k : Nat) (h : k < 11) {x : Bs} {us : List Tok} (hx : Lx (32 :: x) us) : Lx (sgOf k ++ 32 :: x) (sgT (sgOf k) :: us) := by
  have h32 : bk (32 :: x) 0 ≠ 61 := by show (32 : UInt8).toNat ≠ 61; decide
  have two : ∀ c : UInt8, (c.toNat = 60 ∨ c.toNat = 62 ∨ c.toNat = 33) → Lx (c :: 61 :: 32 :: x) (sgT [c, 61] :: us) := by
    intro c hc
    have e := rn_stop (c := c) (by omega) (61 :: 32 :: x)
    have hcl : cls (c.toNat : Int) = 0 ∧ c.toNat ≠ 34 := by rcases hc with h | h | h <;> rw [h] <;> exact ⟨by decide, by decide⟩
    refine .tok (z := 2) (by simp) (by rw [e.1, hcl.1]; decide) ?_ hx
    unfold tok1
    rw [e.1, hcl.1, if_neg (by decide), if_neg (by decide), bk_cons, if_neg hcl.2, if_pos ⟨hc, by rw [bk_succ]; rfl⟩]
    rfl
  rcases (by omega : k = 0 ∨ k = 1 ∨ k = 2 ∨ k = 3 ∨ k = 4 ∨ k = 5 ∨ k = 6 ∨ k = 7 ∨ k = 8 ∨ k = 9 ∨ k = 10) with rfl | rfl | rfl | rfl | rfl | rfl | rfl | rfl | rfl | rfl | rfl
  case inr.inr.inr.inr.inr.inr.inl => exact two 33 (by decide)
  case inr.inr.inr.inr.inr.inr.inr.inr.inl => exact two 60 (by decide)
  all_goals exact Lx.sign (by decide) (fun h => h32 h.2) hx
theorem sgn_of (k : Nat) (h : k < 11) : sgn (7 + k) = sgOf k := by
  rcases (by omega : k = 0 ∨ k = 1 ∨ k = 2 ∨ k = 3 ∨ k = 4 ∨ k = 5 ∨ k = 6 ∨ k = 7 ∨ k = 8 ∨ k = 9 ∨ k = 10) with rfl | rfl | rfl | rfl | rfl | rfl | rfl | rfl | rfl | rfl | rfl <;> decide
theorem pair_ok (k : Nat) (hk : k < 11) (a b : Ex) (ha : TextOK a) (hb : TextOK b) : TextOK (.mk (7 + k) 0 [] [a, b]) := by
  obtain ⟨ta, a1, a2, -, -, -⟩ := ha
  obtain ⟨tb, b1, b2, -, -, -⟩ := hb
  have ht : textX (.mk (7 + k) 0 [] [a, b]) = [40] ++ textX a ++ [32] ++ sgn (7 + k) ++ [32] ++ textX b ++ [41] := by
    rw [textX]
    unfold textOp
    rw [if_neg (by omega), if_neg (by omega), if_neg (by omega), if_neg (by omega), if_neg (by omega), if_neg (by omega), if_neg (by omega), textL, textL, textL]
    rfl
  have ej : ∀ x, textX (.mk (7 + k) 0 [] [a, b]) ++ x = 40 :: (textX a ++ 32 :: (sgOf k ++ 32 :: (textX b ++ 41 :: x))) := by
    intro x
    rw [ht, sgn_of k hk]
    simp
  refine ⟨sgT [40] :: (ta ++ sgT (sgOf k) :: (tb ++ [sgT [41]])), fun x us hf hx => ?_, fun us => ?_, ?_, ?_, fun h => by simp only [Ex.op] at h; omega⟩
  · rw [ej]
    have h1 := b1 _ _ (follow_cons stop_41 _) (Lx.sign (c := 41) (by decide) (by rintro ⟨h, -⟩; revert h; decide) hx)
    have h2 := a1 _ _ (follow_cons stop_32 _) (lx_sign32 k hk h1.blank).blank
    have h3 := Lx.sign (c := 40) (by decide) (by rintro ⟨h, -⟩; revert h; decide) h2
    simpa using h3
  · have := two_op k hk (a2 _) (b2 (sgT [41] :: us)) noOp_41
    have := this.paren
    simpa using this
  · have e := ej []
    rw [List.append_nil] at e
    rw [e]; show (40 : UInt8).toNat ≠ 61; decide
  · have e := ej []
    rw [List.append_nil] at e
    rw [e]; simp
theorem one_ok (b : Bool) (a : Ex) (ha : TextOK a) : TextOK (.mk (if b then 6 else 5) 0 [] [a]) := by
  obtain ⟨ta, a1, a2, a3, -, -⟩ := ha
  have ht : textX (.mk (if b then 6 else 5) 0 [] [a]) = (if b then 33 else 45) :: textX a := by
    rw [textX]
    unfold textOp
    cases b <;> simp [textL, Lib.join_one]
  have hb0 : textX a = [] ∨ ∀ x, bk (textX a ++ x) 0 = bk (textX a) 0 := by
    by_cases h : textX a = []
    · exact .inl h
    · exact .inr fun x => bk_app_lt (List.length_pos_iff.2 h)
  cases b with
  | true =>
    refine ⟨sgT [33] :: ta, fun x us hf hx => ?_, fun us => (a2 us).not, by rw [ht]; show (33 : UInt8).toNat ≠ 61; decide, by rw [ht]; simp, fun h => by cases h⟩
    rw [ht]
    refine Lx.sign (c := 33) (by decide) (fun h => ?_) (a1 x us hf hx)
    have h : bk (textX a ++ x) 0 = 61 := h.2
    rcases hb0 with h0 | h0
    · rw [h0, List.nil_append] at h
      rcases hf with rfl | ⟨c, y, rfl, hc⟩
      · exact absurd h (by rw [bk_nil]; decide)
      · exact hc.eq h
    · rw [h0] at h; exact a3 h
  | false =>
    refine ⟨sgT [45] :: ta, fun x us hf hx => ?_, fun us => (a2 us).neg, by rw [ht]; show (45 : UInt8).toNat ≠ 61; decide, by rw [ht]; simp, fun h => by cases h⟩
    rw [ht]
    exact Lx.sign (c := 45) (by decide) (by rintro ⟨h, -⟩; revert h; decide) (a1 x us hf hx)
/-- A token alone. -/
theorem tok_ok {e : Ex} {t : Tok} (hx : Lx (textX e) [t, noTok]) (hp : ∀ us, PJ .one (t :: us) e us) (h61 : bk (textX e) 0 ≠ 61) (hne : textX e ≠ []) (h4 : e.op = 4 → ∃ s, e = .mk 4 0 s [] ∧ [t] = [wdT s] ∧ word s = false) : TextOK e :=
  ⟨[t], fun _ _ hf h => lx_one hx hf h, hp, h61, hne, h4⟩
theorem kids_of {ks : List Ex} {m : Nat} (h : ks.length = m) : (m = 0 → ks = []) ∧ (m = 1 → ∃ a, ks = [a]) ∧ (m = 2 → ∃ a b, ks = [a, b]) ∧ (m = 3 → ∃ a b c, ks = [a, b, c]) := by
  refine ⟨fun e => List.eq_nil_of_length_eq_zero (by omega), fun e => ?_, fun e => ?_, fun e => ?_⟩
  · match ks, h.trans e with
    | [a], _ => exact ⟨a, rfl⟩
  · match ks, h.trans e with
    | [a, b], _ => exact ⟨a, b, rfl⟩
  · match ks, h.trans e with
    | [a, b, c], _ => exact ⟨a, b, c, rfl⟩
theorem text_ok (e : Ex) : Al e → TextOK e := by
  refine Ex.ind (P := fun e => Al e → TextOK e) ?_ e
  intro op n s ks ih hA
  cases hA with
  | mk _ _ _ _ h hn hk =>
    have hall : ∀ k ∈ ks, TextOK k := fun k hm => ih k hm (hk k hm)
    unfold alone at h
    rw [Bool.and_eq_true, decide_eq_true_eq] at h
    obtain ⟨hl, h⟩ := h
    have ar0 : ∀ m : Nat, arity op = m → ks.length = m := fun m hm => by omega
    by_cases o1 : op = 1
    · subst o1
      rw [if_pos rfl, decide_eq_true_eq] at h
      obtain ⟨h0, rfl⟩ := h
      obtain rfl := (kids_of (ar0 0 rfl)).1 rfl
      have ht : textX (.mk 1 n [] []) = Lib.itoa n := by rw [textX]; rfl
      have hx := lx_num n h0 hn
      exact tok_ok (t := ⟨1, [], n, 0⟩) (by rw [ht]; exact hx.1) (fun us => ⟨1, rfl⟩) (by rw [ht]; exact hx.2.1) (by rw [ht]; exact hx.2.2) (fun h => by cases h)
    rw [if_neg o1] at h
    by_cases o2 : op = 2
    · subst o2
      rw [if_pos rfl, Bool.and_eq_true, decide_eq_true_eq] at h
      obtain ⟨rfl, h⟩ := h
      obtain rfl := (kids_of (ar0 0 rfl)).1 rfl
      have ht : textX (.mk 2 0 s []) = quoteB s := by rw [textX]; rfl
      exact tok_ok (t := ⟨2, s, 0, 0⟩) (by rw [ht]; exact lx_text s h) (fun us => ⟨1, rfl⟩) (by rw [ht]; unfold quoteB; show (34 : UInt8).toNat ≠ 61; decide) (by rw [ht]; unfold quoteB; simp) (fun h => by cases h)
    rw [if_neg o2] at h
    by_cases o3 : op = 3
    · subst o3
      rw [if_pos rfl, decide_eq_true_eq] at h
      obtain ⟨hb, rfl⟩ := h
      obtain rfl := (kids_of (ar0 0 rfl)).1 rfl
      rcases hb with rfl | rfl
      · have ht : textX (.mk 3 0 [] []) = wFalse := by rw [textX]; rfl
        exact tok_ok (t := ⟨3, wFalse, 0, 0⟩) (by rw [ht]; exact lx_word _ (by simp)) (fun us => ⟨1, rfl⟩) (by rw [ht]; decide) (by rw [ht]; decide) (fun h => by cases h)
      · have ht : textX (.mk 3 1 [] []) = wTrue := by rw [textX]; rfl
        exact tok_ok (t := ⟨3, wTrue, 0, 0⟩) (by rw [ht]; exact lx_word _ (by simp)) (fun us => ⟨1, rfl⟩) (by rw [ht]; decide) (by rw [ht]; decide) (fun h => by cases h)
    rw [if_neg o3] at h
    by_cases o4 : op = 4
    · subst o4
      rw [if_pos rfl, Bool.and_eq_true, decide_eq_true_eq] at h
      obtain ⟨rfl, h⟩ := h
      obtain rfl := (kids_of (ar0 0 rfl)).1 rfl
      have ht : textX (.mk 4 0 s []) = s := by rw [textX]; rfl
      obtain ⟨hx, hw, h61, hne⟩ := lx_name s h
      refine tok_ok (t := ⟨3, s, 0, 0⟩) (by rw [ht]; exact hx) (fun us => ⟨1, ?_⟩) (by rw [ht]; exact h61) (by rw [ht]; exact hne) (fun _ => ⟨s, rfl, rfl, hw⟩)
      unfold parseJ
      rw [if_neg (by show ¬ isSg [45] (wdT s) = true; simp [isSg, wdT]), if_neg (by show ¬ isSg [33] (wdT s) = true; simp [isSg, wdT]), if_neg (by show ¬ isSg [40] (wdT s) = true; simp [isSg, wdT]),
        if_neg (by show ¬ (wdT s).k = 1; simp [wdT]), if_neg (by show ¬ (wdT s).k = 2; simp [wdT]), if_pos (by rfl), if_pos (by exact hw)]
      rfl
    rw [if_neg o4, decide_eq_true_eq] at h
    obtain ⟨rfl, rfl, h22⟩ := h
    by_cases o5 : op = 5
    · subst o5
      obtain ⟨a, rfl⟩ := (kids_of (ar0 1 rfl)).2.1 rfl
      exact one_ok false a (hall a (by simp))
    by_cases o6 : op = 6
    · subst o6
      obtain ⟨a, rfl⟩ := (kids_of (ar0 1 rfl)).2.1 rfl
      exact one_ok true a (hall a (by simp))
    by_cases ob : 7 ≤ op ∧ op ≤ 17
    · obtain ⟨k, rfl, hk11⟩ : ∃ k : Nat, op = 7 + k ∧ k < 11 := ⟨(op - 7).toNat, by omega, by omega⟩
      have har : arity (7 + k) = 2 := by unfold arity; rw [if_neg (by omega), if_neg (by omega), if_pos (by omega)]
      obtain ⟨a, b, rfl⟩ := (kids_of (ar0 2 har)).2.2.1 rfl
      exact pair_ok k hk11 a b (hall a (by simp)) (hall b (by simp))
    by_cases oc : 18 ≤ op ∧ op ≤ 23
    · have ht : textX (.mk op 0 [] ks) = wordOf op ++ [40] ++ Lib.join (textL ks) [44, 32] ++ [41] := by
        rw [textX]
        unfold textOp
        rw [if_neg o1, if_neg o2, if_neg o3, if_neg o4, if_neg o5, if_neg o6, if_pos oc]
      rcases (by omega : op = 18 ∨ op = 19 ∨ op = 20 ∨ op = 21 ∨ op = 22 ∨ op = 23) with rfl | rfl | rfl | rfl | rfl | rfl
      · have hlen := ar0 3 rfl
        exact call_ok 18 (by decide) wIf (by simp) (by decide) ks (by rw [hlen]; decide) (fun h => by rw [h] at hlen; cases hlen) hall ht (by decide) (by decide) (by decide)
      · have hlen := ar0 1 rfl
        exact call_ok 19 (by decide) wLen (by simp) (by decide) ks (by rw [hlen]; decide) (fun h => by rw [h] at hlen; cases hlen) hall ht (by decide) (by decide) (by decide)
      · have hlen := ar0 2 rfl
        exact call_ok 20 (by decide) wCat (by simp) (by decide) ks (by rw [hlen]; decide) (fun h => by rw [h] at hlen; cases hlen) hall ht (by decide) (by decide) (by decide)
      · have hlen := ar0 2 rfl
        exact call_ok 21 (by decide) wCut (by simp) (by decide) ks (by rw [hlen]; decide) (fun h => by rw [h] at hlen; cases hlen) hall ht (by decide) (by decide) (by decide)
      · obtain ⟨a, rfl⟩ := (kids_of (ar0 1 rfl)).2.1 rfl
        have ho : a.op = 4 := h22 rfl
        obtain ⟨tk, b1, b2, b3, b4, b5⟩ := hall a (by simp)
        obtain ⟨sa, rfl, rfl, hw⟩ := b5 ho
        have ej : ∀ x, textX (.mk 22 0 [] [.mk 4 0 sa []]) ++ x = wHas ++ 40 :: (textX (.mk 4 0 sa []) ++ 41 :: x) := by
          intro x
          rw [ht]
          simp [textL, Lib.join_one, wordOf]
        refine ⟨wdT wHas :: sgT [40] :: (wdT sa :: [sgT [41]]), fun x us hf hx => ?_, fun us => ?_, ?_, ?_, fun h => by cases h⟩
        · rw [ej]
          have h1 := b1 _ _ (follow_cons stop_41 _) (Lx.sign (c := 41) (by decide) (by rintro ⟨h, -⟩; revert h; decide) hx)
          have h2 := word_lx (lx_word wHas (by simp)) (Lx.sign (c := 40) (by decide) (by rintro ⟨h, -⟩; revert h; decide) h1)
          simpa using h2
        · exact PJ.call (w := wHas) (by simp) (by rw [show opOf wHas = 22 by decide, show arOf wHas = 1 by decide]; exact PJ.argsH hw)
        · have e := ej []
          rw [List.append_nil] at e
          rw [e, bk_app_lt (by decide)]; decide
        · have e := ej []
          rw [List.append_nil] at e
          rw [e]; simp [wHas]
      · have hlen := ar0 1 rfl
        exact call_ok 23 (by decide) wUp (by simp) (by decide) ks (by rw [hlen]; decide) (fun h => by rw [h] at hlen; cases hlen) hall ht (by decide) (by decide) (by decide)
    · exfalso
      have : arity op = -1 := by unfold arity; rw [if_neg (by omega), if_neg (by omega), if_neg (by omega), if_neg (by omega)]
      omega
theorem reads_text {e : Ex} (h : Al e) : Reads (textX e) e := by
  obtain ⟨tk, a1, a2, -, -, -⟩ := text_ok e h
  have h1 := a1 [] [noTok] (.inl rfl) .nil
  rw [List.append_nil] at h1
  exact ⟨tk, h1, (a2 [noTok]).two 0 (fun n _ _ => noOp_end n)⟩
/-- ParseBack. -/
theorem back_law {e : Ex} (hF : Fine e) (hc : check e = true) (hl : (textX e).length ≤ 400) : parseM (textX e) = .ok e :=
  parseM_reads.2 ⟨hl, reads_text (chk_al e hF 1 128 hc), hc⟩
end Go.Proofs.YtoklhppalkgdeaaGreatDoor
