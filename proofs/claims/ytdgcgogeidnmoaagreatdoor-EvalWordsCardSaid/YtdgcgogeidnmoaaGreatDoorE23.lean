/- Texts put together, cut off; numbers, texts held against each other: plain laws of EvalWords, EvalOne. Conditions where they are said: the texts, the values may be. -/
import Derived.Test.YtdgcgogeidnmoaaGreatDoorEC
import Derived.Sort.Walk0
set_option linter.unusedSimpArgs false
set_option linter.unusedVariables false
set_option linter.unusedSectionVars false
namespace Go.Proofs.YtdgcgogeidnmoaaGreatDoor
open Go.RowKit Pal
theorem chk_strX {s : Bs} (h : textOk s = true) {deep left : Nat} (hd : deep ≤ 24) (hl : left ≠ 0) : chk (.mk 2 0 s []) deep left = some (left - 1) := by
  have ha : alone 2 0 s [] = true := by rw [alone_2 (by rfl), h]; rfl
  rw [chk_yes (by rw [ha]; simp; omega), chkL_nil]
def strX (s : Bs) : Ex := .mk 2 0 s []
def lenX (s : Bs) : Ex := .mk 19 0 [] [strX s]
def catX (s t : Bs) : Ex := .mk 20 0 [] [strX s, strX t]
def cutX (s : Bs) : Ex := .mk 21 0 [] [strX s, .mk 4 0 [110] []]
theorem alone_sign1 (op : Int) (h : op = 19) (a : Ex) : alone op 0 [] [a] = true := by
  subst h
  simp [alone, arity]
theorem alone_sign2 (op : Int) (h : op = 20 ∨ op = 21) (a b : Ex) : alone op 0 [] [a, b] = true := by
  rcases h with rfl | rfl <;> simp [alone, arity]
theorem chk_n : chk (.mk 4 0 [110] []) 2 126 = some 125 := by kernel_rfl
theorem check_lenX {s : Bs} (h : textOk s = true) : check (lenX s) = true := by
  have e : chk (lenX s) 1 128 = some 126 := by
    unfold lenX strX
    rw [chk_yes (by rw [alone_sign1 _ rfl]; simp), chkL_cons, chk_strX (deep := 1 + 1) (left := 128 - 1) h (by decide) (by decide), Option.bind_some, chkL_nil]
  unfold check
  rw [e]; rfl
theorem check_catX {s t : Bs} (h : textOk s = true) (g : textOk t = true) : check (catX s t) = true := by
  have e : chk (catX s t) 1 128 = some 125 := by
    unfold catX strX
    rw [chk_yes (by rw [alone_sign2 _ (.inl rfl)]; simp), chkL_cons, chk_strX (deep := 1 + 1) (left := 128 - 1) h (by decide) (by decide), Option.bind_some,
      chkL_cons, chk_strX (deep := 1 + 1) (left := 128 - 1 - 1) g (by decide) (by decide), Option.bind_some, chkL_nil]
  unfold check
  rw [e]; rfl
theorem check_cutX {s : Bs} (h : textOk s = true) : check (cutX s) = true := by
  have e : chk (cutX s) 1 128 = some 125 := by
    unfold cutX strX
    rw [chk_yes (by rw [alone_sign2 _ (.inr rfl)]; simp), chkL_cons, chk_strX (deep := 1 + 1) (left := 128 - 1) h (by decide) (by decide), Option.bind_some,
      chkL_cons]
    show (chk (.mk 4 0 [110] []) 2 126).bind _ = _
    rw [chk_n, Option.bind_some, chkL_nil]
  unfold check
  rw [e]; rfl
theorem ev_strX (ρ : Bs → Val) (s : Bs) : ev ρ (strX s) = vText s := by unfold strX; rw [ev_mk]; unfold evOp; simp
theorem longM_yes {s : Bs} (h : cnt s ≤ 100) : longM s = vText s := by unfold longM; rw [if_neg (by omega)]
theorem longM_no {s : Bs} (h : 100 < cnt s) : longM s = vBad 4 := by unfold longM; rw [if_pos h]
theorem ev_lenX {s : Bs} (h : textOk s = true) (ns : List Bs) (vs : List Val) : evalM (lenX s) ns vs = vInt (cnt s) := by
  unfold evalM
  rw [if_pos (check_lenX h)]
  unfold lenX
  rw [ev_mk, evL_cons, evL_nil, ev_strX]
  simp [evOp, textM, need, vText]
theorem ev_catX {s t : Bs} (h : textOk s = true) (g : textOk t = true) (ns : List Bs) (vs : List Val) : evalM (catX s t) ns vs = longM (s ++ t) := by
  unfold evalM
  rw [if_pos (check_catX h g)]
  unfold catX
  rw [ev_mk, evL_cons, evL_cons, evL_nil, ev_strX, ev_strX]
  simp [evOp, textM, need, vText]
theorem look_n (m : Int) : look [[110]] [vInt m] [110] = vInt m := by simp [look, okV, vInt]
theorem ev_cutX {s : Bs} (h : textOk s = true) (m : Int) : evalM (cutX s) [[110]] [vInt m] = vText (takeP m.toNat s) := by
  have hs := textOk_iff h
  have ht := takeP_law m.toNat s hs.2.1
  unfold evalM
  rw [if_pos (check_cutX h)]
  unfold cutX
  rw [ev_mk, evL_cons, evL_cons, evL_nil, ev_strX, ev_name, look_n, ← longM_yes (s := takeP m.toNat s) (by omega)]
  simp [evOp, textM, need, vText, vInt]
theorem textOk_app {s t : Bs} (h : textOk s = true) (g : textOk t = true) (hc : cnt s + cnt t ≤ 100) : textOk (s ++ t) = true := by
  have hs := textOk_iff h
  have ht := textOk_iff g
  exact textOk_mk ((val_app hs.2.1 t).trans ht.2.1) (by rw [cnt_app hs.2.1]; omega)
/-- EvalWords: all that is asked. -/
theorem words_plain {s t : Bs} (h : textOk s = true) (g : textOk t = true) :
    (100 < cnt s + cnt t → longM (s ++ t) = vBad 4) ∧ (cnt s + cnt t ≤ 100 → longM (s ++ t) = vText (s ++ t) ∧ takeP (cnt s) (s ++ t) = s) := by
  have hs := textOk_iff h
  have e := cnt_app hs.2.1 t
  exact ⟨fun hc => longM_no (by omega), fun hc => ⟨longM_yes (by omega), takeP_all _ s t (Nat.le_refl _) hs.2.1⟩⟩
/-- What is cut off begins what there was. -/
theorem words_pre (n : Nat) (s : Bs) : (takeP n s).length ≤ s.length ∧ s.take (takeP n s).length = takeP n s := by
  obtain ⟨t, ht⟩ := takeP_pre n s
  have hl := congrArg List.length ht
  rw [List.length_append] at hl
  refine ⟨by omega, ?_⟩
  generalize takeP n s = r at *
  subst ht
  exact List.take_left' rfl
theorem bytes_tri : ∀ x y : List UInt8, (Op.bytesLess x y = true ∧ x ≠ y ∧ Op.bytesLess y x = false) ∨ (Op.bytesLess x y = false ∧ x = y ∧ Op.bytesLess y x = false) ∨ (Op.bytesLess x y = false ∧ x ≠ y ∧ Op.bytesLess y x = true)
  | [], [] => .inr (.inl ⟨rfl, rfl, rfl⟩)
  | _ :: _, [] => .inr (.inr ⟨rfl, by simp, rfl⟩)
  | [], _ :: _ => .inl ⟨rfl, by simp, rfl⟩
  | a :: x, b :: y => by
    have h1 : Op.bytesLess (a :: x) (b :: y) = (decide (a < b) || (decide (a = b) && Op.bytesLess x y)) := by
      rw [bytesLess_eq, bytesLess_eq]
      simp only [List.cons_lt_cons_iff]
      by_cases h1 : a < b <;> by_cases h2 : a = b <;> by_cases h3 : x < y <;> simp [h1, h2, h3]
    have h2 : Op.bytesLess (b :: y) (a :: x) = (decide (b < a) || (decide (b = a) && Op.bytesLess y x)) := by
      rw [bytesLess_eq, bytesLess_eq]
      simp only [List.cons_lt_cons_iff]
      by_cases h1 : b < a <;> by_cases h2 : b = a <;> by_cases h3 : y < x <;> simp [h1, h2, h3]
    rw [h1, h2]
    by_cases hab : a = b
    · subst hab
      have hi : ¬ a < a := by rw [UInt8.lt_iff_toNat_lt]; omega
      rcases bytes_tri x y with ⟨p, q, r⟩ | ⟨p, q, r⟩ | ⟨p, q, r⟩ <;> (first | (simp [hi, p, q, r]; done) | (subst q; simp [hi, p, r]; done))
    · have hne : ¬ b = a := fun h => hab h.symm
      have hn : a.toNat ≠ b.toNat := fun h => hab (UInt8.toNat.inj h)
      by_cases hlt : a < b
      · have hgt : ¬ b < a := by rw [UInt8.lt_iff_toNat_lt] at *; omega
        simp [hlt, hgt, hab, hne]
      · have hgt : b < a := by rw [UInt8.lt_iff_toNat_lt] at *; omega
        simp [hlt, hgt, hab, hne]
/-- EvalOne's question: what op comes to of two values. -/
def askV (op : Int) (a b : Val) : Val :=
  if op = 12 then vBool (sameV a b)
  else if op = 13 then vBool (!sameV a b)
  else if op = 14 then vBool (lessV a b)
  else vBool (lessV a b || sameV a b)
theorem ev_one (op : Nat) (ho : 12 ≤ op ∧ op ≤ 15) {a b : Val} (ha : okV a = true) (hb : okV b = true) (hk : a.k = b.k) (h1 : a.k = 1 ∨ a.k = 3) :
    evalM (twoX op [97] [98]) [[97], [98]] [a, b] = askV op a b ∧ evalM (twoX op [98] [97]) [[97], [98]] [a, b] = askV op b a := by
  have la : look [[97], [98]] [a, b] [97] = a := by simp [look, ha]
  have lb : look [[97], [98]] [a, b] [98] = b := by simp [look, hb]
  have hb1 : b.k = 1 ∨ b.k = 3 := by omega
  have key : ∀ (ρ : Bs → Val) (ks : List Ex) (a b : Val), a.k = b.k → (a.k = 1 ∨ a.k = 3) → evOp ρ (op : Int) 0 [] ks a b vNil = askV op a b := by
    intro ρ ks a b hk h1
    obtain ⟨k, n, s⟩ := a
    obtain ⟨k', n', s'⟩ := b
    simp only at hk h1
    subst hk
    rcases (by omega : op = 12 ∨ op = 13 ∨ op = 14 ∨ op = 15) with rfl | rfl | rfl | rfl <;> rcases h1 with rfl | rfl <;>
      simp [evOp, truthM, need, askV]
  unfold evalM
  rw [if_pos (check_ab op (by omega)).1, if_pos (check_ab op (by omega)).2.1, ev_two, ev_two, la, lb]
  exact ⟨key _ _ _ _ hk h1, key _ _ _ _ hk.symm hb1⟩
theorem one_tri {a b : Val} (ha : okV a = true) (hb : okV b = true) (hk : a.k = b.k) (h1 : a.k = 1 ∨ a.k = 3) :
    sameV b a = sameV a b ∧ ((lessV a b = true ∧ sameV a b = false ∧ lessV b a = false) ∨ (lessV a b = false ∧ sameV a b = true ∧ lessV b a = false) ∨ (lessV a b = false ∧ sameV a b = false ∧ lessV b a = true)) := by
  obtain ⟨k, n, s⟩ := a
  obtain ⟨k', n', s'⟩ := b
  simp only at hk h1
  subst hk
  rcases h1 with rfl | rfl
  · simp [okV] at ha hb
    subst ha hb
    simp only [sameV, lessV]
    refine ⟨by simp [eq_comm], ?_⟩
    rcases (by omega : n < n' ∨ n = n' ∨ n' < n) with h | h | h
    · have h2 : ¬ n' < n := by omega
      have h3 : ¬ n = n' := by omega
      simp [h, h2, h3]
    · subst h; simp
    · have h2 : ¬ n < n' := by omega
      have h3 : ¬ n = n' := by omega
      simp [h, h2, h3]
  · simp [okV] at ha hb
    obtain ⟨rfl, ha⟩ := ha
    obtain ⟨rfl, hb⟩ := hb
    simp only [sameV, lessV]
    refine ⟨by simp [eq_comm], ?_⟩
    rcases bytes_tri s s' with ⟨p, q, r⟩ | ⟨p, q, r⟩ | ⟨p, q, r⟩ <;> (first | (simp [p, q, r]; done) | (subst q; simp [p, r]; done))
end Go.Proofs.YtdgcgogeidnmoaaGreatDoor
