/- The names of an expression, as plain law; rows of texts that a call owns. No condition. -/
import Derived.Test.YtilmmgkclijhjaaGreatDoorPx
set_option linter.unusedSimpArgs false
set_option linter.unusedVariables false
set_option linter.unusedSectionVars false
namespace Go.Proofs.YtilmmgkclijhjaaGreatDoor
open Go.RowKit Pal
/-- How many begin that are less. -/
def lead (s : Bs) : List Bs → Nat
  | [] => 0
  | a :: l => if Op.bytesLess a s = true then lead s l + 1 else 0
/-- A text in a rising list, once. -/
def withM (l : List Bs) (s : Bs) : List Bs := if l[lead s l]? = some s then l else l.take (lead s l) ++ s :: l.drop (lead s l)
theorem lead_le (s : Bs) : ∀ l, lead s l ≤ l.length
  | [] => Nat.le_refl _
  | a :: l => by
    have h := lead_le s l
    unfold lead
    rw [List.length_cons]
    split <;> omega
theorem withM_mem (l : List Bs) (s x : Bs) : x ∈ withM l s ↔ x ∈ l ∨ x = s := by
  unfold withM
  split
  · rename_i h
    have := List.mem_of_getElem? h
    constructor
    · exact .inl
    · rintro (h | rfl)
      · exact h
      · exact this
  · rw [List.mem_append, List.mem_cons]
    have : x ∈ l ↔ x ∈ l.take (lead s l) ∨ x ∈ l.drop (lead s l) := by rw [← List.mem_append, List.take_append_drop]
    rw [this]
    constructor
    · rintro (h | h | h)
      · exact .inl (.inl h)
      · exact .inr h
      · exact .inl (.inr h)
    · rintro ((h | h) | h)
      · exact .inl h
      · exact .inr (.inr h)
      · exact .inr (.inl h)
theorem withM_len (l : List Bs) (s : Bs) : l.length ≤ (withM l s).length ∧ (withM l s).length ≤ l.length + 1 := by
  unfold withM
  split
  · omega
  · have := lead_le s l
    rw [List.length_append, List.length_cons, List.length_take, List.length_drop]
    omega
theorem fold_with_len : ∀ (ms l : List Bs), l.length ≤ (ms.foldl withM l).length ∧ (ms.foldl withM l).length ≤ l.length + ms.length
  | [], l => ⟨Nat.le_refl _, Nat.le_refl _⟩
  | m :: ms, l => by
    have h1 := fold_with_len ms (withM l m)
    have h2 := withM_len l m
    rw [List.foldl_cons, List.length_cons]
    omega
theorem fold_with_mem : ∀ (ms l : List Bs) (x : Bs), x ∈ ms.foldl withM l ↔ x ∈ l ∨ x ∈ ms
  | [], l, x => by simp
  | m :: ms, l, x => by
    rw [List.foldl_cons, fold_with_mem ms (withM l m) x, withM_mem, List.mem_cons, or_assoc]
mutual
/-- The names of an expression. -/
def namesM : Ex → List Bs
  | .mk op _ s ks => if op = 4 then [s] else namesL ks []
def namesL : List Ex → List Bs → List Bs
  | [], l => l
  | k :: ks, l => namesL ks ((namesM k).foldl withM l)
end
theorem namesM_name {n : Int} {s : Bs} {ks : List Ex} : namesM (.mk 4 n s ks) = [s] := by rw [namesM, if_pos rfl]
theorem namesM_kids {op n : Int} {s : Bs} {ks : List Ex} (h : op ≠ 4) : namesM (.mk op n s ks) = namesL ks [] := by rw [namesM, if_neg h]
theorem namesL_nil (l : List Bs) : namesL [] l = l := by rw [namesL]
theorem namesL_cons (k : Ex) (ks : List Ex) (l : List Bs) : namesL (k :: ks) l = namesL ks ((namesM k).foldl withM l) := by rw [namesL]
theorem namesL_len : ∀ (ks : List Ex) (l : List Bs), l.length ≤ (namesL ks l).length
  | [], l => by rw [namesL_nil]; exact Nat.le_refl _
  | k :: ks, l => by
    rw [namesL_cons]
    have h1 := namesL_len ks ((namesM k).foldl withM l)
    have h2 := (fold_with_len (namesM k) l).1
    omega
/-- A part that may be has no more names than parts. -/
theorem names_few (e : Ex) : ∀ (deep left m : Nat), chk e deep left = some m → (namesM e).length + m ≤ left := by
  refine Ex.ind (P := fun e => ∀ (deep left m : Nat), chk e deep left = some m → (namesM e).length + m ≤ left) ?_ e
  intro op n s ks ih deep left m h
  by_cases hb : left = 0 ∨ 24 < deep ∨ alone op n s ks = false
  · rw [chk_no hb] at h; cases h
  rw [chk_yes hb] at h
  have hl : left ≠ 0 := fun h => hb (.inl h)
  have go : ∀ (l : List Ex), (∀ k ∈ l, k ∈ ks) → ∀ (acc : List Bs) (left m : Nat), chkL l (deep + 1) left = some m → (namesL l acc).length + m ≤ acc.length + left := by
    intro l
    induction l with
    | nil => intro _ acc left m h; rw [chkL_nil] at h; cases h; rw [namesL_nil]; omega
    | cons k l2 ih2 =>
      intro hm acc left m h
      rw [chkL_cons] at h
      cases h1 : chk k (deep + 1) left with
      | none => rw [h1] at h; cases h
      | some x =>
        rw [h1, Option.bind_some] at h
        have a1 := ih k (hm k (by simp)) _ _ _ h1
        have a2 := ih2 (fun y hy => hm y (by simp [hy])) ((namesM k).foldl withM acc) x m h
        have a3 := (fold_with_len (namesM k) acc).2
        rw [namesL_cons]
        omega
  by_cases h4 : op = 4
  · subst h4
    rw [namesM_name]
    have := go ks (fun _ h => h) [] _ _ h
    have h0 : 0 ≤ (namesL ks []).length := Nat.zero_le _
    simp at this ⊢
    omega
  · rw [namesM_kids h4]
    have := go ks (fun _ h => h) [] _ _ h
    simp at this
    omega
theorem names_occ (e : Ex) : ∀ x, x ∈ namesM e → Occ e x := by
  refine Ex.ind (P := fun e => ∀ x, x ∈ namesM e → Occ e x) ?_ e
  intro op n s ks ih x h
  by_cases h4 : op = 4
  · subst h4
    rw [namesM_name] at h
    obtain rfl := List.mem_singleton.1 h
    exact .here _ _ _
  · rw [namesM_kids h4] at h
    have go : ∀ (l : List Ex), (∀ k ∈ l, k ∈ ks) → ∀ (acc : List Bs), x ∈ namesL l acc → x ∈ acc ∨ ∃ k ∈ ks, x ∈ namesM k := by
      intro l
      induction l with
      | nil => intro _ acc h; rw [namesL_nil] at h; exact .inl h
      | cons k l2 ih2 =>
        intro hm acc h
        rw [namesL_cons] at h
        rcases ih2 (fun y hy => hm y (by simp [hy])) _ h with h | h
        · rcases (fold_with_mem _ _ _).1 h with h | h
          · exact .inl h
          · exact .inr ⟨k, hm k (by simp), h⟩
        · exact .inr h
    rcases go ks (fun _ h => h) [] h with h | ⟨k, hk, h⟩
    · cases h
    · exact .kid _ _ _ _ k x hk (ih k hk x h)
/-- Names, of an expression that may be: these and no others (a name has no parts). -/
theorem occ_names (e : Ex) : Good e → ∀ x, Occ e x → x ∈ namesM e := by
  refine Ex.ind (P := fun e => Good e → ∀ x, Occ e x → x ∈ namesM e) ?_ e
  intro op n s ks ih hG x h
  cases hG with
  | mk _ _ _ _ ha hn hk =>
  cases h with
  | here => rw [namesM_name]; simp
  | kid _ _ _ _ k _ hkm h =>
    have h4 : op ≠ 4 := fun h4 => by
      subst h4
      have := alone_kids ha
      have e : arity 4 = 0 := rfl
      rw [e] at this
      have : ks = [] := List.eq_nil_of_length_eq_zero (by omega)
      subst this
      cases hkm
    rw [namesM_kids h4]
    have go : ∀ (l : List Ex) (acc : List Bs), (x ∈ acc ∨ ∃ k ∈ l, x ∈ namesM k) → x ∈ namesL l acc := by
      intro l
      induction l with
      | nil => intro acc h; rw [namesL_nil]; rcases h with h | ⟨_, h, _⟩; exact h; cases h
      | cons k l2 ih2 =>
        intro acc h
        rw [namesL_cons]
        refine ih2 _ ?_
        rcases h with h | ⟨k', hk', h⟩
        · exact .inl ((fold_with_mem _ _ _).2 (.inl h))
        · rcases List.mem_cons.1 hk' with rfl | hk'
          · exact .inl ((fold_with_mem _ _ _).2 (.inr h))
          · exact .inr ⟨k', hk', h⟩
    exact go ks [] (.inr ⟨k, hkm, ih k hkm (hk k hkm) x h⟩)
/-- Texts in a row that begins its block, or none. -/
def NmV (h : GH) (v : Value) (l : List Bs) : Prop := (l = [] ∧ v = .slice none 0 0) ∨ (l ≠ [] ∧ ∃ b cap, v = .slice (some ⟨b, 0, none⟩) l.length cap ∧ l.length ≤ cap ∧ cap ≤ maxLen ∧ ∀ j s, l[j]? = some s → h.cell b j = some (strV s))
theorem NmV.mono {h h' : GH} (k : h.le h') {v : Value} {l : List Bs} (t : NmV h v l) : NmV h' v l := by
  rcases t with t | ⟨hn, b, cap, hv, h1, h2, hx⟩
  · exact .inl t
  · exact .inr ⟨hn, b, cap, hv, h1, h2, fun j s hj => k.cell (hx j s hj)⟩
theorem NmV.strs {h : GH} {v : Value} {l : List Bs} (t : NmV h v l) : StrsV h v l := by
  rcases t with ⟨rfl, rfl⟩ | ⟨hn, b, cap, hv, h1, h2, hx⟩
  · exact ⟨none, 0, rfl, fun _ => rfl, Nat.le_refl _, by simp [maxLen], fun j s hj => by simp at hj⟩
  · exact ⟨_, cap, hv, (fun h => by cases h), h1, h2, fun j s hj => ⟨b, 0, rfl, by rw [Nat.zero_add]; exact hx j s hj⟩⟩
def cellsS (l : List Bs) : List Value := l.flatMap fun s => [strV s]
theorem cellsS_map (l : List Bs) : cellsS l = l.map strV := by unfold cellsS; rw [← List.map_eq_flatMap]
theorem cellsS_app (l m : List Bs) : cellsS (l ++ m) = cellsS l ++ cellsS m := by unfold cellsS; rw [List.flatMap_append]
theorem cellsS_len (l : List Bs) : (cellsS l).length = l.length := by rw [cellsS_map, List.length_map]
theorem cellsS_one (l : List Bs) : ∀ u ∈ cellsS l, u.oneCell' = true := by
  intro u hu
  rw [cellsS_map] at hu
  obtain ⟨x, _, rfl⟩ := List.mem_map.1 hu
  rfl
theorem NmV.ofRow {t : Tag} {w : World} {T : TypeId} {v : Value} {n : Nat} {l : List Bs} (h : Row t 1 w T 1 v n (cellsS l)) (hl : l ≠ []) : NmV (gh w) v l := by
  have hs := SlV.ofRow (fun s => [strV s]) l ([] : Bs) (by decide) (fun _ => rfl) h
  obtain ⟨a, cap, hv, h1, h2, h3, h4⟩ := hs
  rcases h.own.2 with ⟨hv2, hn⟩ | ⟨g, cap', cur, hv2, hbg, hgg, hn, hc, hcs, ht⟩
  · rw [hv] at hv2
    simp only [Value.slice.injEq] at hv2
    exact absurd (List.eq_nil_of_length_eq_zero hv2.2.1) hl
  · rw [hv] at hv2
    simp only [Value.slice.injEq] at hv2
    obtain ⟨rfl, -, -⟩ := hv2
    refine .inr ⟨hl, g, cap, hv, h2, h3, fun j s hj => ?_⟩
    have hlt := (List.getElem?_eq_some_iff.1 hj).1
    obtain ⟨b, off, ha, hcc⟩ := h4 j 0 (strV s) hlt (by show [strV (l.getD j [])][0]? = _; rw [List.getD_eq_getElem?_getD, hj]; rfl)
    simp only [Option.some.injEq, Addr.mk.injEq, and_true] at ha
    obtain ⟨rfl, rfl⟩ := ha
    rw [show 0 + (1 * j + 0) = j by omega] at hcc
    exact hcc
def namePost (l : List Bs) (w : World) (r : Ending) (w' : World) : Prop := Below w.heap.size w w' ∧ ∃ v, r = .returned v ∧ NmV (gh w') v l
theorem rowT0 (w : World) (T : TypeId) (c : Nat) : Row T0 1 w T c (.slice none 0 0) 0 [] := Row.nil _ _ _ _ _
end Go.Proofs.YtilmmgkclijhjaaGreatDoor
