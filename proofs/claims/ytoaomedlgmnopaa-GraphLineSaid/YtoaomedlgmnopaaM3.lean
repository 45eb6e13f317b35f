/- The plain law of reaching: whoever needs one of some. No program. -/
import Derived.Test.YtoaomedlgmnopaaM2
namespace Pal.Graph

def Closed (n : Int) (xss : List (List Int)) (fr : List Int) (S : Nat → Prop) : Prop :=
  (∀ x ∈ fr, 0 ≤ x → x < n → S x.toNat) ∧ ∀ i, i < n.toNat → ∀ x ∈ lst n xss i, S x.toNat → S i
/-- i is one of these, or needs one of them, however far. -/
def Rch (n : Int) (xss : List (List Int)) (fr : List Int) (i : Nat) : Prop := ∀ S, Closed n xss fr S → S i
theorem rch_closed (n : Int) (xss : List (List Int)) (fr : List Int) : Closed n xss fr (Rch n xss fr) :=
  ⟨fun x hx h0 h1 _ hS => hS.1 x hx h0 h1, fun i hi x hx h S hS => hS.2 i hi x hx (h S hS)⟩
def got (ins : List Bool) (i : Nat) : Bool := ins.getD i false
structure InsOk (n : Int) (xss : List (List Int)) (fr : List Int) (ins : List Bool) : Prop where
  len : ins.length = n.toNat
  iff : ∀ i, i < n.toNat → (got ins i = true ↔ Rch n xss fr i)
theorem insOk_of {n : Int} {xss : List (List Int)} {fr : List Int} {ins : List Bool} (hl : ins.length = n.toNat) (h1 : ∀ i, got ins i = true → Rch n xss fr i) (h2 : Closed n xss fr (fun i => got ins i = true)) : InsOk n xss fr ins :=
  ⟨hl, fun i _ => ⟨h1 i, fun h => h _ h2⟩⟩
theorem insOk_unique {n : Int} {xss : List (List Int)} {fr : List Int} {a b : List Bool} (ha : InsOk n xss fr a) (hb : InsOk n xss fr b) : a = b := by
  apply List.ext_getElem
  · rw [ha.len, hb.len]
  · intro i h1 h2
    have hi : i < n.toNat := by rw [← ha.len]; exact h1
    have h := (ha.iff i hi).trans (hb.iff i hi).symm
    simp only [got, List.getD_eq_getElem?_getD, List.getElem?_eq_getElem h1, List.getElem?_eq_getElem h2, Option.getD_some] at h
    cases e1 : a[i] <;> cases e2 : b[i] <;> simp_all
theorem got_set {ins : List Bool} {i j : Nat} (hi : i < ins.length) : got (ins.set i true) j = (decide (j = i) || got ins j) := by
  unfold got
  by_cases e : j = i
  · subst e; simp [hi]
  · have : i ≠ j := fun h => e h.symm
    simp [List.getElem?_set_ne this, e]
theorem got_lt {ins : List Bool} {i : Nat} (h : got ins i = true) : i < ins.length := by
  apply Classical.byContradiction
  intro hn
  simp [got, List.getElem?_eq_none (Nat.le_of_not_lt hn)] at h

/-- One more that is reached. -/
def push (N : Nat) (s : List Bool × List Int) (x : Int) : List Bool × List Int :=
  if 0 ≤ x ∧ x < N ∧ got s.1 x.toNat = false then (s.1.set x.toNat true, s.2 ++ [x]) else s
def pushes (N : Nat) (s : List Bool × List Int) (xs : List Int) : List Bool × List Int := xs.foldl (push N) s
theorem pushes_snoc (N : Nat) (s : List Bool × List Int) (xs : List Int) (x : Int) : pushes N s (xs ++ [x]) = push N (pushes N s xs) x := by simp [pushes]

theorem count_false_set {l : List Bool} {i : Nat} (hi : i < l.length) (h : got l i = false) : (l.set i true).count false + 1 = l.count false := by
  induction l generalizing i with
  | nil => simp at hi
  | cons a l ih =>
    cases i with
    | zero => simp [got] at h; subst h; simp
    | succ i =>
      simp only [List.set_cons_succ, List.count_cons]
      have := ih (i := i) (by simpa using hi) (by simpa [got] using h)
      omega

structure Pushed (N : Nat) (s s' : List Bool × List Int) (xs : List Int) : Prop where
  len : s'.1.length = s.1.length
  pot : s'.1.count false + s'.2.length = s.1.count false + s.2.length
  mono : ∀ i, got s.1 i = true → got s'.1 i = true
  pre : ∀ x ∈ s.2, x ∈ s'.2
  from_ : ∀ i, got s'.1 i = true → got s.1 i = true ∨ ((i : Int) ∈ xs ∧ (i : Int) ∈ s'.2)
  all : ∀ x ∈ xs, 0 ≤ x → x < N → got s'.1 x.toNat = true
  todo : ∀ x ∈ s'.2, x ∈ s.2 ∨ (0 ≤ x ∧ x < N ∧ got s'.1 x.toNat = true)
theorem pushed_all (N : Nat) (s : List Bool × List Int) (hs : s.1.length = N) (xs : List Int) : Pushed N s (pushes N s xs) xs := by
  have key : ∀ ys : List Int, ∀ zs, zs ++ ys = xs → Pushed N s (pushes N s zs) zs → Pushed N s (pushes N s xs) xs := by
    intro ys
    induction ys with
    | nil => intro zs h hp; simp at h; subst h; exact hp
    | cons y ys ih =>
      intro zs h hp
      refine ih (zs ++ [y]) (by simp [h]) ?_
      rw [pushes_snoc]
      generalize pushes N s zs = s1 at hp
      unfold push
      split
      · rename_i hc
        obtain ⟨h0, hN, hg⟩ := hc
        have hl : y.toNat < s1.1.length := by rw [hp.len, hs]; omega
        refine ⟨by simp [hp.len], ?_, fun i hi => ?_, fun x hx => ?_, fun i hi => ?_, fun x hx h1 h2 => ?_, fun x hx => ?_⟩
        · have := count_false_set hl hg
          have := hp.pot
          simp; omega
        · rw [got_set hl]; simp [hp.mono i hi]
        · exact List.mem_append.2 (.inl (hp.pre x hx))
        · rw [got_set hl] at hi
          simp only [Bool.or_eq_true, decide_eq_true_eq] at hi
          rcases hi with rfl | hi
          · have : ((y.toNat : Nat) : Int) = y := by omega
            exact .inr (by rw [this]; simp)
          · rcases hp.from_ i hi with h | ⟨h1, h2⟩
            · exact .inl h
            · exact .inr ⟨by simp [h1], by simp [h2]⟩
        · rw [got_set hl]
          rcases List.mem_append.1 hx with hx | hx
          · simp [hp.all x hx h1 h2]
          · simp at hx; subst hx; simp
        · rcases List.mem_append.1 hx with hx | hx
          · rcases hp.todo x hx with h | ⟨h1, h2, h3⟩
            · exact .inl h
            · exact .inr ⟨h1, h2, by rw [got_set hl]; simp [h3]⟩
          · simp at hx; subst hx
            exact .inr ⟨h0, hN, by rw [got_set hl]; simp⟩
      · rename_i hc
        refine ⟨hp.len, hp.pot, hp.mono, hp.pre, fun i hi => ?_, fun x hx h1 h2 => ?_, hp.todo⟩
        · rcases hp.from_ i hi with h | ⟨h1, h2⟩
          · exact .inl h
          · exact .inr ⟨by simp [h1], h2⟩
        · rcases List.mem_append.1 hx with hx | hx
          · exact hp.all x hx h1 h2
          · simp at hx; subst hx
            cases e : got s1.1 x.toNat with
            | true => rfl
            | false => exact absurd ⟨h1, h2, e⟩ hc
  exact key xs [] rfl ⟨rfl, rfl, fun _ h => h, fun _ h => h, fun _ h => .inl h, fun _ h => (by cases h), fun _ h => .inl h⟩

/-- What holds while somebody is still to be looked at. -/
structure Dfs (N : Nat) (xss : List (List Int)) (fr : List Int) (s : List Bool × List Int) : Prop where
  len : s.1.length = N
  pot : s.1.count false + s.2.length ≤ N
  sound : ∀ i, got s.1 i = true → Rch N xss fr i
  todo : ∀ x ∈ s.2, 0 ≤ x ∧ x < (N : Int) ∧ got s.1 x.toNat = true
  base : ∀ x ∈ fr, 0 ≤ x → x < (N : Int) → got s.1 x.toNat = true
  done : ∀ i, got s.1 i = true → (i : Int) ∉ s.2 → ∀ y, y < N → (i : Int) ∈ lst N xss y → got s.1 y = true
theorem dfs_start (N : Nat) (xss : List (List Int)) (fr : List Int) : Dfs N xss fr (pushes N (List.replicate N false, []) fr) := by
  have P := pushed_all N (List.replicate N false, []) (by simp) fr
  have h0 : ∀ i, got (List.replicate N false) i = false := by
    intro i; unfold got; by_cases h : i < N <;> simp [h]
  refine ⟨by simpa using P.len, by rw [P.pot]; simp, fun i hi => ?_, fun x hx => ?_, P.all, fun i hi hn => ?_⟩
  · rcases P.from_ i hi with h | ⟨h1, _⟩
    · rw [h0] at h; cases h
    · have hl := got_lt hi
      rw [P.len] at hl
      simp only [List.length_replicate] at hl
      exact (rch_closed N xss fr).1 (i : Int) h1 (by omega) (by omega)
  · rcases P.todo x hx with h | h
    · cases h
    · exact h
  · rcases P.from_ i hi with h | ⟨_, h2⟩
    · rw [h0] at h; cases h
    · exact absurd h2 hn
theorem dfs_step {N : Nat} {xss : List (List Int)} {fr : List Int} {ins : List Bool} {T : List Int} {x : Int} {l : List Int} (h : Dfs N xss fr (ins, T ++ [x])) (hl : ∀ y : Nat, y < N → ((y : Int) ∈ l ↔ x ∈ lst N xss y)) :
    Dfs N xss fr (pushes N (ins, T) l) ∧ (pushes N (ins, T) l).1.count false + (pushes N (ins, T) l).2.length + 1 = ins.count false + (T ++ [x]).length := by
  have P := pushed_all N (ins, T) h.len l
  obtain ⟨hx0, hxN, hxg⟩ := h.todo x (by simp)
  have hpot := P.pot
  have hpot0 := h.pot
  simp only [List.length_append, List.length_cons, List.length_nil] at hpot0 ⊢
  simp only at hpot
  refine ⟨⟨by rw [P.len]; exact h.len, by omega, fun i hi => ?_, fun z hz => ?_, fun z hz h0 h1 => P.mono _ (h.base z hz h0 h1), fun i hi hn y hy hm => ?_⟩, by omega⟩
  · rcases P.from_ i hi with hh | ⟨h1, _⟩
    · exact h.sound i hh
    · have hiN : i < N := by have h1 := got_lt hi; rw [P.len] at h1; have h2 : ins.length = N := h.len; have h3 : i < ins.length := h1; omega
      have := (hl i hiN).1 h1
      exact (rch_closed N xss fr).2 i (by simpa using hiN) x this (h.sound _ hxg)
  · rcases P.todo z hz with hh | hh
    · obtain ⟨a, b, c⟩ := h.todo z (by simp only [List.mem_append]; exact .inl hh)
      exact ⟨a, b, P.mono _ c⟩
    · exact hh
  · by_cases hix : (i : Int) = x
    · have := (hl y hy).2 (by rw [← hix]; exact hm)
      have := P.all (y : Int) this (by omega) (by omega)
      simpa using this
    · rcases P.from_ i hi with hh | ⟨_, h2⟩
      · refine P.mono y (h.done i hh ?_ y hy hm)
        intro hmem
        rcases List.mem_append.1 hmem with hmem | hmem
        · exact hn (P.pre _ hmem)
        · simp at hmem; exact hix hmem
      · exact absurd h2 hn
theorem dfs_end {N : Nat} {xss : List (List Int)} {fr : List Int} {ins : List Bool} (h : Dfs N xss fr (ins, [])) : InsOk N xss fr ins := by
  refine insOk_of (by simpa using h.len) h.sound ⟨h.base, fun i hi x hx hg => ?_⟩
  have hxx := lst_mem hx
  have : ((x.toNat : Nat) : Int) = x := by omega
  exact h.done x.toNat hg (by simp) i (by simpa using hi) (by rw [this]; exact hx)
/-- Who is in, of the first k. -/
def picked (ins : List Bool) (k : Nat) : List Int := ((List.range k).filter (got ins)).map Int.ofNat
theorem picked_succ (ins : List Bool) (k : Nat) : picked ins (k + 1) = picked ins k ++ (if got ins k then [(k : Int)] else []) := by
  simp only [picked, List.range_succ, List.filter_append, List.map_append]
  congr 1
  by_cases h : got ins k = true
  · rw [if_pos h]; simp only [List.filter_cons, h]; rfl
  · rw [if_neg h]; simp only [Bool.not_eq_true] at h; simp only [List.filter_cons, h]; rfl
theorem picked_le (ins : List Bool) (k : Nat) : (picked ins k).length ≤ k := by
  simp only [picked, List.length_map]
  exact Nat.le_trans (List.length_filter_le _ _) (by simp)
theorem back_mem {N : Nat} {xss : List (List Int)} {B : List (List Int)} (h : BackOk N xss B N 0) {x : Int} {l : List Int} (hx : 0 ≤ x) (hl : B[x.toNat]? = some l) : ∀ y : Nat, y < N → ((y : Int) ∈ l ↔ x ∈ lst N xss y) := by
  intro y hy
  have hc := h.count _ l hl y
  simp only [cntB, if_pos hy] at hc
  have hxx : ((x.toNat : Nat) : Int) = x := by omega
  rw [hxx] at hc
  rw [← List.count_pos_iff, ← List.count_pos_iff, hc]
end Pal.Graph
