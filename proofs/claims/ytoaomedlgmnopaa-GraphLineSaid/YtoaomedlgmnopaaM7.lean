/- The plain law of a line of needs, written down in any order, and of a ring. No program. -/
import Derived.Test.YtoaomedlgmnopaaM6
namespace Pal.Graph

def pos (K B i : Nat) : Nat := i * B % K
theorem pos_lt {K B : Nat} (h : 0 < K) (i : Nat) : pos K B i < K := Nat.mod_lt _ h
theorem pos_inj {K B : Nat} (hc : Nat.gcd B K = 1) {i j : Nat} (hi : i < K) (hj : j < K) (h : pos K B i = pos K B j) : i = j := by
  have key : ∀ a b : Nat, a ≤ b → b < K → a * B % K = b * B % K → a = b := by
    intro a b hab hb he
    have h1 : (b * B - a * B) % K = 0 := Nat.sub_mod_eq_zero_of_mod_eq he.symm
    rw [← Nat.sub_mul] at h1
    have h2 : K ∣ (b - a) * B := Nat.dvd_of_mod_eq_zero h1
    have h3 : K ∣ (b - a) := Nat.Coprime.dvd_of_dvd_mul_right (by rw [Nat.Coprime, Nat.gcd_comm]; exact hc) h2
    have := Nat.eq_zero_of_dvd_of_lt h3 (by omega)
    omega
  rcases Nat.le_total i j with h' | h'
  · exact key i j h' hj h
  · exact (key j i h' hi h.symm).symm
set_option maxRecDepth 100000 in
theorem surj : ∀ K, K < 32 → ∀ B, B < K → Nat.gcd B K = 1 → ∀ x, x < K → ∃ i, i < K ∧ i * B % K = x := by decide +kernel

theorem surj2 {K B x : Nat} (h1 : K < 32) (h2 : B < K) (h3 : Nat.gcd B K = 1) (h4 : x < K) : ∃ i, i < K ∧ pos K B i = x := surj K h1 B h2 h3 x h4

/-- The needs, the first j written down. -/
def lineX (K B : Nat) : Nat → List (List Int)
  | 0 => List.replicate K []
  | j + 1 => (lineX K B j).set (pos K B j) [(pos K B (j + 1) : Int)]
theorem lineX_len (K B j : Nat) : (lineX K B j).length = K := by
  induction j with
  | zero => simp [lineX]
  | succ j ih => simp [lineX, ih]
theorem lineX_get {K B : Nat} (hK : 0 < K) (hc : Nat.gcd B K = 1) (j : Nat) (hj : j ≤ K) (i : Nat) (hi : i < K) : (lineX K B j)[pos K B i]? = some (if i < j then [(pos K B (i + 1) : Int)] else []) := by
  induction j with
  | zero => simp [lineX, pos_lt hK]
  | succ j ih =>
    have ih := ih (by omega)
    simp only [lineX]
    by_cases e : i = j
    · subst e
      rw [List.getElem?_set_self (by rw [lineX_len]; exact pos_lt hK _), if_pos (by omega)]
    · have hne : pos K B j ≠ pos K B i := fun h => e (pos_inj hc hi (by omega) h.symm)
      rw [List.getElem?_set_ne hne, ih]
      by_cases h : i < j
      · rw [if_pos h, if_pos (by omega)]
      · rw [if_neg h, if_neg (by omega)]
/-- The line's needs: of each but the last the next one. -/
structure Line (K B : Nat) (X : List (List Int)) : Prop where
  hK : 2 ≤ K
  k32 : K < 32
  hB : B < K
  hc : Nat.gcd B K = 1
  get : ∀ i, i < K → X[pos K B i]? = some (if i < K - 1 then [(pos K B (i + 1) : Int)] else [])
theorem line_lst {K B : Nat} {X : List (List Int)} (h : Line K B X) {i : Nat} (hi : i < K) : lst K X (pos K B i) = if i < K - 1 then [(pos K B (i + 1) : Int)] else [] := by
  unfold lst
  rw [h.get i hi]
  have hk := pos_lt (B := B) (show 0 < K by have := h.hK; omega) (i + 1)
  by_cases hl : i < K - 1
  · simp only [if_pos hl, Option.getD_some, List.filter_cons, List.filter_nil]
    rw [if_pos]
    simp; omega
  · simp [if_neg hl]
def lineOut (K B j : Nat) : List Int := (List.range j).map fun m => (pos K B (K - 1 - m) : Int)
theorem line_st {K B : Nat} {X : List (List Int)} (h : Line K B X) (j : Nat) (hj : j ≤ K) : (st K X j).1 = lineOut K B j ∧ ∀ i, i < K → (st K X j).2.getD (pos K B i) false = decide (K ≤ i + j) := by
  have hK0 : 0 < K := by have := h.hK; omega
  induction j with
  | zero =>
    refine ⟨rfl, fun i hi => ?_⟩
    simp [st, pos_lt hK0, show ¬ K ≤ i by omega]
  | succ j ih =>
    obtain ⟨h1, h2⟩ := ih (by omega)
    have hlen := st_len (n := (K : Int)) (xss := X) j
    have hmay : ∀ i, i < K → may K X (st K X j).2 (pos K B i) = decide (i = K - 1 - j) := by
      intro i hi
      unfold may freeB
      rw [h2 i hi, line_lst h hi]
      by_cases hl : i < K - 1
      · rw [if_pos hl]
        have := h2 (i + 1) (by omega)
        simp only [List.all_cons, List.all_nil, Bool.and_true, isDone, Int.toNat_natCast]
        rw [this]
        rw [Bool.eq_iff_iff]
        simp only [Bool.and_eq_true, Bool.not_eq_true', decide_eq_false_iff_not, decide_eq_true_eq]
        omega
      · rw [if_neg hl]
        rw [Bool.eq_iff_iff]
        simp only [List.all_nil, Bool.and_true, Bool.not_eq_true', decide_eq_false_iff_not, decide_eq_true_eq]
        omega
    have hp : pick K X (st K X j).2 = some (pos K B (K - 1 - j)) := by
      refine pick_some_of (by simpa using pos_lt hK0 _) (by rw [hmay _ (by omega)]; simp) (fun x hx => ?_)
      have hxK : x < K := by have := pos_lt (B := B) hK0 (K - 1 - j); omega
      obtain ⟨i, hi, rfl⟩ := surj2 h.k32 h.hB h.hc hxK
      rw [hmay i hi]
      rw [decide_eq_false_iff_not]
      intro e
      subst e
      omega
    have hs : st K X (j + 1) = ((st K X j).1 ++ [(pos K B (K - 1 - j) : Int)], (st K X j).2.set (pos K B (K - 1 - j)) true) := step_some hp
    rw [hs]
    refine ⟨by rw [h1]; simp [lineOut, List.range_succ], fun i hi => ?_⟩
    simp only
    by_cases e : i = K - 1 - j
    · subst e
      have : pos K B (K - 1 - j) < (st K X j).2.length := by rw [hlen]; simpa using pos_lt hK0 _
      simp [this]; omega
    · have hne : pos K B (K - 1 - j) ≠ pos K B i := fun hh => e (pos_inj h.hc (by omega) hi hh).symm
      have := h2 i hi
      simp only [List.getD_eq_getElem?_getD] at this ⊢
      rw [List.getElem?_set_ne hne, this]
      rw [Bool.eq_iff_iff]; simp; omega
theorem line_order {K B : Nat} {X : List (List Int)} (h : Line K B X) : orderS K X = (lineOut K B K, true) := by
  obtain ⟨h1, _⟩ := line_st h K (Nat.le_refl _)
  have := h.hK; have := h.k32
  unfold orderS
  rw [if_pos (by omega), Int.toNat_natCast, h1, if_neg (by simp [lineOut])]
/-- From the line's end everybody is reached. -/
theorem line_reach_end {K B : Nat} {X : List (List Int)} (h : Line K B X) {ins : List Bool} (hi : InsOk K X [(pos K B (K - 1) : Int)] ins) : (picked ins K).length = K := by
  have hK0 : 0 < K := by have := h.hK; omega
  have hall : ∀ m, m < K → Rch K X [(pos K B (K - 1) : Int)] (pos K B (K - 1 - m)) := by
    intro m
    induction m with
    | zero =>
      intro _
      have := (rch_closed (K : Int) X [(pos K B (K - 1) : Int)]).1 _ (List.mem_singleton.2 rfl) (by omega) (by have := pos_lt (B := B) hK0 (K - 1); omega)
      simpa using this
    | succ m ih =>
      intro hm
      have ih := ih (by omega)
      refine (rch_closed (K : Int) X _).2 (pos K B (K - 1 - (m + 1))) (by simpa using pos_lt hK0 _) (pos K B (K - 1 - m) : Int) ?_ (by simpa using ih)
      rw [line_lst h (by omega), if_pos (by omega), show K - 1 - (m + 1) + 1 = K - 1 - m by omega]
      simp
  have hg : ∀ x, x < K → got ins x = true := by
    intro x hx
    obtain ⟨i, hi', rfl⟩ := surj2 h.k32 h.hB h.hc hx
    have := hall (K - 1 - i) (by omega)
    rw [show K - 1 - (K - 1 - i) = i by omega] at this
    exact (hi.iff _ (by simpa using hx)).2 this
  simp only [picked, List.length_map]
  rw [List.filter_eq_self.2 (fun x hx => hg x (List.mem_range.1 hx))]
  simp
/-- From its beginning nobody else is. -/
theorem line_reach_start {K B : Nat} {X : List (List Int)} (h : Line K B X) {ins : List Bool} (hi : InsOk K X [0] ins) : (picked ins K).length = 1 := by
  have hK0 : 0 < K := by have := h.hK; omega
  have h00 : pos K B 0 = 0 := by simp [pos]
  have hcl : Closed K X [0] (fun x => x = 0) := by
    refine ⟨fun x hx _ _ => by simp at hx; subst hx; rfl, fun y hy x hx hx0 => ?_⟩
    have hyK : y < K := by simpa using hy
    obtain ⟨i, hi', rfl⟩ := surj2 h.k32 h.hB h.hc hyK
    rw [line_lst h hi'] at hx
    split at hx
    · rename_i hlt
      simp only [List.mem_singleton] at hx
      subst hx
      simp only [Int.toNat_natCast] at hx0
      have : pos K B (i + 1) = pos K B 0 := by rw [h00]; exact hx0
      have := pos_inj h.hc (by omega) hK0 this
      omega
    · cases hx
  have hg : ∀ x, x < K → got ins x = decide (x = 0) := by
    intro x hx
    rw [Bool.eq_iff_iff, hi.iff x (by simpa using hx), decide_eq_true_eq]
    constructor
    · intro hr; exact hr _ hcl
    · rintro rfl
      have := (rch_closed (K : Int) X [0]).1 0 (by simp) (by omega) (by omega)
      simpa using this
  have e : (List.range K).filter (got ins) = [0] := by
    have h1 : (List.range K).filter (got ins) = (List.range K).filter (fun x => decide (x = 0)) := List.filter_congr fun x hx => hg x (List.mem_range.1 hx)
    rw [h1]
    obtain ⟨m, rfl⟩ : ∃ m, K = m + 1 := ⟨K - 1, by omega⟩
    rw [List.range_succ_eq_map]
    simp
  simp [picked, e]
/-- The ring: the last one needs the first one. -/
structure Ring (K B : Nat) (X : List (List Int)) : Prop where
  hK : 2 ≤ K
  k32 : K < 32
  hB : B < K
  hc : Nat.gcd B K = 1
  get : ∀ i, i < K → X[pos K B i]? = some [(pos K B ((i + 1) % K) : Int)]
theorem ring_pick {K B : Nat} {X : List (List Int)} (h : Ring K B X) : pick K X (List.replicate K false) = none := by
  have hK0 : 0 < K := by have := h.hK; omega
  rw [pick_none_iff]
  intro x hx
  obtain ⟨i, hi', rfl⟩ := surj2 (x := x) h.k32 h.hB h.hc (by simpa using hx)
  have hg := h.get i hi'
  have hp := pos_lt (B := B) hK0 ((i + 1) % K)
  unfold may freeB lst
  rw [hg]
  generalize pos K B ((i + 1) % K) = q at hp
  simp only [Option.getD_some, List.filter_cons, List.filter_nil]
  rw [if_pos (by simp only [Bool.and_eq_true, decide_eq_true_eq]; omega)]
  simp [isDone, hp]
theorem ring_st {K B : Nat} {X : List (List Int)} (h : Ring K B X) : st K X K = ([], List.replicate K false) := by
  have h0 : st K X 0 = ([], List.replicate K false) := by simp [st]
  have := st_stuck (n := (K : Int)) (xss := X) (j := 0) (by rw [h0]; exact ring_pick h) K (by omega)
  rw [this, h0]
theorem ring_order {K B : Nat} {X : List (List Int)} (h : Ring K B X) : orderS K X = ([], false) := by
  have := h.hK; have := h.k32
  unfold orderS
  rw [if_pos (by omega), Int.toNat_natCast, ring_st h, if_pos (by simp; omega)]
theorem ring_stuck {K B : Nat} {X : List (List Int)} (h : Ring K B X) : (stuckS K X).length = K := by
  have := h.hK; have := h.k32
  unfold stuckS
  rw [if_pos (by omega), Int.toNat_natCast, ring_st h]
  simp only [left, List.length_map]
  rw [List.filter_eq_self.2 (fun x hx => by simp [List.mem_range.1 hx])]
  simp
end Pal.Graph
