/- What has a type comes to nothing, to what is bad, or to a value of that type; what is not needed is not worked out; what an expression comes to, and its type, hang on its names alone: plain laws of EvalTyped, EvalLazy, EvalNames, TypesMore. Conditions where they are said: the expression may be. -/
import Derived.Test.YtilmmgkclijhjaaGreatDoorEA
import Derived.Test.YtilmmgkclijhjaaGreatDoorT3
set_option linter.unusedSimpArgs false
set_option linter.unusedVariables false
set_option linter.unusedSectionVars false
namespace Go.Proofs.YtilmmgkclijhjaaGreatDoor
open Go.RowKit Pal
theorem need_err {v u : Val} {ks : List Int} (h : need v ks = .error u) : u.k = 4 := by
  unfold need at h
  split at h
  · simp only [Except.error.injEq] at h; subst h; assumption
  · split at h
    · cases h
    · simp only [Except.error.injEq] at h; subst h; rfl
theorem need_yes {v u : Val} {ks : List Int} (h : need v ks = .ok u) : u = v ∧ v.k ∈ ks := by
  unfold need at h
  split at h
  · cases h
  · split at h
    · simp only [Except.ok.injEq] at h; rename_i h2; exact ⟨h.symm, by simpa using h2⟩
    · cases h
theorem fitM_k (x : Int) : (fitM x).k = 1 ∨ (fitM x).k = 4 := by
  unfold fitM
  split
  · exact .inl rfl
  · exact .inr rfl
theorem arith_k (op a b : Int) : (arith op a b).k = 1 ∨ (arith op a b).k = 4 := by
  unfold arith
  repeat' split
  all_goals first | exact fitM_k _ | exact .inr rfl | exact .inl rfl
theorem numM_k (op : Int) (a b : Val) : (numM op a b).k = 1 ∨ (numM op a b).k = 4 := by
  unfold numM
  cases h : need a [1] with
  | error u => exact .inr (need_err h)
  | ok a' =>
    simp only
    split
    · exact fitM_k _
    · cases h2 : need b [1] with
      | error u => exact .inr (need_err h2)
      | ok b' => exact arith_k _ _ _
theorem longM_k (s : Bs) : (longM s).k = 3 ∨ (longM s).k = 4 := by
  unfold longM
  split
  · exact .inr rfl
  · exact .inl rfl
theorem textM_k (op : Int) (a b : Val) : (textM op a b).k = (if op = 19 then 1 else 3) ∨ (textM op a b).k = 4 := by
  unfold textM
  cases h : need a [3] with
  | error u => exact .inr (need_err h)
  | ok a' =>
    simp only
    by_cases h19 : op = 19
    · rw [if_pos h19, if_pos h19]; exact .inl rfl
    rw [if_neg h19, if_neg h19]
    split
    · exact longM_k _
    split
    · cases h2 : need b [1] with
      | error u => exact .inr (need_err h2)
      | ok b' => exact longM_k _
    · cases h2 : need b [3] with
      | error u => exact .inr (need_err h2)
      | ok b' => exact longM_k _
theorem truthM_k (op : Int) (a b c : Val) (h18 : op ≠ 18) : (truthM op a b c).k = 2 ∨ (truthM op a b c).k = 4 := by
  unfold truthM
  split
  · cases h : need a [2] with
    | error u => exact .inr (need_err h)
    | ok a' =>
      simp only
      split
      · exact .inl rfl
      split
      · exact .inl rfl
      · cases h2 : need b [2] with
        | error u => exact .inr (need_err h2)
        | ok b' =>
          obtain ⟨rfl, hk⟩ := need_yes h2
          exact .inl (by simpa using hk)
  · cases h : need a (if op = 14 ∨ op = 15 then [1, 3] else [1, 3, 2]) with
    | error u => exact .inr (need_err h)
    | ok a' =>
      simp only
      cases h2 : need b [a'.k] with
      | error u => exact .inr (need_err h2)
      | ok b' =>
        simp only
        repeat' split
        all_goals exact .inl rfl
def kOp (op : Int) : Int := if op = 1 ∨ op = 5 ∨ (7 ≤ op ∧ op ≤ 11) ∨ op = 19 then 1 else if op = 2 ∨ op = 20 ∨ op = 21 ∨ op = 23 then 3 else 2
theorem made_k (op a b c : Int) (h4 : op ≠ 4) (h18 : op ≠ 18) : made op a b c = 0 ∨ made op a b c = kOp op := by
  unfold made kOp
  repeat' split
  all_goals omega
theorem evOp_k (ρ : Bs → Val) (op n : Int) (s : Bs) (ks : List Ex) (a b c : Val) (h4 : op ≠ 4) (h18 : op ≠ 18) : (evOp ρ op n s ks a b c).k = kOp op ∨ (evOp ρ op n s ks a b c).k = 4 := by
  have h2 := numM_k op a b
  have h3 := textM_k op a b
  have h5 := truthM_k op a b c h18
  unfold evOp
  rw [if_neg h4]
  split
  · rename_i h; subst h; exact .inl rfl
  split
  · rename_i h; subst h; exact .inl rfl
  split
  · rename_i h; subst h; exact .inl rfl
  split
  · rename_i h; subst h; exact .inl rfl
  split
  · rename_i h
    rcases h2 with h2 | h2
    · left; rw [h2]; unfold kOp; rw [if_pos (by omega)]
    · exact .inr h2
  split
  · rename_i h
    rcases h3 with h3 | h3
    · left; rw [h3]; unfold kOp
      rcases h with rfl | rfl | rfl | rfl <;> rfl
    · exact .inr h3
  · rcases h5 with h5 | h5
    · left; rw [h5]; unfold kOp; rw [if_neg (by omega), if_neg (by omega)]
    · exact .inr h5
theorem typ_mk (names : List Bs) (types : List Int) (op n : Int) (s : Bs) (ks : List Ex) : typ names types (.mk op n s ks) = (match typL names types ks with | .error e => .error e | .ok ts => if op = 4 then (if findT names types s = 0 then .error 9 else .ok (findT names types s)) else if made op (ts.getD 0 0) (ts.getD 1 0) (ts.getD 2 0) = 0 then .error 8 else .ok (made op (ts.getD 0 0) (ts.getD 1 0) (ts.getD 2 0))) := by rw [typ]; cases typL names types ks <;> rfl
theorem typL_cons (names : List Bs) (types : List Int) (k : Ex) (ks : List Ex) : typL names types (k :: ks) = (match typ names types k with | .error e => .error e | .ok t => match typL names types ks with | .error e => .error e | .ok ts => .ok (t :: ts)) := by rw [typL]; cases typ names types k with
  | error e => rfl
  | ok t => cases typL names types ks <;> rfl
theorem typL_split {names : List Bs} {types : List Int} {k : Ex} {ks : List Ex} {ts : List Int} (h : typL names types (k :: ks) = .ok ts) : ∃ t us, typ names types k = .ok t ∧ typL names types ks = .ok us ∧ ts = t :: us := by
  rw [typL_cons] at h
  cases h1 : typ names types k with
  | error e => rw [h1] at h; cases h
  | ok t =>
    rw [h1] at h
    simp only at h
    cases h2 : typL names types ks with
    | error e => rw [h2] at h; cases h
    | ok us => rw [h2] at h; simp only [Except.ok.injEq] at h; exact ⟨t, us, rfl, rfl, h.symm⟩
theorem typed_law {ρ : Bs → Val} {names : List Bs} {types : List Int} (hρ : ∀ s, findT names types s ≠ 0 → (ρ s).k = 0 ∨ (ρ s).k = 4 ∨ (ρ s).k = findT names types s) (e : Ex) :
    Good e → ∀ t, typ names types e = .ok t → (ev ρ e).k = 0 ∨ (ev ρ e).k = 4 ∨ (ev ρ e).k = t := by
  refine Ex.ind (P := fun e => Good e → ∀ t, typ names types e = .ok t → (ev ρ e).k = 0 ∨ (ev ρ e).k = 4 ∨ (ev ρ e).k = t) ?_ e
  intro op n s ks ih hG t ht
  cases hG with
  | mk _ _ _ _ ha hn hk =>
  have hl := alone_kids ha
  rw [typ_mk] at ht
  cases htl : typL names types ks with
  | error e => rw [htl] at ht; cases ht
  | ok ts =>
  rw [htl] at ht
  simp only at ht
  by_cases h4 : op = 4
  · rw [if_pos h4] at ht
    split at ht
    · cases ht
    · rename_i hf
      simp only [Except.ok.injEq] at ht
      subst ht
      rw [ev_mk]
      unfold evOp
      rw [if_neg (by omega), if_neg (by omega), if_neg (by omega), if_pos h4]
      exact hρ s hf
  rw [if_neg h4] at ht
  split at ht
  · cases ht
  rename_i hm
  simp only [Except.ok.injEq] at ht
  by_cases h18 : op = 18
  · subst h18
    obtain ⟨x, y, z, rfl⟩ : ∃ x y z, ks = [x, y, z] := by
      have h3 : ks.length = 3 := by
        have e : arity 18 = 3 := by decide
        rw [e] at hl; omega
      match ks, h3 with | [x, y, z], _ => exact ⟨x, y, z, rfl⟩
    obtain ⟨tx, u1, hx, h1, rfl⟩ := typL_split htl
    obtain ⟨ty, u2, hy, h2, rfl⟩ := typL_split h1
    obtain ⟨tz, u3, hz, h3, rfl⟩ := typL_split h2
    have hd : made 18 ([tx, ty, tz].getD 0 0) ([tx, ty, tz].getD 1 0) ([tx, ty, tz].getD 2 0) = if tx = 2 ∧ ty = tz then ty else 0 := rfl
    simp only [typL_nil, Except.ok.injEq] at h3
    subst h3
    rw [hd] at ht hm
    have hc : tx = 2 ∧ ty = tz := by
      apply Classical.byContradiction
      intro h; rw [if_neg h] at hm; exact hm rfl
    rw [if_pos hc] at ht
    subst ht
    obtain ⟨-, rfl⟩ := hc
    have iy := ih y (by simp) (hk y (by simp)) ty hy
    have iz := ih z (by simp) (hk z (by simp)) ty hz
    rw [ev_mk, evL_cons, evL_cons, evL_cons, evL_nil]
    have e : evOp ρ 18 n s [x, y, z] ([ev ρ x, ev ρ y, ev ρ z].getD 0 vNil) ([ev ρ x, ev ρ y, ev ρ z].getD 1 vNil) ([ev ρ x, ev ρ y, ev ρ z].getD 2 vNil) = (match need (ev ρ x) [2] with | .error v => v | .ok a => if a.n = 1 then ev ρ y else ev ρ z) := by
      unfold evOp truthM
      simp
      cases need (ev ρ x) [2] <;> rfl
    rw [e]
    cases h : need (ev ρ x) [2] with
    | error u => exact .inr (.inl (need_err h))
    | ok a =>
      simp only
      split
      · exact iy
      · exact iz
  · rcases made_k op (ts.getD 0 0) (ts.getD 1 0) (ts.getD 2 0) h4 h18 with h | h
    · exact absurd h hm
    · rw [← ht, h, ev_mk]
      rcases evOp_k ρ op n s ks ((evL ρ ks).getD 0 vNil) ((evL ρ ks).getD 1 vNil) ((evL ρ ks).getD 2 vNil) h4 h18 with h' | h'
      · exact .inr (.inr h')
      · exact .inr (.inl h')
theorem typ_err0 {names : List Bs} {types : List Int} (e : Ex) (f : Int) (h : typ names types e = .error f) : ¬ f = 0 := by
  have := typ_err_ne names types e f h
  omega
/-- Does a value fit a type? -/
def fitsV (v : Val) (t : Int) : Bool := okV v && (decide (v.k = 0) || decide (v.k = t))
theorem look_typed : ∀ (names : List Bs) (vals : List Val) (types : List Int), types.length = names.length → vals.length = names.length → (∀ (j : Nat) (v : Val) (t : Int), vals[j]? = some v → types[j]? = some t → fitsV v t = true) →
    ∀ s, findT names types s ≠ 0 → (look names vals s).k = 0 ∨ (look names vals s).k = 4 ∨ (look names vals s).k = findT names types s := by
  intro names
  induction names with
  | nil => intro vals types _ _ _ s h; exact absurd rfl h
  | cons m ms ih =>
    intro vals types ht hv hf s h
    match vals, types, ht, hv with
    | v :: vs, t :: ts, ht, hv =>
      unfold look findT at ⊢
      unfold findT at h
      by_cases hm : m = s
      · rw [if_pos hm] at h ⊢
        rw [if_pos hm]
        simp only at h ⊢
        have h0 := hf 0 v t rfl rfl
        unfold fitsV at h0
        simp at h0
        rw [if_pos h0.1]
        split
        · rcases h0.2 with h0 | h0
          · exact .inl h0
          · exact .inr (.inr h0)
        · rename_i hh; rw [if_neg hh] at h; exact absurd rfl h
      · rw [if_neg hm] at h ⊢
        rw [if_neg hm]
        exact ih vs ts (by simpa using ht) (by simpa using hv) (fun j v t h1 h2 => hf (j + 1) v t h1 h2) s h
/-- EvalTyped, plain. -/
theorem typed_plain {e : Ex} {names : List Bs} {types : List Int} {vals : List Val} (hF : Fine e) (hl : types.length = names.length) (hv : vals.length = names.length) (hf : ∀ (j : Nat) (v : Val) (t : Int), vals[j]? = some v → types[j]? = some t → fitsV v t = true)
    (hn : ∀ v ∈ vals, -9223372036854775808 ≤ v.n ∧ v.n ≤ 9223372036854775807) (t : Int) (ht : typeOf e names types = (t, 0)) :
    okV (evalM e names vals) = true ∧ ((evalM e names vals).k = 0 ∨ (evalM e names vals).k = 4 ∨ (evalM e names vals).k = t) := by
  unfold typeOf at ht
  split at ht
  · rename_i hc
    unfold evalM
    rw [if_pos hc]
    have hG := check_good hF hc
    refine ⟨(ev_ok (fun s => look_ok names vals s hn) e hG).ok, ?_⟩
    cases h : typ names types e with
    | error f => rw [h] at ht; simp only [Prod.mk.injEq] at ht; exfalso
                 obtain ⟨h0, hf0⟩ := ht
                 exact typ_err0 e f h hf0
    | ok u =>
      rw [h] at ht
      simp only [Prod.mk.injEq, and_true] at ht
      subst ht
      exact typed_law (look_typed names vals types hl hv hf) e hG u h
  · simp only [Prod.mk.injEq] at ht; omega
/-- A name occurs. -/
inductive Occ : Ex → Bs → Prop
  | here (n : Int) (s : Bs) (ks : List Ex) : Occ (.mk 4 n s ks) s
  | kid (op n : Int) (s : Bs) (ks : List Ex) (k : Ex) (x : Bs) (hk : k ∈ ks) (h : Occ k x) : Occ (.mk op n s ks) x
theorem ev_congr {ρ σ : Bs → Val} (e : Ex) : Good e → (∀ s, Occ e s → ρ s = σ s) → ev ρ e = ev σ e := by
  refine Ex.ind (P := fun e => Good e → (∀ s, Occ e s → ρ s = σ s) → ev ρ e = ev σ e) ?_ e
  intro op n s ks ih hG h
  cases hG with
  | mk _ _ _ _ ha hn hk =>
  have hl : ∀ l : List Ex, (∀ k ∈ l, k ∈ ks) → evL ρ l = evL σ l := by
    intro l
    induction l with
    | nil => intro _; rw [evL_nil, evL_nil]
    | cons a t iht =>
      intro hm
      rw [evL_cons, evL_cons, iht (fun x hx => hm x (by simp [hx])), ih a (hm a (by simp)) (hk a (hm a (by simp))) (fun x hx => h x (.kid _ _ _ _ a x (hm a (by simp)) hx))]
  rw [ev_mk, ev_mk, hl ks (fun _ h => h)]
  generalize (evL σ ks).getD 0 vNil = a
  generalize (evL σ ks).getD 1 vNil = b
  generalize (evL σ ks).getD 2 vNil = c
  unfold evOp
  by_cases h4 : op = 4
  · subst h4
    simp only [show ¬ ((4 : Int) = 1) by omega, show ¬ ((4 : Int) = 2) by omega, show ¬ ((4 : Int) = 3) by omega, if_false, if_true]
    exact h s (.here _ _ _)
  · by_cases h22 : op = 22
    · subst h22
      have hkid : ρ (kidS ks) = σ (kidS ks) := by
        have hlen := alone_kids ha
        have e1 : arity 22 = 1 := by decide
        rw [e1] at hlen
        obtain ⟨x, rfl⟩ : ∃ x, ks = [x] := by
          match ks, (by omega : ks.length = 1) with | [x], _ => exact ⟨x, rfl⟩
        unfold alone at ha
        simp [kidOp] at ha
        obtain ⟨op', n', s', ks'⟩ := x
        have ho : op' = 4 := ha.2.2.2
        subst ho
        exact h s' (.kid _ _ _ _ (.mk 4 n' s' ks') s' (by simp) (.here _ _ _))
      rw [hkid]
      simp
    · rw [if_neg h4, if_neg h4, if_neg h22, if_neg h22]
/-- What is not needed is not worked out. -/
theorem lazy_plain (ρ : Bs → Val) (e f : Ex) : ev ρ (.mk 18 0 [] [.mk 3 1 [] [], e, f]) = ev ρ e ∧ ev ρ (.mk 18 0 [] [.mk 3 0 [] [], f, e]) = ev ρ e ∧ ev ρ (.mk 17 0 [] [.mk 3 1 [] [], e]) = vBool true ∧ ev ρ (.mk 16 0 [] [.mk 3 0 [] [], e]) = vBool false := by
  have y : ev ρ (.mk 3 1 [] []) = vBool true := by rw [ev_mk]; unfold evOp; simp
  have z : ev ρ (.mk 3 0 [] []) = vBool false := by rw [ev_mk]; unfold evOp; simp
  refine ⟨?_, ?_, ?_, ?_⟩
  · rw [ev_mk, evL_cons, evL_cons, evL_cons, evL_nil, y]; simp [evOp, truthM, need, vBool]
  · rw [ev_mk, evL_cons, evL_cons, evL_cons, evL_nil, z]; simp [evOp, truthM, need, vBool]
  · rw [ev_mk, evL_cons, evL_cons, evL_nil, y]; simp [evOp, truthM, need, vBool]
  · rw [ev_mk, evL_cons, evL_cons, evL_nil, z]; simp [evOp, truthM, need, vBool]
/-- Values that differ only where no name of it stands. -/
theorem look_some : ∀ (names : List Bs) (vals xs : List Val) (s : Bs), (∀ j : Nat, names[j]? = some s → vals[j]? = xs[j]?) → look names vals s = look names xs s := by
  intro names
  induction names with
  | nil => intro vals xs s _; rfl
  | cons m ms ih =>
    intro vals xs s h
    unfold look
    by_cases hm : m = s
    · rw [if_pos hm, if_pos hm]
      have h0 := h 0 (by simp [hm])
      cases vals <;> cases xs <;> simp at h0 <;> simp [h0]
    · rw [if_neg hm, if_neg hm]
      refine ih vals.tail xs.tail s (fun j hj => ?_)
      have := h (j + 1) (by simpa using hj)
      simpa [List.getElem?_tail] using this
theorem names_plain {e : Ex} {names : List Bs} {vals xs : List Val} (hF : Fine e) (h : ∀ (j : Nat) (s : Bs), names[j]? = some s → Occ e s → vals[j]? = xs[j]?) : evalM e names vals = evalM e names xs := by
  unfold evalM
  split
  · rename_i hc
    exact ev_congr e (check_good hF hc) (fun s hs => look_some names vals xs s (fun j hj => h j s hj hs))
  · rfl
theorem findT_more {names : List Bs} {types : List Int} {m s : Bs} {t : Int} (h : m ≠ s) : findT (m :: names) (t :: types) s = findT names types s := by
  conv => lhs; unfold findT
  rw [if_neg h]
  rfl
theorem findT_last : ∀ {names : List Bs} {types : List Int} {m s : Bs} {t : Int}, m ≠ s → names.length = types.length → findT (names ++ [m]) (types ++ [t]) s = findT names types s := by
  intro names
  induction names with
  | nil => intro types m s t h hl; match types, hl with | [], _ => exact findT_more h
  | cons a ms ih =>
    intro types m s t h hl
    match types, hl with
    | b :: bs, hl =>
      simp only [List.cons_append]
      unfold findT
      split
      · rfl
      · exact ih h (by simpa using hl)
theorem typ_congr {ns ms : List Bs} {ts us : List Int} (e : Ex) : (∀ s, Occ e s → findT ns ts s = findT ms us s) → typ ns ts e = typ ms us e := by
  refine Ex.ind (P := fun e => (∀ s, Occ e s → findT ns ts s = findT ms us s) → typ ns ts e = typ ms us e) ?_ e
  intro op n s ks ih h
  have hl : ∀ l : List Ex, (∀ k ∈ l, k ∈ ks) → typL ns ts l = typL ms us l := by
    intro l
    induction l with
    | nil => intro _; rw [typL_nil, typL_nil]
    | cons a t iht =>
      intro hm
      rw [typL_cons, typL_cons, iht (fun x hx => hm x (by simp [hx])), ih a (hm a (by simp)) (fun x hx => h x (.kid _ _ _ _ a x (hm a (by simp)) hx))]
  rw [typ_mk, typ_mk, hl ks (fun _ h => h)]
  cases typL ms us ks with
  | error e => rfl
  | ok ts =>
    simp only
    by_cases h4 : op = 4
    · subst h4; rw [h s (.here _ _ _)]
    · rw [if_neg h4, if_neg h4]
theorem more_plain {e : Ex} {names : List Bs} {types : List Int} {m : Bs} {t : Int} (h : ¬ Occ e m) (hl : names.length = types.length) :
    typeOf e (m :: names) (t :: types) = typeOf e names types ∧ typeOf e (names ++ [m]) (types ++ [t]) = typeOf e names types := by
  have hs : ∀ s, Occ e s → m ≠ s := fun s hs e => h (e ▸ hs)
  unfold typeOf
  rw [typ_congr e (fun s hs' => findT_more (hs s hs')), typ_congr e (fun s hs' => findT_last (hs s hs') hl)]
  exact ⟨rfl, rfl⟩
end Go.Proofs.YtilmmgkclijhjaaGreatDoor
