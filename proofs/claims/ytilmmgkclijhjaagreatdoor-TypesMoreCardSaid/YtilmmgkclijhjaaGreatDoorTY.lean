/- The walks of palaverref08.find, all, of. Conditions: the types are some of three. The walks of palaverref08.of, typ, Of. Conditions: the expression is fine, the types are numbers. The walks of palaverref08.typ, Of. Conditions: the expression is fine, the types are numbers. The walks of palaverlaw00.Ints, Texts, Values: copies in new memory. Condition: not too many. -/
import Derived.Test.YtilmmgkclijhjaaGreatDoorCp
import Derived.Test.YtilmmgkclijhjaaGreatDoorT3
import Derived.Test.YtilmmgkclijhjaaGreatDoorPx
import Derived.Test.YtilmmgkclijhjaaGreatDoorR4
import Derived.BigQuiet
import Derived.Deep.QuietTactic
set_option linter.unusedSimpArgs false
set_option linter.unusedVariables false
set_option linter.unusedSectionVars false
namespace Go.Proofs.YtilmmgkclijhjaaGreatDoor
open Go.RowKit Pal
def allT (t : Int) (ts : List Int) : Bool := ts.all (fun x => x == t)
theorem allT_1 (t a : Int) : allT t [a] = decide (a = t) := by unfold allT; simp only [List.all_cons, List.all_nil, Bool.and_true]; rw [Bool.eq_iff_iff]; simp
theorem allT_2 (t a b : Int) : allT t [a, b] = decide (a = t ∧ b = t) := by unfold allT; simp only [List.all_cons, List.all_nil, Bool.and_true]; rw [Bool.eq_iff_iff]; simp
def ofPost8 (op : Int) (ts : List Int) (w : World) (e : Ending) (w' : World) : Prop := e = .returned (.int .i64 (made op (ts.getD 0 0) (ts.getD 1 0) (ts.getD 2 0))) ∧ Below w.heap.size w w'
end Go.Proofs.YtilmmgkclijhjaaGreatDoor
namespace Go.Proofs.YtilmmgkclijhjaaGreatDoor
open Go.RowKit Pal
theorem below8 (w : World) (n : Nat) : Below w.heap.size w (w.drewN n) := ⟨rfl, rfl, rfl, Nat.le_refl _, fun _ _ => rfl⟩
theorem ints2 {w : World} {tv : Value} {a b : Int} (hT : IntsV (gh w) tv [a, b]) : ∃ b0 off tc, tv = .slice (some ⟨b0, off, none⟩) 2 tc ∧ w.cell? ⟨b0, off, none⟩ = some (.int .i64 a) ∧ w.cell? ⟨b0, off + 1, none⟩ = some (.int .i64 b) := by
  obtain ⟨ta, tc, rfl, -⟩ := intsV_form hT
  obtain ⟨b0, off, rfl, c0⟩ := intsV_at (j := 0) hT rfl
  obtain ⟨b1, off1, hx, c1⟩ := intsV_at (j := 1) hT rfl
  simp only [Option.some.injEq, Addr.mk.injEq, and_true] at hx
  obtain ⟨rfl, rfl⟩ := hx
  exact ⟨b0, off, tc, rfl, c0, c1⟩
theorem ints3 {w : World} {tv : Value} {a b c : Int} (hT : IntsV (gh w) tv [a, b, c]) : ∃ b0 off tc, tv = .slice (some ⟨b0, off, none⟩) 3 tc ∧ w.cell? ⟨b0, off, none⟩ = some (.int .i64 a) ∧ w.cell? ⟨b0, off + 1, none⟩ = some (.int .i64 b) ∧ w.cell? ⟨b0, off + 2, none⟩ = some (.int .i64 c) := by
  obtain ⟨ta, tc, rfl, -⟩ := intsV_form hT
  obtain ⟨b0, off, rfl, c0⟩ := intsV_at (j := 0) hT rfl
  obtain ⟨b1, off1, hx, c1⟩ := intsV_at (j := 1) hT rfl
  obtain ⟨b2, off2, hy, c2⟩ := intsV_at (j := 2) hT rfl
  simp only [Option.some.injEq, Addr.mk.injEq, and_true] at hx hy
  obtain ⟨rfl, rfl⟩ := hx
  obtain ⟨rfl, rfl⟩ := hy
  exact ⟨b0, off, tc, rfl, c0, c1, c2⟩
theorem ints1 {w : World} {tv : Value} {a : Int} (hT : IntsV (gh w) tv [a]) : ∃ b0 off tc, tv = .slice (some ⟨b0, off, none⟩) 1 tc ∧ w.cell? ⟨b0, off, none⟩ = some (.int .i64 a) := by
  obtain ⟨ta, tc, rfl, -⟩ := intsV_form hT
  obtain ⟨b0, off, rfl, c0⟩ := intsV_at (j := 0) hT rfl
  exact ⟨b0, off, tc, rfl, c0⟩
theorem arity_cases {op : Int} {n : Nat} (h : (n : Int) = arity op) (h5 : ¬ (op = 1 ∨ op = 2 ∨ op = 3 ∨ op = 4)) :
    (n = 1 ∧ (op = 5 ∨ op = 6 ∨ op = 19 ∨ op = 22 ∨ op = 23)) ∨ (n = 2 ∧ (7 ≤ op ∧ op ≤ 17 ∨ op = 20 ∨ op = 21)) ∨ (n = 3 ∧ op = 18) := by
  unfold arity at h
  split at h
  · omega
  · split at h
    · omega
    · split at h
      · omega
      · split at h
        · omega
        · omega
end Go.Proofs.YtilmmgkclijhjaaGreatDoor
namespace Go.Proofs.YtilmmgkclijhjaaGreatDoor
open Go.RowKit Pal
/-- A row of the call's own, made behind n0. -/
structure RwIn (n0 : Nat) (tau : Tag) (W : World) (T : TypeId) (c : Nat) (sv : Value) (n : Nat) (xs : List Value) : Prop where
  row : Row tau 1 W T c sv n xs
  ge : ∀ b, tau b = 1 → n0 ≤ b ∧ b < W.heap.size
section
variable {n0 : Nat} {tau : Tag} {W W' : World} {T : TypeId} {c : Nat} {sv : Value} {n : Nat} {xs : List Value}
theorem RwIn.start (n0 : Nat) (W : World) (T : TypeId) (c : Nat) : RwIn n0 T0 W T c (.slice none 0 0) 0 [] := ⟨Row.nil _ _ _ _ _, fun b hb => by cases hb⟩
theorem RwIn.keep (h : RwIn n0 tau W T c sv n xs) (hb : Below W.heap.size W W') : RwIn n0 tau W' T c sv n xs :=
  ⟨h.row.call hb, fun b hb2 => ⟨(h.ge b hb2).1, by have := (h.ge b hb2).2; have := hb.size; omega⟩⟩
theorem RwIn.app {t' : Tag} {w' : World} {v' : Value} {m : Nat} {ys : List Value} (h : RwIn n0 tau W T c sv n xs) (hn : n0 ≤ W.heap.size) (hr : Row t' 1 w' T c v' m ys) (he : Evo tau W t' w' (· = 1)) :
    (∃ t2, RwIn n0 t2 w' T c v' m ys) ∧ ∀ w0 : World, Below n0 w0 W → Below n0 w0 w' := by
  have nt : ∀ b, b < n0 → tau b ≠ 1 := fun b hb e => by have := (h.ge b e).1; omega
  have hlive : ∀ b, v'.ownBlock = some b → b < w'.heap.size := by
    intro b hb
    rcases hr.own.2 with ⟨rfl, hn⟩ | ⟨g, cap, cur, rfl, hbg, hgg, hn, hc, hs, ht⟩
    · simp [Value.ownBlock] at hb
    · simp [Value.ownBlock] at hb
      subst hb
      exact (Array.getElem?_eq_some_iff.1 hgg).1
  have hs := he.size
  refine ⟨⟨fun b => if b < w'.heap.size then t' b else 0, ⟨hr.own, fun g hg => ?_⟩, fun b hb => ?_⟩, fun w0 h0 => ?_⟩
  · show (if g < w'.heap.size then t' g else 0) = 1
    rw [if_pos (hlive g hg)]; exact hr.tag g hg
  · have hb : (if b < w'.heap.size then t' b else 0) = 1 := hb
    by_cases hbl : b < w'.heap.size
    · rw [if_pos hbl] at hb
      refine ⟨?_, hbl⟩
      by_cases hb2 : b < W.heap.size
      · rw [he.tag b hb2] at hb; exact (h.ge b hb).1
      · omega
    · rw [if_neg hbl] at hb; omega
  · exact ⟨he.os.trans h0.os, he.tape.trans h0.tape, he.output.trans h0.output, Nat.le_trans h0.size hs, fun b hb => (he.block b (by omega) (nt b hb)).trans (h0.block b hb)⟩
end
theorem infoI : (Tryz.prog.info? 3).map (fun i => (i.zero, i.size, i.bytes)) = some (some (.int .i64 0), 1, 8) := by kernel_rfl
theorem infoS : (Tryz.prog.info? 9).map (fun i => (i.zero, i.size, i.bytes)) = some (some (.string ⟨#[]⟩), 1, 16) := by kernel_rfl
theorem infoVl : (Tryz.prog.info? 55).map (fun i => (i.zero, i.size, i.bytes)) = some (some (.agg #[.int .i64 0, .int .i64 0, .string ⟨#[]⟩]), 3, 32) := by kernel_rfl
theorem typL_app {names : List Bs} {types : List Int} : ∀ (l1 l2 : List Ex), typL names types (l1 ++ l2) = (match typL names types l1 with | .error e => .error e | .ok a => match typL names types l2 with | .error e => .error e | .ok b => .ok (a ++ b)) := by
  intro l1
  induction l1 with
  | nil => intro l2; rw [List.nil_append, typL_nil]; cases typL names types l2 <;> rfl
  | cons k ks ih =>
    intro l2
    rw [List.cons_append, typL_cons, typL_cons, ih]
    cases typ names types k with
    | error e => rfl
    | ok t =>
      cases typL names types ks with
      | error e => rfl
      | ok a =>
        cases typL names types l2 with
        | error e => rfl
        | ok b => rfl
theorem typL_len {names : List Bs} {types : List Int} : ∀ (l : List Ex) (ts : List Int), typL names types l = .ok ts → ts.length = l.length := by
  intro l
  induction l with
  | nil => intro ts h; rw [typL_nil] at h; cases h; rfl
  | cons k ks ih =>
    intro ts h
    obtain ⟨t, us, _, h2, rfl⟩ := typL_split h
    rw [List.length_cons, List.length_cons, ih us h2]
theorem findT_rng : ∀ (names : List Bs) (types : List Int) (s : Bs), findT names types s = 0 ∨ (1 ≤ findT names types s ∧ findT names types s ≤ 3) := by
  intro names
  induction names with
  | nil => intro types s; exact .inl (findT_nil types s)
  | cons m ms ih =>
    intro types s
    by_cases h : m = s
    · rw [findT_hit h]
      cases types with
      | nil => exact .inl rfl
      | cons t ts => simp only; split <;> omega
    · rw [findT_miss h]; exact ih _ _
theorem made_rng {op a b c : Int} (hb : b = 0 ∨ (1 ≤ b ∧ b ≤ 3)) : made op a b c = 0 ∨ (1 ≤ made op a b c ∧ made op a b c ≤ 3) := by
  unfold made
  repeat' split
  all_goals omega
theorem typ_rng {names : List Bs} {types : List Int} (e : Ex) : ∀ t, typ names types e = .ok t → 1 ≤ t ∧ t ≤ 3 := by
  refine Ex.ind (P := fun e => ∀ t, typ names types e = .ok t → 1 ≤ t ∧ t ≤ 3) ?_ e
  intro op n s ks ih t h
  have hl : ∀ (l : List Ex), (∀ k ∈ l, k ∈ ks) → ∀ ts, typL names types l = .ok ts → ∀ t ∈ ts, 1 ≤ t ∧ t ≤ 3 := by
    intro l
    induction l with
    | nil => intro _ ts h t ht; rw [typL_nil] at h; cases h; cases ht
    | cons k l2 ih2 =>
      intro hm ts h t ht
      obtain ⟨u, us, h1, h2, rfl⟩ := typL_split h
      rcases List.mem_cons.1 ht with rfl | ht
      · exact ih k (hm k (by simp)) _ h1
      · exact ih2 (fun x hx => hm x (by simp [hx])) us h2 t ht
  rw [typ_mk] at h
  cases htl : typL names types ks with
  | error e => rw [htl] at h; cases h
  | ok ts =>
    rw [htl] at h
    simp only at h
    split at h
    · split at h
      · cases h
      · simp only [Except.ok.injEq] at h
        subst h
        rcases findT_rng names types s with h' | h'
        · omega
        · exact h'
    · split at h
      · cases h
      · rename_i hm
        simp only [Except.ok.injEq] at h
        subst h
        have hb : ts.getD 1 0 = 0 ∨ (1 ≤ ts.getD 1 0 ∧ ts.getD 1 0 ≤ 3) := by
          rw [List.getD_eq_getElem?_getD]
          cases hg : ts[1]? with
          | none => exact .inl rfl
          | some x => exact .inr (hl ks (fun _ h => h) ts htl x (List.mem_of_getElem? hg))
        rcases made_rng (op := op) (a := ts.getD 0 0) (c := ts.getD 2 0) hb with h' | h'
        · omega
        · exact h'
theorem typL_rng {names : List Bs} {types : List Int} : ∀ (l : List Ex) (ts : List Int), typL names types l = .ok ts → ∀ t ∈ ts, 1 ≤ t ∧ t ≤ 3 := by
  intro l
  induction l with
  | nil => intro ts h t ht; rw [typL_nil] at h; cases h; cases ht
  | cons k l2 ih2 =>
    intro ts h t ht
    obtain ⟨u, us, h1, h2, rfl⟩ := typL_split h
    rcases List.mem_cons.1 ht with rfl | ht
    · exact typ_rng k _ h1
    · exact ih2 us h2 t ht
def tOf (r : Except Int Int) : Int := match r with | .ok t => t | .error _ => 0
def fOf (r : Except Int Int) : Int := match r with | .ok _ => 0 | .error f => f
def typ2Post (t f : Int) (w : World) (e : Ending) (w' : World) : Prop := e = .returned (.tuple #[.int .i64 t, .int .i64 f]) ∧ Below w.heap.size w w'
theorem map_snoc (ts : List Int) (t : Int) : (ts ++ [t]).map (Value.int .i64) = ts.map (Value.int .i64) ++ [.int .i64 t] := by simp
theorem typeOf_yes {e : Ex} {names : List Bs} {types : List Int} (h : check e = true) : typeOf e names types = (tOf (typ names types e), fOf (typ names types e)) := by
  unfold typeOf
  rw [if_pos h]
  cases typ names types e <;> rfl
theorem typeOf_no {e : Ex} {names : List Bs} {types : List Int} (h : check e = false) : typeOf e names types = (0, 6) := by
  unfold typeOf
  rw [if_neg (by rw [h]; decide)]
end Go.Proofs.YtilmmgkclijhjaaGreatDoor
namespace Go.Proofs.YtilmmgkclijhjaaGreatDoor
open Go.RowKit Pal
def copyIPost (l : List Int) (w : World) (r : Ending) (w' : World) : Prop := Below w.heap.size w w' ∧ ∃ v, r = .returned v ∧ IntsV (gh w') v l
def copySPost (l : List Bs) (w : World) (r : Ending) (w' : World) : Prop := Below w.heap.size w w' ∧ ∃ v, r = .returned v ∧ StrsV (gh w') v l
def copyVPost (l : List Val) (w : World) (r : Ending) (w' : World) : Prop := Below w.heap.size w w' ∧ ∃ v, r = .returned v ∧ ValsV (gh w') v l
theorem strsV_ofSl {h : GH} {v : Value} {l : List Bs} (s : SlV h v l.length 1 (fun j => [strV (l.getD j [])])) : StrsV h v l := by
  obtain ⟨a, cap, hv, h1, h2, h3, h4⟩ := s
  refine ⟨a, cap, hv, fun h => List.eq_nil_of_length_eq_zero (h1 h).1, h2, h3, fun j x hj => ?_⟩
  have hl := (List.getElem?_eq_some_iff.1 hj).1
  obtain ⟨b, off, ha, hc⟩ := h4 j 0 (strV x) hl (by show [strV (l.getD j [])][0]? = _; rw [List.getD_eq_getElem?_getD, hj]; rfl)
  exact ⟨b, off, ha, by rw [show off + j = off + (1 * j + 0) by omega]; exact hc⟩
def valCells (x : Val) : List Value := [.int .i64 x.k, .int .i64 x.n, strV x.s]
theorem valCells_len (x : Val) : (valCells x).length = 3 := rfl
theorem valsV_ofSl {h : GH} {v : Value} {l : List Val} (s : SlV h v l.length 3 (fun j => valCells (l.getD j vNil))) : ValsV h v l := by
  obtain ⟨a, cap, hv, h1, h2, h3, h4⟩ := s
  refine ⟨a, cap, hv, fun h => List.eq_nil_of_length_eq_zero (h1 h).1, h2, h3, fun j x hj => ?_⟩
  have hl := (List.getElem?_eq_some_iff.1 hj).1
  have hg : l.getD j vNil = x := by rw [List.getD_eq_getElem?_getD, hj]; rfl
  obtain ⟨b, off, ha, c0⟩ := h4 j 0 (.int .i64 x.k) hl (by show (valCells (l.getD j vNil))[0]? = _; rw [hg]; rfl)
  obtain ⟨b1, off1, ha1, c1⟩ := h4 j 1 (.int .i64 x.n) hl (by show (valCells (l.getD j vNil))[1]? = _; rw [hg]; rfl)
  obtain ⟨b2, off2, ha2, c2⟩ := h4 j 2 (strV x.s) hl (by show (valCells (l.getD j vNil))[2]? = _; rw [hg]; rfl)
  rw [ha] at ha1 ha2
  simp only [Option.some.injEq, Addr.mk.injEq, and_true] at ha1 ha2
  obtain ⟨rfl, rfl⟩ := ha1
  obtain ⟨rfl, rfl⟩ := ha2
  refine ⟨b, off, ha, ?_, ?_, ?_⟩
  · rw [show off + (3 * j + 0) = off + j * 3 by omega] at c0; exact c0
  · rw [show off + (3 * j + 1) = off + j * 3 + 1 by omega] at c1; exact c1
  · rw [show off + (3 * j + 2) = off + j * 3 + 2 by omega] at c2; exact c2
/-- Where a cell of a row stands. -/
theorem flat_at {α : Type} (g : α → List Value) (sz : Nat) (hs : 0 < sz) (hg : ∀ a, (g a).length = sz) : ∀ (l : List α) (j : Nat) (u : Value), (l.flatMap g)[j]? = some u → ∃ i c x, l[i]? = some x ∧ (g x)[c]? = some u ∧ j = i * sz + c := by
  intro l
  induction l with
  | nil => intro j u h; simp at h
  | cons x xs ih =>
    intro j u h
    rw [List.flatMap_cons] at h
    by_cases hj : j < sz
    · rw [List.getElem?_append_left (by rw [hg]; exact hj)] at h
      exact ⟨0, j, x, rfl, h, by omega⟩
    · rw [List.getElem?_append_right (by rw [hg]; omega), hg] at h
      obtain ⟨i, c, y, h1, h2, h3⟩ := ih _ u h
      exact ⟨i + 1, c, y, by simpa using h1, h2, by rw [Nat.succ_mul]; omega⟩
set_option maxRecDepth 1000000 in
set_option maxHeartbeats 4000000 in
theorem Ints_any (l : List Int) (v : Value) (w : World) (hT : IntsV (gh w) v l) (hl : l.length ≤ 50) : Calls Tryz.prog 11 #[v] w (copyIPost l w) := by
  obtain ⟨i0, hi, hz0, hz1, hz2⟩ := info_parts infoI
  obtain ⟨a, cap, hv, hn, hl2, hc⟩ := hT
  subst hv
  have hn2 : a = none → l.length = 0 ∧ cap = 0 := fun h => by rw [(hn h).1]; exact ⟨rfl, (hn h).2⟩
  have hnews : ∀ j u, (l.map (Value.int .i64))[j]? = some u → ∃ A, a = some A ∧ w.cell? (A.add j) = some u := by
    intro j u hj
    rw [List.getElem?_map] at hj
    obtain ⟨x, hx, rfl⟩ := Option.map_eq_some_iff.1 hj
    obtain ⟨b, off, ha, hcc⟩ := hc j x hx
    rw [gh_cell] at hcc
    exact ⟨_, ha, by rw [Go.WideShapes.add_plain]; exact hcc⟩
  have HN := Lib.hid hn2
  have HW := Lib.hid hnews
  obtain ⟨len, hlen⟩ : ∃ n, l.length = n := ⟨_, rfl⟩
  have HLEN := Lib.hid hlen
  rw [hlen] at HN hl ⊢
  clear hn hn2 hnews hc hl2 hlen
  go_enter Tryz.func11, Tryz.ntmps11
  go_wp2_with (at_builtin; refine wpList_append_src rfl _ _ 26 rfl 3 i0 _ 1 8 Tryz.underlying26 hi hz0 hz1 hz2 rfl (by decide) rfl (Row.nil T0 1 w 3 1) a len cap (l.map (Value.int .i64)) rfl HN.out ?cl HW.out ?c1 ?c2 ?c3 ?_)
  case cl => rw [List.length_map, HLEN.out, Nat.mul_one]
  case c1 => intro u hu; obtain ⟨x, _, rfl⟩ := List.mem_map.1 hu; rfl
  case c2 => unfold maxLen; omega
  case c3 => omega
  intro v' t' w' hr he
  have hb := he.toBelow (by decide)
  have ho := hr.own
  rw [← HLEN.out] at ho
  have HP : Hid (copyIPost l w (.returned v') w') := Lib.hid ⟨hb, v', rfl, IntsV.ofOwn ho (by have := HLEN.out; omega)⟩
  clear hr he hb ho
  go_wp2
  go_ret
  exact HP.out
set_option maxRecDepth 1000000 in
set_option maxHeartbeats 4000000 in
theorem Texts_any (l : List Bs) (v : Value) (w : World) (hT : StrsV (gh w) v l) (hnil : NilV v) (hl : l.length ≤ 50) : Calls Tryz.prog 10 #[v] w (copySPost l w) := by
  obtain ⟨i0, hi, hz0, hz1, hz2⟩ := info_parts infoS
  obtain ⟨a, cap, hv, hn, hl1, hl2, hc⟩ := hT
  subst hv
  have hn2 : a = none → l.length = 0 ∧ cap = 0 := fun h => by subst h; exact hnil _ _ rfl
  have hnews : ∀ j u, (l.flatMap fun s => [strV s])[j]? = some u → ∃ A, a = some A ∧ w.cell? (A.add j) = some u := by
    intro j u hj
    rw [← List.map_eq_flatMap, List.getElem?_map] at hj
    obtain ⟨x, hx, rfl⟩ := Option.map_eq_some_iff.1 hj
    obtain ⟨b, off, ha, hcc⟩ := hc j x hx
    rw [gh_cell] at hcc
    exact ⟨_, ha, by rw [Go.WideShapes.add_plain]; exact hcc⟩
  have HN := Lib.hid hn2
  have HW := Lib.hid hnews
  obtain ⟨len, hlen⟩ : ∃ n, l.length = n := ⟨_, rfl⟩
  have HLEN := Lib.hid hlen
  rw [hlen] at HN hl ⊢
  clear hn hn2 hnews hc hl1 hl2 hlen hnil
  go_enter Tryz.func10, Tryz.ntmps10
  go_wp2_with (at_builtin; refine wpList_append_src rfl _ _ 25 rfl 9 i0 _ 1 16 Tryz.underlying25 hi hz0 hz1 hz2 rfl (by decide) rfl (Row.nil T0 1 w 9 1) a len cap (l.flatMap fun s => [strV s]) rfl HN.out ?cl HW.out ?c1 ?c2 ?c3 ?_)
  case cl => rw [← List.map_eq_flatMap, List.length_map, HLEN.out, Nat.mul_one]
  case c1 => intro u hu; rw [← List.map_eq_flatMap] at hu; obtain ⟨x, _, rfl⟩ := List.mem_map.1 hu; rfl
  case c2 => unfold maxLen; omega
  case c3 => omega
  intro v' t' w' hr he
  have hb := he.toBelow (by decide)
  rw [← HLEN.out] at hr
  have hs := SlV.ofRow (fun s => [strV s]) l ([] : Bs) (by decide) (fun _ => rfl) hr
  have HP : Hid (copySPost l w (.returned v') w') := Lib.hid ⟨hb, v', rfl, strsV_ofSl hs⟩
  clear hr he hb hs
  go_wp2
  go_ret
  exact HP.out
end Go.Proofs.YtilmmgkclijhjaaGreatDoor
