/- Values in boxes, rows of values, what eval is handed: how they lie. No condition. -/
import Derived.Test.YtdgcgogeidnmoaaGreatDoorE0
set_option linter.unusedSimpArgs false
set_option linter.unusedVariables false
set_option linter.unusedSectionVars false
namespace Go.Proofs.YtdgcgogeidnmoaaGreatDoor
open Go.RowKit Pal
def strRet (l : Bs) (w : World) (e : Ending) (w' : World) : Prop := e = .returned (strV l) ∧ Below w.heap.size w w'
theorem intsV_row {w : World} {b : Nat} (l : List Int) (T : TypeId) (h : w.heap[b]? = some (.cells (l.map (Value.int .i64)).toArray T (0, 0))) (hm : l.length ≤ 17592186044416) : IntsV (gh w) (.slice (some ⟨b, 0, none⟩) l.length l.length) l := by
  refine ⟨_, _, rfl, fun h => (by cases h), hm, fun j s hj => ⟨b, 0, rfl, ?_⟩⟩
  rw [gh_cell]
  simp [World.cell?, h, hj]
/-- A value in a box. -/
def boxV (v : Val) : Value :=
  if v.k = 0 then .nilIface
  else if v.k = 1 then .iface 2 (.int .i64 v.n)
  else if v.k = 2 then .iface 4 (.bool (decide (v.n = 1)))
  else if v.k = 3 then .iface 9 (strV v.s)
  else .iface 47 (valV v)
theorem boxV_nil : boxV vNil = .nilIface := rfl
theorem boxV_int (n : Int) : boxV (vInt n) = .iface 2 (.int .i64 n) := rfl
theorem boxV_bool (b : Bool) : boxV (vBool b) = .iface 4 (.bool b) := by cases b <;> rfl
theorem boxV_text (s : Bs) : boxV (vText s) = .iface 9 (strV s) := rfl
theorem boxV_bad (n : Int) : boxV (vBad n) = .iface 47 (.agg #[.int .i64 4, .int .i64 n, .string ⟨#[]⟩]) := rfl
/-- Values, as a slice reads. -/
def ValsV (h : GH) (v : Value) (l : List Val) : Prop := ∃ a cap, v = .slice a l.length cap ∧ (a = none → l = []) ∧ l.length ≤ cap ∧ cap ≤ maxLen ∧
  ∀ j x, l[j]? = some x → ∃ b off, a = some ⟨b, off, none⟩ ∧ h.cell b (off + j * 3) = some (.int .i64 x.k) ∧ h.cell b (off + j * 3 + 1) = some (.int .i64 x.n) ∧ h.cell b (off + j * 3 + 2) = some (strV x.s)
theorem ValsV.mono {h h' : GH} (l : h.le h') {v : Value} {ss : List Val} (s : ValsV h v ss) : ValsV h' v ss := by
  obtain ⟨a, cap, hv, hn, hc, hm, hx⟩ := s
  exact ⟨a, cap, hv, hn, hc, hm, fun j s hj => let ⟨b, off, ha, h1, h2, h3⟩ := hx j s hj; ⟨b, off, ha, l.cell h1, l.cell h2, l.cell h3⟩⟩
theorem ValsV.form {h : GH} {v : Value} {ss : List Val} (t : ValsV h v ss) : ∃ a cap, v = .slice a ss.length cap ∧ ss.length ≤ cap ∧ cap ≤ 9223372036854775807 := by
  obtain ⟨a, cap, hv, _, h1, h2, _⟩ := t
  unfold maxLen at h2
  exact ⟨a, cap, hv, h1, by omega⟩
theorem ValsV.at {w : World} {a : Option Addr} {n cap : Nat} {ss : List Val} (t : ValsV (gh w) (.slice a n cap) ss) {j : Nat} {x : Val} (hj : ss[j]? = some x) :
    ∃ b off, a = some ⟨b, off, none⟩ ∧ w.cell? ⟨b, off + j * 3, none⟩ = some (.int .i64 x.k) ∧ w.cell? ⟨b, off + j * 3 + 1, none⟩ = some (.int .i64 x.n) ∧ w.cell? ⟨b, off + j * 3 + 2, none⟩ = some (strV x.s) := by
  obtain ⟨a', cap', hv, hn, hc, hm, hx⟩ := t
  simp only [Value.slice.injEq] at hv
  obtain ⟨rfl, rfl, rfl⟩ := hv
  obtain ⟨b, off, ha, h1, h2, h3⟩ := hx j x hj
  rw [gh_cell] at h1 h2 h3
  exact ⟨b, off, ha, h1, h2, h3⟩
theorem ValsV_nil (h : GH) : ValsV h (.slice none 0 0) [] := ⟨none, 0, rfl, fun _ => rfl, Nat.le_refl _, by simp [maxLen], fun j x hj => by simp at hj⟩
/-- One value, two values in a new row. -/
theorem ValsV.one {w : World} {b : Nat} {x : Val} {T : TypeId} (h : w.heap[b]? = some (.cells #[.int .i64 x.k, .int .i64 x.n, strV x.s] T (0, 0))) : ValsV (gh w) (.slice (some ⟨b, 0, none⟩) 1 1) [x] := by
  refine ⟨_, 1, rfl, fun h => (by cases h), Nat.le_refl _, by simp [maxLen], fun j y hj => ⟨b, 0, rfl, ?_⟩⟩
  match j, hj with
  | 0, hj => simp at hj; subst hj; simp [GH.cell, gh, h]
theorem ValsV.two {w : World} {b : Nat} {x y : Val} {T : TypeId} (h : w.heap[b]? = some (.cells #[.int .i64 x.k, .int .i64 x.n, strV x.s, .int .i64 y.k, .int .i64 y.n, strV y.s] T (0, 0))) : ValsV (gh w) (.slice (some ⟨b, 0, none⟩) 2 2) [x, y] := by
  refine ⟨_, 2, rfl, fun h => (by cases h), Nat.le_refl _, by simp [maxLen], fun j z hj => ⟨b, 0, rfl, ?_⟩⟩
  match j, hj with
  | 0, hj => simp at hj; subst hj; simp [GH.cell, gh, h]
  | 1, hj => simp at hj; subst hj; simp [GH.cell, gh, h]
/-- No value is longer than any may be. -/
def VFine (l : List Val) : Prop := ∀ v ∈ l, (-9223372036854775808 ≤ v.n ∧ v.n ≤ 9223372036854775807) ∧ v.s.length ≤ 9223372036854775806
/-- What eval is handed: names and values. -/
structure WithV (W : World) (p : Nat) (names : List Bs) (vals : List Val) : Prop where
  lay : Lay (gh W)
  fine : VFine vals
  cell : ∃ nv vv, W.heap[p]? = some (.cells #[nv, vv] 90 (0, 0)) ∧ StrsV (gh W) nv names ∧ ValsV (gh W) vv vals
theorem WithV.keep {W W' : World} {p : Nat} {names : List Bs} {vals : List Val} (h : WithV W p names vals) (hb : Below W.heap.size W W') : WithV W' p names vals := by
  obtain ⟨hl, hf, nv, vv, hc, hn, hv⟩ := h
  have hp : p < W.heap.size := (Array.getElem?_eq_some_iff.1 hc).1
  exact ⟨hl.below hb, hf, nv, vv, (hb.block _ hp).trans hc, hn.mono (below_gh hb), hv.mono (below_gh hb)⟩
theorem WithV.ok {W : World} {p : Nat} {names : List Bs} {vals : List Val} (h : WithV W p names vals) (s : Bs) : VOk (look names vals s) := look_ok names vals s (fun v hv => (h.fine v hv).1)
theorem two_cells {W : World} {B : Nat} {x0 x1 : Value} {T : TypeId} (h : W.heap[B]? = some (.cells #[x0, x1] T (0, 0))) :
    W.cell? ⟨B, 0, none⟩ = some x0 ∧ W.cell? ⟨B, 1, none⟩ = some x1 ∧ B < W.heap.size := by
  refine ⟨by simp [World.cell?, h], by simp [World.cell?, h], (Array.getElem?_eq_some_iff.1 h).1⟩
/-- It comes to this value, boxed. -/
def boxPost (v : Val) (w : World) (e : Ending) (w' : World) : Prop := e = .returned (boxV v) ∧ Below w.heap.size w w'
/-- Eval's inner walk comes to what the plain law says. -/
def EvP (names : List Bs) (vals : List Val) (e : Ex) : Prop := ∀ (v : Value) (W : World) (p : Nat), WithV W p names vals → KV (gh W) v e.ks →
  Calls Tryz.prog 66 #[.pointer (some ⟨p, 0, none⟩), exV e.op e.n e.s v] W (boxPost (ev (look names vals) e) W)
def needV (r : Except Val Val) : Val := match r with | .ok v => v | .error v => v
def needB (r : Except Val Val) : Bool := match r with | .ok _ => true | .error _ => false
def needPost (r : Except Val Val) (w : World) (e : Ending) (w' : World) : Prop := e = .returned (.tuple #[boxV (needV r), .bool (needB r)]) ∧ Below w.heap.size w w'
theorem three_all {W : World} {B : Nat} {x0 x1 x2 : Value} {T : TypeId} (h : W.heap[B]? = some (.cells #[x0, x1, x2] T (0, 0))) :
    (W.cell? ⟨B, 0, none⟩ = some x0 ∧ W.cell? ⟨B, 1, none⟩ = some x1 ∧ W.cell? ⟨B, 2, none⟩ = some x2) ∧ (W.frozen? ⟨B, 0, none⟩ = false ∧ W.frozen? ⟨B, 1, none⟩ = false ∧ W.frozen? ⟨B, 2, none⟩ = false) := by
  simp [World.cell?, World.frozen?, h]
theorem set3_heap {W : World} {B : Nat} {x0 x1 x2 : Value} {T : TypeId} (h : W.heap[B]? = some (.cells #[x0, x1, x2] T (0, 0))) (y0 y1 y2 : Value) :
    (((W.setCell ⟨B, 0, none⟩ y0).setCell ⟨B, 1, none⟩ y1).setCell ⟨B, 2, none⟩ y2).heap[B]? = some (.cells #[y0, y1, y2] T (0, 0)) := by
  simp [World.setCell, Array.getElem?_modify, h]
theorem set3_other {W : World} {B b : Nat} (hb : b ≠ B) (y0 y1 y2 : Value) :
    (((W.setCell ⟨B, 0, none⟩ y0).setCell ⟨B, 1, none⟩ y1).setCell ⟨B, 2, none⟩ y2).heap[b]? = W.heap[b]? := by
  simp [World.setCell, Array.getElem?_modify, Ne.symm hb]
theorem below_set3 {n : Nat} {a W : World} (h : Below n a W) {B : Nat} (hB : n ≤ B) (y0 y1 y2 : Value) : Below n a (((W.setCell ⟨B, 0, none⟩ y0).setCell ⟨B, 1, none⟩ y1).setCell ⟨B, 2, none⟩ y2) :=
  ((h.setCell (p := ⟨B, 0, none⟩) hB _).setCell (p := ⟨B, 1, none⟩) hB _).setCell (p := ⟨B, 2, none⟩) hB _
/-- An empty value's block, ahead of all. -/
def vz : Obj := .cells #[.int .i64 0, .int .i64 0, .string ⟨#[]⟩] 47 (0, 0)
end Go.Proofs.YtdgcgogeidnmoaaGreatDoor
