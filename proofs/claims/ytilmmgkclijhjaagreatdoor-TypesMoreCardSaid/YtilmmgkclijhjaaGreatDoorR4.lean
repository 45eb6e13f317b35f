/- What more the arguments' data tell: a slice that is nil has no room; numbers as the walks ask them. Condition: the data read from the world. What stands in memory and stays, in a law's own walk. The walks of palaverlaw09.few, palaverlaw08.few. No condition. -/
import Derived.Test.YtilmmgkclijhjaaGreatDoorR3
set_option linter.unusedSimpArgs false
set_option linter.unusedVariables false
set_option linter.unusedSectionVars false
namespace Go.Proofs.YtilmmgkclijhjaaGreatDoor
open Go Go.RowKit Go.ChangeShapes Go.WideShapes Go.ChangeAt Pal
/-- Without an address there is no room. -/
def NilV (v : Value) : Prop := ∀ n c, v = .slice none n c → n = 0 ∧ c = 0
theorem nilV_some {a : Addr} {n c : Nat} : NilV (.slice (some a) n c) := fun _ _ h => by cases h
theorem nilV_nil : NilV (.slice none 0 0) := fun _ _ h => by cases h; exact ⟨rfl, rfl⟩
theorem nilV_of {H : Type} {enc : TypeId × Value → H} {P : Program} {W : World} {t e : TypeId} {c : Nat} {v : Value} {d : DataW H} {ps : List MemPlace}
    (ht : P.underlying t = some (.slice e)) (hc : P.cellsOf e = c) (hpos : 0 < c) (h : DataW.Trod enc P W 0 (fun _ => true) true t v d ps) : NilV v := by
  intro n k hv
  subst hv
  obtain ⟨fuel, hf⟩ := h
  rcases row_open ht hc hpos hf with he | ⟨a, len, cap, m, _, he, _⟩
  · simp [Value.cells] at he; exact he
  · simp [Value.cells] at he
section
variable {H : Type} {enc : TypeId × Value → H} {W : World} {v : Value} {d : DataW H} {ps : List MemPlace}
theorem strs_nil (h : DataW.Trod enc Tryz.prog W 0 (fun _ => true) true 25 v d ps) : NilV v := nilV_of Tryz.underlying25 (c := 1) (by kernel_rfl) (by decide) h
end
theorem NumsV.form {h : GH} {v : Value} {l : List Int} (t : NumsV h v l) : ∃ a cap, v = .slice a l.length cap ∧ l.length ≤ 9223372036854775807 := by
  obtain ⟨a, cap, hv, _, h1, h2, _⟩ := t
  unfold maxLen at h2
  exact ⟨a, cap, hv, by omega⟩
theorem NumsV.ints {h : GH} {v : Value} {l : List Int} (t : NumsV h v l) (hl : l.length ≤ 50) : IntsV h v l := by
  obtain ⟨a, cap, hv, hn, h1, h2, hx⟩ := t
  exact ⟨a, cap, hv, hn, by omega, hx⟩
theorem NumsV.mono {h h' : GH} {v : Value} {l : List Int} (t : NumsV h v l) (k : h.le h') : NumsV h' v l := by
  obtain ⟨a, cap, hv, hn, h1, h2, hx⟩ := t
  exact ⟨a, cap, hv, hn, h1, h2, fun j x hj => let ⟨b, off, ha, hc⟩ := hx j x hj; ⟨b, off, ha, k.cell hc⟩⟩
theorem StrsV.len {h : GH} {v : Value} {l : List Bs} (t : StrsV h v l) : l.length ≤ 9223372036854775807 := by
  obtain ⟨_, _, hv, _, h1, h2, _⟩ := t
  unfold maxLen at h2
  omega
end Go.Proofs.YtilmmgkclijhjaaGreatDoor
namespace Go.Proofs.YtilmmgkclijhjaaGreatDoor
open Go.RowKit Pal
/-- These blocks stand, whatever was made since. -/
structure Kept (w W : World) (l : List (Nat × Obj)) : Prop where
  below : Below w.heap.size w W
  mem : ∀ x ∈ l, W.heap[x.1]? = some x.2
theorem size_alloc (W : World) (o : Obj) : (W.alloc o).heap.size = W.heap.size + 1 := by simp
section
variable {w W W' : World} {l : List (Nat × Obj)}
theorem Kept.start (w : World) : Kept w w [] := ⟨Below.refl _ _, fun x hx => by cases hx⟩
theorem Kept.call (h : Kept w W l) (hb : Below W.heap.size W W') : Kept w W' l :=
  ⟨h.below.seq hb, fun x hx => (hb.block _ (Array.getElem?_eq_some_iff.1 (h.mem x hx)).1).trans (h.mem x hx)⟩
theorem Kept.drew (h : Kept w W l) : Kept w W.drew l := h.call (Below.refl _ _).drew
theorem Kept.new (h : Kept w W l) (o : Obj) : Kept w (W.alloc o) ((W.heap.size, o) :: l) := by
  refine ⟨h.below.alloc h.below.size o, fun x hx => ?_⟩
  rcases List.mem_cons.1 hx with rfl | hx
  · exact heap_alloc_new W o
  · exact (Lib.alloc_old W o _ (Array.getElem?_eq_some_iff.1 (h.mem x hx)).1).trans (h.mem x hx)
theorem Kept.newAt (h : Kept w W l) (o : Obj) {b : Nat} (hb : W.heap.size = b) : Kept w (W.alloc o) ((b, o) :: l) := by subst hb; exact h.new o
/-- Two blocks more, one behind the other. -/
theorem Kept.new2 (h : Kept w W l) (o o2 : Obj) : Kept w ((W.alloc o).alloc o2) ((W.heap.size + 1, o2) :: (W.heap.size, o) :: l) := (h.new o).newAt o2 (size_alloc W o)
theorem Kept.lay (h : Kept w W l) (hL : Lay2 w) : Lay2 W := hL.below h.below
theorem Kept.at0 {b : Nat} {o : Obj} (h : Kept w W ((b, o) :: l)) : W.heap[b]? = some o := h.mem (b, o) (.head _)
theorem Kept.tail {x : Nat × Obj} (h : Kept w W (x :: l)) : Kept w W l := ⟨h.below, fun y hy => h.mem y (.tail _ hy)⟩
theorem Kept.lt {b : Nat} {o : Obj} (h : Kept w W ((b, o) :: l)) : b < W.heap.size := (Array.getElem?_eq_some_iff.1 h.at0).1
end
theorem KV.three {h : GH} {b : Nat} {a c d : Ex} {u v x T} (hb : h b = some (.cells #[.int .i64 a.op, .int .i64 a.n, strV a.s, u, .int .i64 c.op, .int .i64 c.n, strV c.s, v, .int .i64 d.op, .int .i64 d.n, strV d.s, x] T (0, 0))) (ka : KV h u a.ks) (kc : KV h v c.ks) (kd : KV h x d.ks) : KV h (.slice (some ⟨b, 0, none⟩) 3 3) [a, c, d] := by
  refine .mk [a, c, d] (some ⟨b, 0, none⟩) 3 (fun j => if j = 0 then u else if j = 1 then v else x) (fun h => by cases h) (Nat.le_refl _) (by simp [maxLen]) (fun j k hj => ⟨b, 0, rfl, ?_⟩) (fun j k hj => ?_)
  · match j, hj with
    | 0, hj => simp at hj; subst hj; simp [GH.cell, hb]
    | 1, hj => simp at hj; subst hj; simp [GH.cell, hb]
    | 2, hj => simp at hj; subst hj; simp [GH.cell, hb]
  · match j, hj with
    | 0, hj => simp at hj; subst hj; exact ka
    | 1, hj => simp at hj; subst hj; exact kc
    | 2, hj => simp at hj; subst hj; exact kd
def few9 (names : List Bs) (vals : List Val) : Bool := decide (names.length ≤ 50) && (decide (vals.length ≤ 50) && vals.all fun v => decide (v.s.length ≤ 1000))
theorem few9_fine {names : List Bs} {vals : List Val} (h : few9 names vals = true) (g : ∀ v ∈ vals, I64 v.k ∧ I64 v.n ∧ v.s.length ≤ 9223372036854775807) : VFine vals := by
  unfold few9 at h
  rw [Bool.and_eq_true, Bool.and_eq_true, List.all_eq_true] at h
  intro v hv
  have := of_decide_eq_true (h.2.2 v hv)
  exact ⟨(g v hv).2.1, by omega⟩
theorem few9_len {names : List Bs} {vals : List Val} (h : few9 names vals = true) : names.length ≤ 50 ∧ vals.length ≤ 50 := by
  unfold few9 at h
  rw [Bool.and_eq_true, Bool.and_eq_true] at h
  exact ⟨of_decide_eq_true h.1, of_decide_eq_true h.2.1⟩
def few8 (names : List Bs) (types : List Int) : Bool := decide (names.length ≤ 50) && decide (types.length ≤ 50)
theorem few8_len {names : List Bs} {types : List Int} (h : few8 names types = true) : names.length ≤ 50 ∧ types.length ≤ 50 := by
  unfold few8 at h
  rw [Bool.and_eq_true] at h
  exact ⟨of_decide_eq_true h.1, of_decide_eq_true h.2⟩
theorem few8_any (names : List Bs) (types : List Int) (a ta : Option Addr) (nc tc : Nat) (w : World) (hn : names.length ≤ 9223372036854775807) (ht : types.length ≤ 9223372036854775807) :
    Calls Tryz.prog 6 #[.slice a names.length nc, .slice ta types.length tc] w fun e w' => e = .returned (.bool (few8 names types)) ∧ w = w' := by
  obtain ⟨R, hR⟩ : ∃ R, few8 names types = R := ⟨_, rfl⟩
  rw [hR]
  unfold few8 at hR
  generalize names.length = n1 at *
  generalize types.length = n2 at *
  by_cases h1 : n1 ≤ 50
  · by_cases h2 : n2 ≤ 50
    · have HE : Hid (R = true) := Lib.hid (by rw [← hR, decide_eq_true h1, decide_eq_true h2]; rfl)
      have q : decide ((n2 : Int) ≤ 50) = true := decide_eq_true (by omega)
      clear hR
      go_enter Tryz.func6, Tryz.ntmps6
      go_wp2
      go_ret
      exact ⟨by rw [HE.out]; rfl, rfl⟩
    · have HE : Hid (R = false) := Lib.hid (by rw [← hR, decide_eq_true h1, decide_eq_false h2]; rfl)
      have q : decide ((n2 : Int) ≤ 50) = false := decide_eq_false (by omega)
      clear hR
      go_enter Tryz.func6, Tryz.ntmps6
      go_wp2
      go_ret
      exact ⟨by rw [HE.out]; rfl, rfl⟩
  · have HE : Hid (R = false) := Lib.hid (by rw [← hR, decide_eq_false h1]; rfl)
    have q : decide ((n1 : Int) ≤ 50) = false := decide_eq_false (by omega)
    clear hR
    go_enter Tryz.func6, Tryz.ntmps6
    go_wp2
    go_ret
    exact ⟨by rw [HE.out]; rfl, rfl⟩
end Go.Proofs.YtilmmgkclijhjaaGreatDoor
