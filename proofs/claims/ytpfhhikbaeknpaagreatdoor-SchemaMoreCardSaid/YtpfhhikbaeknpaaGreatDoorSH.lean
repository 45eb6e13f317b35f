/- The walk of (*schema.Schema).links: what each field needs. Conditions: the form lies as it is said to, each formula may be, its names are the form's. -/
import Derived.Test.YtpfhhikbaeknpaaGreatDoorSG
import Derived.Test.YtpfhhikbaeknpaaGreatDoorSD
set_option linter.unusedSectionVars false
set_option linter.unusedSimpArgs false
set_option linter.unusedVariables false
namespace Go.Proofs.YtpfhhikbaeknpaaGreatDoor
open Go.RowKit Pal
attribute [local go_sem ↓] Go.wp_at_zero Go.wp_at_succ
def tagG (g : Nat) : Tag := fun b => if b = g then 5 else 0
/-- Where a name stands. -/
def posN (ns : List Bs) (s : Bs) : Int := ((posT ns s).getD 0 : Nat)
theorem posN_at {ns : List Bs} {s : Bs} (h : s ∈ ns) : ∃ j : Nat,posN ns s = j ∧ ns[j]? = some s := by
  cases hp : posT ns s with
  | none => have := posT_none.1 hp; simp at this; exact absurd h this
  | some j => exact ⟨j,by unfold posN; rw [hp]; rfl,posT_some hp⟩
theorem sort_pos {ns m : List Bs} (hn : ns.Nodup) (hm : m.Nodup) (hs : ∀ s ∈ m,s ∈ ns) : ((m.map (posN ns)).mergeSort fun x y => decide (x ≤ y)) = posM ns m := by
  have hp := List.mergeSort_perm (m.map (posN ns)) fun x y => decide (x ≤ y)
  have hsorted : ((m.map (posN ns)).mergeSort fun x y => decide (x ≤ y)).Pairwise (fun a b => decide (a ≤ b) = true) :=
    List.pairwise_mergeSort (fun a b c h1 h2 => by simp at *; omega) (fun a b => by simp; omega) _
  have hnd : (m.map (posN ns)).Nodup := by
    rw [List.nodup_iff_pairwise_ne,List.pairwise_map]
    refine List.Pairwise.imp_of_mem ?_ hm
    intro a b ha hb hne he
    obtain ⟨i,hi,hgi⟩ := posN_at (hs a ha)
    obtain ⟨j,hj,hgj⟩ := posN_at (hs b hb)
    rw [hi,hj] at he
    have : i = j := by omega
    subst this
    rw [hgi] at hgj
    exact hne (by cases hgj; rfl)
  have hnd2 := hp.nodup_iff.2 hnd
  refine rise_ext ?_ (posM_sorted ns m) fun x => ?_
  · have := hsorted.and hnd2
    refine this.imp ?_
    rintro a b ⟨h1,h2⟩
    simp at h1
    omega
  · rw [hp.mem_iff,List.mem_map,mem_posM]
    constructor
    · rintro ⟨s,hsm,rfl⟩
      obtain ⟨j,hj,hg⟩ := posN_at (hs s hsm)
      have hl := (List.getElem?_eq_some_iff.1 hg).1
      exact ⟨j,hj,hl,by simp [List.getD,hg]; exact hsm⟩
    · rintro ⟨j,rfl,hl,hmem⟩
      refine ⟨ns.getD j [],hmem,?_⟩
      obtain ⟨i,hi,hgi⟩ := posN_at (hs _ hmem)
      rw [hi]
      have e : ns.getD j [] = ns[j] := getD_in hl
      rw [e,← List.getElem?_eq_getElem hl] at hgi
      have := (List.getElem?_inj (by
        have := (List.getElem?_eq_some_iff.1 (hgi.trans (List.getElem?_eq_getElem hl))).1; exact this) hn).1 (hgi)
      omega
/-- Where the loop stands. -/
structure Lk (w : World) (g : Nat) (l : List Fd) (xs : List XV) (N : List (List Int)) (t : Tag) (nv : Value) (nds : List Value) (cur : Value) (q : List Int) (W : World) : Prop where
  ev : Evo (tagG g) w t W (· ≠ 0)
  rows : RowsF W g l xs (nds ++ [cur])
  gt : t g = 5
  outer : Row t 1 W 32 1 nv nds.length nds
  inner : ∀ (i : Nat) (v : Value) (nd : List Int),nds[i]? = some v → N[i]? = some nd → Row t (10 + i) W 3 1 v nd.length (nd.map (Value.int .i64))
  own : Row t (10 + nds.length) W 3 1 cur q.length (q.map (Value.int .i64))
section
variable {w W W' : World} {g : Nat} {l : List Fd} {xs : List XV} {N : List (List Int)} {t t' : Tag} {nv cur : Value} {nds : List Value} {q : List Int}
theorem Lk.keep (h : Lk w g l xs N t nv nds cur q W) (ev : Evo t W t' W' (fun _ => False)) : Lk w g l xs N t' nv nds cur q W' := by
  have hl := h.rows.lt
  exact ⟨h.ev.trans (ev.mono fun _ h => h.elim),h.rows.keep (ev.block _ hl (fun h => h)),(ev.tag _ hl).trans h.gt,h.outer.keep ev (fun h => h),fun i v nd h1 h2 => (h.inner i v nd h1 h2).keep ev (fun h => h),h.own.keep ev (fun h => h)⟩
theorem Lk.call (h : Lk w g l xs N t nv nds cur q W) (hb : Below W.heap.size W W') : Lk w g l xs N (t.ext W.heap.size 0) nv nds cur q W' := h.keep (Evo.below hb (Tag.ext_lt _ _ _))
theorem Lk.new (h : Lk w g l xs N t nv nds cur q W) (o : Obj) : Lk w g l xs N (t.set W.heap.size 0) nv nds cur q (W.alloc o) := h.keep ((Evo.refl _ _ _).alloc 0 o)
/-- What was there outside the fields' row stands. -/
theorem Lk.old (h : Lk w g l xs N t nv nds cur q W) {b : Nat} {o : Obj} (hb : w.heap[b]? = some o) (hn : b ≠ g) : W.heap[b]? = some o := by
  rw [h.ev.block b (Array.getElem?_eq_some_iff.1 hb).1 (by unfold tagG; rw [if_neg hn]; simp)]; exact hb
theorem Lk.le (h : Lk w g l xs N t nv nds cur q W) : (gb g w).le (hz t W) := fun b o hh => by
  unfold gb at hh
  split at hh
  · cases hh
  · rename_i hn
    have hl := (Array.getElem?_eq_some_iff.1 hh).1
    unfold hz
    rw [h.ev.tag b hl,h.ev.block b hl (by unfold tagG; rw [if_neg hn]; simp)]
    unfold tagG
    rw [if_neg hn,if_pos rfl]; exact hh
/-- A field's own numbers have grown, it knows them. -/
theorem Lk.grow (h : Lk w g l xs N t nv nds cur q W) {cur' : Value} {q' : List Int} (hr : Row t' (10 + nds.length) W' 3 1 cur' q'.length (q'.map (Value.int .i64))) (ev : Evo t W t' W' (· = 10 + nds.length)) :
    Lk w g l xs N t' nv nds cur' q' (W'.setCell ⟨g,nds.length * 21 + 20,none⟩ cur') := by
  have hl := h.rows.lt
  have hg5 : t' g = 5 := (ev.tag _ hl).trans h.gt
  have e2 : Evo t' W' t' (W'.setCell ⟨g,nds.length * 21 + 20,none⟩ cur') (· = 5) := (Evo.refl _ _ _).setCell _ _ hg5
  refine ⟨(h.ev.trans (ev.mono fun _ h => by omega)).trans (e2.mono fun _ h => by rw [h]; decide),(h.rows.keep (ev.block _ hl (by rw [h.gt]; omega))).need rfl _,hg5,(h.outer.keep ev (by omega)).keep e2 (by decide),fun i v nd h1 h2 => ?_,hr.keep e2 (by omega)⟩
  have hi := (List.getElem?_eq_some_iff.1 h1).1
  exact ((h.inner i v nd h1 h2).keep ev (by omega)).keep e2 (by omega)
/-- They are sorted. -/
theorem Lk.sorted (h : Lk w g l xs N t nv nds cur q W) {q' : List Int} (hq : q'.length = q.length) (hr : Row t' (10 + nds.length) W' 3 1 cur q'.length (q'.map (Value.int .i64))) (ev : Evo t W t' W' (· = 10 + nds.length)) : Lk w g l xs N t' nv nds cur q' W' := by
  have hl := h.rows.lt
  refine ⟨h.ev.trans (ev.mono fun _ h => by omega),h.rows.keep (ev.block _ hl (by rw [h.gt]; omega)),(ev.tag _ hl).trans h.gt,h.outer.keep ev (by omega),fun i v nd h1 h2 => ?_,hr⟩
  have hi := (List.getElem?_eq_some_iff.1 h1).1
  exact (h.inner i v nd h1 h2).keep ev (by omega)
/-- The outer row takes the field's. -/
theorem Lk.next (h : Lk w g l xs N t nv nds cur q W) {nv' : Value} (hq : N[nds.length]? = some q) (hr : Row t' 1 W' 32 1 nv' (nds.length + 1) (nds ++ [cur])) (ev : Evo t W t' W' (· = 1)) : Lk w g l xs N t' nv' (nds ++ [cur]) nilS [] W' := by
  have hl := h.rows.lt
  refine ⟨h.ev.trans (ev.mono fun _ h => by rw [h]; decide),(h.rows.keep (ev.block _ hl (by rw [h.gt]; decide))).nil,(ev.tag _ hl).trans h.gt,by simpa using hr,fun i v nd h1 h2 => ?_,Row.nil _ _ _ _ _⟩
  rw [List.getElem?_append] at h1
  by_cases hi : i < nds.length
  · rw [if_pos hi] at h1
    exact (h.inner i v nd h1 h2).keep ev (by omega)
  · rw [if_neg hi] at h1
    have hz : i = nds.length := by
      have := (List.getElem?_eq_some_iff.1 h1).1
      simp at this; omega
    subst hz
    simp at h1
    subst h1
    rw [hq] at h2
    cases h2
    exact h.own.keep ev (by omega)
end
end Go.Proofs.YtpfhhikbaeknpaaGreatDoor
