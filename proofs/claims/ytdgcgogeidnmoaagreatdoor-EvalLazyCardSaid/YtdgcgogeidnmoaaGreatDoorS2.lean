/- The walks of value.Show (of texts), lex.Quote, strings.Join over a slice that reads as texts. Condition: the tables hold what they are laid with. -/
import Derived.Test.YtdgcgogeidnmoaaGreatDoorVs
import Derived.Lib.LaidTab
import Derived.Lib.SmallJoins
import Derived.Lib.AppendIntMem
set_option linter.unusedSimpArgs false
set_option linter.unusedVariables false
namespace Go.Proofs.YtdgcgogeidnmoaaGreatDoor
open Go.RowKit Pal
/-- What the tables hold, the powers of ten too. -/
structure Lay2 (w : World) : Prop where
  lay : Lay (gh w)
  pow : Lib.TabIs Tryz.prog w "internal/strconv.uint64pow10" .u64 Lib.pow10Tab
theorem pow_name : Tryz.prog.globalNamed "internal/strconv.uint64pow10" = some 2 := by kernel_rfl
theorem Lay2.below {w w' : World} (l : Lay2 w) (hb : Below w.heap.size w w') : Lay2 w' := ⟨l.lay.below hb, Go.Joins.tab_stays pow_name l.pow hb (Nat.le_refl _)⟩
def strPost (l : Bs) (w : World) (e : Ending) (w' : World) : Prop := e = .returned (strV l) ∧ Below w.heap.size w w'
theorem formatInt_any (n : Int) (h : -9223372036854775808 ≤ n ∧ n ≤ 9223372036854775807) (w : World) (hL : Lay2 w) :
    Calls Tryz.prog 111 #[.int .i64 n, .int .i64 10] w (strPost (Lib.itoa n) w) := by
  refine (Tryz.strconv_FormatInt_10 n h.1 h.2 w hL.pow).mono ?_
  rintro e w' ⟨rfl, k, os, rfl⟩
  exact ⟨rfl, Lib.below_grow _ w (Nat.le_refl _) k os⟩
theorem formatBool_any (b : Bool) (w : World) : Calls Tryz.prog 113 #[.bool b] w (strPost (Lib.formatBool b) w) := by
  refine (Tryz.strconv_FormatBool b w).mono ?_
  rintro e w' ⟨rfl, rfl⟩
  exact ⟨rfl, Below.refl _ _⟩
theorem strs_map (l : List Bs) : (l.map fun x => (⟨x.toArray⟩ : ByteArray)).map (·.data.toList) = l := by
  rw [List.map_map]
  have : ((fun x : ByteArray => x.data.toList) ∘ fun x : Bs => (⟨x.toArray⟩ : ByteArray)) = id := by funext x; simp
  rw [this, List.map_id]
theorem join_any (l : List Bs) (sep : Bs) (v : Value) (w : World) (hS : StrsV (gh w) v l) (hm : (Lib.join l sep).length ≤ 140737488355328) (hl : l.length ≤ 140737488355328) :
    Calls Tryz.prog 110 #[v, .string ⟨sep.toArray⟩] w (strPost (Lib.join l sep) w) := by
  obtain ⟨a, cap, rfl, hn, hc, hM, hx⟩ := hS
  cases l with
  | nil =>
    refine (Tryz.strings_Join_none a cap ⟨sep.toArray⟩ w).mono ?_
    rintro e w' ⟨rfl, rfl⟩
    exact ⟨rfl, Below.refl _ _⟩
  | cons s r =>
    obtain ⟨b, off, rfl, h0⟩ := hx 0 s rfl
    rw [gh_cell] at h0
    have hlt := World.block_lt_of_cell? w _ h0
    have e1 : (s :: r).length = ((s :: r).map fun x => (⟨x.toArray⟩ : ByteArray)).length := by simp
    have hj := Tryz.strings_Join b off cap ((s :: r).map fun x => (⟨x.toArray⟩ : ByteArray)) ⟨sep.toArray⟩ w (fun j x hj => by
      rw [List.getElem?_map, Option.map_eq_some_iff] at hj
      obtain ⟨y, hy, rfl⟩ := hj
      obtain ⟨b', off', he, hcc⟩ := hx j y hy
      simp only [Option.some.injEq, Addr.mk.injEq, and_true] at he
      obtain ⟨rfl, rfl⟩ := he
      rw [gh_cell] at hcc
      exact hcc) hlt (by simpa using hl) (by simpa using hc) (by rw [strs_map]; exact hm)
    rw [← e1, strs_map] at hj
    exact hj.mono fun e w' h => ⟨h.1, h.2⟩
set_option maxRecDepth 1000000 in
set_option maxHeartbeats 4000000 in
theorem show_text (s : Bs) (w : World) (hm : s.length ≤ 1000000) :
    Calls Tryz.prog 165 #[.agg #[.int .i64 3, .int .i64 0, strV s]] w (strPost (quoteB s) w) := by
  have hb : ∀ o, Below w.heap.size w (w.alloc o) := fun o => (Below.refl w.heap.size w).alloc (Nat.le_refl _) o
  have HB := Lib.hid hb
  have HQ := Lib.hid (fun w => quoted_any ⟨s.toArray⟩ w (by show s.toArray.size ≤ _; simpa using hm))
  clear hb
  unfold strV
  go_enter Tryz.func165, Tryz.ntmps165
  go_wp2_with fail
  refine (HQ.out _).mono ?_
  rintro e W ⟨rfl, hb1⟩
  have hb2 := (HB.out _).seq hb1
  go_wp2
  go_ret
  exact ⟨rfl, hb2⟩
set_option maxRecDepth 1000000 in
set_option maxHeartbeats 4000000 in
theorem quote_any (s : Bs) (w : World) (hm : s.length ≤ 1000000) :
    Calls Tryz.prog 112 #[strV s] w (strPost (quoteB s) w) := by
  have HQ := Lib.hid (fun w => show_text s w hm)
  unfold strV at *
  go_enter Tryz.func112, Tryz.ntmps112
  go_wp2_with fail
  refine (HQ.out _).mono ?_
  rintro e W ⟨rfl, hb1⟩
  go_wp2
  go_ret
  exact ⟨rfl, hb1⟩
/-- A row of texts that the call owns reads as a slice. -/
theorem StrsV.ofRow {t : Tag} {k : Nat} {w : World} {e : TypeId} {v : Value} {n : Nat} {l : List Bs} (h : Row t k w e 1 v n (l.map strV)) : StrsV (gh w) v l ∧ n = l.length := by
  have hn : n = l.length := by have := h.len; simp at this; omega
  subst hn
  refine ⟨?_, rfl⟩
  rcases h.own.2 with ⟨rfl, hn⟩ | ⟨g, cap, cur, rfl, hb, hg, hn, hc, hs, ht⟩
  · exact ⟨none, 0, by rw [hn], fun _ => List.eq_nil_of_length_eq_zero hn, by omega, by simp [maxLen], fun j s hj => by have := (List.getElem?_eq_some_iff.1 hj).1; omega⟩
  · refine ⟨_, cap, rfl, fun h => (by cases h), hn, hc, fun j s hj => ?_⟩
    obtain ⟨g', cap', hv, _, _, hcc, _⟩ := h.get (j := j) (x := strV s) (by rw [List.getElem?_map, hj]; rfl)
    simp only [Value.slice.injEq, Option.some.injEq, Addr.mk.injEq, and_true, true_and] at hv
    obtain ⟨rfl, _⟩ := hv
    exact ⟨g, 0, rfl, by rw [gh_cell, Nat.zero_add]; exact hcc⟩
theorem infoStr : (Tryz.prog.info? 9).map (fun i => (i.zero, i.size, i.bytes)) = some (some (.string ⟨#[]⟩), 1, 16) := by kernel_rfl
end Go.Proofs.YtdgcgogeidnmoaaGreatDoor
