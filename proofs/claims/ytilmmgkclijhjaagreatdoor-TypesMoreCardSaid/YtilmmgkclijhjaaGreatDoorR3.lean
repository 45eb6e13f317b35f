/- From arguments as data to what the walks ask: values, rows of values, of texts, of numbers, expressions. Condition: the data read from the world. -/
import Derived.Test.YtilmmgkclijhjaaGreatDoorR1
import Derived.Test.YtilmmgkclijhjaaGreatDoorEA
import Derived.ProofKit
import Derived.OpenShut
import Derived.SliceStrings
set_option linter.unusedSimpArgs false
set_option linter.unusedVariables false
namespace Pal
open Go Go.RowKit Go.ChangeShapes Go.WideShapes Go.ChangeAt
theorem len3 {α : Type} {l : List α} (h : l.length = 3) : ∃ a b c, l = [a, b, c] := by
  match l, h with | [a, b, c], _ => exact ⟨a, b, c, rfl⟩
theorem len4 {α : Type} {l : List α} (h : l.length = 4) : ∃ a b c d, l = [a, b, c, d] := by
  match l, h with | [a, b, c, d], _ => exact ⟨a, b, c, d, rfl⟩
/-- A row as data: each element's cells, and that they read. -/
theorem row_open {H : Type} {enc : TypeId × Value → H} {P : Program} {W : World} {sp : Nat → Bool} {held : Bool} {t e : TypeId} {c fuel : Nat} {cs : List Value} {x : DataW H × List MemPlace}
    (ht : P.underlying t = some (.slice e)) (hc : P.cellsOf e = c) (hpos : 0 < c) (h : DataW.trod enc P W 0 sp held fuel t cs = some x) :
    cs = [.slice none 0 0] ∨ ∃ a len cap n, fuel = n + 1 ∧ cs = [.slice (some a) len cap] ∧ len ≤ cap ∧ cap ≤ maxLen ∧
      ∀ i, i < len → a = ⟨a.block, a.off, none⟩ ∧ ∃ ci y, ci.length = c ∧ DataW.trod enc P W 0 sp held n e ci = some y ∧ ∀ j, j < c → W.cell? ⟨a.block, a.off + i * c + j, none⟩ = ci[j]? := by
  rcases DataW.trod_slice ht h with ⟨h0, _⟩ | ⟨a, len, cap, elems, rest, n, hf, rfl, rfl, _, hl, hm, hlen, hel, _, _⟩
  · exact .inl h0
  right
  have key : ∀ i, i < len → ∃ ci y, ci.length = c ∧ DataW.trod enc P W 0 sp held n e ci = some y ∧ ∀ j, j < c → W.cell? ((a.add (i * c)).add j) = ci[j]? := by
    intro i hi
    have h1 := hel i hi
    rw [hc, List.getElem?_eq_getElem (by omega)] at h1
    obtain ⟨ci, h2, h3⟩ := Option.bind_eq_some_iff.1 h1
    obtain ⟨_, h4, h5⟩ := World.cells?_some h2
    exact ⟨ci, _, h4, h3, h5⟩
  refine ⟨a, len, cap, n, hf, rfl, hl, hm, fun i hi => ?_⟩
  have hs : a.spot = none := by
    obtain ⟨ci, y, h1, _, h2⟩ := key 0 (by omega)
    have h3 := h2 0 hpos
    rw [List.getElem?_eq_getElem (by omega)] at h3
    simpa [Addr.add] using World.cell?_spot h3
  obtain ⟨b, off, spt⟩ := a
  simp at hs
  subst hs
  obtain ⟨ci, y, h1, h2, h3⟩ := key i hi
  refine ⟨rfl, ci, y, h1, h2, fun j hj => ?_⟩
  have := h3 j hj
  rwa [add_plain, add_plain] at this
end Pal
namespace Go.Proofs.YtilmmgkclijhjaaGreatDoor
open Go Go.RowKit Go.ChangeShapes Go.WideShapes Go.ChangeAt Pal
def I64 (x : Int) : Prop := -9223372036854775808 ≤ x ∧ x ≤ 9223372036854775807
theorem size_len (s : ByteArray) : s.size = s.data.toList.length := rfl
section
variable {H : Type} {enc : TypeId × Value → H} {W : World} {sp : Nat → Bool} {held : Bool} {fuel : Nat} {cs : List Value} {x : DataW H × List MemPlace}
/-- A value's cells. -/
theorem val_trod (h : DataW.trod enc Tryz.prog W 0 sp held fuel 55 cs = some x) :
    ∃ v : Val, cs = [.int .i64 v.k, .int .i64 v.n, strV v.s] ∧ I64 v.k ∧ I64 v.n ∧ v.s.length ≤ 9223372036854775807 := by
  obtain ⟨xs, m, _, _, hl, hsz, hf⟩ := DataW.trod_struct Tryz.underlying55 h
  rw [show Tryz.prog.cellsOf 55 = 3 by kernel_rfl] at hl
  obtain ⟨a, b, c, rfl⟩ := len3 hl
  have z : xs.length = 3 := hsz
  have h0 : DataW.trod enc Tryz.prog W 0 sp held m 3 (([a, b, c].drop 0).take (Tryz.prog.cellsOf 3)) = xs[0]? := hf 0 _ rfl
  have h1 : DataW.trod enc Tryz.prog W 0 sp held m 2 (([a, b, c].drop 1).take (Tryz.prog.cellsOf 2)) = xs[1]? := hf 1 _ rfl
  have h2 : DataW.trod enc Tryz.prog W 0 sp held m 9 (([a, b, c].drop 2).take (Tryz.prog.cellsOf 9)) = xs[2]? := hf 2 _ rfl
  rw [List.getElem?_eq_getElem (by omega)] at h0 h1 h2
  rw [show Tryz.prog.cellsOf 3 = 1 by kernel_rfl] at h0
  rw [show Tryz.prog.cellsOf 2 = 1 by kernel_rfl] at h1
  rw [show Tryz.prog.cellsOf 9 = 1 by kernel_rfl] at h2
  obtain ⟨k, e0, _, w0⟩ := DataW.trod_int Tryz.underlying3 h0
  obtain ⟨n, e1, _, w1⟩ := DataW.trod_int Tryz.underlying2 h1
  obtain ⟨s, e2, _, w2⟩ := DataW.trod_string Tryz.underlying9 h2
  simp at e0 e1 e2
  subst e0 e1 e2
  refine ⟨⟨k, n, s.data.toList⟩, by simp only [strV_data], wf_i64 w0, wf_i64 w1, ?_⟩
  rw [size_len] at w2
  unfold maxLen at w2
  simpa using w2
/-- An expression's cells; its kids, all the way down. -/
inductive Fine0 : Ex → Prop
  | mk (op n : Int) (s : Bs) (ks : List Ex) (ho : I64 op) (hn : I64 n) (hs : s.length ≤ 9223372036854775807) (hk : ∀ k ∈ ks, Fine0 k) : Fine0 (.mk op n s ks)
theorem ex_trod : ∀ (fuel : Nat) (cs : List Value) (x : DataW H × List MemPlace), DataW.trod enc Tryz.prog W 0 sp held fuel 24 cs = some x →
    ∃ (e : Ex) (kv : Value), cs = [.int .i64 e.op, .int .i64 e.n, strV e.s, kv] ∧ KV (gh W) kv e.ks ∧ Fine0 e := by
  intro fuel
  induction fuel using Nat.strongRecOn with
  | ind fuel ih =>
  intro cs x h
  obtain ⟨xs, m, hfu, _, hl, hsz, hf⟩ := DataW.trod_struct Tryz.underlying24 h
  rw [show Tryz.prog.cellsOf 24 = 4 by kernel_rfl] at hl
  obtain ⟨a, b, c, d, rfl⟩ := len4 hl
  have z : xs.length = 4 := hsz
  have h0 : DataW.trod enc Tryz.prog W 0 sp held m 3 (([a, b, c, d].drop 0).take (Tryz.prog.cellsOf 3)) = xs[0]? := hf 0 _ rfl
  have h1 : DataW.trod enc Tryz.prog W 0 sp held m 2 (([a, b, c, d].drop 1).take (Tryz.prog.cellsOf 2)) = xs[1]? := hf 1 _ rfl
  have h2 : DataW.trod enc Tryz.prog W 0 sp held m 9 (([a, b, c, d].drop 2).take (Tryz.prog.cellsOf 9)) = xs[2]? := hf 2 _ rfl
  have h3 : DataW.trod enc Tryz.prog W 0 sp held m 22 (([a, b, c, d].drop 3).take (Tryz.prog.cellsOf 22)) = xs[3]? := hf 3 _ rfl
  rw [List.getElem?_eq_getElem (by omega)] at h0 h1 h2 h3
  rw [show Tryz.prog.cellsOf 3 = 1 by kernel_rfl] at h0
  rw [show Tryz.prog.cellsOf 2 = 1 by kernel_rfl] at h1
  rw [show Tryz.prog.cellsOf 9 = 1 by kernel_rfl] at h2
  rw [show Tryz.prog.cellsOf 22 = 1 by kernel_rfl] at h3
  obtain ⟨k, e0, _, w0⟩ := DataW.trod_int Tryz.underlying3 h0
  obtain ⟨n, e1, _, w1⟩ := DataW.trod_int Tryz.underlying2 h1
  obtain ⟨s, e2, _, w2⟩ := DataW.trod_string Tryz.underlying9 h2
  simp at e0 e1 e2
  subst e0 e1 e2
  have w2' : s.data.toList.length ≤ 9223372036854775807 := by
    rw [size_len] at w2
    unfold maxLen at w2
    simpa using w2
  have kids : ∃ ks : List Ex, KV (gh W) d ks ∧ ∀ k ∈ ks, Fine0 k := by
    rcases row_open Tryz.underlying22 (c := 4) (by kernel_rfl) (by decide) h3 with he | ⟨ad, len, cap, n', hn', he, hlc, hcm, hel⟩
    · simp at he
      subst he
      exact ⟨[], KV.nil _, by simp⟩
    · simp at he
      subst he
      have hq : ∀ i, ∃ q : Ex × Value, i < len → ad = ⟨ad.block, ad.off, none⟩ ∧ (W.cell? ⟨ad.block, ad.off + i * 4, none⟩ = some (.int .i64 q.1.op) ∧ W.cell? ⟨ad.block, ad.off + i * 4 + 1, none⟩ = some (.int .i64 q.1.n) ∧ W.cell? ⟨ad.block, ad.off + i * 4 + 2, none⟩ = some (strV q.1.s) ∧ W.cell? ⟨ad.block, ad.off + i * 4 + 3, none⟩ = some q.2) ∧ KV (gh W) q.2 q.1.ks ∧ Fine0 q.1 := by
        intro i
        by_cases hi : i < len
        · obtain ⟨ha, ci, y, hcl, hy, hcells⟩ := hel i hi
          obtain ⟨e, kv, rfl, hkv, hfi⟩ := ih n' (by omega) ci y hy
          exact ⟨(e, kv), fun _ => ⟨ha, ⟨hcells 0 (by omega), hcells 1 (by omega), hcells 2 (by omega), hcells 3 (by omega)⟩, hkv, hfi⟩⟩
        · exact ⟨(.mk 0 0 [] [], .nilIface), fun h => absurd h hi⟩
      obtain ⟨q, hq⟩ := Classical.axiomOfChoice hq
      have hlen : ((List.range len).map fun i => (q i).1).length = len := by simp
      have hget : ∀ (j : Nat) (k : Ex), ((List.range len).map fun i => (q i).1)[j]? = some k → j < len ∧ k = (q j).1 := by
        intro j k hj
        have hlt := (List.getElem?_eq_some_iff.1 hj).1
        rw [hlen] at hlt
        rw [List.getElem?_map, List.getElem?_range hlt] at hj
        simp at hj
        exact ⟨hlt, hj.symm⟩
      refine ⟨(List.range len).map fun i => (q i).1, ?_, ?_⟩
      · have := KV.mk (h := gh W) ((List.range len).map fun i => (q i).1) (some ad) cap (fun j => (q j).2) (fun h => by cases h) (by rw [hlen]; exact hlc) hcm ?_ ?_
        · rw [hlen] at this; exact this
        · intro j k hj
          obtain ⟨hlt, rfl⟩ := hget j k hj
          obtain ⟨ha, ⟨c0, c1, c2, c3⟩, _, _⟩ := hq j hlt
          exact ⟨ad.block, ad.off, by rw [← ha], by rw [gh_cell]; exact c0, by rw [gh_cell]; exact c1, by rw [gh_cell]; exact c2, by rw [gh_cell]; exact c3⟩
        · intro j k hj
          obtain ⟨hlt, rfl⟩ := hget j k hj
          exact (hq j hlt).2.2.1
      · intro k hk
        obtain ⟨j, hj⟩ := List.getElem?_of_mem hk
        obtain ⟨hlt, rfl⟩ := hget j k hj
        exact (hq j hlt).2.2.2
  obtain ⟨ks, hkv, hfk⟩ := kids
  exact ⟨.mk k n s.data.toList ks, d, by simp only [Ex.op, Ex.n, Ex.s, strV_data], hkv, .mk _ _ _ _ (wf_i64 w0) (wf_i64 w1) w2' hfk⟩
theorem strs_trod (h : DataW.trod enc Tryz.prog W 0 sp held fuel 25 cs = some x) :
    ∃ (v : Value) (l : List Bs), cs = [v] ∧ StrsV (gh W) v l ∧ ∀ s ∈ l, s.length ≤ 9223372036854775807 := by
  rcases row_open Tryz.underlying25 (c := 1) (by kernel_rfl) (by decide) h with he | ⟨ad, len, cap, n', hn', he, hlc, hcm, hel⟩
  · exact ⟨_, [], he, ⟨none, 0, rfl, fun _ => rfl, Nat.le_refl _, by simp [maxLen], fun j s hj => by simp at hj⟩, by simp⟩
  · have hq : ∀ i, ∃ q : Bs, i < len → ad = ⟨ad.block, ad.off, none⟩ ∧ W.cell? ⟨ad.block, ad.off + i, none⟩ = some (strV q) ∧ q.length ≤ 9223372036854775807 := by
      intro i
      by_cases hi : i < len
      · obtain ⟨ha, ci, y, hcl, hy, hcells⟩ := hel i hi
        obtain ⟨s, rfl, _, hs⟩ := DataW.trod_string Tryz.underlying9 hy
        refine ⟨s.data.toList, fun _ => ⟨ha, ?_, ?_⟩⟩
        · have := hcells 0 (by omega)
          rw [strV_data]
          simpa using this
        · rw [size_len] at hs
          unfold maxLen at hs
          simpa using hs
      · exact ⟨[], fun h => absurd h hi⟩
    obtain ⟨q, hq⟩ := Classical.axiomOfChoice hq
    have hlen : ((List.range len).map q).length = len := by simp
    have hget : ∀ (j : Nat) (k : Bs), ((List.range len).map q)[j]? = some k → j < len ∧ k = q j := by
      intro j k hj
      have hlt := (List.getElem?_eq_some_iff.1 hj).1
      rw [hlen] at hlt
      rw [List.getElem?_map, List.getElem?_range hlt] at hj
      simp at hj
      exact ⟨hlt, hj.symm⟩
    refine ⟨_, (List.range len).map q, he, ⟨some ad, cap, by rw [hlen], (fun h => by cases h), by rw [hlen]; exact hlc, hcm, fun j k hj => ?_⟩, fun k hk => ?_⟩
    · obtain ⟨hlt, rfl⟩ := hget j k hj
      obtain ⟨ha, c0, _⟩ := hq j hlt
      exact ⟨ad.block, ad.off, by rw [← ha], by rw [gh_cell]; exact c0⟩
    · obtain ⟨j, hj⟩ := List.getElem?_of_mem hk
      obtain ⟨hlt, rfl⟩ := hget j k hj
      exact (hq j hlt).2.2
/-- A slice of numbers, as long as it likes. -/
def NumsV (h : GH) (v : Value) (l : List Int) : Prop := ∃ a cap, v = .slice a l.length cap ∧ (a = none → l = [] ∧ cap = 0) ∧ l.length ≤ cap ∧ cap ≤ maxLen ∧ ∀ j x, l[j]? = some x → ∃ b off, a = some ⟨b, off, none⟩ ∧ h.cell b (off + j) = some (.int .i64 x)
theorem ints_trod (h : DataW.trod enc Tryz.prog W 0 sp held fuel 26 cs = some x) :
    ∃ (v : Value) (l : List Int), cs = [v] ∧ NumsV (gh W) v l ∧ ∀ s ∈ l, I64 s := by
  rcases row_open Tryz.underlying26 (c := 1) (by kernel_rfl) (by decide) h with he | ⟨ad, len, cap, n', hn', he, hlc, hcm, hel⟩
  · exact ⟨_, [], he, ⟨none, 0, rfl, fun _ => ⟨rfl, rfl⟩, Nat.le_refl _, by simp [maxLen], fun j s hj => by simp at hj⟩, by simp⟩
  · have hq : ∀ i, ∃ q : Int, i < len → ad = ⟨ad.block, ad.off, none⟩ ∧ W.cell? ⟨ad.block, ad.off + i, none⟩ = some (.int .i64 q) ∧ I64 q := by
      intro i
      by_cases hi : i < len
      · obtain ⟨ha, ci, y, hcl, hy, hcells⟩ := hel i hi
        obtain ⟨s, rfl, _, hs⟩ := DataW.trod_int Tryz.underlying3 hy
        refine ⟨s, fun _ => ⟨ha, ?_, wf_i64 hs⟩⟩
        have := hcells 0 (by omega)
        simpa using this
      · exact ⟨0, fun h => absurd h hi⟩
    obtain ⟨q, hq⟩ := Classical.axiomOfChoice hq
    have hlen : ((List.range len).map q).length = len := by simp
    have hget : ∀ (j : Nat) (k : Int), ((List.range len).map q)[j]? = some k → j < len ∧ k = q j := by
      intro j k hj
      have hlt := (List.getElem?_eq_some_iff.1 hj).1
      rw [hlen] at hlt
      rw [List.getElem?_map, List.getElem?_range hlt] at hj
      simp at hj
      exact ⟨hlt, hj.symm⟩
    refine ⟨_, (List.range len).map q, he, ⟨some ad, cap, by rw [hlen], (fun h => by cases h), by rw [hlen]; exact hlc, hcm, fun j k hj => ?_⟩, fun k hk => ?_⟩
    · obtain ⟨hlt, rfl⟩ := hget j k hj
      obtain ⟨ha, c0, _⟩ := hq j hlt
      exact ⟨ad.block, ad.off, by rw [← ha], by rw [gh_cell]; exact c0⟩
    · obtain ⟨j, hj⟩ := List.getElem?_of_mem hk
      obtain ⟨hlt, rfl⟩ := hget j k hj
      exact (hq j hlt).2.2
end
section
variable {H : Type} {enc : TypeId × Value → H} {W : World} {r : Go.Reach} {b0 : Nat} {v : Value} {d : DataW H} {ps : List MemPlace}
set_option maxRecDepth 1000000 in
theorem val_open (hval : Value.okWide Tryz.prog W r b0 55 v) (h : DataW.Trod enc Tryz.prog W 0 (fun _ => true) true 55 v d ps) :
    ∃ x : Val, v = valV x ∧ I64 x.k ∧ I64 x.n ∧ x.s.length ≤ 9223372036854775807 := by
  obtain ⟨cs, rfl, _⟩ := okWide_struct Tryz.underlying55 hval
  obtain ⟨fuel, hf⟩ := h
  obtain ⟨x, hx, hr⟩ := val_trod hf
  refine ⟨x, ?_, hr⟩
  unfold valV
  simp [Value.cells] at hx
  congr 1
  exact Array.ext' (by simpa using hx)
set_option maxRecDepth 1000000 in
theorem ex_open (hval : Value.okWide Tryz.prog W r b0 24 v) (h : DataW.Trod enc Tryz.prog W 0 (fun _ => true) true 24 v d ps) :
    ∃ e : Ex, EV (gh W) v e ∧ Fine0 e := by
  obtain ⟨cs, rfl, _⟩ := okWide_struct Tryz.underlying24 hval
  obtain ⟨fuel, hf⟩ := h
  obtain ⟨e, kv, hx, hk, hr⟩ := ex_trod fuel _ _ hf
  refine ⟨e, ⟨kv, ?_, hk⟩, hr⟩
  unfold exV
  simp [Value.cells] at hx
  congr 1
  exact Array.ext' (by simpa using hx)
set_option maxRecDepth 1000000 in
theorem strs_open (hval : Value.okWide Tryz.prog W r b0 25 v) (h : DataW.Trod enc Tryz.prog W 0 (fun _ => true) true 25 v d ps) :
    ∃ l : List Bs, StrsV (gh W) v l ∧ ∀ s ∈ l, s.length ≤ 9223372036854775807 := by
  obtain ⟨a, len, cap, rfl⟩ := okWide_slice Tryz.underlying25 hval
  obtain ⟨fuel, hf⟩ := h
  obtain ⟨v, l, hx, hv⟩ := strs_trod hf
  simp [Value.cells] at hx
  subst hx
  exact ⟨l, hv⟩
set_option maxRecDepth 1000000 in
theorem ints_open (hval : Value.okWide Tryz.prog W r b0 26 v) (h : DataW.Trod enc Tryz.prog W 0 (fun _ => true) true 26 v d ps) :
    ∃ l : List Int, NumsV (gh W) v l ∧ ∀ s ∈ l, I64 s := by
  obtain ⟨a, len, cap, rfl⟩ := okWide_slice Tryz.underlying26 hval
  obtain ⟨fuel, hf⟩ := h
  obtain ⟨v, l, hx, hv⟩ := ints_trod hf
  simp [Value.cells] at hx
  subst hx
  exact ⟨l, hv⟩
end
end Go.Proofs.YtilmmgkclijhjaaGreatDoor
