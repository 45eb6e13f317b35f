/- From fields as data to what the walks ask. Condition: the data read from the world. -/
import Derived.Test.YtpfhhikbaeknpaaGreatDoorR3
import Derived.Test.YtpfhhikbaeknpaaGreatDoorSE
import Derived.ProofKit
import Derived.OpenShut
import Derived.SliceStrings
set_option linter.unusedSimpArgs false
set_option linter.unusedVariables false
namespace Go.Proofs.YtpfhhikbaeknpaaGreatDoor
open Go Go.RowKit Go.ChangeShapes Go.WideShapes Go.ChangeAt Pal
theorem len5 {α : Type} {l : List α} (h : l.length = 5) : ∃ a b c d e, l = [a, b, c, d, e] := by
  match l, h with | [a, b, c, d, e], _ => exact ⟨a, b, c, d, e, rfl⟩
structure Fd0 (f : Fd) : Prop where
  n : f.n.length ≤ 9223372036854775807
  t : I64 f.t
  fo : f.fo.length ≤ 9223372036854775807
  ru : f.ru.length ≤ 9223372036854775807
  sh : f.sh.length ≤ 9223372036854775807
section
variable {H : Type} {enc : TypeId × Value → H} {W : World} {sp : Nat → Bool} {held : Bool} {fuel : Nat} {cs : List Value} {x : DataW H × List MemPlace}
theorem str_le {s : ByteArray} (w : s.size ≤ maxLen) : s.data.toList.length ≤ 9223372036854775807 := by
  rw [size_len] at w
  unfold maxLen at w
  simpa using w
/-- A field's cells. -/
theorem fd_trod (h : DataW.trod enc Tryz.prog W 0 sp held fuel 27 cs = some x) : ∃ f : Fd, cs = inCells f ∧ Fd0 f := by
  obtain ⟨xs, m, _, _, hl, hsz, hf⟩ := DataW.trod_struct Tryz.underlying27 h
  rw [show Tryz.prog.cellsOf 27 = 5 by kernel_rfl] at hl
  obtain ⟨a, b, c, d, e, rfl⟩ := len5 hl
  have z : xs.length = 5 := hsz
  have h0 : DataW.trod enc Tryz.prog W 0 sp held m 9 (([a, b, c, d, e].drop 0).take (Tryz.prog.cellsOf 9)) = xs[0]? := hf 0 _ rfl
  have h1 : DataW.trod enc Tryz.prog W 0 sp held m 3 (([a, b, c, d, e].drop 1).take (Tryz.prog.cellsOf 3)) = xs[1]? := hf 1 _ rfl
  have h2 : DataW.trod enc Tryz.prog W 0 sp held m 9 (([a, b, c, d, e].drop 2).take (Tryz.prog.cellsOf 9)) = xs[2]? := hf 2 _ rfl
  have h3 : DataW.trod enc Tryz.prog W 0 sp held m 9 (([a, b, c, d, e].drop 3).take (Tryz.prog.cellsOf 9)) = xs[3]? := hf 3 _ rfl
  have h4 : DataW.trod enc Tryz.prog W 0 sp held m 9 (([a, b, c, d, e].drop 4).take (Tryz.prog.cellsOf 9)) = xs[4]? := hf 4 _ rfl
  rw [List.getElem?_eq_getElem (by omega)] at h0 h1 h2 h3 h4
  rw [show Tryz.prog.cellsOf 9 = 1 by kernel_rfl] at h0 h2 h3 h4
  rw [show Tryz.prog.cellsOf 3 = 1 by kernel_rfl] at h1
  obtain ⟨s0, e0, _, w0⟩ := DataW.trod_string Tryz.underlying9 h0
  obtain ⟨k, e1, _, w1⟩ := DataW.trod_int Tryz.underlying3 h1
  obtain ⟨s2, e2, _, w2⟩ := DataW.trod_string Tryz.underlying9 h2
  obtain ⟨s3, e3, _, w3⟩ := DataW.trod_string Tryz.underlying9 h3
  obtain ⟨s4, e4, _, w4⟩ := DataW.trod_string Tryz.underlying9 h4
  simp at e0 e1 e2 e3 e4
  subst e0 e1 e2 e3 e4
  exact ⟨⟨s0.data.toList, k, s2.data.toList, s3.data.toList, s4.data.toList⟩, by simp [inCells], str_le w0, wf_i64 w1, str_le w2, str_le w3, str_le w4⟩
theorem fds_trod (h : DataW.trod enc Tryz.prog W 0 sp held fuel 25 cs = some x) :
    ∃ (v : Value) (l : List Fd), cs = [v] ∧ (FdsV (gh W) v l ∧ l.length ≤ 9223372036854775807) ∧ ∀ f ∈ l, Fd0 f := by
  rcases row_open Tryz.underlying25 (c := 5) (by kernel_rfl) (by decide) h with he | ⟨ad, len, cap, n', hn', he, hlc, hcm, hel⟩
  · exact ⟨_, [], he, ⟨⟨none, 0, rfl, fun _ => ⟨rfl, rfl⟩, Nat.le_refl _, by simp [maxLen], fun j c x hj => by simp at hj⟩, by simp⟩, by simp⟩
  · have hq : ∀ i, ∃ q : Fd, i < len → ad = ⟨ad.block, ad.off, none⟩ ∧ (∀ j, j < 5 → W.cell? ⟨ad.block, ad.off + i * 5 + j, none⟩ = (inCells q)[j]?) ∧ Fd0 q := by
      intro i
      by_cases hi : i < len
      · obtain ⟨ha, ci, y, hcl, hy, hcells⟩ := hel i hi
        obtain ⟨v, rfl, hv⟩ := fd_trod hy
        exact ⟨v, fun _ => ⟨ha, hcells, hv⟩⟩
      · exact ⟨noFd, fun h => absurd h hi⟩
    obtain ⟨q, hq⟩ := Classical.axiomOfChoice hq
    have hlen : ((List.range len).map q).length = len := by simp
    have hcm2 : len ≤ 9223372036854775807 := by unfold maxLen at hcm; omega
    have hget : ∀ (j : Nat) (k : Fd), ((List.range len).map q)[j]? = some k → j < len ∧ k = q j := by
      intro j k hj
      have hlt := (List.getElem?_eq_some_iff.1 hj).1
      rw [hlen] at hlt
      rw [List.getElem?_map, List.getElem?_range hlt] at hj
      simp at hj
      exact ⟨hlt, hj.symm⟩
    refine ⟨_, (List.range len).map q, he, ⟨⟨some ad, cap, by rw [hlen], (fun h => by cases h), by rw [hlen]; exact hlc, hcm, fun j c x hj hc => ?_⟩, by rw [hlen]; exact hcm2⟩, fun k hk => ?_⟩
    · have hjl : j < len := by rwa [hlen] at hj
      have hd : ((List.range len).map q).getD j noFd = q j := by simp [List.getD, hjl]
      have hc' : (inCells (q j))[c]? = some x := by rw [← hd]; exact hc
      have hcl : c < 5 := (List.getElem?_eq_some_iff.1 hc').1
      obtain ⟨ha, hcc, _⟩ := hq j hjl
      refine ⟨ad.block, ad.off, by rw [← ha], ?_⟩
      rw [gh_cell, show ad.off + (5 * j + c) = ad.off + j * 5 + c by omega, hcc c hcl]
      exact hc'
    · obtain ⟨j, hj⟩ := List.getElem?_of_mem hk
      obtain ⟨hlt, rfl⟩ := hget j k hj
      exact (hq j hlt).2.2
end
section
variable {H : Type} {enc : TypeId × Value → H} {W : World} {r : Go.Reach} {b0 : Nat} {v : Value} {d : DataW H} {ps : List MemPlace}
set_option maxRecDepth 1000000 in
theorem fds_open (hval : Value.okWide Tryz.prog W r b0 25 v) (h : DataW.Trod enc Tryz.prog W 0 (fun _ => true) true 25 v d ps) :
    ∃ l : List Fd, (FdsV (gh W) v l ∧ l.length ≤ 9223372036854775807) ∧ ∀ f ∈ l, Fd0 f := by
  obtain ⟨a, len, cap, rfl⟩ := okWide_slice Tryz.underlying25 hval
  obtain ⟨fuel, hf⟩ := h
  obtain ⟨v, l, hx, hv⟩ := fds_trod hf
  simp [Value.cells] at hx
  subst hx
  exact ⟨l, hv⟩
end
end Go.Proofs.YtpfhhikbaeknpaaGreatDoor
