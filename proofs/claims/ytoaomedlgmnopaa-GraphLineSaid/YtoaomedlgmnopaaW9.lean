/- The walk of the closure inside the program's Reach: whoever is new is marked and put on the list of those to look at. -/
import Derived.Test.YtoaomedlgmnopaaW8
import Derived.Test.YtoaomedlgmnopaaM3
namespace Go.Proofs.Ytoaomedlgmnopaa
open Go.RowKit Pal Pal.Graph

structure Cl (t : Tag) (w : World) (gN gI gT N : Nat) (vin vt : Value) (s : List Bool × List Int) : Prop where
  cn : w.cell? ⟨gN, 0, none⟩ = some (.int .i64 (N : Int))
  tn : t gN = 5
  ci : w.cell? ⟨gI, 0, none⟩ = some vin
  ti : t gI = 6
  ct : w.cell? ⟨gT, 0, none⟩ = some vt
  tt : t gT = 7
  ft : w.frozen? ⟨gT, 0, none⟩ = false
  rin : Row t 1 w 4 1 vin N (s.1.map Value.bool)
  rt : Row t 2 w 3 1 vt s.2.length (s.2.map (Value.int .i64))
def KC (k : Nat) : Prop := k = 1 ∨ k = 2 ∨ k = 7
theorem Cl.keep {t t' : Tag} {w w' : World} {gN gI gT N : Nat} {vin vt : Value} {s : List Bool × List Int} {K : Nat → Prop} (h : Cl t w gN gI gT N vin vt s) (ev : Evo t w t' w' K) (h1 : ¬ K 1) (h2 : ¬ K 2) (h5 : ¬ K 5) (h6 : ¬ K 6) (h7 : ¬ K 7) : Cl t' w' gN gI gT N vin vt s := by
  have lt : ∀ g v, w.cell? ⟨g, 0, none⟩ = some v → g < w.heap.size := fun g v h => World.block_lt_of_cell? w _ h
  refine ⟨ev.cell (by rw [h.tn]; exact h5) h.cn, by rw [ev.tag _ (lt _ _ h.cn)]; exact h.tn, ev.cell (by rw [h.ti]; exact h6) h.ci, by rw [ev.tag _ (lt _ _ h.ci)]; exact h.ti, ev.cell (by rw [h.tt]; exact h7) h.ct, by rw [ev.tag _ (lt _ _ h.ct)]; exact h.tt, ?_, h.rin.keep ev h1, h.rt.keep ev h2⟩
  rw [World.frozen?_of_block (w := w) (ev.block gT (lt _ _ h.ct) (by rw [h.tt]; exact h7))]
  exact h.ft

def ClPost (t : Tag) (w : World) (gN gI gT N : Nat) (vin : Value) (s : List Bool × List Int) (e : Ending) (w' : World) : Prop :=
  e = .returned (.tuple #[]) ∧ ∃ t' vt', Evo t w t' w' KC ∧ Cl t' w' gN gI gT N vin vt' s

set_option maxHeartbeats 1000000 in
set_option maxRecDepth 100000 in
theorem closure_any (t : Tag) (w : World) (gN gI gT N : Nat) (gA cA : Nat) (vt v : Value) (s : List Bool × List Int) (xs : List Int) (hN : N ≤ 100) (hs : s.1.length = N) (hpot : s.1.count false + s.2.length ≤ N)
    (hc : Cl t w gN gI gT N (.slice (some ⟨gA, 0, none⟩) N cA) vt s) (hx : IntsV (vw (fun k => k != 1 && k != 2 && k != 7) t w) v xs) :
    Calls Try.prog 25 #[v, .pointer (some ⟨gN, 0, none⟩), .pointer (some ⟨gI, 0, none⟩), .pointer (some ⟨gT, 0, none⟩)] w (ClPost t w gN gI gT N (.slice (some ⟨gA, 0, none⟩) N cA) (pushes N s xs)) := by
  obtain ⟨i0, hi, hz0, hz1, hz2⟩ := info_parts3
  obtain ⟨a, ca, rfl, _, hl, hxc⟩ := hx
  go_enter Try.func25, Try.ntmps25
  go_wp2
  go_step3
  go_wp2
  go_step3
  go_wp2
  go_loopg [9] xs.length (fun g i wr => ∃ k t' vt', k + g = xs.length ∧ i = .int .i64 (k : Nat) ∧ Evo t w t' wr KC ∧ Cl t' wr gN gI gT N (.slice (some ⟨gA, 0, none⟩) N cA) vt' (pushes N s (xs.take k)))
  case atStart => exact ⟨0, t, vt, by omega, rfl, Evo.refl _ _ _, by simpa [pushes] using hc⟩
  case round =>
    clear hc
    obtain ⟨k, t', vt', hkg, rfl, hev, hc⟩ := hrel
    obtain ⟨wo, rfl⟩ : ∃ wo : World, wo = wr := ⟨_, rfl⟩
    cases gk with
    | zero =>
      have hkl : k = xs.length := by omega
      subst hkl
      rw [List.take_length] at hc
      go_wp2
      rw [Exit.noGoto_normal]
      go_end0
      exact ⟨rfl, t', vt', hev, hc⟩
    | succ g1 =>
      have hkl : k < xs.length := by omega
      obtain ⟨x, hxk⟩ : ∃ x, xs[k]? = some x := ⟨_, List.getElem?_eq_getElem hkl⟩
      obtain ⟨b1, o1, rfl, hcx⟩ := hxc k x hxk
      have hle := hev.vw (p := (fun k => k != 1 && k != 2 && k != 7)) (by intro k hk; simp at hk; unfold KC; omega)
      have hcx := (hle.trans (vw_gh _ _ _)).at hcx
      have P := pushed_all N s hs (xs.take k)
      have hps : pushes N s (xs.take (k + 1)) = push N (pushes N s (xs.take k)) x := by
        rw [List.take_add_one, hxk]; exact pushes_snoc _ _ _ _
      have hcn := hc.cn
      have hct := hc.ct
      have hci := hc.ci
      have hft := hc.ft
      have HX := Lib.hid hxk; clear hxk hxc hle
      have HS := Lib.hid hps; clear hps
      obtain ⟨s1, hs1⟩ : ∃ s1, s1 = pushes N s (xs.take k) := ⟨_, rfl⟩
      rw [← hs1] at hc P HS
      clear hs1
      by_cases hg : 0 ≤ x ∧ x < (N : Int)
      · obtain ⟨hg0, hgN⟩ := hg
        have hlen : s1.1.length = N := by rw [P.len]; exact hs
        obtain ⟨d, hd⟩ : ∃ d, s1.1[x.toNat]? = some d := ⟨_, List.getElem?_eq_getElem (by omega)⟩
        have hgot : got s1.1 x.toNat = d := by simp [got, hd]
        obtain ⟨g, cap, hgg, _, _, hcell, hfr⟩ := hc.rin.get (j := x.toNat) (x := .bool d) (by simp [hd])
        simp only [Value.slice.injEq, Option.some.injEq, Addr.mk.injEq, and_true, true_and] at hgg
        obtain ⟨rfl, rfl⟩ := hgg
        have HD := Lib.hid hd; clear hd
        cases d
        · have hpush : push N s1 x = (s1.1.set x.toNat true, s1.2 ++ [x]) := by unfold push; rw [if_pos ⟨hg0, hgN, hgot⟩]
          have hl2 : s1.2.length ≤ 200 := by have := P.pot; omega
          have HP := Lib.hid hpush; clear hpush
          have HG := Lib.hid hgot; clear hgot
          have HL := Lib.hid hlen; clear hlen
          -- in[x] = true
          have E1 : Evo t' wo t' (wo.setCell ⟨gA, x.toNat, none⟩ (.bool true)) (· = 1) := (Evo.refl _ _ _).setCell _ _ (hc.rin.tag _ rfl)
          have R1 := hc.rin.set x.toNat (.bool true)
          rw [map_set_bool] at R1
          have hct1 := E1.cell (by rw [hc.tt]; omega) hct
          have hft1 : (wo.setCell ⟨gA, x.toNat, none⟩ (.bool true)).frozen? ⟨gT, 0, none⟩ = false := by
            rw [World.frozen?_of_block (w := wo) (E1.block gT (World.block_lt_of_cell? _ _ hct) (by rw [hc.tt]; omega))]; exact hft
          have RT := hc.rt.keep E1 (by omega)
          obtain ⟨ta, tc, rfl⟩ := RT.form
          go_wp2_with (at_builtin; refine wpList_append_one rfl _ _ 26 rfl 3 i0 (.int .i64 0) 1 8 Try.underlying26 hi hz0 hz1 hz2 rfl (by decide) rfl RT #[.int .i64 x] 3 (0,0) _ rfl (by simp) rfl ?c1 ?c2 ?c3 ?_)
          case c1 => rfl
          case c2 => unfold maxLen; omega
          case c3 => omega
          intro v2 t2 w2 hr2 he2
          have hgTlt := World.block_lt_of_cell? _ _ hct1
          have hct2 := he2.cell (by rw [hc.tt]; omega) hct1
          have ht2 : t2 gT = 7 := by rw [he2.tag _ hgTlt]; exact hc.tt
          have hft2 : w2.frozen? ⟨gT, 0, none⟩ = false := by
            rw [World.frozen?_of_block (he2.block gT hgTlt (by rw [hc.tt]; omega))]; exact hft1
          have E3 : Evo t2 w2 t2 (w2.setCell ⟨gT, 0, none⟩ v2) (· = 7) := (Evo.refl _ _ _).setCell _ _ ht2
          have EV : Evo t' wo t2 (w2.setCell ⟨gT, 0, none⟩ v2) KC := ((E1.mono (fun x h => by unfold KC; omega)).trans (he2.mono (fun x h => by unfold KC; omega))).trans (E3.mono (fun x h => by unfold KC; omega))
          have lt : ∀ g v, wo.cell? ⟨g, 0, none⟩ = some v → g < wo.heap.size := fun g v h => World.block_lt_of_cell? wo _ h
          have CN : Cl t2 (w2.setCell ⟨gT, 0, none⟩ v2) gN gI gT N (.slice (some ⟨gA, 0, none⟩) N cA) v2 (s1.1.set x.toNat true, s1.2 ++ [x]) := by
            refine ⟨EV.cell (by rw [hc.tn]; unfold KC; omega) hc.cn, by rw [EV.tag _ (lt _ _ hc.cn)]; exact hc.tn, EV.cell (by rw [hc.ti]; unfold KC; omega) hc.ci, by rw [EV.tag _ (lt _ _ hc.ci)]; exact hc.ti,
              World.cell?_setCell_same _ _ _ hct2, ht2, (World.frozen?_setCell _ _ _ _).trans hft2, (R1.keep he2 (by omega)).keep E3 (by omega), ?_⟩
            have := hr2.keep E3 (by omega)
            simpa using this
          have EV2 := hev.trans EV
          obtain ⟨va, vc, rfl⟩ := hr2.form
          clear EV E3 E1 R1 RT hr2 he2 hev hc lt
          go_wp2
          go_roundg g1
          case measure => omega
          case rel => exact ⟨k + 1, t2, _, by omega, by go_num, EV2, by rw [HS.out, HP.out]; exact CN⟩
        · have hpush : push N s1 x = s1 := by unfold push; rw [if_neg]; rintro ⟨_, _, h⟩; rw [hgot] at h; cases h
          have HP := Lib.hid hpush; clear hpush
          have HG := Lib.hid hgot; clear hgot
          have HL := Lib.hid hlen; clear hlen
          go_wp2
          go_roundg g1
          case measure => omega
          case rel => exact ⟨k + 1, t', vt', by omega, by go_num, hev, by rw [HS.out, HP.out]; exact hc⟩
      · have hpush : push N s1 x = s1 := by unfold push; rw [if_neg]; rintro ⟨h1, h2, _⟩; exact hg ⟨h1, h2⟩
        have HP := Lib.hid hpush; clear hpush
        by_cases hg0 : 0 ≤ x
        all_goals
          have hg1 : x < 0 ∨ (N : Int) ≤ x := by omega
          go_wp2
          go_roundg g1
          case measure => omega
          case rel => exact ⟨k + 1, t', vt', by omega, by go_num, hev, by rw [HS.out, HP.out]; exact hc⟩
end Go.Proofs.Ytoaomedlgmnopaa
