/- The walk of the document's Reach. -/
import Derived.Test.YtoaomedlgmnopaaW10
import Derived.Test.YtoaomedlgmnopaaM4
namespace Go.Proofs.Ytoaomedlgmnopaa
open Go.RowKit Pal Pal.Graph

/-- One sweep is under way, at i: what was so when it began, and whether somebody new came in. -/
structure Sw (N : Nat) (xss : List (List Int)) (fr : List Int) (c0 : Nat) (ins : List Bool) (more : Bool) (i : Nat) : Prop where
  sound : Sound N xss fr ins
  base : ∀ x ∈ fr, 0 ≤ x → x < (N : Int) → got ins x.toNat = true
  yes : more = true → ins.count false < c0
  no : more = false → ins.count false = c0 ∧ ∀ j, j < i → Settled N xss ins j
theorem got_base {fr : List Int} {N : Nat} {ins : List Bool} (h : ∀ x ∈ fr, 0 ≤ x → x < (N : Int) → got ins x.toNat = true) {i : Nat} (hi : i < ins.length) : ∀ x ∈ fr, 0 ≤ x → x < (N : Int) → got (ins.set i true) x.toNat = true := by
  intro x hx h0 hN
  rw [got_set hi]; simp [h x hx h0 hN]

set_option maxHeartbeats 2000000 in
set_option maxRecDepth 100000 in
theorem rreach_no (n : Int) (v vf : Value) (xss : List (List Int)) (fr : List Int) (w : World) (hn : ¬ (0 ≤ n ∧ n ≤ 4096)) : Calls Try.prog 19 #[.int .i64 n, v, vf] w (ReachPost n xss fr w) := by
  have hd : decide (0 ≤ n ∧ n ≤ 4096) = false := by simp only [decide_eq_false_iff_not]; exact hn
  have HN := Lib.hid hn
  clear hn
  go_enter Try.func19, Try.ntmps19
  go_wp2_with fail
  refine (may_any n _).mono ?_
  rintro e w1 ⟨rfl, rfl⟩
  rw [hd]
  go_wp2
  go_ret
  exact ⟨_, [], rfl, fun a b => absurd ⟨a, b⟩ HN.out, by rw [if_neg HN.out]; exact ints_nil _, Below.refl _ _⟩

set_option maxHeartbeats 4000000 in
set_option maxRecDepth 100000 in
theorem rreach_yes (h : GH) (N : Nat) (v vf : Value) (xss : List (List Int)) (fr : List Int) (w : World) (hN : N ≤ 4096) (hw : h.le (gh w)) (hx : RowsV h v xss) (hf : IntsV h vf fr) :
    Calls Try.prog 19 #[.int .i64 (N : Int), v, vf] w (ReachPost N xss fr w) := by
  obtain ⟨i0, hi, hz0, hz1, hz2⟩ := info_parts3
  obtain ⟨i4, hi4, hy0, hy1, hy2⟩ := info_parts4
  have hmk := run_made (P := Try.prog) Try.underlying32 hi4 hy0 hy1 hy2 rfl N (by omega) (by omega)
  have hR := Row.made T0 1 w 4 (.bool false) N (by unfold maxLen; omega)
  have hd : decide (0 ≤ (N : Int) ∧ (N : Int) ≤ 4096) = true := by simp only [decide_eq_true_eq]; omega
  obtain ⟨af, cf, rfl, _, hlf, hcf⟩ := hf
  go_enter Try.func19, Try.ntmps19
  go_wp2_with fail
  refine (may_any N _).mono ?_
  rintro e w1 ⟨rfl, rfl⟩
  rw [hd]
  go_wp2
  -- who is there from the beginning
  go_loopg [8] fr.length (fun g i wr => ∃ k t ins, k + g = fr.length ∧ i = .int .i64 (k : Nat) ∧ Row t 1 wr 4 1 (sl w1.heap.size N) N (ins.map Value.bool) ∧ Evo T0 w1 t wr (· ≠ 0) ∧ Hid (Sound N xss fr ins ∧ ∀ x ∈ fr.take k, 0 ≤ x → x < (N : Int) → got ins x.toNat = true))
  case atStart => exact ⟨0, _, List.replicate N false, by omega, rfl, by simpa [sl] using hR, (Evo.refl _ _ _).alloc 1 _, sound_start N xss fr, fun x hx => by simp at hx⟩
  case round =>
    clear hR hmk hd
    obtain ⟨k, t, ins, hkg, rfl, hrow, hev, HS⟩ := hrel
    obtain ⟨wo, rfl⟩ : ∃ wo : World, wo = wr := ⟨_, rfl⟩
    have hle : h.le (gh wo) := by
      have := hev.hz (by simp)
      rw [hz_T0] at this
      exact hw.trans (this.trans (hz_gh _ _))
    cases gk with
    | succ g1 =>
      have hkl : k < fr.length := by omega
      obtain ⟨x, hxk⟩ : ∃ x, fr[k]? = some x := ⟨_, List.getElem?_eq_getElem hkl⟩
      obtain ⟨b1, o1, rfl, hcx⟩ := hcf k x hxk
      have hcx := hle.at hcx
      have htk : fr.take (k + 1) = fr.take k ++ [x] := by rw [List.take_add_one, hxk]; rfl
      have hmem := List.mem_of_getElem? hxk
      have HT := Lib.hid htk; clear htk
      have HX := Lib.hid hxk; clear hxk hcf
      by_cases hg : 0 ≤ x ∧ x < (N : Int)
      · obtain ⟨hg0, hgN⟩ := hg
        have hlen := HS.out.1.len
        have hxl : x.toNat < ins.length := by omega
        have hfz : wo.frozen? ⟨w1.heap.size, x.toNat, none⟩ = false ∧ ∃ d, wo.cell? ⟨w1.heap.size, x.toNat, none⟩ = some (.bool d) := by
          obtain ⟨g, cap, hgg, _, _, hc, hf⟩ := hrow.get (j := x.toNat) (x := .bool ins[x.toNat]) (by simp [hxl])
          simp only [sl, Value.slice.injEq, Option.some.injEq, Addr.mk.injEq, and_true, true_and] at hgg
          rw [← hgg.1] at hc hf
          exact ⟨hf, _, hc⟩
        obtain ⟨hfz, d, hcd⟩ := hfz
        have R1 := hrow.set x.toNat (.bool true)
        rw [map_set_bool] at R1
        have E1 := hev.setCell ⟨w1.heap.size, x.toNat, none⟩ (.bool true) (by rw [hrow.tag _ rfl]; simp)
        have HL := Lib.hid hlen; clear hlen
        clear hrow hev
        go_wp2
        go_roundg g1
        case measure => omega
        case rel =>
          refine ⟨k + 1, t, ins.set x.toNat true, by omega, by go_num, R1, E1, sound_base HS.out.1 hmem hg0 hgN, fun y hy h0 hN => ?_⟩
          rw [HT.out] at hy
          rw [got_set hxl]
          rcases List.mem_append.1 hy with hy | hy
          · simp [HS.out.2 y hy h0 hN]
          · simp at hy; subst hy; simp
      · have HS2 : Hid (Sound N xss fr ins ∧ ∀ x ∈ fr.take (k + 1), 0 ≤ x → x < (N : Int) → got ins x.toNat = true) := by
          refine ⟨HS.out.1, fun y hy h0 hN => ?_⟩
          rw [HT.out] at hy
          rcases List.mem_append.1 hy with hy | hy
          · exact HS.out.2 y hy h0 hN
          · simp at hy; subst hy; exact absurd ⟨h0, hN⟩ hg
        by_cases hg0 : 0 ≤ x
        all_goals
          have hg1 : x < 0 ∨ (N : Int) ≤ x := by omega
          go_wp2
          go_roundg g1
          case measure => omega
          case rel => exact ⟨k + 1, t, ins, by omega, by go_num, hrow, hev, HS2⟩
    | zero =>
      have hkl : k = fr.length := by omega
      subst hkl
      have hs1 := HS.out.1
      have hb1 : ∀ x ∈ fr, 0 ≤ x → x < (N : Int) → got ins x.toNat = true := by have := HS.out.2; rw [List.take_length] at this; exact this
      have HB := Lib.hid (And.intro hs1 hb1)
      clear HS hs1 hb1 hcf
      go_wp2
      go_loopg [9] (1 + ins.count false) (fun g m wr => ∃ more t ins, m = .bool more ∧ g = (if more then 1 + ins.count false else 0) ∧ Row t 1 wr 4 1 (sl w1.heap.size N) N (ins.map Value.bool) ∧ Evo T0 w1 t wr (· ≠ 0) ∧
         Hid (Sound N xss fr ins ∧ (∀ x ∈ fr, 0 ≤ x → x < (N : Int) → got ins x.toNat = true) ∧ (more = false → ∀ j, j < N → Settled N xss ins j)))
      case atStart => exact ⟨true, t, ins, rfl, rfl, hrow, hev, HB.out.1, HB.out.2, fun h => by cases h⟩
      case round =>
        clear HB hrow hev hle
        obtain ⟨more, t, ins, rfl, hgm, hrow, hev, HS⟩ := hrel
        obtain ⟨wo, rfl⟩ : ∃ wo : World, wo = wr := ⟨_, rfl⟩
        cases more with
        | false =>
          have hins := sound_end HS.out.1 HS.out.2.1 (HS.out.2.2 rfl)
          have hlen := HS.out.1.len
          have HI := Lib.hid hins; clear hins
          have HL := Lib.hid hlen; clear hlen
          have HG := Lib.hid hgm; clear hgm HS
          go_wp2
          go_loopg [13, 14] N (fun g u i wr => ∃ k t, k + g = N ∧ i = .int .i64 (k : Nat) ∧ Row t 8 wr 3 1 u (picked ins k).length ((picked ins k).map (Value.int .i64)) ∧ Row t 1 wr 4 1 (sl w1.heap.size N) N (ins.map Value.bool) ∧ Evo T0 w1 t wr (· ≠ 0))
          case atStart => exact ⟨0, t, by omega, rfl, Row.nil _ _ _ _ _, hrow, hev⟩
          case round =>
            clear hrow hev
            obtain ⟨k, t, hkg, rfl, hr, hr2, hev⟩ := hrel
            obtain ⟨la, lc, rfl⟩ := hr.form
            cases gk with
            | zero =>
              have hkN : k = N := by omega
              subst hkN
              have hple := picked_le ins k
              go_wp2
              go_ret
              refine ⟨_, ins, rfl, fun _ _ => HI.out, ?_, hev.toBelow (by simp)⟩
              rw [if_pos (by omega), Int.toNat_natCast]
              exact IntsV.ofRowAny hr (by omega)
            | succ g1 =>
              have hkI : k < N := by omega
              obtain ⟨d, hdk⟩ : ∃ d, ins[k]? = some d := ⟨_, List.getElem?_eq_getElem (by have := HL.out; omega)⟩
              obtain ⟨g, cap, hg, _, _, hcell, hfr⟩ := hr2.get (j := k) (x := .bool d) (by simp [hdk])
              simp only [sl, Value.slice.injEq, Option.some.injEq, Addr.mk.injEq, and_true, true_and] at hg
              obtain ⟨rfl, rfl⟩ := hg
              have hls := picked_succ ins k
              have hgd : got ins k = d := by simp [got, hdk]
              rw [hgd] at hls
              have HD := Lib.hid hdk; clear hdk hgd
              have hll := picked_le ins k
              cases d
              · have HLS := Lib.hid hls; clear hls
                go_wp2
                go_roundg g1
                case measure => omega
                case rel =>
                  refine ⟨k + 1, t, by omega, by go_num, ?_, hr2, hev⟩
                  rw [HLS.out]; simpa using hr
              · have HLS := Lib.hid hls; clear hls
                go_wp2_with (at_builtin; refine wpList_append_one rfl _ _ 26 rfl 3 i0 (.int .i64 0) 1 8 Try.underlying26 hi hz0 hz1 hz2 rfl (by decide) rfl hr #[.int .i64 k] 3 (0,0) _ rfl (by simp) rfl ?c1 ?c2 ?c3 ?_)
                case c1 => rfl
                case c2 => unfold maxLen; omega
                case c3 => omega
                intro v' t' w' hr3 he
                have hev2 := hev.trans (he.mono (K' := (· ≠ 0)) (by intro x hx; omega))
                have hd2 := hr2.keep he (by simp)
                clear hev hr hr2 he
                go_wp2
                go_roundg g1
                case measure => omega
                case rel =>
                  refine ⟨k + 1, t', by omega, by go_num, ?_, hd2, hev2⟩
                  rw [HLS.out]; simpa using hr3
        | true =>
          simp only [if_true] at hgm
          subst hgm
          have hsw : Sw N xss fr (ins.count false) ins false 0 := ⟨HS.out.1, HS.out.2.1, fun h => (by cases h), fun _ => ⟨rfl, fun j hj => by omega⟩⟩
          obtain ⟨c0, hc0⟩ : ∃ c0, c0 = ins.count false := ⟨_, rfl⟩
          rw [← hc0] at hsw
          have HC := Lib.hid hc0; clear hc0
          have HW := Lib.hid hsw; clear hsw HS
          go_wp2
          go_loopg [9, 10] N (fun g m i wr => ∃ k more t ins, k + g = N ∧ i = .int .i64 (k : Nat) ∧ m = .bool more ∧ Row t 1 wr 4 1 (sl w1.heap.size N) N (ins.map Value.bool) ∧ Evo T0 w1 t wr (· ≠ 0) ∧ Hid (Sw N xss fr c0 ins more k))
          case atStart => exact ⟨0, false, t, ins, by omega, rfl, rfl, hrow, hev, HW⟩
          case round =>
            clear HW hrow hev
            obtain ⟨k, more, t, ins2, hkg, rfl, rfl, hrow, hev, HW⟩ := hrel
            obtain ⟨wo2, rfl⟩ : ∃ wo2 : World, wo2 = wr := ⟨_, rfl⟩
            cases gk with
            | zero =>
              have hkN : k = N := by omega
              subst hkN
              go_wp2
              go_roundg (if more then 1 + ins2.count false else 0)
              case measure =>
                rw [← HC.out]
                cases more
                · simp; omega
                · have := HW.out.yes rfl; simp; omega
              case rel => exact ⟨more, t, ins2, rfl, rfl, hrow, hev, HW.out.sound, HW.out.base, fun h => (HW.out.no h).2⟩
            | succ g1 =>
              have hkN : k < N := by omega
              have hle2 : h.le (gh wo2) := by
                have := hev.hz (by simp)
                rw [hz_T0] at this
                exact hw.trans (this.trans (hz_gh _ _))
              go_wp2_with fail
              refine (needs_any h v xss k _ hle2 hx).mono ?_
              rintro e w4 ⟨vn, rfl, hiv, rfl⟩
              obtain ⟨L, hL⟩ : ∃ L, L = (xss[k]?).getD [] := ⟨_, rfl⟩
              rw [← hL] at hiv
              have HL := Lib.hid hL; clear hL
              obtain ⟨an, cn, rfl, _, hln, hcn⟩ := hiv
              go_wp2
              go_loopg [9, 12] L.length (fun g m i wr => ∃ j more t ins, j + g = L.length ∧ i = .int .i64 (j : Nat) ∧ m = .bool more ∧ Row t 1 wr 4 1 (sl w1.heap.size N) N (ins.map Value.bool) ∧ Evo T0 w1 t wr (· ≠ 0) ∧
                 Hid (Sw N xss fr c0 ins more k ∧ (got ins k = false → NoneIn N L ins j)))
              case atStart => exact ⟨0, more, t, ins2, by omega, rfl, rfl, hrow, hev, HW.out, fun _ x hx => by simp at hx⟩
              case round =>
                clear HW hrow hev hle2
                obtain ⟨j, more, t, ins3, hjg, rfl, rfl, hrow, hev, HW⟩ := hrel
                obtain ⟨wo3, rfl⟩ : ∃ wo3 : World, wo3 = wr := ⟨_, rfl⟩
                have hlen := HW.out.1.sound.len
                obtain ⟨d, hdk⟩ : ∃ d, ins3[k]? = some d := ⟨_, List.getElem?_eq_getElem (by omega)⟩
                have hgk : got ins3 k = d := by simp [got, hdk]
                obtain ⟨g, cap, hg, _, _, hck, hfk⟩ := hrow.get (j := k) (x := .bool d) (by simp [hdk])
                simp only [sl, Value.slice.injEq, Option.some.injEq, Addr.mk.injEq, and_true, true_and] at hg
                obtain ⟨rfl, rfl⟩ := hg
                have HD := Lib.hid hdk; clear hdk
                have HLEN := Lib.hid hlen; clear hlen
                cases d with
                | true =>
                  have HK : Hid (Sw N xss fr c0 ins3 more (k + 1)) := by
                    refine ⟨HW.out.1.sound, HW.out.1.base, HW.out.1.yes, fun h => ⟨(HW.out.1.no h).1, fun j hj => ?_⟩⟩
                    by_cases e : j = k
                    · subst e; exact fun x _ _ => hgk
                    · exact (HW.out.1.no h).2 j (by omega)
                  have HG := Lib.hid hgk; clear hgk
                  by_cases hjl : j < L.length
                  all_goals
                    go_wp2
                    go_roundg g1
                    case measure => omega
                    case rel => exact ⟨k + 1, more, t, ins3, by omega, by go_num, rfl, hrow, hev, HK⟩
                | false =>
                  cases gk with
                  | zero =>
                    have hjl : j = L.length := by omega
                    subst hjl
                    have HK : Hid (Sw N xss fr c0 ins3 more (k + 1)) := by
                      refine ⟨HW.out.1.sound, HW.out.1.base, HW.out.1.yes, fun h => ⟨(HW.out.1.no h).1, fun j hj => ?_⟩⟩
                      by_cases e : j = k
                      · subst e
                        have := HW.out.2 hgk
                        rw [HL.out] at this
                        exact noneIn_settled this
                      · exact (HW.out.1.no h).2 j (by omega)
                    have HG := Lib.hid hgk; clear hgk
                    go_wp2
                    go_roundg g1
                    case measure => omega
                    case rel => exact ⟨k + 1, more, t, ins3, by omega, by go_num, rfl, hrow, hev, HK⟩
                  | succ g2 =>
                    have hjl : j < L.length := by omega
                    obtain ⟨x, hxj⟩ : ∃ x, L[j]? = some x := ⟨_, List.getElem?_eq_getElem hjl⟩
                    obtain ⟨b1, o1, rfl, hcx⟩ := hcn j x hxj
                    have hle3 : h.le (gh wo3) := by
                      have := hev.hz (by simp)
                      rw [hz_T0] at this
                      exact hw.trans (this.trans (hz_gh _ _))
                    have hcx := hle3.at hcx
                    clear hle3
                    by_cases hg : 0 ≤ x ∧ x < (N : Int)
                    · obtain ⟨hg0, hgN⟩ := hg
                      obtain ⟨d2, hd2⟩ : ∃ d2, ins3[x.toNat]? = some d2 := ⟨_, List.getElem?_eq_getElem (by have := HLEN.out; omega)⟩
                      have hg2 : got ins3 x.toNat = d2 := by simp [got, hd2]
                      obtain ⟨g, cap, hg, _, _, hcx2, _⟩ := hrow.get (j := x.toNat) (x := .bool d2) (by simp [hd2])
                      simp only [sl, Value.slice.injEq, Option.some.injEq, Addr.mk.injEq, and_true, true_and] at hg
                      obtain ⟨rfl, rfl⟩ := hg
                      have HD2 := Lib.hid hd2; clear hd2
                      cases d2 with
                      | true =>
                        have hkl : k < ins3.length := by have := HLEN.out; omega
                        have hmem : x ∈ lst N xss k := mem_lst.2 ⟨by rw [← HL.out]; exact List.mem_of_getElem? hxj, hg0, hgN⟩
                        have hcs := count_false_set hkl hgk
                        have HK : Hid (Sw N xss fr c0 (ins3.set k true) true k ∧ (got (ins3.set k true) k = false → NoneIn N L (ins3.set k true) (j + 1))) := by
                          refine ⟨⟨sound_step HW.out.1.sound hkN hmem hg2, got_base HW.out.1.base hkl, fun _ => ?_, fun h => (by cases h)⟩, fun h => ?_⟩
                          · cases more with
                            | true => have := HW.out.1.yes rfl; omega
                            | false => have := (HW.out.1.no rfl).1; omega
                          · rw [got_set hkl] at h; simp at h
                        have R1 := hrow.set k (.bool true)
                        rw [map_set_bool] at R1
                        have E1 := hev.setCell ⟨w1.heap.size, k, none⟩ (.bool true) (by rw [hrow.tag _ rfl]; simp)
                        have HX := Lib.hid hxj; clear hxj hcn
                        have HG := Lib.hid hgk; clear hgk
                        have HG2 := Lib.hid hg2; clear hg2
                        have HCS := Lib.hid hcs; clear hcs
                        clear hrow hev HW
                        go_wp2
                        go_roundg g2
                        case measure => omega
                        case rel => exact ⟨j + 1, true, t, ins3.set k true, by omega, by go_num, rfl, R1, E1, HK⟩
                      | false =>
                        have HK : Hid (Sw N xss fr c0 ins3 more k ∧ (got ins3 k = false → NoneIn N L ins3 (j + 1))) := ⟨HW.out.1, fun h => noneIn_succ (HW.out.2 h) hxj (fun _ _ => hg2)⟩
                        have HX := Lib.hid hxj; clear hxj hcn
                        have HG := Lib.hid hgk; clear hgk
                        have HG2 := Lib.hid hg2; clear hg2
                        go_wp2
                        go_roundg g2
                        case measure => omega
                        case rel => exact ⟨j + 1, more, t, ins3, by omega, by go_num, rfl, hrow, hev, HK⟩
                    · have HK : Hid (Sw N xss fr c0 ins3 more k ∧ (got ins3 k = false → NoneIn N L ins3 (j + 1))) := ⟨HW.out.1, fun h => noneIn_succ (HW.out.2 h) hxj (fun h0 hN => absurd ⟨h0, hN⟩ hg)⟩
                      have HX := Lib.hid hxj; clear hxj hcn
                      have HG := Lib.hid hgk; clear hgk
                      by_cases hg0 : 0 ≤ x
                      all_goals
                        have hg1 : x < 0 ∨ (N : Int) ≤ x := by omega
                        go_wp2
                        go_roundg g2
                        case measure => omega
                        case rel => exact ⟨j + 1, more, t, ins3, by omega, by go_num, rfl, hrow, hev, HK⟩
end Go.Proofs.Ytoaomedlgmnopaa
