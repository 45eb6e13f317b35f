/- The walk of palaverlaw09.EvalNames. Conditions: the tables hold what they are laid with; the arguments read as data. -/
import Derived.Test.YtoklhppalkgdeaaGreatDoorNO
import Derived.Test.YtoklhppalkgdeaaGreatDoorNM
import Derived.Test.YtoklhppalkgdeaaGreatDoorE15
import Derived.Test.YtoklhppalkgdeaaGreatDoorR1
import Derived.Test.YtoklhppalkgdeaaGreatDoorPx
import Derived.Deep.RegionHeld3
import Derived.Deep.CutRange
set_option linter.unusedSimpArgs false
set_option linter.unusedVariables false
set_option linter.unusedSectionVars false
namespace Go.Proofs.YtoklhppalkgdeaaGreatDoor
open Go.RowKit Pal
def FoundAt (b : Bool) (s : Bs) (l : List Bs) (q : Nat) : Prop := b = true ↔ s ∈ l.take q
theorem mem_take9 {l : List Bs} {q : Nat} {s : Bs} (h : q < l.length) : s ∈ l.take (q + 1) ↔ s ∈ l.take q ∨ l[q] = s := by
  rw [List.take_add_one, List.getElem?_eq_getElem h, List.mem_append]
  constructor
  · rintro (h | h)
    · exact .inl h
    · exact .inr (by simpa using h : s = l[q]).symm
  · rintro (h | h)
    · exact .inl h
    · exact .inr (by simp [h])
theorem cell9 {w W : World} (h : Below w.heap.size w W) {b o : Nat} {v : Value} (c : w.cell? ⟨b, o, none⟩ = some v) : W.cell? ⟨b, o, none⟩ = some v := (h.cell (p := ⟨b, o, none⟩) (World.block_lt_of_cell? w _ c)).trans c
set_option maxRecDepth 1000000 in
set_option maxHeartbeats 16000000 in
theorem evalnames_walk (e : Ex) (v : Value) (names : List Bs) (nv : Value) (vals : List Val) (vv : Value) (other : List Val) (ov : Value) (w : World) (hL : Lay2 w) (hE : EV (gh w) v e) (hF0 : Fine0 e)
    (hN : StrsV (gh w) nv names) (hNs : ∀ s ∈ names, s.length ≤ 9223372036854775807) (hNn : NilV nv) (hA : ValsV (gh w) vv vals) (hAs : ∀ v ∈ vals, I64 v.k ∧ I64 v.n ∧ v.s.length ≤ 9223372036854775807) (hAn : NilV vv)
    (hO : ValsV (gh w) ov other) (hOs : ∀ v ∈ other, I64 v.k ∧ I64 v.n ∧ v.s.length ≤ 9223372036854775807) (hOn : NilV ov) :
    Calls Tryz.prog 7 #[v, nv, vv, ov] w (yesPost w) := by
  have HL := Lib.hid hL
  have HE := Lib.hid hE
  have HN := Lib.hid hN
  have HA := Lib.hid hA
  have HO := Lib.hid hO
  have HNN := Lib.hid hAn
  obtain ⟨kv, rfl, hK⟩ := hE
  obtain ⟨a, cap, rfl⟩ := hK.form
  obtain ⟨na, nc, rfl⟩ := hN.form
  obtain ⟨va, vc, rfl, -⟩ := hA.form
  obtain ⟨oa, oc, rfl, -⟩ := hO.form
  have K0 := Lib.hid ((Kept.start w).new (.cells #[.int .i64 e.op, .int .i64 e.n, .string ⟨e.s.toArray⟩, .slice a e.ks.length cap] 28))
  obtain ⟨te, hte⟩ : ∃ b, tiny e = b := ⟨_, rfl⟩
  obtain ⟨ce, hce⟩ : ∃ b, check e = b := ⟨_, rfl⟩
  obtain ⟨fw, hfw⟩ : ∃ b, few9 names vals = b := ⟨_, rfl⟩
  obtain ⟨fo, hfo⟩ : ∃ b, few9 [] other = b := ⟨_, rfl⟩
  have HTE := Lib.hid (fun W (hb : Below w.heap.size w W) => hte ▸ Tiny_any e _ W hF0 (HE.out.keep hb))
  have HS : Hid (te = true → Slim e 0) := Lib.hid (fun h => tiny_slim (hte.trans h))
  have HF : Hid (te = true → Fine e) := Lib.hid (fun h => (HS.out h).fine hF0)
  have HCE := Lib.hid (fun (h : te = true) W (hb : Below w.heap.size w W) => hce ▸ refCheck7_any e _ W (HF.out h) (HE.out.keep hb))
  have HFW := Lib.hid (fun W (hb : Below w.heap.size w W) => hfw ▸ few9_any names vals _ _ W (HN.out.mono (below_gh hb)) (HA.out.mono (below_gh hb)))
  have HFO := Lib.hid (fun W (hb : Below w.heap.size w W) => hfo ▸ few9_any [] other (.slice none 0 0) _ W ⟨none, 0, rfl, fun _ => rfl, Nat.le_refl _, by simp [maxLen], fun j s hj => by simp at hj⟩ (HO.out.mono (below_gh hb)))
  have HVF : Hid (fw = true → VFine vals ∧ names.length ≤ 50 ∧ vals.length ≤ 50) := Lib.hid (fun h => ⟨few9_fine (hfw.trans h) hAs, few9_len (hfw.trans h)⟩)
  have HOF : Hid (fo = true → VFine other ∧ other.length ≤ 50) := Lib.hid (fun h => ⟨few9_fine (hfo.trans h) hOs, (few9_len (hfo.trans h)).2⟩)
  have HNM := Lib.hid (fun (h : ce = true) W (hb : Below w.heap.size w W) => names_of e _ W (hce.trans h) (HE.out.mono (below_gh hb)))
  have HCV := Lib.hid (fun (h : vals.length ≤ 50) W (hb : Below w.heap.size w W) => Values_own vals _ W (HA.out.mono (below_gh hb)) HNN.out h)
  have HAW := Lib.hid (fun W (hb : Below w.heap.size w W) => awake9 W (HL.out.below hb).lay)
  have HEV := Lib.hid (fun (h : te = true) xs vv W (hx : VFine xs) (hb : Below w.heap.size w W) (hA : ValsV (gh W) vv xs) => Eval_any e names xs _ _ vv W (HF.out h) hx (HL.out.below hb).lay (HE.out.mono (below_gh hb)) (HN.out.mono (below_gh hb)) hA)
  obtain ⟨nl, hnl⟩ : ∃ n, names.length = n := ⟨_, rfl⟩
  obtain ⟨vl, hvl⟩ : ∃ n, vals.length = n := ⟨_, rfl⟩
  obtain ⟨ol, hol⟩ : ∃ n, other.length = n := ⟨_, rfl⟩
  have HNL := Lib.hid hnl
  have HVL := Lib.hid hvl
  have HOL := Lib.hid hol
  have HCK : Hid (ce = true → check e = true) := Lib.hid (fun h => hce.trans h)
  rw [hnl] at HN HFW HVF HEV
  rw [hvl] at HA HFW HVF HCV
  rw [hol] at HO HFO HOF
  rw [hnl, hvl, hol]
  unfold exV strV at HTE HCE HNM HEV
  clear hL hN hNs hNn hA hAs hAn hO hOs hOn hK hte hce hfw hfo hF0 hnl hvl hol
  obtain ⟨⟨e0, e1, e2, e3⟩, -⟩ := four_all K0.out.at0
  unfold exV strV
  go_enter Tryz.func7, Tryz.ntmps7
  go_wp2_with fail
  refine (HTE.out _ K0.out.below).mono ?_
  generalize w.alloc (.cells #[.int .i64 e.op, .int .i64 e.n, .string ⟨e.s.toArray⟩, .slice a e.ks.length cap] 28) = W0 at *
  clear e0 e1 e2 e3
  rintro r W1 ⟨rfl, hb⟩
  have K1 := Lib.hid (K0.out.call hb)
  clear hb
  cases te with
  | false =>
    go_wp2_with fail
    refine (HAW.out _ K1.out.below).mono ?_
    rintro r V ⟨rfl, hbv⟩
    have hbv := K1.out.below.seq hbv
    go_wp2
    go_ret
    exact ⟨rfl, hbv⟩
  | true =>
    obtain ⟨⟨e0, e1, e2, e3⟩, -⟩ := four_all K1.out.at0
    go_wp2_with fail
    refine (HCE.out (by first | rfl | trivial) _ K1.out.below).mono ?_
    rintro r W2 ⟨rfl, hb⟩
    have K2 := Lib.hid (K1.out.call hb)
    clear hb e0 e1 e2 e3
    cases ce with
    | false =>
      go_wp2_with fail
      refine (HAW.out _ K2.out.below).mono ?_
      rintro r V ⟨rfl, hbv⟩
      have hbv := K2.out.below.seq hbv
      go_wp2
      go_ret
      exact ⟨rfl, hbv⟩
    | true =>
      go_wp2_with fail
      refine (HFW.out _ K2.out.below).mono ?_
      rintro r W3 ⟨rfl, rfl⟩
      cases fw with
      | false =>
        go_wp2_with fail
        refine (HAW.out _ K2.out.below).mono ?_
        rintro r V ⟨rfl, hbv⟩
        have hbv := K2.out.below.seq hbv
        go_wp2
        go_ret
        exact ⟨rfl, hbv⟩
      | true =>
        go_wp2_with fail
        refine (HFO.out _ K2.out.below).mono ?_
        rintro r W3 ⟨rfl, rfl⟩
        cases fo with
        | false =>
          go_wp2_with fail
          refine (HAW.out _ K2.out.below).mono ?_
          rintro r V ⟨rfl, hbv⟩
          have hbv := K2.out.below.seq hbv
          go_wp2
          go_ret
          exact ⟨rfl, hbv⟩
        | true =>
          have hvf := HVF.out (by first | rfl | trivial)
          have hof := HOF.out (by first | rfl | trivial)
          by_cases hlen : vl = nl
          · subst hlen
            have q1 : ((vl : Int) != vl) = false := by simp
            by_cases hol2 : ol < vl
            · have q2 : decide ((ol : Int) < vl) = true := by simp; omega
              clear hvf hof
              go_wp2_with fail
              refine (HAW.out _ K2.out.below).mono ?_
              rintro r V ⟨rfl, hbv⟩
              have hbv := K2.out.below.seq hbv
              go_wp2
              go_ret
              exact ⟨rfl, hbv⟩
            · have q2 : decide ((ol : Int) < vl) = false := by simp; omega
              have h50 : vl ≤ 50 := hvf.2.1
              have HVX := Lib.hid hvf.1
              have HOX := Lib.hid hof.1
              have HCV2 := Lib.hid (HCV.out h50)
              have HNM2 := Lib.hid (HNM.out (by first | rfl | trivial))
              have HEV2 := Lib.hid (HEV.out (by first | rfl | trivial))
              have hck : check e = true := HCK.out (by first | rfl | trivial)
              have hfe : Fine e := HF.out (by first | rfl | trivial)
              have HCF := Lib.hid (And.intro hck hfe)
              obtain ⟨used, hus⟩ : ∃ l, namesM e = l := ⟨_, rfl⟩
              have HUS := Lib.hid hus
              rw [hus] at HNM2
              unfold namePost at HNM2
              unfold ownVPost at HCV2
              clear hvf hof HCV HNM HEV HTE HCE HFW HFO HVF HOF HS HF HCK hck hfe hus K0 K1
              obtain ⟨⟨e0, e1, e2, e3⟩, -⟩ := four_all K2.out.at0
              go_wp2_with fail
              refine (HNM2.out _ K2.out.below).mono ?_
              rintro r W4 ⟨hb4, u4, rfl, hu⟩
              have K4 := Lib.hid (K2.out.call hb4)
              obtain ⟨ua, uc, rfl⟩ := hu.strs.form
              obtain ⟨ul, hul⟩ : ∃ n, used.length = n := ⟨_, rfl⟩
              have hu2 := hu.strs
              have hul2 : ul ≤ 9223372036854775807 := by rw [← hul]; exact hu2.len
              rw [hul] at hu2 ⊢
              have HU4 := Lib.hid hu2
              have HUL := Lib.hid hul
              clear hu hu2 hul hb4 e0 e1 e2 e3 K2
              go_wp2_with fail
              refine (HCV2.out _ K4.out.below).mono ?_
              rintro r W5 ⟨hb5, m5, rfl, hm⟩
              have K5 := Lib.hid (K4.out.call hb5)
              obtain ⟨ma, mc, hmf, -⟩ := hm.toV.form
              rw [HVL.out] at hmf
              subst hmf
              have HM := Lib.hid hm
              have HB5 := Lib.hid hb5
              have hge5 := hb5.size
              have hwge : w.heap.size ≤ W4.heap.size := K4.out.below.size
              clear hm hb5
              go_wp2
              go_loopg [11] vl (fun g i wr => ∃ k : Nat, i = .int .i64 k ∧ k + g = vl ∧ Hid (OwnV W4.heap.size wr (.slice ma vl mc) (mixV used names vals other k)) ∧ Hid (Below W4.heap.size W4 wr))
              case atStart => exact ⟨0, rfl, by omega, HM, HB5⟩
              case round =>
                obtain ⟨k, rfl, hg, HX, HB⟩ := hrel
                have KR := Lib.hid (K4.out.call HB.out)
                by_cases hlt : k < vl
                · skip
                  obtain ⟨G, rfl⟩ : ∃ G, gk = G + 1 := ⟨gk - 1, by omega⟩
                  have hkn : k < names.length := by have := HNL.out; omega
                  have hko : k < other.length := by have := HOL.out; omega
                  have hxl : k < (mixV used names vals other k).length := by rw [mixV_len]; have := HVL.out; omega
                  obtain ⟨b1, o1, rfl, c0⟩ := (HN.out.mono (below_gh KR.out.below)).at (List.getElem?_eq_getElem hkn)
                  unfold strV at c0
                  obtain ⟨y, hy⟩ : ∃ y, other.getD k vNil = y := ⟨_, rfl⟩
                  have hoy : other[k]? = some y := by rw [← hy, List.getD_eq_getElem?_getD, List.getElem?_eq_getElem hko]; rfl
                  have HOY := Lib.hid hoy
                  have HMIX : Hid (mixV used names vals other (k + 1) = if names[k] ∈ used then mixV used names vals other k else (mixV used names vals other k).set k y) := Lib.hid (by rw [mixV, List.getD_eq_getElem?_getD, List.getElem?_eq_getElem hkn, hy]; rfl)
                  have hko2 : k < ol := by have := HOL.out; omega
                  clear hy hoy hko
                  generalize names[k] = s at *
                  have HC0 := Lib.hid c0
                  go_wp2
                  go_loopg [12, 13] ul (fun g2 f j wr2 => ∃ (q : Nat) (fb : Bool), f = .bool fb ∧ j = .int .i64 q ∧ q + g2 = ul ∧ Hid (FoundAt fb s used q) ∧ Hid (Kept wr wr2 []))
                  case atStart => exact ⟨0, false, rfl, rfl, by omega, Lib.hid (by unfold FoundAt; simp), Lib.hid (Kept.start _)⟩
                  case round =>
                    obtain ⟨q, fb, rfl, rfl, hg2, HFB, KQ⟩ := hrel
                    by_cases hlt2 : q < ul
                    · skip
                      have hqu : q < used.length := by have := HUL.out; omega
                      obtain ⟨b5, o5, rfl, c5⟩ := ((HU4.out.mono (below_gh HB.out)).mono (below_gh KQ.out.below)).at (List.getElem?_eq_getElem hqu)
                      have c0 := cell9 KQ.out.below HC0.out
                      obtain ⟨nb, hnb⟩ : ∃ b, (fb || (used[q] == s)) = b := ⟨_, rfl⟩
                      have HNB : Hid (FoundAt nb s used (q + 1)) := Lib.hid (by unfold FoundAt; rw [mem_take9 hqu, ← (show fb = true ↔ s ∈ used.take q from HFB.out), ← hnb]; simp)
                      unfold strV at c5
                      generalize used[q] = z at *
                      go_upto_region 12 with fail
                      cases fb with
                      | true =>
                        have hnb2 : true = nb := by rw [← hnb]; rfl
                        subst hnb2
                        clear hnb
                        go_quiet ((fail))
                        go_wp2
                        go_roundg (gk - 1)
                        case rel =>
                          refine ⟨q + 1, true, rfl, by go_num, by omega, HNB, Lib.hid (KQ.out.call ?_)⟩
                          first | exact Below.refl _ _ | exact Below.drew (Below.refl _ _) | exact below8 _ _ | exact Below.drew (below8 _ _)
                        case measure => omega
                      | false =>
                        have hnb2 : (z == s) = nb := by rw [← hnb]; rfl
                        clear hnb
                        cases nb
                        all_goals
                          go_quiet ((fail))
                          go_wp2
                          go_roundg (gk - 1)
                          case rel =>
                            refine ⟨q + 1, _, rfl, by go_num, by omega, HNB, Lib.hid (KQ.out.call ?_)⟩
                            first | exact Below.refl _ _ | exact Below.drew (Below.refl _ _) | exact below8 _ _ | exact Below.drew (below8 _ _)
                          case measure => omega
                    · skip
                      have HFU : Hid (fb = true ↔ s ∈ used) := Lib.hid (by have h := HFB.out; unfold FoundAt at h; rw [List.take_of_length_le (by have := HUL.out; omega)] at h; exact h)
                      have HX2 := Lib.hid (HX.out.keep KQ.out.below)
                      have HB2 := Lib.hid (Below.seq HB.out KQ.out.below)
                      clear HFB
                      cases fb with
                      | true =>
                        have HM2 : Hid (mixV used names vals other (k + 1) = mixV used names vals other k) := Lib.hid (by rw [HMIX.out, if_pos (HFU.out.1 rfl)])
                        go_wp2
                        go_roundg G
                        case rel => exact ⟨k + 1, by go_num, by omega, by rw [HM2.out]; exact HX2, HB2⟩
                        case measure => omega
                      | false =>
                        have HM2 : Hid (mixV used names vals other (k + 1) = (mixV used names vals other k).set k y) := Lib.hid (by rw [HMIX.out, if_neg (fun h => by cases HFU.out.2 h)])
                        obtain ⟨b3, o3, rfl, d0, d1, d2⟩ := (HO.out.mono (below_gh (K4.out.below.seq HB2.out))).at HOY.out
                        have hxl : k < (mixV used names vals other k).length := by rw [mixV_len]; have := HVL.out; omega
                        obtain ⟨g, mc2, hmv, hg0, hm1, hm2, ⟨x0, c30⟩, ⟨x1, c31⟩, ⟨x2, c32⟩, f0, f1, f2⟩ := HX2.out.spot hxl
                        rw [mixV_len, HVL.out] at hmv hm1
                        simp only [Value.slice.injEq, true_and] at hmv
                        obtain ⟨rfl, rfl⟩ := hmv
                        have HPUT := Lib.hid (HX2.out.put hxl y)
                        rw [← HM2.out] at HPUT
                        unfold strV at d2 HPUT
                        obtain ⟨yk, hyk⟩ : ∃ n, y.k = n := ⟨_, rfl⟩
                        obtain ⟨yn, hyn⟩ : ∃ n, y.n = n := ⟨_, rfl⟩
                        obtain ⟨ys, hys⟩ : ∃ s : ByteArray, (⟨y.s.toArray⟩ : ByteArray) = s := ⟨_, rfl⟩
                        rw [hyk] at d0 HPUT
                        rw [hyn] at d1 HPUT
                        rw [hys] at d2 HPUT
                        clear hyk hyn hys
                        have hcap : mc ≤ 9223372036854775807 := by unfold maxLen at hm2; exact hm2
                        have hB3 := ((HB2.out.setCell (p := ⟨g, k * 3, none⟩) hg0 (.int .i64 yk)).setCell (p := ⟨g, k * 3 + 1, none⟩) hg0 (.int .i64 yn)).setCell (p := ⟨g, k * 3 + 2, none⟩) hg0 (.string ys)
                        have HB3 := Lib.hid hB3
                        clear hB3 hxl HM2 HMIX
                        go_wp2
                        go_roundg G
                        case rel => exact ⟨k + 1, by go_num, by omega, HPUT, HB3⟩
                        case measure => omega
                · skip
                  have hkv : k = vl := by omega
                  subst hkv
                  obtain ⟨x, hx⟩ : ∃ v, evalM e names vals = v := ⟨_, rfl⟩
                  have hx2 : evalM e names (mixV used names vals other k) = x := by
                    rw [← hx]
                    exact (names_plain HCF.out.2 (fun j s hj hs => (mixV_keep hj (by rw [← HUS.out]; exact occ_names e (check_good HCF.out.2 HCF.out.1) s hs) k).symm)).symm
                  obtain ⟨uk, huk⟩ : ∃ k, x.k = k := ⟨_, rfl⟩
                  obtain ⟨un, hun⟩ : ∃ k, x.n = k := ⟨_, rfl⟩
                  obtain ⟨us, hus⟩ : ∃ s : ByteArray, (⟨x.s.toArray⟩ : ByteArray) = s := ⟨_, rfl⟩
                  have HU : Hid (valV x = .agg #[.int .i64 uk, .int .i64 un, .string us]) := Lib.hid (by unfold valV strV; rw [huk, hun, hus])
                  have HFX : Hid (VFine (mixV used names vals other k)) := Lib.hid (mixV_fine HVX.out HOX.out (by have := HNL.out; have := HOL.out; omega) k (by have := HNL.out; omega))
                  have HEA := Lib.hid (fun W (hb : Below wr.heap.size wr W) => HEV2.out vals _ W HVX.out (KR.out.below.seq hb) (HA.out.mono (below_gh (KR.out.below.seq hb))))
                  have HEB := Lib.hid (fun W (hb : Below wr.heap.size wr W) => HEV2.out _ _ W HFX.out (KR.out.below.seq hb) (HX.out.toV.mono (below_gh hb)))
                  rw [hx] at HEA
                  rw [hx2] at HEB
                  unfold valPost at HEA HEB
                  simp only [HU.out] at HEA HEB
                  clear hx hx2 huk hun hus HEV2 HFX HX
                  go_upto_region 15 with fail
                  have KW : Hid (Kept wr wr ((w.heap.size, (.cells #[.int .i64 e.op, .int .i64 e.n, .string ⟨e.s.toArray⟩, .slice a e.ks.length cap] 28)) :: [])) := Lib.hid ⟨Below.refl _ _, fun x hx => by obtain rfl := List.mem_singleton.1 hx; exact KR.out.at0⟩
                  have KK := Lib.hid KW.out.drew
                  obtain ⟨⟨g0, g1, g2, g3⟩, -⟩ := four_all KK.out.at0
                  have z1 : (uk == uk) = true := beq_self_eq_true uk
                  have z2 : (un == un) = true := beq_self_eq_true un
                  have HBR := Lib.hid KR.out.below
                  have HAW2 := Lib.hid (fun W (hb : Below wr.heap.size wr W) => HAW.out W (HBR.out.seq hb))
                  clear KW KR
                  go_region_held3 (fun w' => (w'.cell? ⟨w.heap.size, 0, none⟩ = some (.int .i64 e.op) ∧ w'.cell? ⟨w.heap.size, 1, none⟩ = some (.int .i64 e.n) ∧ w'.cell? ⟨w.heap.size, 2, none⟩ = some (.string ⟨e.s.toArray⟩) ∧ w'.cell? ⟨w.heap.size, 3, none⟩ = some (.slice a e.ks.length cap))) (go_keep)
                    ((first
                      | (go_at_call 24; ((with_reducible refine (HEA.out _ KK.out.below).mono ?_)); rintro r W7 ⟨rfl, hb⟩; have KK := Lib.hid (KK.out.call hb); have hg := four_all KK.out.at0; obtain ⟨⟨g0, g1, g2, g3⟩, -⟩ := hg; clear hb)
                      | (go_at_call 24; ((with_reducible refine (HEB.out _ KK.out.below).mono ?_)); rintro r W7 ⟨rfl, hb⟩; have KK := Lib.hid (KK.out.call hb); have hg := four_all KK.out.at0; obtain ⟨⟨g0, g1, g2, g3⟩, -⟩ := hg; clear hb)
                      | (go_at_call 23; refine (HAW2.out _ KK.out.below).mono ?_; rintro r W9 ⟨rfl, hb⟩; have KK := Lib.hid (KK.out.call hb); have hg := four_all KK.out.at0; obtain ⟨⟨g0, g1, g2, g3⟩, -⟩ := hg; clear hb)))
                  all_goals
                    have hbx := HBR.out.seq KK.out.below
                    go_wp2
                    go_ret
                    exact ⟨rfl, hbx⟩
          · skip
            have q1 : ((vl : Int) != nl) = true := by simp; omega
            clear hvf hof
            go_wp2_with fail
            refine (HAW.out _ K2.out.below).mono ?_
            rintro r V ⟨rfl, hbv⟩
            have hbv := K2.out.below.seq hbv
            go_wp2
            go_ret
            exact ⟨rfl, hbv⟩
end Go.Proofs.YtoklhppalkgdeaaGreatDoor
