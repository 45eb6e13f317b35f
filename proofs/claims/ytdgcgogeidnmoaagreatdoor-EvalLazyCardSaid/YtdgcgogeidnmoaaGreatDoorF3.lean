/- The walk of palaverlaw09.EvalLazy. Conditions: the tables hold what they are laid with; the arguments read as data. -/
import Derived.Test.YtdgcgogeidnmoaaGreatDoorR4
import Derived.Test.YtdgcgogeidnmoaaGreatDoorTn
import Derived.Test.YtdgcgogeidnmoaaGreatDoorE15
import Derived.Test.YtdgcgogeidnmoaaGreatDoorR1
import Derived.Test.YtdgcgogeidnmoaaGreatDoorPx
import Derived.Deep.RegionHeld3
set_option linter.unusedSimpArgs false
set_option linter.unusedVariables false
set_option linter.unusedSectionVars false
namespace Go.Proofs.YtdgcgogeidnmoaaGreatDoor
open Go.RowKit Pal
def yesX : Ex := .mk 3 1 [] []
def noX : Ex := .mk 3 0 [] []
theorem yesX_fine : Fine yesX := .mk _ _ _ _ (by decide) (by decide) (by decide) (fun k hk => by cases hk)
theorem noX_fine : Fine noX := .mk _ _ _ _ (by decide) (by decide) (by decide) (fun k hk => by cases hk)
theorem op_fine {op : Int} {ks : List Ex} (ho : -9223372036854775808 ≤ op ∧ op ≤ 9223372036854775807) (h : ∀ k ∈ ks, Fine k) : Fine (.mk op 0 [] ks) := .mk _ _ _ _ ho (by decide) (by decide) h
theorem all2 {P : Ex → Prop} {a b : Ex} (ha : P a) (hb : P b) : ∀ k ∈ [a, b], P k := by
  intro k hk
  rcases List.mem_cons.1 hk with rfl | hk
  · exact ha
  · obtain rfl := List.mem_singleton.1 hk; exact hb
theorem all3 {P : Ex → Prop} {a b c : Ex} (ha : P a) (hb : P b) (hc : P c) : ∀ k ∈ [a, b, c], P k := by
  intro k hk
  rcases List.mem_cons.1 hk with rfl | hk
  · exact ha
  · exact all2 hb hc k hk
/-- The four that EvalLazy puts together. -/
def lazA (e f : Ex) : Ex := .mk 18 0 [] [yesX, e, f]
def lazB (e f : Ex) : Ex := .mk 18 0 [] [noX, f, e]
def lazC (e : Ex) : Ex := .mk 17 0 [] [yesX, e]
def lazD (e : Ex) : Ex := .mk 16 0 [] [noX, e]
theorem laz_ev {e f : Ex} (names : List Bs) (vals : List Val) (he : check e = true) (ha : check (lazA e f) = true) (hb : check (lazB e f) = true) (hc : check (lazC e) = true) (hd : check (lazD e) = true) :
    evalM (lazA e f) names vals = evalM e names vals ∧ evalM (lazB e f) names vals = evalM e names vals ∧ evalM (lazC e) names vals = vBool true ∧ evalM (lazD e) names vals = vBool false := by
  obtain ⟨h1, h2, h3, h4⟩ := lazy_plain (look names vals) e f
  unfold evalM
  rw [if_pos he, if_pos ha, if_pos hb, if_pos hc, if_pos hd]
  exact ⟨h1, h2, h3, h4⟩
/-- What an expression comes to, at a world of the walk's. -/
def EvAt (x : Value) (k n : Int) (s : ByteArray) (nv vv : Value) (W : World) : Prop :=
  Calls Tryz.prog 36 #[x, nv, vv] W fun r w' => r = .returned (.agg #[.int .i64 k, .int .i64 n, .string s]) ∧ Below W.heap.size W w'
def ChAt (x : Value) (b : Bool) (W : World) : Prop := Calls Tryz.prog 28 #[x] W fun r w' => r = .returned (.bool b) ∧ Below W.heap.size W w'
def evPost2 (k n : Int) (s : ByteArray) (W : World) (r : Ending) (w' : World) : Prop := r = .returned (.agg #[.int .i64 k, .int .i64 n, .string s]) ∧ Below W.heap.size W w'
theorem evAt_of {x : Ex} {v : Val} {names : List Bs} {vals : List Val} {kv nv vv : Value} {W : World} {k n : Int} {s : ByteArray} (hF : Fine x) (hV : VFine vals) (hL : Lay (gh W)) (hK : KV (gh W) kv x.ks) (hN : StrsV (gh W) nv names) (hA : ValsV (gh W) vv vals)
    (hv : evalM x names vals = v) (h1 : v.k = k) (h2 : v.n = n) (h3 : (⟨v.s.toArray⟩ : ByteArray) = s) : EvAt (exV x.op x.n x.s kv) k n s nv vv W := by
  have h := Eval_any x names vals _ nv vv W hF hV hL ⟨_, rfl, hK⟩ hN hA
  rw [hv] at h
  subst h1 h2 h3
  exact h
set_option maxRecDepth 1000000 in
set_option maxHeartbeats 16000000 in
theorem lazy_walk (e : Ex) (ve : Value) (f : Ex) (vf : Value) (names : List Bs) (nv : Value) (vals : List Val) (vv : Value) (w : World) (hL : Lay2 w) (hE : EV (gh w) ve e) (hFe : Fine0 e) (hE2 : EV (gh w) vf f) (hFf : Fine0 f)
    (hN : StrsV (gh w) nv names) (hNs : ∀ s ∈ names, s.length ≤ 9223372036854775807) (hNn : NilV nv) (hA : ValsV (gh w) vv vals) (hAs : ∀ v ∈ vals, I64 v.k ∧ I64 v.n ∧ v.s.length ≤ 9223372036854775807) (hAn : NilV vv) :
    Calls Tryz.prog 13 #[ve, vf, nv, vv] w (yesPost w) := by
  have HL := Lib.hid hL
  have HN := Lib.hid hN
  have HA := Lib.hid hA
  have HE := Lib.hid hE
  have HE2 := Lib.hid hE2
  obtain ⟨kv, rfl, hK⟩ := hE
  obtain ⟨ea, ec, rfl⟩ := hK.form
  obtain ⟨kv2, rfl, hK2⟩ := hE2
  obtain ⟨fa, fc, rfl⟩ := hK2.form
  obtain ⟨na, nc, rfl⟩ := hN.form
  obtain ⟨va, vc, rfl, -⟩ := hA.form
  have HK := Lib.hid hK
  have HK2 := Lib.hid hK2
  have K0 := Lib.hid ((Kept.start w).new2 (.cells #[.int .i64 e.op, .int .i64 e.n, .string ⟨e.s.toArray⟩, .slice ea e.ks.length ec] 24) (.cells #[.int .i64 f.op, .int .i64 f.n, .string ⟨f.s.toArray⟩, .slice fa f.ks.length fc] 24))
  obtain ⟨te, hte⟩ : ∃ b, tiny e = b := ⟨_, rfl⟩
  obtain ⟨tf, htf⟩ : ∃ b, tiny f = b := ⟨_, rfl⟩
  obtain ⟨ce, hce⟩ : ∃ b, check e = b := ⟨_, rfl⟩
  obtain ⟨cf, hcf⟩ : ∃ b, check f = b := ⟨_, rfl⟩
  obtain ⟨fw, hfw⟩ : ∃ b, few9 names vals = b := ⟨_, rfl⟩
  obtain ⟨ca, hca⟩ : ∃ b, check (lazA e f) = b := ⟨_, rfl⟩
  obtain ⟨cb, hcb⟩ : ∃ b, check (lazB e f) = b := ⟨_, rfl⟩
  obtain ⟨cc, hcc⟩ : ∃ b, check (lazC e) = b := ⟨_, rfl⟩
  obtain ⟨cd, hcd⟩ : ∃ b, check (lazD e) = b := ⟨_, rfl⟩
  obtain ⟨v, hv⟩ : ∃ v, evalM e names vals = v := ⟨_, rfl⟩
  obtain ⟨vk, hvk⟩ : ∃ k, v.k = k := ⟨_, rfl⟩
  obtain ⟨vn, hvn⟩ : ∃ k, v.n = k := ⟨_, rfl⟩
  obtain ⟨vs, hvs⟩ : ∃ s : ByteArray, (⟨v.s.toArray⟩ : ByteArray) = s := ⟨_, rfl⟩
  have HTE := Lib.hid (fun W (hb : Below w.heap.size w W) => hte ▸ Tiny_any e _ W hFe (HE.out.keep hb))
  have HTF := Lib.hid (fun W (hb : Below w.heap.size w W) => htf ▸ Tiny_any f _ W hFf (HE2.out.keep hb))
  have HFe : Hid (te = true → Fine e) := Lib.hid (fun h => (tiny_slim (hte.trans h)).fine hFe)
  have HFf : Hid (tf = true → Fine f) := Lib.hid (fun h => (tiny_slim (htf.trans h)).fine hFf)
  have HCE := Lib.hid (fun (h : te = true) W (hb : Below w.heap.size w W) => hce ▸ refCheck7_any e _ W (HFe.out h) (HE.out.keep hb))
  have HCF := Lib.hid (fun (h : tf = true) W (hb : Below w.heap.size w W) => hcf ▸ refCheck7_any f _ W (HFf.out h) (HE2.out.keep hb))
  have HFW := Lib.hid (fun W (hb : Below w.heap.size w W) => hfw ▸ few9_any names vals _ _ W (HN.out.mono (below_gh hb)) (HA.out.mono (below_gh hb)))
  have HVF : Hid (fw = true → VFine vals) := Lib.hid (fun h => few9_fine (hfw.trans h) hAs)
  have HAW := Lib.hid (fun W (hb : Below w.heap.size w W) => awake9 W (HL.out.below hb).lay)
  have HEV : Hid (ce = true → ca = true → cb = true → cc = true → cd = true → evalM (lazA e f) names vals = v ∧ evalM (lazB e f) names vals = v ∧ evalM (lazC e) names vals = vBool true ∧ evalM (lazD e) names vals = vBool false) :=
    Lib.hid (fun h1 h2 h3 h4 h5 => by rw [← hv]; exact laz_ev names vals (hce.trans h1) (hca.trans h2) (hcb.trans h3) (hcc.trans h4) (hcd.trans h5))
  have HV := Lib.hid hv
  have HVK := Lib.hid hvk
  have HVN := Lib.hid hvn
  have HVS := Lib.hid hvs
  have HCA := Lib.hid hca
  have HCB := Lib.hid hcb
  have HCC := Lib.hid hcc
  have HCD := Lib.hid hcd
  have HLN := Lib.hid hNs
  unfold exV strV at HTE HTF HCE HCF
  clear hL hN hNs hNn hA hAs hAn hK hK2 hte htf hce hcf hfw hca hcb hcc hcd hv hvk hvn hvs hFe hFf
  obtain ⟨⟨e0, e1, e2, e3⟩, -⟩ := four_all K0.out.tail.at0
  obtain ⟨⟨f0, f1, f2, f3⟩, -⟩ := four_all K0.out.at0
  unfold exV strV
  go_enter Tryz.func13, Tryz.ntmps13
  go_wp2_with fail
  refine (HTE.out _ K0.out.below).mono ?_
  generalize (w.alloc (.cells #[.int .i64 e.op, .int .i64 e.n, .string ⟨e.s.toArray⟩, .slice ea e.ks.length ec] 24)).alloc (.cells #[.int .i64 f.op, .int .i64 f.n, .string ⟨f.s.toArray⟩, .slice fa f.ks.length fc] 24) = W0 at *
  clear e0 e1 e2 e3 f0 f1 f2 f3
  rintro r W1 ⟨rfl, hb⟩
  have K1 := Lib.hid (K0.out.call hb)
  clear hb
  cases te with
  | false =>
    go_wp2_with fail
    refine (HAW.out _ K1.out.below).mono ?_
    rintro r V ⟨rfl, hbv⟩
    have hbv := K1.out.below.seq hbv
    go_wp2
    go_ret
    exact ⟨rfl, hbv⟩
  | true =>
    obtain ⟨⟨f0, f1, f2, f3⟩, -⟩ := four_all K1.out.at0
    go_wp2_with fail
    refine (HTF.out _ K1.out.below).mono ?_
    rintro r W2 ⟨rfl, hb⟩
    have K2 := Lib.hid (K1.out.call hb)
    clear hb f0 f1 f2 f3 K1 K0
    cases tf with
    | false =>
      go_wp2_with fail
      refine (HAW.out _ K2.out.below).mono ?_
      rintro r V ⟨rfl, hbv⟩
      have hbv := K2.out.below.seq hbv
      go_wp2
      go_ret
      exact ⟨rfl, hbv⟩
    | true =>
      obtain ⟨⟨e0, e1, e2, e3⟩, -⟩ := four_all K2.out.tail.at0
      go_wp2_with fail
      refine (HCE.out (by first | rfl | trivial) _ K2.out.below).mono ?_
      rintro r W3 ⟨rfl, hb⟩
      have K3 := Lib.hid (K2.out.call hb)
      clear hb e0 e1 e2 e3 K2
      cases ce with
      | false =>
        go_wp2_with fail
        refine (HAW.out _ K3.out.below).mono ?_
        rintro r V ⟨rfl, hbv⟩
        have hbv := K3.out.below.seq hbv
        go_wp2
        go_ret
        exact ⟨rfl, hbv⟩
      | true =>
        obtain ⟨⟨f0, f1, f2, f3⟩, -⟩ := four_all K3.out.at0
        go_wp2_with fail
        refine (HCF.out (by first | rfl | trivial) _ K3.out.below).mono ?_
        rintro r W4 ⟨rfl, hb⟩
        have K4 := Lib.hid (K3.out.call hb)
        clear hb f0 f1 f2 f3 K3
        cases cf with
        | false =>
          go_wp2_with fail
          refine (HAW.out _ K4.out.below).mono ?_
          rintro r V ⟨rfl, hbv⟩
          have hbv := K4.out.below.seq hbv
          go_wp2
          go_ret
          exact ⟨rfl, hbv⟩
        | true =>
          go_wp2_with fail
          refine (HFW.out _ K4.out.below).mono ?_
          rintro r W5 ⟨rfl, rfl⟩
          cases fw with
          | false =>
            go_wp2_with fail
            refine (HAW.out _ K4.out.below).mono ?_
            rintro r V ⟨rfl, hbv⟩
            have hbv := K4.out.below.seq hbv
            go_wp2
            go_ret
            exact ⟨rfl, hbv⟩
          | true =>
            have K6 := Lib.hid (K4.out.new2 (.cells #[.int .i64 3, .int .i64 1, .string ⟨#[]⟩, .slice none 0 0] 24) (.cells #[.int .i64 3, .int .i64 0, .string ⟨#[]⟩, .slice none 0 0] 24))
            go_upto_region 5 with fail
            generalize (W4.alloc (.cells #[.int .i64 3, .int .i64 1, .string ⟨#[]⟩, .slice none 0 0] 24)).alloc (.cells #[.int .i64 3, .int .i64 0, .string ⟨#[]⟩, .slice none 0 0] 24) = W6 at *
            generalize W4.heap.size = bY at *
            obtain ⟨⟨y0, y1, y2, y3⟩, -⟩ := four_all K6.out.tail.at0
            obtain ⟨⟨e0, e1, e2, e3⟩, -⟩ := four_all K6.out.tail.tail.tail.at0
            obtain ⟨⟨f0, f1, f2, f3⟩, -⟩ := four_all K6.out.tail.tail.at0
            have K7 := Lib.hid (K6.out.new2 (.cells #[.int .i64 3, .int .i64 1, .string ⟨#[]⟩, .slice none 0 0, .int .i64 e.op, .int .i64 e.n, .string ⟨e.s.toArray⟩, .slice ea e.ks.length ec, .int .i64 f.op, .int .i64 f.n, .string ⟨f.s.toArray⟩, .slice fa f.ks.length fc] 24) (.cells #[.int .i64 18, .int .i64 0, .string ⟨#[]⟩, .slice (some ⟨W6.heap.size, 0, none⟩) 3 3] 24))
            go_upto_region 6 with fail
            generalize (W6.alloc (.cells #[.int .i64 3, .int .i64 1, .string ⟨#[]⟩, .slice none 0 0, .int .i64 e.op, .int .i64 e.n, .string ⟨e.s.toArray⟩, .slice ea e.ks.length ec, .int .i64 f.op, .int .i64 f.n, .string ⟨f.s.toArray⟩, .slice fa f.ks.length fc] 24)).alloc (.cells #[.int .i64 18, .int .i64 0, .string ⟨#[]⟩, .slice (some ⟨W6.heap.size, 0, none⟩) 3 3] 24) = W7 at *
            generalize W6.heap.size = rA at *
            clear y0 y1 y2 y3 e0 e1 e2 e3 f0 f1 f2 f3
            obtain ⟨⟨n0, n1, n2, n3⟩, -⟩ := four_all K7.out.tail.tail.at0
            obtain ⟨⟨f0, f1, f2, f3⟩, -⟩ := four_all K7.out.tail.tail.tail.tail.at0
            obtain ⟨⟨e0, e1, e2, e3⟩, -⟩ := four_all K7.out.tail.tail.tail.tail.tail.at0
            have K8 := Lib.hid (K7.out.new2 (.cells #[.int .i64 3, .int .i64 0, .string ⟨#[]⟩, .slice none 0 0, .int .i64 f.op, .int .i64 f.n, .string ⟨f.s.toArray⟩, .slice fa f.ks.length fc, .int .i64 e.op, .int .i64 e.n, .string ⟨e.s.toArray⟩, .slice ea e.ks.length ec] 24) (.cells #[.int .i64 18, .int .i64 0, .string ⟨#[]⟩, .slice (some ⟨W7.heap.size, 0, none⟩) 3 3] 24))
            go_upto_region 7 with fail
            generalize (W7.alloc (.cells #[.int .i64 3, .int .i64 0, .string ⟨#[]⟩, .slice none 0 0, .int .i64 f.op, .int .i64 f.n, .string ⟨f.s.toArray⟩, .slice fa f.ks.length fc, .int .i64 e.op, .int .i64 e.n, .string ⟨e.s.toArray⟩, .slice ea e.ks.length ec] 24)).alloc (.cells #[.int .i64 18, .int .i64 0, .string ⟨#[]⟩, .slice (some ⟨W7.heap.size, 0, none⟩) 3 3] 24) = W8 at *
            generalize W7.heap.size = rB at *
            clear n0 n1 n2 n3 f0 f1 f2 f3 e0 e1 e2 e3
            obtain ⟨⟨y0, y1, y2, y3⟩, -⟩ := four_all K8.out.tail.tail.tail.tail.tail.at0
            obtain ⟨⟨e0, e1, e2, e3⟩, -⟩ := four_all K8.out.tail.tail.tail.tail.tail.tail.tail.at0
            have K9 := Lib.hid (K8.out.new2 (.cells #[.int .i64 3, .int .i64 1, .string ⟨#[]⟩, .slice none 0 0, .int .i64 e.op, .int .i64 e.n, .string ⟨e.s.toArray⟩, .slice ea e.ks.length ec] 24) (.cells #[.int .i64 17, .int .i64 0, .string ⟨#[]⟩, .slice (some ⟨W8.heap.size, 0, none⟩) 2 2] 24))
            go_upto_region 8 with fail
            generalize (W8.alloc (.cells #[.int .i64 3, .int .i64 1, .string ⟨#[]⟩, .slice none 0 0, .int .i64 e.op, .int .i64 e.n, .string ⟨e.s.toArray⟩, .slice ea e.ks.length ec] 24)).alloc (.cells #[.int .i64 17, .int .i64 0, .string ⟨#[]⟩, .slice (some ⟨W8.heap.size, 0, none⟩) 2 2] 24) = W9 at *
            generalize W8.heap.size = rC at *
            clear y0 y1 y2 y3 e0 e1 e2 e3
            obtain ⟨⟨n0, n1, n2, n3⟩, -⟩ := four_all K9.out.tail.tail.tail.tail.tail.tail.at0
            obtain ⟨⟨e0, e1, e2, e3⟩, -⟩ := four_all K9.out.tail.tail.tail.tail.tail.tail.tail.tail.tail.at0
            have K10 := Lib.hid (K9.out.new2 (.cells #[.int .i64 3, .int .i64 0, .string ⟨#[]⟩, .slice none 0 0, .int .i64 e.op, .int .i64 e.n, .string ⟨e.s.toArray⟩, .slice ea e.ks.length ec] 24) (.cells #[.int .i64 16, .int .i64 0, .string ⟨#[]⟩, .slice (some ⟨W9.heap.size, 0, none⟩) 2 2] 24))
            go_upto_region 9 with fail
            generalize (W9.alloc (.cells #[.int .i64 3, .int .i64 0, .string ⟨#[]⟩, .slice none 0 0, .int .i64 e.op, .int .i64 e.n, .string ⟨e.s.toArray⟩, .slice ea e.ks.length ec] 24)).alloc (.cells #[.int .i64 16, .int .i64 0, .string ⟨#[]⟩, .slice (some ⟨W9.heap.size, 0, none⟩) 2 2] 24) = W10 at *
            generalize W9.heap.size = rD at *
            clear n0 n1 n2 n3 e0 e1 e2 e3
            have HRA := Lib.hid (fun W (h : Below w.heap.size w W) => And.intro (HK.out.keep h) (HK2.out.keep h))
            have HKVA : Hid (∀ W, Kept w W [(rD + 1, (.cells #[.int .i64 16, .int .i64 0, .string ⟨#[]⟩, .slice (some ⟨rD, 0, none⟩) 2 2] 24)), (rD, (.cells #[.int .i64 3, .int .i64 0, .string ⟨#[]⟩, .slice none 0 0, .int .i64 e.op, .int .i64 e.n, .string ⟨e.s.toArray⟩, .slice ea e.ks.length ec] 24)), (rC + 1, (.cells #[.int .i64 17, .int .i64 0, .string ⟨#[]⟩, .slice (some ⟨rC, 0, none⟩) 2 2] 24)), (rC, (.cells #[.int .i64 3, .int .i64 1, .string ⟨#[]⟩, .slice none 0 0, .int .i64 e.op, .int .i64 e.n, .string ⟨e.s.toArray⟩, .slice ea e.ks.length ec] 24)), (rB + 1, (.cells #[.int .i64 18, .int .i64 0, .string ⟨#[]⟩, .slice (some ⟨rB, 0, none⟩) 3 3] 24)), (rB, (.cells #[.int .i64 3, .int .i64 0, .string ⟨#[]⟩, .slice none 0 0, .int .i64 f.op, .int .i64 f.n, .string ⟨f.s.toArray⟩, .slice fa f.ks.length fc, .int .i64 e.op, .int .i64 e.n, .string ⟨e.s.toArray⟩, .slice ea e.ks.length ec] 24)), (rA + 1, (.cells #[.int .i64 18, .int .i64 0, .string ⟨#[]⟩, .slice (some ⟨rA, 0, none⟩) 3 3] 24)), (rA, (.cells #[.int .i64 3, .int .i64 1, .string ⟨#[]⟩, .slice none 0 0, .int .i64 e.op, .int .i64 e.n, .string ⟨e.s.toArray⟩, .slice ea e.ks.length ec, .int .i64 f.op, .int .i64 f.n, .string ⟨f.s.toArray⟩, .slice fa f.ks.length fc] 24)), (bY + 1, (.cells #[.int .i64 3, .int .i64 0, .string ⟨#[]⟩, .slice none 0 0] 24)), (bY, (.cells #[.int .i64 3, .int .i64 1, .string ⟨#[]⟩, .slice none 0 0] 24)), (w.heap.size + 1, (.cells #[.int .i64 f.op, .int .i64 f.n, .string ⟨f.s.toArray⟩, .slice fa f.ks.length fc] 24)), (w.heap.size, (.cells #[.int .i64 e.op, .int .i64 e.n, .string ⟨e.s.toArray⟩, .slice ea e.ks.length ec] 24))] → KV (gh W) (.slice (some ⟨rA, 0, none⟩) 3 3) (lazA e f).ks) := Lib.hid (fun W h => KV.three (a := yesX) (c := e) (d := f) h.tail.tail.tail.tail.tail.tail.tail.at0 (KV.nil _) (HRA.out W h.below).1 (HRA.out W h.below).2)
            have HKVB : Hid (∀ W, Kept w W [(rD + 1, (.cells #[.int .i64 16, .int .i64 0, .string ⟨#[]⟩, .slice (some ⟨rD, 0, none⟩) 2 2] 24)), (rD, (.cells #[.int .i64 3, .int .i64 0, .string ⟨#[]⟩, .slice none 0 0, .int .i64 e.op, .int .i64 e.n, .string ⟨e.s.toArray⟩, .slice ea e.ks.length ec] 24)), (rC + 1, (.cells #[.int .i64 17, .int .i64 0, .string ⟨#[]⟩, .slice (some ⟨rC, 0, none⟩) 2 2] 24)), (rC, (.cells #[.int .i64 3, .int .i64 1, .string ⟨#[]⟩, .slice none 0 0, .int .i64 e.op, .int .i64 e.n, .string ⟨e.s.toArray⟩, .slice ea e.ks.length ec] 24)), (rB + 1, (.cells #[.int .i64 18, .int .i64 0, .string ⟨#[]⟩, .slice (some ⟨rB, 0, none⟩) 3 3] 24)), (rB, (.cells #[.int .i64 3, .int .i64 0, .string ⟨#[]⟩, .slice none 0 0, .int .i64 f.op, .int .i64 f.n, .string ⟨f.s.toArray⟩, .slice fa f.ks.length fc, .int .i64 e.op, .int .i64 e.n, .string ⟨e.s.toArray⟩, .slice ea e.ks.length ec] 24)), (rA + 1, (.cells #[.int .i64 18, .int .i64 0, .string ⟨#[]⟩, .slice (some ⟨rA, 0, none⟩) 3 3] 24)), (rA, (.cells #[.int .i64 3, .int .i64 1, .string ⟨#[]⟩, .slice none 0 0, .int .i64 e.op, .int .i64 e.n, .string ⟨e.s.toArray⟩, .slice ea e.ks.length ec, .int .i64 f.op, .int .i64 f.n, .string ⟨f.s.toArray⟩, .slice fa f.ks.length fc] 24)), (bY + 1, (.cells #[.int .i64 3, .int .i64 0, .string ⟨#[]⟩, .slice none 0 0] 24)), (bY, (.cells #[.int .i64 3, .int .i64 1, .string ⟨#[]⟩, .slice none 0 0] 24)), (w.heap.size + 1, (.cells #[.int .i64 f.op, .int .i64 f.n, .string ⟨f.s.toArray⟩, .slice fa f.ks.length fc] 24)), (w.heap.size, (.cells #[.int .i64 e.op, .int .i64 e.n, .string ⟨e.s.toArray⟩, .slice ea e.ks.length ec] 24))] → KV (gh W) (.slice (some ⟨rB, 0, none⟩) 3 3) (lazB e f).ks) := Lib.hid (fun W h => KV.three (a := noX) (c := f) (d := e) h.tail.tail.tail.tail.tail.at0 (KV.nil _) (HRA.out W h.below).2 (HRA.out W h.below).1)
            have HKVC : Hid (∀ W, Kept w W [(rD + 1, (.cells #[.int .i64 16, .int .i64 0, .string ⟨#[]⟩, .slice (some ⟨rD, 0, none⟩) 2 2] 24)), (rD, (.cells #[.int .i64 3, .int .i64 0, .string ⟨#[]⟩, .slice none 0 0, .int .i64 e.op, .int .i64 e.n, .string ⟨e.s.toArray⟩, .slice ea e.ks.length ec] 24)), (rC + 1, (.cells #[.int .i64 17, .int .i64 0, .string ⟨#[]⟩, .slice (some ⟨rC, 0, none⟩) 2 2] 24)), (rC, (.cells #[.int .i64 3, .int .i64 1, .string ⟨#[]⟩, .slice none 0 0, .int .i64 e.op, .int .i64 e.n, .string ⟨e.s.toArray⟩, .slice ea e.ks.length ec] 24)), (rB + 1, (.cells #[.int .i64 18, .int .i64 0, .string ⟨#[]⟩, .slice (some ⟨rB, 0, none⟩) 3 3] 24)), (rB, (.cells #[.int .i64 3, .int .i64 0, .string ⟨#[]⟩, .slice none 0 0, .int .i64 f.op, .int .i64 f.n, .string ⟨f.s.toArray⟩, .slice fa f.ks.length fc, .int .i64 e.op, .int .i64 e.n, .string ⟨e.s.toArray⟩, .slice ea e.ks.length ec] 24)), (rA + 1, (.cells #[.int .i64 18, .int .i64 0, .string ⟨#[]⟩, .slice (some ⟨rA, 0, none⟩) 3 3] 24)), (rA, (.cells #[.int .i64 3, .int .i64 1, .string ⟨#[]⟩, .slice none 0 0, .int .i64 e.op, .int .i64 e.n, .string ⟨e.s.toArray⟩, .slice ea e.ks.length ec, .int .i64 f.op, .int .i64 f.n, .string ⟨f.s.toArray⟩, .slice fa f.ks.length fc] 24)), (bY + 1, (.cells #[.int .i64 3, .int .i64 0, .string ⟨#[]⟩, .slice none 0 0] 24)), (bY, (.cells #[.int .i64 3, .int .i64 1, .string ⟨#[]⟩, .slice none 0 0] 24)), (w.heap.size + 1, (.cells #[.int .i64 f.op, .int .i64 f.n, .string ⟨f.s.toArray⟩, .slice fa f.ks.length fc] 24)), (w.heap.size, (.cells #[.int .i64 e.op, .int .i64 e.n, .string ⟨e.s.toArray⟩, .slice ea e.ks.length ec] 24))] → KV (gh W) (.slice (some ⟨rC, 0, none⟩) 2 2) (lazC e).ks) := Lib.hid (fun W h => KV.two (a := yesX) (c := e) h.tail.tail.tail.at0 (KV.nil _) (HRA.out W h.below).1)
            have HKVD : Hid (∀ W, Kept w W [(rD + 1, (.cells #[.int .i64 16, .int .i64 0, .string ⟨#[]⟩, .slice (some ⟨rD, 0, none⟩) 2 2] 24)), (rD, (.cells #[.int .i64 3, .int .i64 0, .string ⟨#[]⟩, .slice none 0 0, .int .i64 e.op, .int .i64 e.n, .string ⟨e.s.toArray⟩, .slice ea e.ks.length ec] 24)), (rC + 1, (.cells #[.int .i64 17, .int .i64 0, .string ⟨#[]⟩, .slice (some ⟨rC, 0, none⟩) 2 2] 24)), (rC, (.cells #[.int .i64 3, .int .i64 1, .string ⟨#[]⟩, .slice none 0 0, .int .i64 e.op, .int .i64 e.n, .string ⟨e.s.toArray⟩, .slice ea e.ks.length ec] 24)), (rB + 1, (.cells #[.int .i64 18, .int .i64 0, .string ⟨#[]⟩, .slice (some ⟨rB, 0, none⟩) 3 3] 24)), (rB, (.cells #[.int .i64 3, .int .i64 0, .string ⟨#[]⟩, .slice none 0 0, .int .i64 f.op, .int .i64 f.n, .string ⟨f.s.toArray⟩, .slice fa f.ks.length fc, .int .i64 e.op, .int .i64 e.n, .string ⟨e.s.toArray⟩, .slice ea e.ks.length ec] 24)), (rA + 1, (.cells #[.int .i64 18, .int .i64 0, .string ⟨#[]⟩, .slice (some ⟨rA, 0, none⟩) 3 3] 24)), (rA, (.cells #[.int .i64 3, .int .i64 1, .string ⟨#[]⟩, .slice none 0 0, .int .i64 e.op, .int .i64 e.n, .string ⟨e.s.toArray⟩, .slice ea e.ks.length ec, .int .i64 f.op, .int .i64 f.n, .string ⟨f.s.toArray⟩, .slice fa f.ks.length fc] 24)), (bY + 1, (.cells #[.int .i64 3, .int .i64 0, .string ⟨#[]⟩, .slice none 0 0] 24)), (bY, (.cells #[.int .i64 3, .int .i64 1, .string ⟨#[]⟩, .slice none 0 0] 24)), (w.heap.size + 1, (.cells #[.int .i64 f.op, .int .i64 f.n, .string ⟨f.s.toArray⟩, .slice fa f.ks.length fc] 24)), (w.heap.size, (.cells #[.int .i64 e.op, .int .i64 e.n, .string ⟨e.s.toArray⟩, .slice ea e.ks.length ec] 24))] → KV (gh W) (.slice (some ⟨rD, 0, none⟩) 2 2) (lazD e).ks) := Lib.hid (fun W h => KV.two (a := noX) (c := e) h.tail.at0 (KV.nil _) (HRA.out W h.below).1)
            have HFXA : Hid (Fine (lazA e f)) := Lib.hid (op_fine (by decide) (all3 yesX_fine (HFe.out (by first | rfl | trivial)) (HFf.out (by first | rfl | trivial))))
            have HFXB : Hid (Fine (lazB e f)) := Lib.hid (op_fine (by decide) (all3 noX_fine (HFf.out (by first | rfl | trivial)) (HFe.out (by first | rfl | trivial))))
            have HFXC : Hid (Fine (lazC e)) := Lib.hid (op_fine (by decide) (all2 yesX_fine (HFe.out (by first | rfl | trivial))))
            have HFXD : Hid (Fine (lazD e)) := Lib.hid (op_fine (by decide) (all2 noX_fine (HFe.out (by first | rfl | trivial))))
            have HCA2 : Hid (∀ W, Kept w W [(rD + 1, (.cells #[.int .i64 16, .int .i64 0, .string ⟨#[]⟩, .slice (some ⟨rD, 0, none⟩) 2 2] 24)), (rD, (.cells #[.int .i64 3, .int .i64 0, .string ⟨#[]⟩, .slice none 0 0, .int .i64 e.op, .int .i64 e.n, .string ⟨e.s.toArray⟩, .slice ea e.ks.length ec] 24)), (rC + 1, (.cells #[.int .i64 17, .int .i64 0, .string ⟨#[]⟩, .slice (some ⟨rC, 0, none⟩) 2 2] 24)), (rC, (.cells #[.int .i64 3, .int .i64 1, .string ⟨#[]⟩, .slice none 0 0, .int .i64 e.op, .int .i64 e.n, .string ⟨e.s.toArray⟩, .slice ea e.ks.length ec] 24)), (rB + 1, (.cells #[.int .i64 18, .int .i64 0, .string ⟨#[]⟩, .slice (some ⟨rB, 0, none⟩) 3 3] 24)), (rB, (.cells #[.int .i64 3, .int .i64 0, .string ⟨#[]⟩, .slice none 0 0, .int .i64 f.op, .int .i64 f.n, .string ⟨f.s.toArray⟩, .slice fa f.ks.length fc, .int .i64 e.op, .int .i64 e.n, .string ⟨e.s.toArray⟩, .slice ea e.ks.length ec] 24)), (rA + 1, (.cells #[.int .i64 18, .int .i64 0, .string ⟨#[]⟩, .slice (some ⟨rA, 0, none⟩) 3 3] 24)), (rA, (.cells #[.int .i64 3, .int .i64 1, .string ⟨#[]⟩, .slice none 0 0, .int .i64 e.op, .int .i64 e.n, .string ⟨e.s.toArray⟩, .slice ea e.ks.length ec, .int .i64 f.op, .int .i64 f.n, .string ⟨f.s.toArray⟩, .slice fa f.ks.length fc] 24)), (bY + 1, (.cells #[.int .i64 3, .int .i64 0, .string ⟨#[]⟩, .slice none 0 0] 24)), (bY, (.cells #[.int .i64 3, .int .i64 1, .string ⟨#[]⟩, .slice none 0 0] 24)), (w.heap.size + 1, (.cells #[.int .i64 f.op, .int .i64 f.n, .string ⟨f.s.toArray⟩, .slice fa f.ks.length fc] 24)), (w.heap.size, (.cells #[.int .i64 e.op, .int .i64 e.n, .string ⟨e.s.toArray⟩, .slice ea e.ks.length ec] 24))] → ChAt (.agg #[.int .i64 18, .int .i64 0, .string ⟨#[]⟩, .slice (some ⟨rA, 0, none⟩) 3 3]) ca W) := Lib.hid (fun W h => HCA.out ▸ refCheck7_any (lazA e f) _ W HFXA.out ⟨_, rfl, HKVA.out W h⟩)
            have HCB2 : Hid (∀ W, Kept w W [(rD + 1, (.cells #[.int .i64 16, .int .i64 0, .string ⟨#[]⟩, .slice (some ⟨rD, 0, none⟩) 2 2] 24)), (rD, (.cells #[.int .i64 3, .int .i64 0, .string ⟨#[]⟩, .slice none 0 0, .int .i64 e.op, .int .i64 e.n, .string ⟨e.s.toArray⟩, .slice ea e.ks.length ec] 24)), (rC + 1, (.cells #[.int .i64 17, .int .i64 0, .string ⟨#[]⟩, .slice (some ⟨rC, 0, none⟩) 2 2] 24)), (rC, (.cells #[.int .i64 3, .int .i64 1, .string ⟨#[]⟩, .slice none 0 0, .int .i64 e.op, .int .i64 e.n, .string ⟨e.s.toArray⟩, .slice ea e.ks.length ec] 24)), (rB + 1, (.cells #[.int .i64 18, .int .i64 0, .string ⟨#[]⟩, .slice (some ⟨rB, 0, none⟩) 3 3] 24)), (rB, (.cells #[.int .i64 3, .int .i64 0, .string ⟨#[]⟩, .slice none 0 0, .int .i64 f.op, .int .i64 f.n, .string ⟨f.s.toArray⟩, .slice fa f.ks.length fc, .int .i64 e.op, .int .i64 e.n, .string ⟨e.s.toArray⟩, .slice ea e.ks.length ec] 24)), (rA + 1, (.cells #[.int .i64 18, .int .i64 0, .string ⟨#[]⟩, .slice (some ⟨rA, 0, none⟩) 3 3] 24)), (rA, (.cells #[.int .i64 3, .int .i64 1, .string ⟨#[]⟩, .slice none 0 0, .int .i64 e.op, .int .i64 e.n, .string ⟨e.s.toArray⟩, .slice ea e.ks.length ec, .int .i64 f.op, .int .i64 f.n, .string ⟨f.s.toArray⟩, .slice fa f.ks.length fc] 24)), (bY + 1, (.cells #[.int .i64 3, .int .i64 0, .string ⟨#[]⟩, .slice none 0 0] 24)), (bY, (.cells #[.int .i64 3, .int .i64 1, .string ⟨#[]⟩, .slice none 0 0] 24)), (w.heap.size + 1, (.cells #[.int .i64 f.op, .int .i64 f.n, .string ⟨f.s.toArray⟩, .slice fa f.ks.length fc] 24)), (w.heap.size, (.cells #[.int .i64 e.op, .int .i64 e.n, .string ⟨e.s.toArray⟩, .slice ea e.ks.length ec] 24))] → ChAt (.agg #[.int .i64 18, .int .i64 0, .string ⟨#[]⟩, .slice (some ⟨rB, 0, none⟩) 3 3]) cb W) := Lib.hid (fun W h => HCB.out ▸ refCheck7_any (lazB e f) _ W HFXB.out ⟨_, rfl, HKVB.out W h⟩)
            have HCC2 : Hid (∀ W, Kept w W [(rD + 1, (.cells #[.int .i64 16, .int .i64 0, .string ⟨#[]⟩, .slice (some ⟨rD, 0, none⟩) 2 2] 24)), (rD, (.cells #[.int .i64 3, .int .i64 0, .string ⟨#[]⟩, .slice none 0 0, .int .i64 e.op, .int .i64 e.n, .string ⟨e.s.toArray⟩, .slice ea e.ks.length ec] 24)), (rC + 1, (.cells #[.int .i64 17, .int .i64 0, .string ⟨#[]⟩, .slice (some ⟨rC, 0, none⟩) 2 2] 24)), (rC, (.cells #[.int .i64 3, .int .i64 1, .string ⟨#[]⟩, .slice none 0 0, .int .i64 e.op, .int .i64 e.n, .string ⟨e.s.toArray⟩, .slice ea e.ks.length ec] 24)), (rB + 1, (.cells #[.int .i64 18, .int .i64 0, .string ⟨#[]⟩, .slice (some ⟨rB, 0, none⟩) 3 3] 24)), (rB, (.cells #[.int .i64 3, .int .i64 0, .string ⟨#[]⟩, .slice none 0 0, .int .i64 f.op, .int .i64 f.n, .string ⟨f.s.toArray⟩, .slice fa f.ks.length fc, .int .i64 e.op, .int .i64 e.n, .string ⟨e.s.toArray⟩, .slice ea e.ks.length ec] 24)), (rA + 1, (.cells #[.int .i64 18, .int .i64 0, .string ⟨#[]⟩, .slice (some ⟨rA, 0, none⟩) 3 3] 24)), (rA, (.cells #[.int .i64 3, .int .i64 1, .string ⟨#[]⟩, .slice none 0 0, .int .i64 e.op, .int .i64 e.n, .string ⟨e.s.toArray⟩, .slice ea e.ks.length ec, .int .i64 f.op, .int .i64 f.n, .string ⟨f.s.toArray⟩, .slice fa f.ks.length fc] 24)), (bY + 1, (.cells #[.int .i64 3, .int .i64 0, .string ⟨#[]⟩, .slice none 0 0] 24)), (bY, (.cells #[.int .i64 3, .int .i64 1, .string ⟨#[]⟩, .slice none 0 0] 24)), (w.heap.size + 1, (.cells #[.int .i64 f.op, .int .i64 f.n, .string ⟨f.s.toArray⟩, .slice fa f.ks.length fc] 24)), (w.heap.size, (.cells #[.int .i64 e.op, .int .i64 e.n, .string ⟨e.s.toArray⟩, .slice ea e.ks.length ec] 24))] → ChAt (.agg #[.int .i64 17, .int .i64 0, .string ⟨#[]⟩, .slice (some ⟨rC, 0, none⟩) 2 2]) cc W) := Lib.hid (fun W h => HCC.out ▸ refCheck7_any (lazC e) _ W HFXC.out ⟨_, rfl, HKVC.out W h⟩)
            have HCD2 : Hid (∀ W, Kept w W [(rD + 1, (.cells #[.int .i64 16, .int .i64 0, .string ⟨#[]⟩, .slice (some ⟨rD, 0, none⟩) 2 2] 24)), (rD, (.cells #[.int .i64 3, .int .i64 0, .string ⟨#[]⟩, .slice none 0 0, .int .i64 e.op, .int .i64 e.n, .string ⟨e.s.toArray⟩, .slice ea e.ks.length ec] 24)), (rC + 1, (.cells #[.int .i64 17, .int .i64 0, .string ⟨#[]⟩, .slice (some ⟨rC, 0, none⟩) 2 2] 24)), (rC, (.cells #[.int .i64 3, .int .i64 1, .string ⟨#[]⟩, .slice none 0 0, .int .i64 e.op, .int .i64 e.n, .string ⟨e.s.toArray⟩, .slice ea e.ks.length ec] 24)), (rB + 1, (.cells #[.int .i64 18, .int .i64 0, .string ⟨#[]⟩, .slice (some ⟨rB, 0, none⟩) 3 3] 24)), (rB, (.cells #[.int .i64 3, .int .i64 0, .string ⟨#[]⟩, .slice none 0 0, .int .i64 f.op, .int .i64 f.n, .string ⟨f.s.toArray⟩, .slice fa f.ks.length fc, .int .i64 e.op, .int .i64 e.n, .string ⟨e.s.toArray⟩, .slice ea e.ks.length ec] 24)), (rA + 1, (.cells #[.int .i64 18, .int .i64 0, .string ⟨#[]⟩, .slice (some ⟨rA, 0, none⟩) 3 3] 24)), (rA, (.cells #[.int .i64 3, .int .i64 1, .string ⟨#[]⟩, .slice none 0 0, .int .i64 e.op, .int .i64 e.n, .string ⟨e.s.toArray⟩, .slice ea e.ks.length ec, .int .i64 f.op, .int .i64 f.n, .string ⟨f.s.toArray⟩, .slice fa f.ks.length fc] 24)), (bY + 1, (.cells #[.int .i64 3, .int .i64 0, .string ⟨#[]⟩, .slice none 0 0] 24)), (bY, (.cells #[.int .i64 3, .int .i64 1, .string ⟨#[]⟩, .slice none 0 0] 24)), (w.heap.size + 1, (.cells #[.int .i64 f.op, .int .i64 f.n, .string ⟨f.s.toArray⟩, .slice fa f.ks.length fc] 24)), (w.heap.size, (.cells #[.int .i64 e.op, .int .i64 e.n, .string ⟨e.s.toArray⟩, .slice ea e.ks.length ec] 24))] → ChAt (.agg #[.int .i64 16, .int .i64 0, .string ⟨#[]⟩, .slice (some ⟨rD, 0, none⟩) 2 2]) cd W) := Lib.hid (fun W h => HCD.out ▸ refCheck7_any (lazD e) _ W HFXD.out ⟨_, rfl, HKVD.out W h⟩)
            unfold ChAt at HCA2 HCB2 HCC2 HCD2
            obtain ⟨⟨x0, x1, x2, x3⟩, -⟩ := four_all K10.out.tail.tail.tail.tail.tail.tail.at0
            go_wp2_with fail
            refine (HCA2.out _ K10.out).mono ?_
            rintro r W11 ⟨rfl, hb⟩
            have K11 := Lib.hid (K10.out.call hb)
            clear hb x0 x1 x2 x3
            cases ca with
            | false =>
              go_wp2_with fail
              refine (HAW.out _ K11.out.below).mono ?_
              rintro r V ⟨rfl, hbv⟩
              have hbv := K11.out.below.seq hbv
              go_wp2
              go_ret
              exact ⟨rfl, hbv⟩
            | true =>
              obtain ⟨⟨x0, x1, x2, x3⟩, -⟩ := four_all K11.out.tail.tail.tail.tail.at0
              go_wp2_with fail
              refine (HCB2.out _ K11.out).mono ?_
              rintro r W12 ⟨rfl, hb⟩
              have K12 := Lib.hid (K11.out.call hb)
              clear hb x0 x1 x2 x3
              cases cb with
              | false =>
                go_wp2_with fail
                refine (HAW.out _ K12.out.below).mono ?_
                rintro r V ⟨rfl, hbv⟩
                have hbv := K12.out.below.seq hbv
                go_wp2
                go_ret
                exact ⟨rfl, hbv⟩
              | true =>
                obtain ⟨⟨x0, x1, x2, x3⟩, -⟩ := four_all K12.out.tail.tail.at0
                go_wp2_with fail
                refine (HCC2.out _ K12.out).mono ?_
                rintro r W13 ⟨rfl, hb⟩
                have K13 := Lib.hid (K12.out.call hb)
                clear hb x0 x1 x2 x3
                cases cc with
                | false =>
                  go_wp2_with fail
                  refine (HAW.out _ K13.out.below).mono ?_
                  rintro r V ⟨rfl, hbv⟩
                  have hbv := K13.out.below.seq hbv
                  go_wp2
                  go_ret
                  exact ⟨rfl, hbv⟩
                | true =>
                  obtain ⟨⟨x0, x1, x2, x3⟩, -⟩ := four_all K13.out.at0
                  go_wp2_with fail
                  refine (HCD2.out _ K13.out).mono ?_
                  rintro r W14 ⟨rfl, hb⟩
                  have K14 := Lib.hid (K13.out.call hb)
                  clear hb x0 x1 x2 x3
                  cases cd with
                  | false =>
                    go_wp2_with fail
                    refine (HAW.out _ K14.out.below).mono ?_
                    rintro r V ⟨rfl, hbv⟩
                    have hbv := K14.out.below.seq hbv
                    go_wp2
                    go_ret
                    exact ⟨rfl, hbv⟩
                  | true =>
                    have HXE : Hid (∀ W, Below w.heap.size w W → EvAt (.agg #[.int .i64 e.op, .int .i64 e.n, .string ⟨e.s.toArray⟩, .slice ea e.ks.length ec]) vk vn vs (.slice na names.length nc) (.slice va vals.length vc) W) := Lib.hid (fun W hb => evAt_of (x := e) (HFe.out (by first | rfl | trivial)) (HVF.out (by first | rfl | trivial)) (HL.out.below hb).lay (HK.out.keep hb) (HN.out.mono (below_gh hb)) (HA.out.mono (below_gh hb)) HV.out HVK.out HVN.out HVS.out)
                    have HXV := Lib.hid (HEV.out (by first | rfl | trivial) (by first | rfl | trivial) (by first | rfl | trivial) (by first | rfl | trivial) (by first | rfl | trivial))
                    have HXA : Hid (∀ W, Kept w W [(rD + 1, (.cells #[.int .i64 16, .int .i64 0, .string ⟨#[]⟩, .slice (some ⟨rD, 0, none⟩) 2 2] 24)), (rD, (.cells #[.int .i64 3, .int .i64 0, .string ⟨#[]⟩, .slice none 0 0, .int .i64 e.op, .int .i64 e.n, .string ⟨e.s.toArray⟩, .slice ea e.ks.length ec] 24)), (rC + 1, (.cells #[.int .i64 17, .int .i64 0, .string ⟨#[]⟩, .slice (some ⟨rC, 0, none⟩) 2 2] 24)), (rC, (.cells #[.int .i64 3, .int .i64 1, .string ⟨#[]⟩, .slice none 0 0, .int .i64 e.op, .int .i64 e.n, .string ⟨e.s.toArray⟩, .slice ea e.ks.length ec] 24)), (rB + 1, (.cells #[.int .i64 18, .int .i64 0, .string ⟨#[]⟩, .slice (some ⟨rB, 0, none⟩) 3 3] 24)), (rB, (.cells #[.int .i64 3, .int .i64 0, .string ⟨#[]⟩, .slice none 0 0, .int .i64 f.op, .int .i64 f.n, .string ⟨f.s.toArray⟩, .slice fa f.ks.length fc, .int .i64 e.op, .int .i64 e.n, .string ⟨e.s.toArray⟩, .slice ea e.ks.length ec] 24)), (rA + 1, (.cells #[.int .i64 18, .int .i64 0, .string ⟨#[]⟩, .slice (some ⟨rA, 0, none⟩) 3 3] 24)), (rA, (.cells #[.int .i64 3, .int .i64 1, .string ⟨#[]⟩, .slice none 0 0, .int .i64 e.op, .int .i64 e.n, .string ⟨e.s.toArray⟩, .slice ea e.ks.length ec, .int .i64 f.op, .int .i64 f.n, .string ⟨f.s.toArray⟩, .slice fa f.ks.length fc] 24)), (bY + 1, (.cells #[.int .i64 3, .int .i64 0, .string ⟨#[]⟩, .slice none 0 0] 24)), (bY, (.cells #[.int .i64 3, .int .i64 1, .string ⟨#[]⟩, .slice none 0 0] 24)), (w.heap.size + 1, (.cells #[.int .i64 f.op, .int .i64 f.n, .string ⟨f.s.toArray⟩, .slice fa f.ks.length fc] 24)), (w.heap.size, (.cells #[.int .i64 e.op, .int .i64 e.n, .string ⟨e.s.toArray⟩, .slice ea e.ks.length ec] 24))] → EvAt (.agg #[.int .i64 18, .int .i64 0, .string ⟨#[]⟩, .slice (some ⟨rA, 0, none⟩) 3 3]) vk vn vs (.slice na names.length nc) (.slice va vals.length vc) W) := Lib.hid (fun W h => evAt_of (x := lazA e f) HFXA.out (HVF.out (by first | rfl | trivial)) (HL.out.below h.below).lay (HKVA.out W h) (HN.out.mono (below_gh h.below)) (HA.out.mono (below_gh h.below)) HXV.out.1 HVK.out HVN.out HVS.out)
                    have HXB : Hid (∀ W, Kept w W [(rD + 1, (.cells #[.int .i64 16, .int .i64 0, .string ⟨#[]⟩, .slice (some ⟨rD, 0, none⟩) 2 2] 24)), (rD, (.cells #[.int .i64 3, .int .i64 0, .string ⟨#[]⟩, .slice none 0 0, .int .i64 e.op, .int .i64 e.n, .string ⟨e.s.toArray⟩, .slice ea e.ks.length ec] 24)), (rC + 1, (.cells #[.int .i64 17, .int .i64 0, .string ⟨#[]⟩, .slice (some ⟨rC, 0, none⟩) 2 2] 24)), (rC, (.cells #[.int .i64 3, .int .i64 1, .string ⟨#[]⟩, .slice none 0 0, .int .i64 e.op, .int .i64 e.n, .string ⟨e.s.toArray⟩, .slice ea e.ks.length ec] 24)), (rB + 1, (.cells #[.int .i64 18, .int .i64 0, .string ⟨#[]⟩, .slice (some ⟨rB, 0, none⟩) 3 3] 24)), (rB, (.cells #[.int .i64 3, .int .i64 0, .string ⟨#[]⟩, .slice none 0 0, .int .i64 f.op, .int .i64 f.n, .string ⟨f.s.toArray⟩, .slice fa f.ks.length fc, .int .i64 e.op, .int .i64 e.n, .string ⟨e.s.toArray⟩, .slice ea e.ks.length ec] 24)), (rA + 1, (.cells #[.int .i64 18, .int .i64 0, .string ⟨#[]⟩, .slice (some ⟨rA, 0, none⟩) 3 3] 24)), (rA, (.cells #[.int .i64 3, .int .i64 1, .string ⟨#[]⟩, .slice none 0 0, .int .i64 e.op, .int .i64 e.n, .string ⟨e.s.toArray⟩, .slice ea e.ks.length ec, .int .i64 f.op, .int .i64 f.n, .string ⟨f.s.toArray⟩, .slice fa f.ks.length fc] 24)), (bY + 1, (.cells #[.int .i64 3, .int .i64 0, .string ⟨#[]⟩, .slice none 0 0] 24)), (bY, (.cells #[.int .i64 3, .int .i64 1, .string ⟨#[]⟩, .slice none 0 0] 24)), (w.heap.size + 1, (.cells #[.int .i64 f.op, .int .i64 f.n, .string ⟨f.s.toArray⟩, .slice fa f.ks.length fc] 24)), (w.heap.size, (.cells #[.int .i64 e.op, .int .i64 e.n, .string ⟨e.s.toArray⟩, .slice ea e.ks.length ec] 24))] → EvAt (.agg #[.int .i64 18, .int .i64 0, .string ⟨#[]⟩, .slice (some ⟨rB, 0, none⟩) 3 3]) vk vn vs (.slice na names.length nc) (.slice va vals.length vc) W) := Lib.hid (fun W h => evAt_of (x := lazB e f) HFXB.out (HVF.out (by first | rfl | trivial)) (HL.out.below h.below).lay (HKVB.out W h) (HN.out.mono (below_gh h.below)) (HA.out.mono (below_gh h.below)) HXV.out.2.1 HVK.out HVN.out HVS.out)
                    have HXC : Hid (∀ W, Kept w W [(rD + 1, (.cells #[.int .i64 16, .int .i64 0, .string ⟨#[]⟩, .slice (some ⟨rD, 0, none⟩) 2 2] 24)), (rD, (.cells #[.int .i64 3, .int .i64 0, .string ⟨#[]⟩, .slice none 0 0, .int .i64 e.op, .int .i64 e.n, .string ⟨e.s.toArray⟩, .slice ea e.ks.length ec] 24)), (rC + 1, (.cells #[.int .i64 17, .int .i64 0, .string ⟨#[]⟩, .slice (some ⟨rC, 0, none⟩) 2 2] 24)), (rC, (.cells #[.int .i64 3, .int .i64 1, .string ⟨#[]⟩, .slice none 0 0, .int .i64 e.op, .int .i64 e.n, .string ⟨e.s.toArray⟩, .slice ea e.ks.length ec] 24)), (rB + 1, (.cells #[.int .i64 18, .int .i64 0, .string ⟨#[]⟩, .slice (some ⟨rB, 0, none⟩) 3 3] 24)), (rB, (.cells #[.int .i64 3, .int .i64 0, .string ⟨#[]⟩, .slice none 0 0, .int .i64 f.op, .int .i64 f.n, .string ⟨f.s.toArray⟩, .slice fa f.ks.length fc, .int .i64 e.op, .int .i64 e.n, .string ⟨e.s.toArray⟩, .slice ea e.ks.length ec] 24)), (rA + 1, (.cells #[.int .i64 18, .int .i64 0, .string ⟨#[]⟩, .slice (some ⟨rA, 0, none⟩) 3 3] 24)), (rA, (.cells #[.int .i64 3, .int .i64 1, .string ⟨#[]⟩, .slice none 0 0, .int .i64 e.op, .int .i64 e.n, .string ⟨e.s.toArray⟩, .slice ea e.ks.length ec, .int .i64 f.op, .int .i64 f.n, .string ⟨f.s.toArray⟩, .slice fa f.ks.length fc] 24)), (bY + 1, (.cells #[.int .i64 3, .int .i64 0, .string ⟨#[]⟩, .slice none 0 0] 24)), (bY, (.cells #[.int .i64 3, .int .i64 1, .string ⟨#[]⟩, .slice none 0 0] 24)), (w.heap.size + 1, (.cells #[.int .i64 f.op, .int .i64 f.n, .string ⟨f.s.toArray⟩, .slice fa f.ks.length fc] 24)), (w.heap.size, (.cells #[.int .i64 e.op, .int .i64 e.n, .string ⟨e.s.toArray⟩, .slice ea e.ks.length ec] 24))] → EvAt (.agg #[.int .i64 17, .int .i64 0, .string ⟨#[]⟩, .slice (some ⟨rC, 0, none⟩) 2 2]) 2 1 ⟨#[]⟩ (.slice na names.length nc) (.slice va vals.length vc) W) := Lib.hid (fun W h => evAt_of (x := lazC e) HFXC.out (HVF.out (by first | rfl | trivial)) (HL.out.below h.below).lay (HKVC.out W h) (HN.out.mono (below_gh h.below)) (HA.out.mono (below_gh h.below)) HXV.out.2.2.1 rfl rfl rfl)
                    have HXD : Hid (∀ W, Kept w W [(rD + 1, (.cells #[.int .i64 16, .int .i64 0, .string ⟨#[]⟩, .slice (some ⟨rD, 0, none⟩) 2 2] 24)), (rD, (.cells #[.int .i64 3, .int .i64 0, .string ⟨#[]⟩, .slice none 0 0, .int .i64 e.op, .int .i64 e.n, .string ⟨e.s.toArray⟩, .slice ea e.ks.length ec] 24)), (rC + 1, (.cells #[.int .i64 17, .int .i64 0, .string ⟨#[]⟩, .slice (some ⟨rC, 0, none⟩) 2 2] 24)), (rC, (.cells #[.int .i64 3, .int .i64 1, .string ⟨#[]⟩, .slice none 0 0, .int .i64 e.op, .int .i64 e.n, .string ⟨e.s.toArray⟩, .slice ea e.ks.length ec] 24)), (rB + 1, (.cells #[.int .i64 18, .int .i64 0, .string ⟨#[]⟩, .slice (some ⟨rB, 0, none⟩) 3 3] 24)), (rB, (.cells #[.int .i64 3, .int .i64 0, .string ⟨#[]⟩, .slice none 0 0, .int .i64 f.op, .int .i64 f.n, .string ⟨f.s.toArray⟩, .slice fa f.ks.length fc, .int .i64 e.op, .int .i64 e.n, .string ⟨e.s.toArray⟩, .slice ea e.ks.length ec] 24)), (rA + 1, (.cells #[.int .i64 18, .int .i64 0, .string ⟨#[]⟩, .slice (some ⟨rA, 0, none⟩) 3 3] 24)), (rA, (.cells #[.int .i64 3, .int .i64 1, .string ⟨#[]⟩, .slice none 0 0, .int .i64 e.op, .int .i64 e.n, .string ⟨e.s.toArray⟩, .slice ea e.ks.length ec, .int .i64 f.op, .int .i64 f.n, .string ⟨f.s.toArray⟩, .slice fa f.ks.length fc] 24)), (bY + 1, (.cells #[.int .i64 3, .int .i64 0, .string ⟨#[]⟩, .slice none 0 0] 24)), (bY, (.cells #[.int .i64 3, .int .i64 1, .string ⟨#[]⟩, .slice none 0 0] 24)), (w.heap.size + 1, (.cells #[.int .i64 f.op, .int .i64 f.n, .string ⟨f.s.toArray⟩, .slice fa f.ks.length fc] 24)), (w.heap.size, (.cells #[.int .i64 e.op, .int .i64 e.n, .string ⟨e.s.toArray⟩, .slice ea e.ks.length ec] 24))] → EvAt (.agg #[.int .i64 16, .int .i64 0, .string ⟨#[]⟩, .slice (some ⟨rD, 0, none⟩) 2 2]) 2 0 ⟨#[]⟩ (.slice na names.length nc) (.slice va vals.length vc) W) := Lib.hid (fun W h => evAt_of (x := lazD e) HFXD.out (HVF.out (by first | rfl | trivial)) (HL.out.below h.below).lay (HKVD.out W h) (HN.out.mono (below_gh h.below)) (HA.out.mono (below_gh h.below)) HXV.out.2.2.2 rfl rfl rfl)
                    unfold EvAt at HXE HXA HXB HXC HXD
                    clear HCA2 HCB2 HCC2 HCD2 HKVA HKVB HKVC HKVD HFXA HFXB HFXC HFXD HCA HCB HCC HCD HEV HXV HV HVK HVN HVS HTE HTF HCE HCF HFW HVF HFe HFf K4 K6 K7 K8 K9 K10 K11 K12 K13 HK HK2 HRA HE HE2 HLN
                    obtain ⟨⟨e0, e1, e2, e3⟩, -⟩ := four_all K14.out.tail.tail.tail.tail.tail.tail.tail.tail.tail.tail.tail.at0
                    go_wp2_with fail
                    refine (HXE.out _ K14.out.below).mono ?_
                    rintro r W15 ⟨rfl, hb⟩
                    have K15 := Lib.hid (K14.out.call hb)
                    have K16 := Lib.hid (K15.out.new (.cells #[.int .i64 vk, .int .i64 vn, .string vs] 47))
                    clear hb e0 e1 e2 e3 HXE K14
                    go_upto_region 12 with fail
                    generalize W15.alloc (.cells #[.int .i64 vk, .int .i64 vn, .string vs] 47) = W16 at *
                    generalize W15.heap.size = bV at *
                    have HT1 : Hid (∀ W, Calls Tryz.prog 42 #[.bool true] W (evPost2 2 1 ⟨#[]⟩ W)) := Lib.hid (fun W => truth9_any true W)
                    have HT0 : Hid (∀ W, Calls Tryz.prog 42 #[.bool false] W (evPost2 2 0 ⟨#[]⟩ W)) := Lib.hid (fun W => truth9_any false W)
                    unfold evPost2 at HT1 HT0
                    have HS : Hid (∀ w', Kept w w' ((bV, (.cells #[.int .i64 vk, .int .i64 vn, .string vs] 47)) :: [(rD + 1, (.cells #[.int .i64 16, .int .i64 0, .string ⟨#[]⟩, .slice (some ⟨rD, 0, none⟩) 2 2] 24)), (rD, (.cells #[.int .i64 3, .int .i64 0, .string ⟨#[]⟩, .slice none 0 0, .int .i64 e.op, .int .i64 e.n, .string ⟨e.s.toArray⟩, .slice ea e.ks.length ec] 24)), (rC + 1, (.cells #[.int .i64 17, .int .i64 0, .string ⟨#[]⟩, .slice (some ⟨rC, 0, none⟩) 2 2] 24)), (rC, (.cells #[.int .i64 3, .int .i64 1, .string ⟨#[]⟩, .slice none 0 0, .int .i64 e.op, .int .i64 e.n, .string ⟨e.s.toArray⟩, .slice ea e.ks.length ec] 24)), (rB + 1, (.cells #[.int .i64 18, .int .i64 0, .string ⟨#[]⟩, .slice (some ⟨rB, 0, none⟩) 3 3] 24)), (rB, (.cells #[.int .i64 3, .int .i64 0, .string ⟨#[]⟩, .slice none 0 0, .int .i64 f.op, .int .i64 f.n, .string ⟨f.s.toArray⟩, .slice fa f.ks.length fc, .int .i64 e.op, .int .i64 e.n, .string ⟨e.s.toArray⟩, .slice ea e.ks.length ec] 24)), (rA + 1, (.cells #[.int .i64 18, .int .i64 0, .string ⟨#[]⟩, .slice (some ⟨rA, 0, none⟩) 3 3] 24)), (rA, (.cells #[.int .i64 3, .int .i64 1, .string ⟨#[]⟩, .slice none 0 0, .int .i64 e.op, .int .i64 e.n, .string ⟨e.s.toArray⟩, .slice ea e.ks.length ec, .int .i64 f.op, .int .i64 f.n, .string ⟨f.s.toArray⟩, .slice fa f.ks.length fc] 24)), (bY + 1, (.cells #[.int .i64 3, .int .i64 0, .string ⟨#[]⟩, .slice none 0 0] 24)), (bY, (.cells #[.int .i64 3, .int .i64 1, .string ⟨#[]⟩, .slice none 0 0] 24)), (w.heap.size + 1, (.cells #[.int .i64 f.op, .int .i64 f.n, .string ⟨f.s.toArray⟩, .slice fa f.ks.length fc] 24)), (w.heap.size, (.cells #[.int .i64 e.op, .int .i64 e.n, .string ⟨e.s.toArray⟩, .slice ea e.ks.length ec] 24))]) → ((w'.cell? ⟨rA + 1, 0, none⟩ = some (.int .i64 18) ∧ w'.cell? ⟨rA + 1, 1, none⟩ = some (.int .i64 0) ∧ w'.cell? ⟨rA + 1, 2, none⟩ = some (.string ⟨#[]⟩) ∧ w'.cell? ⟨rA + 1, 3, none⟩ = some (.slice (some ⟨rA, 0, none⟩) 3 3)) ∧ (w'.cell? ⟨rB + 1, 0, none⟩ = some (.int .i64 18) ∧ w'.cell? ⟨rB + 1, 1, none⟩ = some (.int .i64 0) ∧ w'.cell? ⟨rB + 1, 2, none⟩ = some (.string ⟨#[]⟩) ∧ w'.cell? ⟨rB + 1, 3, none⟩ = some (.slice (some ⟨rB, 0, none⟩) 3 3)) ∧ (w'.cell? ⟨rC + 1, 0, none⟩ = some (.int .i64 17) ∧ w'.cell? ⟨rC + 1, 1, none⟩ = some (.int .i64 0) ∧ w'.cell? ⟨rC + 1, 2, none⟩ = some (.string ⟨#[]⟩) ∧ w'.cell? ⟨rC + 1, 3, none⟩ = some (.slice (some ⟨rC, 0, none⟩) 2 2)) ∧ (w'.cell? ⟨rD + 1, 0, none⟩ = some (.int .i64 16) ∧ w'.cell? ⟨rD + 1, 1, none⟩ = some (.int .i64 0) ∧ w'.cell? ⟨rD + 1, 2, none⟩ = some (.string ⟨#[]⟩) ∧ w'.cell? ⟨rD + 1, 3, none⟩ = some (.slice (some ⟨rD, 0, none⟩) 2 2)) ∧ (w'.cell? ⟨bV, 0, none⟩ = some (.int .i64 vk) ∧ w'.cell? ⟨bV, 1, none⟩ = some (.int .i64 vn) ∧ w'.cell? ⟨bV, 2, none⟩ = some (.string vs)))) := Lib.hid (fun W h => ⟨(four_all h.tail.tail.tail.tail.tail.tail.tail.at0).1, (four_all h.tail.tail.tail.tail.tail.at0).1, (four_all h.tail.tail.tail.at0).1, (four_all h.tail.at0).1, (three_all h.at0).1⟩)
                    have KK := Lib.hid K16.out.drew
                    obtain ⟨⟨a0, a1, a2, a3⟩, ⟨b0, b1, b2, b3⟩, ⟨c0, c1, c2, c3⟩, ⟨d0, d1, d2, d3⟩, g0, g1, g2⟩ := HS.out _ KK.out
                    clear K15 K16
                    go_region_held3 (fun w' => ((w'.cell? ⟨rA + 1, 0, none⟩ = some (.int .i64 18) ∧ w'.cell? ⟨rA + 1, 1, none⟩ = some (.int .i64 0) ∧ w'.cell? ⟨rA + 1, 2, none⟩ = some (.string ⟨#[]⟩) ∧ w'.cell? ⟨rA + 1, 3, none⟩ = some (.slice (some ⟨rA, 0, none⟩) 3 3)) ∧ (w'.cell? ⟨rB + 1, 0, none⟩ = some (.int .i64 18) ∧ w'.cell? ⟨rB + 1, 1, none⟩ = some (.int .i64 0) ∧ w'.cell? ⟨rB + 1, 2, none⟩ = some (.string ⟨#[]⟩) ∧ w'.cell? ⟨rB + 1, 3, none⟩ = some (.slice (some ⟨rB, 0, none⟩) 3 3)) ∧ (w'.cell? ⟨rC + 1, 0, none⟩ = some (.int .i64 17) ∧ w'.cell? ⟨rC + 1, 1, none⟩ = some (.int .i64 0) ∧ w'.cell? ⟨rC + 1, 2, none⟩ = some (.string ⟨#[]⟩) ∧ w'.cell? ⟨rC + 1, 3, none⟩ = some (.slice (some ⟨rC, 0, none⟩) 2 2)) ∧ (w'.cell? ⟨rD + 1, 0, none⟩ = some (.int .i64 16) ∧ w'.cell? ⟨rD + 1, 1, none⟩ = some (.int .i64 0) ∧ w'.cell? ⟨rD + 1, 2, none⟩ = some (.string ⟨#[]⟩) ∧ w'.cell? ⟨rD + 1, 3, none⟩ = some (.slice (some ⟨rD, 0, none⟩) 2 2)) ∧ (w'.cell? ⟨bV, 0, none⟩ = some (.int .i64 vk) ∧ w'.cell? ⟨bV, 1, none⟩ = some (.int .i64 vn) ∧ w'.cell? ⟨bV, 2, none⟩ = some (.string vs)))) (go_keep)
                      ((first | (go_at_call 36; ((with_reducible refine (HXA.out _ KK.out.tail).mono ?_)); rintro r W20 ⟨rfl, hb⟩; have KK := Lib.hid (KK.out.call hb); have hg := HS.out _ KK.out; obtain ⟨⟨a0, a1, a2, a3⟩, ⟨b0, b1, b2, b3⟩, ⟨c0, c1, c2, c3⟩, ⟨d0, d1, d2, d3⟩, g0, g1, g2⟩ := hg; clear hb) | (go_at_call 36; ((with_reducible refine (HXB.out _ KK.out.tail).mono ?_)); rintro r W20 ⟨rfl, hb⟩; have KK := Lib.hid (KK.out.call hb); have hg := HS.out _ KK.out; obtain ⟨⟨a0, a1, a2, a3⟩, ⟨b0, b1, b2, b3⟩, ⟨c0, c1, c2, c3⟩, ⟨d0, d1, d2, d3⟩, g0, g1, g2⟩ := hg; clear hb) | (go_at_call 36; ((with_reducible refine (HXC.out _ KK.out.tail).mono ?_)); rintro r W20 ⟨rfl, hb⟩; have KK := Lib.hid (KK.out.call hb); have hg := HS.out _ KK.out; obtain ⟨⟨a0, a1, a2, a3⟩, ⟨b0, b1, b2, b3⟩, ⟨c0, c1, c2, c3⟩, ⟨d0, d1, d2, d3⟩, g0, g1, g2⟩ := hg; clear hb) | (go_at_call 36; ((with_reducible refine (HXD.out _ KK.out.tail).mono ?_)); rintro r W20 ⟨rfl, hb⟩; have KK := Lib.hid (KK.out.call hb); have hg := HS.out _ KK.out; obtain ⟨⟨a0, a1, a2, a3⟩, ⟨b0, b1, b2, b3⟩, ⟨c0, c1, c2, c3⟩, ⟨d0, d1, d2, d3⟩, g0, g1, g2⟩ := hg; clear hb) | (go_at_call 42; ((with_reducible refine (HT1.out _).mono ?_)); rintro r W20 ⟨rfl, hb⟩; have KK := Lib.hid (KK.out.call hb); have hg := HS.out _ KK.out; obtain ⟨⟨a0, a1, a2, a3⟩, ⟨b0, b1, b2, b3⟩, ⟨c0, c1, c2, c3⟩, ⟨d0, d1, d2, d3⟩, g0, g1, g2⟩ := hg; clear hb) | (go_at_call 42; ((with_reducible refine (HT0.out _).mono ?_)); rintro r W20 ⟨rfl, hb⟩; have KK := Lib.hid (KK.out.call hb); have hg := HS.out _ KK.out; obtain ⟨⟨a0, a1, a2, a3⟩, ⟨b0, b1, b2, b3⟩, ⟨c0, c1, c2, c3⟩, ⟨d0, d1, d2, d3⟩, g0, g1, g2⟩ := hg; clear hb) | (go_at_call 35; ((with_reducible refine (HAW.out _ KK.out.below).mono ?_)); rintro r W20 ⟨rfl, hb⟩; have KK := Lib.hid (KK.out.call hb); have hg := HS.out _ KK.out; obtain ⟨⟨a0, a1, a2, a3⟩, ⟨b0, b1, b2, b3⟩, ⟨c0, c1, c2, c3⟩, ⟨d0, d1, d2, d3⟩, g0, g1, g2⟩ := hg; clear hb)))
                    all_goals
                      have hbx := KK.out.below
                      go_wp2
                      go_ret
                      exact ⟨rfl, hbx⟩
end Go.Proofs.YtdgcgogeidnmoaaGreatDoor
