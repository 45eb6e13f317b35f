/- The walks of the document's args; the levels by induction. No condition. -/
import Derived.Test.YtoklhppalkgdeaaGreatDoorQ4
import Derived.Test.YtoklhppalkgdeaaGreatDoorVe
import Derived.Test.YtoklhppalkgdeaaGreatDoorRM
set_option linter.unusedSimpArgs false
set_option linter.unusedVariables false
set_option linter.unusedSectionVars false
namespace Go.Proofs.YtoklhppalkgdeaaGreatDoor
open Go.RowKit Pal
theorem call0_ar (pb p : Nat) (toks : List Tok) (tv : Value) (w : World) (op : Int) (hp : XS w pb tv p (-1)) (hT : TokV (gb pb w) tv toks) :
    ArIn w.heap.size pb (w.heap.size + 1) T0 tv toks (call0 w op) p (-1) op [] (.slice none 0 0) ∧ But pb w (call0 w op) := by
  have hB : But pb w (call0 w op) := ((But.refl pb w).alloc _).alloc _
  have hpl := hp.cells.2.2.2.2.2
  refine ⟨⟨(hp.keep ((Below.refl w.heap.size w).alloc (Nat.le_refl _) _)).keep ((Below.refl _ _).alloc (Nat.le_refl _) _), ?_, ?_, ?_, Row.nil _ _ _ _ _, by simp, fun b h => by simp [T0] at h, by omega, hpl⟩, hB⟩
  · exact SlV.mono hT (fun b o hh => by
      unfold gb at hh
      unfold gp
      split at hh
      · cases hh
      · rename_i hn
        have hl := (Array.getElem?_eq_some_iff.1 hh).1
        rw [if_pos ⟨hl, hn⟩, hB.block b hl hn]; exact hh)
  · unfold zeroE call0
    rw [Lib.alloc_old _ _ _ (by simp)]
    exact heap_alloc_new w _
  · have := heap_alloc_new (w.alloc (.cells #[.int .i64 0, .int .i64 0, .string ⟨#[]⟩, .slice none 0 0] 28)) (.cells #[.int .i64 op, .int .i64 0, .string ⟨#[]⟩, .slice none 0 0] 28)
    rw [show (w.alloc (.cells #[.int .i64 0, .int .i64 0, .string ⟨#[]⟩, .slice none 0 0] 28)).heap.size = w.heap.size + 1 by simp] at this
    exact this
theorem ArIn.bad {n0 pb B5 : Nat} {tau : Tag} {tv : Value} {toks : List Tok} {W : World} {p q : Nat} {op : Int} {l : List (Ex × Value)} {sv : Value} (h : ArIn n0 pb B5 tau tv toks W p q op l sv) : BadIn n0 pb B5 tv W q := by
  obtain ⟨a, c, hv⟩ := h.row.form
  have hc := h.c
  rw [hv] at hc
  exact ⟨⟨p, h.st⟩, h.z, ⟨op, 0, [], a, l.length, c, hc⟩, h.lt, h.pb⟩
set_option maxRecDepth 1000000 in
set_option maxHeartbeats 16000000 in
theorem args_step (f : Nat) (B p : Nat) (toks : List Tok) (tv : Value) (w : World) (h : XS w B tv p (-1)) (hT : TokV (gb B w) tv toks) (hE : Ended (toks.drop p)) (hl : toks.length ≤ 1000) (op : Int) (ar : Nat) (har : 1 ≤ ar ∧ ar ≤ 3) (h22 : op ≠ 22) (X : PR)
    (hX : (if isSg [40] (hd (toks.drop p)) then parseJ f (.args op ar []) (toks.drop p).tail else .bad (hd (toks.drop p)).p) = X) (hne : X ≠ .out) (ih : ∀ g, g < f → LvOK g) :
    Calls Tryz.prog 227 #[.pointer (some ⟨B, 0, none⟩), .int .i64 op, .int .i64 ar] w (RRes B tv toks X w) := by
  obtain ⟨tin, hin, tz0, tz1, tz2⟩ := info_parts infoEx
  obtain ⟨hA, hB⟩ := call0_ar B p toks tv w op h hT
  have hat := hE.at.1
  have hpl := h.cells.2.2.2.2.2
  have HI := Lib.hid ih
  have HNE := Lib.hid hne
  cases hsg : isSg [40] (hd (toks.drop p)) with
  | false =>
    have HM := Lib.hid (xmust_no [40] B p toks _ tv _ hA.st hA.tokb hat hl hsg)
    have HA := Lib.hid hA
    have HB := Lib.hid hB
    rw [hsg, if_neg (by simp)] at hX
    subst hX
    generalize hd (toks.drop p) = t at *
    unfold call0 at HA HB HM
    unfold strV at HM
    clear h hT hE hne ih hA hB hat hsg
    go_enter Tryz.func227, Tryz.ntmps227
    go_upto_region 2 with fail
    generalize ((w.alloc (.cells #[.int .i64 0, .int .i64 0, .string ⟨#[]⟩, .slice none 0 0] 28)).alloc (.cells #[.int .i64 op, .int .i64 0, .string ⟨#[]⟩, .slice none 0 0] 28)) = W0 at *
    go_wp2_with fail
    refine HM.out.mono ?_
    rintro e W1 ⟨rfl, hb, hx⟩
    have HBI := Lib.hid (HA.out.but hb hx).bad
    have HBW := Lib.hid (HB.out.trans hb)
    clear HM hb hx HA HB
    go_wp2
    go_loopg [8] 0 (fun g i wr => ∃ k : Nat, i = .int .i64 k ∧ k ≤ 3 ∧ Hid (BadIn w.heap.size B (w.heap.size + 1) tv wr t.p) ∧ Hid (But B w wr))
    case atStart => exact ⟨0, rfl, by omega, HBI, HBW⟩
    case round =>
      obtain ⟨k, rfl, hk3, HBJ, HBX⟩ := hrel
      have hBI := HBJ.out
      clear HBI HBW HBJ
      obtain ⟨pq, hxq⟩ := hBI.st
      obtain ⟨o, n, s0, a, l, c, hcq⟩ := hBI.c
      obtain ⟨⟨c0, c1, c2, c3⟩, -⟩ := four_all hcq
      have hzq := hBI.z
      unfold zeroE at hzq
      obtain ⟨x0, x1, x2, y1, y2, -⟩ := hxq.cells
      have i5 : (0 : Int) ≤ (t.p : Int) := by omega
      have i6 : ¬ (t.p : Int) < 0 := by omega
      have HXQ := Lib.hid hxq
      have HMB := Lib.hid (xmust_bad [41] B pq t.p tv _ hxq)
      unfold strV at *
      clear hcq hBI hxq
      by_cases hk : (k : Int) < (ar : Int)
      all_goals
        go_wp2_with fail
        refine HMB.out.mono ?_
        rintro e VQ ⟨rfl, rfl⟩
        clear HMB
        obtain ⟨⟨g0, g1, g2, g3⟩, e0, e1, e2, e3⟩ := four_all hzq
        have HZF := Lib.hid hzq
        go_wp2
        refine bodyPost_ret (v := exV o n s0 (.slice a l c)) ?_ rfl ?_
        · have hh := four_all (set4_heap HZF.out (.int .i64 o) (.int .i64 n) (.string ⟨s0.toArray⟩) (.slice a l c))
          simp [results, Tryz.results227, go_sem, exV, strV, hh.1]
        · exact rres_bad HBX.out hpl HXQ.out _ _ _ _
  | true =>
    have HM := Lib.hid (xmust_yes [40] B p toks _ tv _ hA.st hA.tokb hat hl hsg)
    have HA := Lib.hid hA
    have HB := Lib.hid hB
    rw [hsg, if_pos rfl, drop_tail] at hX
    have hE1 : Ended (toks.drop (p + 1)) := by rw [← drop_tail]; exact hE.tail (by have := isSg_k hsg; omega)
    have HX := Lib.hid hX
    have HE1 := Lib.hid hE1
    unfold call0 at HA HB HM
    unfold strV at HM
    clear h hT hE hne ih hA hB hat hsg hX hE1
    go_enter Tryz.func227, Tryz.ntmps227
    go_upto_region 2 with fail
    generalize ((w.alloc (.cells #[.int .i64 0, .int .i64 0, .string ⟨#[]⟩, .slice none 0 0] 28)).alloc (.cells #[.int .i64 op, .int .i64 0, .string ⟨#[]⟩, .slice none 0 0] 28)) = W0 at *
    go_wp2_with fail
    refine HM.out.mono ?_
    rintro e W1 ⟨rfl, hb, hx⟩
    have HA1 := Lib.hid (HA.out.but hb hx)
    have HB1 := Lib.hid (HB.out.trans hb)
    clear HM hb hx HA HB
    go_wp2
    go_loopg [8] f (fun g i wr => (∃ (tau : Tag) (p' left : Nat) (l : List (Ex × Value)) (sv : Value), i = .int .i64 l.length ∧ Hid (ArIn w.heap.size B (w.heap.size + 1) tau tv toks wr p' (-1) op l sv) ∧ Hid (But B w wr) ∧ Hid (Ended (toks.drop p')) ∧ g ≤ f ∧ l.length + left = ar ∧ Hid (parseJ g (.args op left (l.map Prod.fst)) (toks.drop p') = X)) ∨
      (∃ (k q : Nat), i = .int .i64 k ∧ k ≤ 3 ∧ X = .bad q ∧ Hid (BadIn w.heap.size B (w.heap.size + 1) tv wr q) ∧ Hid (But B w wr)))
    case atStart => exact .inl ⟨T0, p + 1, ar, [], _, rfl, HA1, HB1, HE1, Nat.le_refl _, by simp, HX⟩
    case round =>
      clear HA1 HB1 HE1 HX
      rcases hrel with ⟨tau, p', left, l, sv, rfl, HAn, HBn, HEn, hg, hleft, HXn⟩ | ⟨k, q, rfl, hk3, rfl, HBJ, HBX⟩
      case inr =>
        have hBI := HBJ.out
        clear HBJ
        obtain ⟨pq, hxq⟩ := hBI.st
        obtain ⟨o, n, s0, a, l, c, hcq⟩ := hBI.c
        obtain ⟨⟨c0, c1, c2, c3⟩, -⟩ := four_all hcq
        have hzq := hBI.z
        unfold zeroE at hzq
        obtain ⟨x0, x1, x2, y1, y2, -⟩ := hxq.cells
        have i5 : (0 : Int) ≤ (q : Int) := by omega
        have i6 : ¬ (q : Int) < 0 := by omega
        have HXQ := Lib.hid hxq
        have HMB := Lib.hid (xmust_bad [41] B pq q tv _ hxq)
        unfold strV at *
        clear hcq hBI hxq
        by_cases hk : (k : Int) < (ar : Int)
        all_goals
          go_wp2_with fail
          refine HMB.out.mono ?_
          rintro e VQ ⟨rfl, rfl⟩
          clear HMB
          obtain ⟨⟨g0, g1, g2, g3⟩, e0, e1, e2, e3⟩ := four_all hzq
          have HZF := Lib.hid hzq
          go_wp2
          refine bodyPost_ret (v := exV o n s0 (.slice a l c)) ?_ rfl ?_
          · have hh := four_all (set4_heap HZF.out (.int .i64 o) (.int .i64 n) (.string ⟨s0.toArray⟩) (.slice a l c))
            simp [results, Tryz.results227, go_sem, exV, strV, hh.1]
          · exact rres_bad HBX.out hpl HXQ.out _ _ _ _
      case inl =>
      cases gk with
      | zero => exact absurd HXn.out.symm HNE.out
      | succ g =>
      have HAT := Lib.hid HEn.out.at
      obtain ⟨t, ht⟩ : ∃ t, hd (toks.drop p') = t := ⟨_, rfl⟩
      rw [ht] at HAT
      obtain ⟨x0, x1, x2, y1, y2, -⟩ := HAn.out.st.cells
      cases left with
      | zero =>
        have hx := HXn.out
        rw [args_nil, ht] at hx
        have hi : ¬ ((l.length : Int) < (ar : Int)) := by omega
        cases hsg : isSg [41] t with
        | false =>
          rw [hsg, if_neg (by simp)] at hx
          subst hx
          have HM := Lib.hid (xmust_no [41] B p' toks t tv _ HAn.out.st HAn.out.tokb HAT.out.1 hl hsg)
          unfold strV at HM
          clear HXn ht hsg HNE
          go_wp2_with fail
          refine HM.out.mono ?_
          rintro e W3 ⟨rfl, hb, hx⟩
          have hA3 := HAn.out.but hb hx
          have HB3 := Lib.hid (HBn.out.trans hb)
          have HX3 := Lib.hid hx
          obtain ⟨ka, kc, hkv⟩ := hA3.row.form
          subst hkv
          obtain ⟨⟨c0, c1, c2, c3⟩, -⟩ := four_all hA3.c
          have hzq := hA3.z
          unfold zeroE at hzq
          clear hb hx hA3 HM x0 x1 x2 y1 y2
          obtain ⟨⟨g0, g1, g2, g3⟩, e0, e1, e2, e3⟩ := four_all hzq
          have HZF := Lib.hid hzq
          go_wp2
          refine bodyPost_ret (v := exV op 0 [] (.slice ka l.length kc)) ?_ rfl ?_
          · have hh := four_all (set4_heap HZF.out (.int .i64 op) (.int .i64 0) (.string ⟨#[]⟩) (.slice ka l.length kc))
            simp [results, Tryz.results227, go_sem, exV, strV, hh.1]
          · exact rres_bad HB3.out hpl HX3.out _ _ _ _
        | true =>
          rw [hsg, if_pos rfl, drop_tail] at hx
          subst hx
          have HM := Lib.hid (xmust_yes [41] B p' toks t tv _ HAn.out.st HAn.out.tokb HAT.out.1 hl hsg)
          unfold strV at HM
          clear HXn ht hsg HNE
          go_wp2_with fail
          refine HM.out.mono ?_
          rintro e W3 ⟨rfl, hb, hx⟩
          have hA3 := HAn.out.but hb hx
          have HB3 := Lib.hid (HBn.out.trans hb)
          have HX3 := Lib.hid hx
          have HK3 := Lib.hid hA3.kv
          obtain ⟨ka, kc, hkv⟩ := hA3.row.form
          subst hkv
          obtain ⟨⟨c0, c1, c2, c3⟩, -⟩ := four_all hA3.c
          have hzq := hA3.z
          unfold zeroE at hzq
          clear hb hx hA3 HM x0 x1 x2 y1 y2
          obtain ⟨⟨g0, g1, g2, g3⟩, e0, e1, e2, e3⟩ := four_all hzq
          have HZF := Lib.hid hzq
          go_wp2
          refine bodyPost_ret (v := exV op 0 [] (.slice ka l.length kc)) ?_ rfl ?_
          · have hh := four_all (set4_heap HZF.out (.int .i64 op) (.int .i64 0) (.string ⟨#[]⟩) (.slice ka l.length kc))
            simp [results, Tryz.results227, go_sem, exV, strV, hh.1]
          · exact rres_ok HB3.out hpl (HK3.out.mono (gp_le fun b hb _ => ⟨hb.1, rfl⟩)) HX3.out rfl _ _ _ _
      | succ left =>
        have hi : (l.length : Int) < (ar : Int) := by omega
        have hl3 : l.length ≤ 3 := by omega
        have hcase : l = [] ∨ (l ≠ [] ∧ isSg [44] t = false) ∨ (l ≠ [] ∧ isSg [44] t = true) := by
          by_cases h0 : l = []
          · exact .inl h0
          · cases isSg [44] t with
            | false => exact .inr (.inl ⟨h0, rfl⟩)
            | true => exact .inr (.inr ⟨h0, rfl⟩)
        rcases hcase with hl0 | ⟨hl0, hsg⟩ | ⟨hl0, hsg⟩
        case' inl =>
          have hi0 : ¬ ((0 : Int) < (l.length : Int)) := by rw [hl0]; simp
          have HX4 : Hid (argX g op left (l.map Prod.fst) (toks.drop p') = X) := Lib.hid (by have := HXn.out; rw [hl0, List.map_nil, args_first] at this; rw [hl0]; exact this)
          have HA4 := HAn
          have HB4 := HBn
          have HE4 := HEn
          clear HAn HBn HEn HXn hl0 ht HAT
          generalize p' = q4 at *
          go_upto_region 8 with fail
        case inr.inl =>
          have hi0 : (0 : Int) < (l.length : Int) := by have := List.length_pos_iff.2 hl0; omega
          have hkn : l.map Prod.fst ≠ [] := by simpa using hl0
          have hx := HXn.out
          rw [args_bad hkn (by rw [ht]; exact hsg), ht] at hx
          subst hx
          have HM := Lib.hid (xmust_no [44] B p' toks t tv _ HAn.out.st HAn.out.tokb HAT.out.1 hl hsg)
          unfold strV at HM
          clear HXn ht hsg hkn hl0 HNE
          go_wp2_with fail
          refine HM.out.mono ?_
          rintro e W3 ⟨rfl, hb, hx⟩
          have HBI := Lib.hid (HAn.out.but hb hx).bad
          have HB3 := Lib.hid (HBn.out.trans hb)
          clear x0 x1 x2 y1 y2
          obtain ⟨x0, x1, x2, y1, y2, -⟩ := hx.cells
          have i6 : ¬ (t.p : Int) < 0 := by omega
          clear hb hx HM
          go_wp2
          go_roundg g
          case rel => exact .inr ⟨l.length + 1, t.p, by go_num, by omega, rfl, HBI, HB3⟩
          case measure => omega
        case' inr.inr =>
          have hi0 : (0 : Int) < (l.length : Int) := by have := List.length_pos_iff.2 hl0; omega
          have hkn : l.map Prod.fst ≠ [] := by simpa using hl0
          have HM := Lib.hid (xmust_yes [44] B p' toks t tv _ HAn.out.st HAn.out.tokb HAT.out.1 hl hsg)
          have HX4 : Hid (argX g op left (l.map Prod.fst) (toks.drop (p' + 1)) = X) := Lib.hid (by have := HXn.out; rw [args_next hkn (by rw [ht]; exact hsg), drop_tail] at this; exact this)
          have HE4 : Hid (Ended (toks.drop (p' + 1))) := Lib.hid (by rw [← drop_tail]; exact HEn.out.tail (by rw [ht]; have := isSg_k hsg; omega))
          unfold strV at HM
          clear HXn ht hsg hkn hl0
          go_wp2_with fail
          refine HM.out.mono ?_
          rintro e W4 ⟨rfl, hb, hx⟩
          have HA4 := Lib.hid (HAn.out.but hb hx)
          have HB4 := Lib.hid (HBn.out.trans hb)
          clear x0 x1 x2 y1 y2 HM hb hx HAn HBn HEn HAT
          obtain ⟨x0, x1, x2, y1, y2, -⟩ := HA4.out.st.cells
          generalize p' + 1 = q4 at *
          go_upto_region 8 with fail
        all_goals
          have hx := HX4.out
          unfold argX at hx
          rw [if_neg h22] at hx
          have hy : parseJ g (.two 0) (toks.drop q4) ≠ .out := fun h => by rw [h] at hx; exact HNE.out hx.symm
          have hC0 : ∀ W, XS W B tv q4 (-1) → TokV (gb B W) tv toks → Calls Tryz.prog 34 #[.pointer (some ⟨B, 0, none⟩)] W (RRes B tv toks (parseJ g (.two 0) (toks.drop q4)) W) := fun W h1 h2 => HI.out g (by omega) 0 B q4 toks tv W (by omega) h1 h2 HE4.out hl hy
          have HP := Lib.hid (fun e r => parseJ_left g (.two 0) (toks.drop q4) HE4.out e r)
          have HC := Lib.hid (hC0 _ HA4.out.st HA4.out.tokb)
          have HXX := Lib.hid hx
          have HY := Lib.hid hy
          clear hC0 hx HX4 hy
          generalize parseJ g (.two 0) (toks.drop q4) = y at *
          go_wp2_with fail
          refine HC.out.mono ?_
          clear HC x0 x1 x2 y1 y2
          cases y with
          | out => exact absurd rfl HY.out
          | bad q =>
            rintro e W5 ⟨hb5, ⟨v, rfl, o, n, s0, a, lq, c, rfl⟩, pq, hx5⟩
            have hx := HXX.out
            simp only [PR.then] at hx
            subst hx
            have HA6 := Lib.hid ((HA4.out.but hb5 hx5).keep ((Below.refl _ _).alloc (Nat.le_refl _) (.cells #[.int .i64 o, .int .i64 n, .string ⟨s0.toArray⟩, .slice a lq c] 28)))
            have HB6 := Lib.hid ((HB4.out.trans hb5).alloc (.cells #[.int .i64 o, .int .i64 n, .string ⟨s0.toArray⟩, .slice a lq c] 28))
            have hd6 := heap_alloc_new W5 (.cells #[.int .i64 o, .int .i64 n, .string ⟨s0.toArray⟩, .slice a lq c] 28)
            clear hb5 hx5 HA4 HB4
            unfold exV strV
            go_upto_region 10 with fail
            generalize W5.alloc (.cells #[.int .i64 o, .int .i64 n, .string ⟨s0.toArray⟩, .slice a lq c] 28) = W6 at *
            obtain ⟨⟨d0, d1, d2, d3⟩, -⟩ := four_all hd6
            obtain ⟨ka, kc, hkv⟩ := HA6.out.row.form
            subst hkv
            obtain ⟨⟨c0, c1, c2, c3⟩, -⟩ := four_all HA6.out.c
            have hrow := HA6.out.row
            clear hd6
            go_wp2_with (at_builtin; refine wpList_append_one rfl _ _ 26 rfl 28 tin _ 4 56 Tryz.underlying26 hin tz0 tz1 tz2 rfl (by decide) rfl hrow #[.int .i64 o, .int .i64 n, .string ⟨s0.toArray⟩, .slice a lq c] 28 (0, 0) _ rfl ?c0 rfl ?c1 ?c2 ?c3 ?_)
            case c0 => simp
            case c1 => first | exact ⟨rfl, rfl, rfl, rfl⟩ | (intro u hu; simp at hu; rcases hu with rfl | rfl | rfl | rfl <;> rfl)
            case c2 => unfold maxLen; omega
            case c3 => omega
            intro v' t' w' hr3 he3
            obtain ⟨hBJ, hBf⟩ := HA6.out.junk hr3 he3
            have HBJ := Lib.hid hBJ
            have HB7 := Lib.hid (hBf w rfl HB6.out)
            obtain ⟨va, vc, rfl⟩ := hr3.form
            obtain ⟨⟨q0, q1, q2, q3⟩, q4', q5, q6, q7⟩ := four_all (HA6.out.appc he3)
            clear hr3 he3 hBJ hBf hrow c0 c1 c2 c3 d0 d1 d2 d3
            go_wp2
            go_roundg g
            case rel => exact .inr ⟨l.length + 1, q, by go_num, by omega, rfl, HBJ, HB7⟩
            case measure => omega
          | ok e2 r2 =>
            rintro e W5 ⟨hb5, ⟨v, rfl, kv2, rfl, hK⟩, p5, hd5, hx5⟩
            obtain ⟨kb, kd, rfl⟩ := hK.form
            have hx := HXX.out
            simp only [PR.then] at hx
            have hA5 := HA4.out.but hb5 hx5
            have HK6 := Lib.hid (KV.mono (gp_le fun b hb hl => ⟨hb, Lib.alloc_old W5 (.cells #[.int .i64 e2.op, .int .i64 e2.n, .string ⟨e2.s.toArray⟩, .slice kb e2.ks.length kd] 28) _ hl⟩) (HA4.out.newk hK))
            have HA6 := Lib.hid (hA5.keep ((Below.refl _ _).alloc (Nat.le_refl _) (.cells #[.int .i64 e2.op, .int .i64 e2.n, .string ⟨e2.s.toArray⟩, .slice kb e2.ks.length kd] 28)))
            have HB6 := Lib.hid ((HB4.out.trans hb5).alloc (.cells #[.int .i64 e2.op, .int .i64 e2.n, .string ⟨e2.s.toArray⟩, .slice kb e2.ks.length kd] 28))
            have hd6 := heap_alloc_new W5 (.cells #[.int .i64 e2.op, .int .i64 e2.n, .string ⟨e2.s.toArray⟩, .slice kb e2.ks.length kd] 28)
            have HD5 := Lib.hid hd5
            have HX6 := Lib.hid hx
            clear hb5 hx5 HA4 HB4 hA5 hK hx hd5
            unfold exV strV
            go_upto_region 10 with fail
            generalize W5.alloc (.cells #[.int .i64 e2.op, .int .i64 e2.n, .string ⟨e2.s.toArray⟩, .slice kb e2.ks.length kd] 28) = W6 at *
            obtain ⟨⟨d0, d1, d2, d3⟩, -⟩ := four_all hd6
            obtain ⟨ka, kc, hkv⟩ := HA6.out.row.form
            subst hkv
            obtain ⟨⟨c0, c1, c2, c3⟩, -⟩ := four_all HA6.out.c
            have hrow := HA6.out.row
            clear hd6
            go_wp2_with (at_builtin; refine wpList_append_one rfl _ _ 26 rfl 28 tin _ 4 56 Tryz.underlying26 hin tz0 tz1 tz2 rfl (by decide) rfl hrow #[.int .i64 e2.op, .int .i64 e2.n, .string ⟨e2.s.toArray⟩, .slice kb e2.ks.length kd] 28 (0, 0) _ rfl ?c0 rfl ?c1 ?c2 ?c3 ?_)
            case c0 => simp
            case c1 => first | exact ⟨rfl, rfl, rfl, rfl⟩ | (intro u hu; simp at hu; rcases hu with rfl | rfl | rfl | rfl <;> rfl)
            case c2 => unfold maxLen; omega
            case c3 => omega
            intro v' t' w' hr3 he3
            obtain ⟨t2, hA7, hBf⟩ := HA6.out.app (e := e2) hr3 he3 HK6.out
            have HA7 := Lib.hid hA7
            have HB7 := Lib.hid (hBf w rfl HB6.out)
            have HX7 : Hid (parseJ g (.args op left ((l ++ [(e2, Value.slice kb e2.ks.length kd)]).map Prod.fst)) (toks.drop p5) = X) := Lib.hid (by rw [HD5.out, List.map_append]; exact HX6.out)
            have HE7 : Hid (Ended (toks.drop p5)) := Lib.hid (by rw [HD5.out]; exact (HP.out e2 _ rfl).1)
            obtain ⟨va, vc, rfl⟩ := hr3.form
            obtain ⟨⟨q0, q1, q2, q3⟩, q4', q5, q6, q7⟩ := four_all (HA6.out.appc he3)
            clear hr3 he3 hA7 hBf hrow c0 c1 c2 c3 d0 d1 d2 d3
            go_wp2
            go_roundg g
            case rel => exact .inl ⟨t2, p5, left, _, _, by rw [List.length_append]; go_num, HA7, HB7, HE7, by omega, by rw [List.length_append]; simp; omega, HX7⟩
            case measure => omega
end Go.Proofs.YtoklhppalkgdeaaGreatDoor
