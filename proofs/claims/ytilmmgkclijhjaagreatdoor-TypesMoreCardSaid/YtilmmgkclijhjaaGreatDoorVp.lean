/- The walk of (*parser).two: its loop. -/
import Derived.Test.YtilmmgkclijhjaaGreatDoorVd
import Derived.IntWalk
set_option linter.unusedSimpArgs false
set_option linter.unusedVariables false
set_option linter.unusedSectionVars false
namespace Go.Proofs.YtilmmgkclijhjaaGreatDoor
open Go.RowKit Pal
/-- Where the loop of two stands. -/
structure TwoIn (n0 pb B5 : Nat) (tv : Value) (toks : List Tok) (W : World) (p : Nat) (ex : Ex) (kv : Value) : Prop where
  st : PSt W pb tv p
  tok : TokV (gp (fun b => b < n0 ∧ b ≠ pb) W) tv toks
  z : zeroE W n0
  c : W.heap[B5]? = some (.cells #[.int .i64 ex.op, .int .i64 ex.n, strV ex.s, kv] 24 (0, 0))
  k : KV (gp (fun b => n0 < b ∧ b ≠ B5) W) kv ex.ks
  lt : n0 < B5
  pb : pb < n0
theorem TwoIn.tokb {n0 pb B5 : Nat} {tv : Value} {toks : List Tok} {W : World} {p : Nat} {ex : Ex} {kv : Value} (h : TwoIn n0 pb B5 tv toks W p ex kv) : TokV (gb pb W) tv toks :=
  SlV.mono h.tok (gp_gb W (fun h => h.2 rfl))
theorem tok_gp {pb : Nat} {tv : Value} {toks : List Tok} {w W : World} (h : TokV (gb pb w) tv toks) (hB : But pb w W) : TokV (gp (fun b => b < w.heap.size ∧ b ≠ pb) W) tv toks :=
  SlV.mono h (fun b o hh => by
    unfold gb at hh
    unfold gp
    split at hh
    · cases hh
    · rename_i hn
      have hl := (Array.getElem?_eq_some_iff.1 hh).1
      rw [if_pos ⟨hl, hn⟩, hB.block b hl hn]; exact hh)
theorem TwoIn.but {n0 pb B5 : Nat} {tv : Value} {toks : List Tok} {W W' : World} {p p' : Nat} {ex : Ex} {kv : Value} (h : TwoIn n0 pb B5 tv toks W p ex kv) (hB : But pb W W') (hP : PSt W' pb tv p') : TwoIn n0 pb B5 tv toks W' p' ex kv := by
  have hpb := h.pb
  have hlt := h.lt
  have z := h.z
  have c := h.c
  unfold zeroE at z
  have l1 := (Array.getElem?_eq_some_iff.1 z).1
  have l2 := (Array.getElem?_eq_some_iff.1 c).1
  exact ⟨hP, SlV.mono h.tok (gp_le fun b hb hl => ⟨hb, hB.block _ hl hb.2⟩), by unfold zeroE; rw [hB.block _ l1 (by omega)]; exact z, by rw [hB.block _ l2 (by omega)]; exact c, h.k.mono (gp_le fun b hb hl => ⟨hb, hB.block _ hl (by omega)⟩), hlt, hpb⟩
theorem TwoIn.keep {n0 pb B5 : Nat} {tv : Value} {toks : List Tok} {W W' : World} {p : Nat} {ex : Ex} {kv : Value} (h : TwoIn n0 pb B5 tv toks W p ex kv) (hB : Below W.heap.size W W') : TwoIn n0 pb B5 tv toks W' p ex kv :=
  h.but (But.below hB) (h.st.keep hB)
/-- A new row of two parts. -/
theorem TwoIn.row {n0 pb B5 : Nat} {tv : Value} {toks : List Tok} {W : World} {p : Nat} {ex a b : Ex} {kv ua ub : Value} (h : TwoIn n0 pb B5 tv toks W p ex kv)
    (ha : KV (gp (fun b => n0 < b ∧ b ≠ B5) W) ua a.ks) (hb : KV (gp (fun b => n0 < b ∧ b ≠ B5) W) ub b.ks) :
    TwoIn n0 pb B5 tv toks (W.alloc (.cells #[.int .i64 a.op, .int .i64 a.n, .string ⟨a.s.toArray⟩, ua, .int .i64 b.op, .int .i64 b.n, .string ⟨b.s.toArray⟩, ub] 24)) p ex kv ∧
    KV (gp (fun b => n0 < b ∧ b ≠ B5) (W.alloc (.cells #[.int .i64 a.op, .int .i64 a.n, .string ⟨a.s.toArray⟩, ua, .int .i64 b.op, .int .i64 b.n, .string ⟨b.s.toArray⟩, ub] 24))) (.slice (some ⟨W.heap.size, 0, none⟩) 2 2) [a, b] := by
  have hlt := h.lt
  have c := h.c
  have l2 := (Array.getElem?_eq_some_iff.1 c).1
  refine ⟨h.keep ((Below.refl _ _).alloc (Nat.le_refl _) _), KV.two (a := a) (c := b) (u := ua) (v := ub) (T := 24) ?_ (ha.mono (gp_le fun b hb hl => ⟨hb, ?_⟩)) (hb.mono (gp_le fun b hb hl => ⟨hb, ?_⟩))⟩
  · unfold gp
    rw [if_pos ⟨by omega, by omega⟩]
    exact heap_alloc_new W _
  · rw [Lib.alloc_old _ _ _ hl]
  · rw [Lib.alloc_old _ _ _ hl]
theorem TwoIn.rowd {n0 pb B5 : Nat} {tv : Value} {toks : List Tok} {W : World} {p : Nat} {ex a b : Ex} {kv ua ub : Value} (h : TwoIn n0 pb B5 tv toks W p ex kv)
    (ha : KV (gp (fun b => n0 < b ∧ b ≠ B5) W) ua a.ks) (hb : KV (gp (fun b => n0 < b ∧ b ≠ B5) W) ub b.ks) :
    TwoIn n0 pb B5 tv toks (W.alloc (.cells #[.int .i64 a.op, .int .i64 a.n, .string ⟨a.s.toArray⟩, ua, .int .i64 b.op, .int .i64 b.n, .string ⟨b.s.toArray⟩, ub] 24)).drew p ex kv ∧
    KV (gp (fun b => n0 < b ∧ b ≠ B5) (W.alloc (.cells #[.int .i64 a.op, .int .i64 a.n, .string ⟨a.s.toArray⟩, ua, .int .i64 b.op, .int .i64 b.n, .string ⟨b.s.toArray⟩, ub] 24)).drew) (.slice (some ⟨W.heap.size, 0, none⟩) 2 2) [a, b] :=
  ⟨(h.row ha hb).1.but ((But.refl pb _).drew) (h.row ha hb).1.st, (h.row ha hb).2⟩
/-- The expression has been stored anew. -/
theorem TwoIn.set {n0 pb B5 : Nat} {tv : Value} {toks : List Tok} {W : World} {p : Nat} {ex : Ex} {kv sv : Value} {ks : List Ex} (h : TwoIn n0 pb B5 tv toks W p ex kv)
    (hk : KV (gp (fun b => n0 < b ∧ b ≠ B5) W) sv ks) (op : Int) :
    TwoIn n0 pb B5 tv toks ((((W.setCell ⟨B5, 0, none⟩ (.int .i64 op)).setCell ⟨B5, 1, none⟩ (.int .i64 0)).setCell ⟨B5, 2, none⟩ (.string ⟨#[]⟩)).setCell ⟨B5, 3, none⟩ sv) p (.mk op 0 [] ks) sv := by
  have hpb := h.pb
  have hlt := h.lt
  have z := h.z
  have c := h.c
  have st := h.st
  unfold zeroE at z
  have o4 := fun x (hx : x ≠ B5) => set4_other (W := W) (b := x) hx (.int .i64 op) (.int .i64 0) (.string ⟨#[]⟩) sv
  refine ⟨st.set4 (by omega) _ _ _ _, SlV.mono h.tok (gp_le fun b hb hl => ⟨hb, o4 _ (by omega)⟩), ?_, set4_heap c _ _ _ _, hk.mono (gp_le fun b hb hl => ⟨hb, o4 _ (by omega)⟩), hlt, hpb⟩
  unfold zeroE; rw [o4 _ (by omega)]; exact z
/-- A way that a panic has ended: what the region's walk may go on with. -/
theorem any_end {G : Prop} (P : Program) (a : Act) (w : World) (h : G) (_ : wpAny P Region.Mode.any #[] (fun _ _ _ => True) 0 #[] a w) : G := h
theorem lvS_len (n : Nat) : (lvS n).length ≤ 1000 := by unfold lvS; repeat' split
                                                        all_goals simp
theorem loop_none {f n : Nat} {e : Ex} {ts : List Tok} (h : lvT n (hd ts) = none) : parseJ (f + 1) (.loop n e) ts = .ok e ts := by
  conv => lhs; unfold parseJ
  simp only [h]
theorem loop_some {f n : Nat} {e : Ex} {ts : List Tok} {op : Int} {sw : Bool} (h : lvT n (hd ts) = some (op, sw)) : parseJ (f + 1) (.loop n e) ts = (parseJ f (.two (n + 1)) ts.tail).then fun e2 r =>
        if n = 2 then .ok (.mk op 0 [] (kidsOf sw e e2)) r else parseJ f (.loop n (.mk op 0 [] (kidsOf sw e e2))) r := by
  conv => lhs; unfold parseJ
  simp only [h]
set_option maxRecDepth 1000000 in
set_option maxHeartbeats 8000000 in
theorem two_loop (f n pb p : Nat) (toks : List Tok) (tv : Value) (w : World) (X : PR) (hn : n ≤ 4) (hp : PSt w pb tv p) (hT : TokV (gb pb w) tv toks) (hE : Ended (toks.drop p)) (hl : toks.length ≤ 1000)
    (hX : parseJ (f + 1) (.two n) (toks.drop p) = X) (hne : X ≠ .out) (ih : ∀ g, g ≤ f → TwoOK g) :
    Calls Tryz.prog 30 #[.pointer (some ⟨pb, 0, none⟩), .int .i64 n] w (Res pb tv toks X w) := by
  unfold parseJ at hX
  rw [if_neg (by omega)] at hX
  have hpl := hp.cells.2.2.2
  have hb0 : Below w.heap.size w (w.alloc (.cells #[.int .i64 0, .int .i64 0, .string ⟨#[]⟩, .slice none 0 0] 24)) := (Below.refl w.heap.size w).alloc (Nat.le_refl _) _
  have hz0 : zeroE (w.alloc (.cells #[.int .i64 0, .int .i64 0, .string ⟨#[]⟩, .slice none 0 0] 24)) w.heap.size := heap_alloc_new w _
  have hy : parseJ f (.two (n + 1)) (toks.drop p) ≠ .out := fun h => by rw [h] at hX; exact hne hX.symm
  have hC0 := ih f (Nat.le_refl _) (n + 1) pb p toks tv _ (by omega) (hp.keep hb0) (SlV.mono hT (But.below (pb := pb) hb0).gb) hE hl hy
  have eni : ((n + 1 : Nat) : Int) = (n : Int) + 1 := by omega
  rw [eni] at hC0
  have HC := Lib.hid hC0
  have hB0 : But pb w (w.alloc (.cells #[.int .i64 0, .int .i64 0, .string ⟨#[]⟩, .slice none 0 0] 24)) := But.below hb0
  have hsz : (w.alloc (.cells #[.int .i64 0, .int .i64 0, .string ⟨#[]⟩, .slice none 0 0] 24)).heap.size = w.heap.size + 1 := by simp
  have HP := Lib.hid (fun e r => parseJ_left f (.two (n + 1)) (toks.drop p) hE e r)
  generalize parseJ f (.two (n + 1)) (toks.drop p) = y at *
  have HX := Lib.hid hX
  have HI := Lib.hid ih
  have HNE := Lib.hid hne
  have i1 : ¬ ((4 : Int) < (n : Int)) := by omega
  have i2 : (n : Int) ≤ 4 := by omega
  have i3 : (0 : Int) ≤ (n : Int) := by omega
  have HTT := Lib.hid hT
  clear hp hT hE hne hb0 hX ih hy hC0 eni
  go_enter Tryz.func30, Tryz.ntmps30
  go_wp2_with fail
  refine HC.out.mono ?_
  clear HC
  generalize w.alloc (.cells #[.int .i64 0, .int .i64 0, .string ⟨#[]⟩, .slice none 0 0] 24) = W0 at *
  cases y with
  | out => rintro e W3 ⟨-, h⟩; exact h.elim
  | bad q =>
    rintro e W3 ⟨hB4, rfl⟩
    have hx := HX.out
    simp only [PR.then] at hx
    subst hx
    go_wp2
    exact ⟨rfl, hB0.trans hB4, rfl⟩
  | ok ex r =>
    rintro e W3 ⟨hB4, ⟨v, rfl, kv, rfl, hK⟩, p', hd3, hP4⟩
    have hE3 := HP.out ex r rfl
    have HX2 : Hid (parseJ f (.loop n ex) (toks.drop p') = X) := Lib.hid (by have := HX.out; simp only [PR.then] at this; rw [hd3]; exact this)
    have hE4 : Ended (toks.drop p') := by rw [hd3]; exact hE3.1
    have hc4 : zeroE W3 w.heap.size := by unfold zeroE at *; rw [hB4.block _ (by omega) (by omega)]; exact hz0
    have hBW := hB0.trans hB4
    have hz3 := hB4.size
    clear HX HP hd3 hE3 hz0 hB0
    obtain ⟨ka, kc, hkv⟩ := hK.form
    subst hkv
    unfold exV strV
    go_wp2
    have hT4 := TwoIn.mk (n0 := w.heap.size) (pb := pb) (B5 := W3.heap.size) (tv := tv) (toks := toks) (W := W3.alloc (.cells #[.int .i64 ex.op, .int .i64 ex.n, .string ⟨ex.s.toArray⟩, .slice ka ex.ks.length kc] 24)) (p := p') (ex := ex) (kv := .slice ka ex.ks.length kc)
      (hP4.keep ((Below.refl _ _).alloc (Nat.le_refl _) _)) (tok_gp HTT.out (hBW.alloc _)) (by unfold zeroE at *; rw [Lib.alloc_old _ _ _ (by omega)]; exact hc4) (heap_alloc_new _ _)
      (hK.mono (gp_le fun b hb hl => ⟨⟨by omega, by omega⟩, Lib.alloc_old _ _ _ hl⟩)) (by omega) hpl
    have hB5 := hBW.alloc (.cells #[.int .i64 ex.op, .int .i64 ex.n, .string ⟨ex.s.toArray⟩, .slice ka ex.ks.length kc] 24)
    have hB6 : w.heap.size ≤ W3.heap.size := by omega
    generalize W3.alloc (.cells #[.int .i64 ex.op, .int .i64 ex.n, .string ⟨ex.s.toArray⟩, .slice ka ex.ks.length kc] 24) = W5 at *
    clear hP4 hc4 hK hBW hB4
    generalize W3.heap.size = B5 at *
    go_loopg [6] f (fun g l6 wr => ∃ (p' : Nat) (ex : Ex) (kv : Value), TwoIn w.heap.size pb B5 tv toks wr p' ex kv ∧ But pb w wr ∧ Ended (toks.drop p') ∧ g ≤ f ∧ Hid (parseJ g (.loop n ex) (toks.drop p') = X))
    case atStart => exact ⟨p', ex, _, hT4, hB5, hE4, Nat.le_refl _, HX2⟩
    case round =>
      obtain ⟨p', ex, kv, hI, hB, hE, hg, HX⟩ := hrel
      cases gk with
      | zero => exact absurd HX.out.symm HNE.out
      | succ g =>
      go_wp2_with fail
      refine (level_any n wr hn).mono ?_
      rintro e1 W1 ⟨sv, rfl, hb1, hS⟩
      have hpw := hI.st.cells.2.2.2
      have hI1 := hI.keep hb1
      have hBW := hB.call hb1
      have hS1 := hS pb hpw
      clear hI hB hb1 hS
      cases hlv : lvT n (hd (toks.drop p')) with
      | none =>
        have HT := Lib.hid (takes_no pb p' toks _ (lvS n) tv sv W1 hI1.st hI1.tokb hE.at.1 hS1 hl (lvS_len n) (lvT_none hlv))
        have hx := HX.out
        rw [loop_none hlv] at hx
        subst hx
        clear hlv HX
        go_wp2_with fail
        refine HT.out.mono ?_
        rintro e2 W2 ⟨hB2, rfl, hP2⟩
        have hI2 := hI1.but hB2 hP2
        have hK := Lib.hid hI2.k
        obtain ⟨ka, kc, hkv⟩ := hI2.k.form
        subst hkv
        have hz := hI2.z
        unfold zeroE at hz
        have HZ := Lib.hid hz
        have hlt := hI2.lt
        obtain ⟨⟨c0, c1, c2, c3⟩, f0, f1, f2, f3⟩ := four_all hI2.c
        obtain ⟨⟨d0, d1, d2, d3⟩, g0, g1, g2, g3⟩ := four_all hz
        have hBR := hBW.trans hB2
        unfold strV at *
        clear hI1 hI2 hS1 HT hB2 hz hBW
        go_wp2
        refine bodyPost_ret (v := exV ex.op ex.n ex.s (.slice ka ex.ks.length kc)) ?_ rfl ?_
        · have hh := four_all (set4_heap (W := W2) (B := w.heap.size) (x0 := .int .i64 0) (x1 := .int .i64 0) (x2 := .string ⟨#[]⟩) (x3 := .slice none 0 0) (T := 24) HZ.out (.int .i64 ex.op) (.int .i64 ex.n) (.string ⟨ex.s.toArray⟩) (.slice ka ex.ks.length kc))
          simp [results, Tryz.results30, go_sem, exV, strV, hh.1]
        · have hr := res_store (toks := toks) (op := ex.op) (n := ex.n) (s := ex.s) hBR hpl (hK.out.mono (gp_le fun b hb _ => ⟨hb.1, rfl⟩)) hP2 rfl (.int .i64 ex.op) (.int .i64 ex.n) (.string ⟨ex.s.toArray⟩) (.slice ka ex.ks.length kc)
          rw [← Ex.eta ex] at hr
          exact hr
      | some os =>
        obtain ⟨op, sw⟩ := os
        obtain ⟨hin, hop, hsw, hse⟩ := lvT_some hlv
        have HT := Lib.hid (takes_yes pb p' toks _ (lvS n) tv sv W1 hI1.st hI1.tokb hE.at.1 hS1 hl (lvS_len n) hin)
        have HX2 := HX.out
        rw [loop_some hlv, drop_tail] at HX2
        have hEt : Ended (toks.drop (p' + 1)) := by rw [← drop_tail]; exact hE.tail (by have := lvT_k hlv; omega)
        have hall : (hd (toks.drop p')).s ∈ allS := lvS_all hin.2
        have HOP := Lib.hid hop
        have HSW := Lib.hid hsw
        have hie := isEmpty_no hse
        clear hin hop hsw hse hlv HX hE
        generalize (hd (toks.drop p')).s = ss at *
        go_wp2_with fail
        refine HT.out.mono ?_
        rintro e2 W2 ⟨hB2, rfl, hP2⟩
        have hI2 := hI1.but hB2 hP2
        have hBR := hBW.trans hB2
        have hy : parseJ g (.two (n + 1)) (toks.drop (p' + 1)) ≠ .out := fun h => by rw [h] at HX2; exact HNE.out HX2.symm
        have hC0 := HI.out g (by omega) (n + 1) pb (p' + 1) toks tv W2.drew (by omega) hI2.st (SlV.mono hI2.tokb ((But.refl pb W2).drew).gb) hEt hl hy
        have eni : ((n + 1 : Nat) : Int) = (n : Int) + 1 := by omega
        rw [eni] at hC0
        have HC := Lib.hid hC0
        have HP := Lib.hid (fun e r => parseJ_left g (.two (n + 1)) (toks.drop (p' + 1)) hEt e r)
        clear hC0 eni hy hEt
        generalize parseJ g (.two (n + 1)) (toks.drop (p' + 1)) = y at *
        have HXX := Lib.hid HX2
        obtain ⟨ka, kc, hkv⟩ := hI2.k.form
        subst hkv
        obtain ⟨⟨c0, c1, c2, c3⟩, f0, f1, f2, f3⟩ := four_all hI2.c
        have hw : IntKind.i64.wrap ((n : Int) + 1) = (n : Int) + 1 := IntWalk.i64_in _ (by omega)
        unfold strV at *
        clear HT HX2 hI1 hS1 hB2 hBW
        cases y with
        | out => exact absurd HXX.out.symm HNE.out
        | bad q =>
          have hx := HXX.out
          simp only [PR.then] at hx
          subst hx
          go_wp2
          have hBD := Lib.hid hBR.drew
          go_region_with (go_at_call 30; refine HC.out.mono ?_; rintro e W3 ⟨hB4, rfl⟩; refine any_end Tryz.prog ⟨#[], []⟩ W3 ⟨rfl, hBD.out.trans hB4, rfl⟩ ?_)
          all_goals trivial
        | ok e2 r2 =>
          have hBD := Lib.hid hBR.drew
          have HBD := hBD
          have HB5 : Hid (w.heap.size ≤ B5) := Lib.hid (Nat.le_of_lt hI2.lt)
          have HLT : Hid (∀ b, W2.drew.heap.size ≤ b → w.heap.size < b) := Lib.hid (fun b hb => by
            have l1 := (Array.getElem?_eq_some_iff.1 hI2.c).1
            have := hI2.lt
            have hz : W2.drew.heap.size = W2.heap.size := rfl
            omega)
          have HLT2 : Hid (∀ b, W2.drew.heap.size ≤ b → B5 < b) := Lib.hid (fun b hb => by
            have l1 := (Array.getElem?_eq_some_iff.1 hI2.c).1
            have hz : W2.drew.heap.size = W2.heap.size := rfl
            omega)
          have HID := Lib.hid (hI2.but ((But.refl pb W2).drew) hI2.st)
          go_wp2
          go_region_with (go_at_call 30; refine HC.out.mono ?_; rintro e W3 ⟨hB4, ⟨v, rfl, kv, rfl, hK⟩, p4, hd3, hP4⟩; have hI3 := HID.out.but hB4 hP4; obtain ⟨⟨m0, m1, m2, m3⟩, -⟩ := four_all hI3.c; obtain ⟨kb, kd, hkv⟩ := hK.form; subst hkv; unfold exV strV at *)
          all_goals
            have hI3 := HID.out.but hB4 hP4
            obtain ⟨⟨a0, a1, a2, a3⟩, b0, b1, b2, b3⟩ := four_new hI3.c
            clear m0 m1 m2 m3 c0 c1 c2 c3 f0 f1 f2 f3
            by_cases s1 : ss = [62] ∨ ss = [62, 61]
            · have e1 : sw = true := by rw [HSW.out]; rcases s1 with rfl | rfl <;> rfl
              subst e1
              rcases s1 with rfl | rfl
              all_goals
                go_wp2
                go_region
                go_wp2_with fail
                refine (op_any _ _ hall).mono ?_
                rintro e5 W6 ⟨rfl, h6⟩
                rw [HOP.out]
                have hR := hI3.rowd (a := e2) (b := ex) (hK.mono (gp_le fun b hb hl => ⟨⟨HLT.out _ hb, fun e => absurd (HLT2.out _ hb) (by omega)⟩, rfl⟩)) hI3.k
                have hB6 := But.alloc (HBD.out.trans hB4) (.cells #[.int .i64 e2.op, .int .i64 e2.n, .string ⟨e2.s.toArray⟩, .slice kb e2.ks.length kd, .int .i64 ex.op, .int .i64 ex.n, .string ⟨ex.s.toArray⟩, .slice ka ex.ks.length kc] 24) |>.drew
                rw [h6] at hR hB6
                clear h6
                have hS := hR.1.set hR.2 op
                have HS := Lib.hid hS
                have HB6 := Lib.hid hB6
                have HE5 := Lib.hid (HP.out e2 r2 rfl)
                have HD3 := Lib.hid hd3
                obtain ⟨⟨a0, a1, a2, a3⟩, b0, b1, b2, b3⟩ := four_all hR.1.c
                obtain ⟨⟨d0, d1, d2, d3⟩, g0, g1, g2, g3⟩ := four_all hR.1.z
                have HZ := Lib.hid hR.1.z
                have hlt := hR.1.lt
                have HR := Lib.hid hR
                clear hK hd3 hP4 hI3 hB4 hBR hI2 hall hpw hT4 hE4 HX2 hB5 hz3 hR hS hB6
                by_cases hn2 : n = 2
                · have hx := HXX.out
                  simp only [PR.then, if_pos hn2] at hx
                  subst hx
                  have hn3 : ((n : Int) == 2) = true := by rw [hn2]; rfl
                  go_wp2
                  refine bodyPost_ret (v := exV op 0 [] (.slice (some ⟨W3.heap.size, 0, none⟩) 2 2)) ?_ rfl ?_
                  · have hz7 := HS.out.z
                    unfold zeroE at hz7
                    have hh := four_all (set4_heap hz7 (.int .i64 op) (.int .i64 0) (.string ⟨#[]⟩) (.slice (some ⟨W3.heap.size, 0, none⟩) 2 2))
                    simp [results, Tryz.results30, go_sem, exV, strV, hh.1]
                  · exact res_store (op := op) (n := 0) (s := []) (HB6.out.set4 HB5.out _ _ _ _) hpl (HS.out.k.mono (gp_le fun b hb _ => ⟨hb.1, rfl⟩)) HS.out.st HD3.out (.int .i64 op) (.int .i64 0) (.string ⟨#[]⟩) (.slice (some ⟨W3.heap.size, 0, none⟩) 2 2)
                · have hn3 : ((n : Int) == 2) = false := beq_eq_false_iff_ne.2 (by omega)
                  have hx := HXX.out
                  simp only [PR.then, if_neg hn2] at hx
                  have HX5 := Lib.hid hx
                  rw [← HD3.out] at HX5
                  have hE5 : Ended (toks.drop p4) := by rw [HD3.out]; exact HE5.out.1
                  clear hx
                  go_wp2
                  go_roundg g
                  case rel => exact ⟨p4, _, _, HS.out, HB6.out.set4 HB5.out _ _ _ _, hE5, by omega, HX5⟩
                  case measure => omega
            · have n1 : ¬ ss = [62] := fun h => s1 (.inl h)
              have n2 : ¬ ss = [62, 61] := fun h => s1 (.inr h)
              have S1 : (ss == [62]) = false := beq_eq_false_iff_ne.2 n1
              have S2 : (ss == [62, 61]) = false := beq_eq_false_iff_ne.2 n2
              have e1 : sw = false := by rw [HSW.out, decide_eq_false n1, decide_eq_false n2]; rfl
              subst e1
              clear s1 n1 n2
              go_wp2_with fail
              refine (op_any _ _ hall).mono ?_
              rintro e5 W6 ⟨rfl, h6⟩
              rw [HOP.out]
              have hR := hI3.row (a := ex) (b := e2) hI3.k (hK.mono (gp_le fun b hb hl => ⟨⟨HLT.out _ hb, fun e => absurd (HLT2.out _ hb) (by omega)⟩, rfl⟩))
              have hB6 := But.alloc (HBD.out.trans hB4) (.cells #[.int .i64 ex.op, .int .i64 ex.n, .string ⟨ex.s.toArray⟩, .slice ka ex.ks.length kc, .int .i64 e2.op, .int .i64 e2.n, .string ⟨e2.s.toArray⟩, .slice kb e2.ks.length kd] 24)
              rw [h6] at hR hB6
              clear h6
              have hS := hR.1.set hR.2 op
              have HS := Lib.hid hS
              have HB6 := Lib.hid hB6
              have HE5 := Lib.hid (HP.out e2 r2 rfl)
              have HD3 := Lib.hid hd3
              obtain ⟨⟨a0, a1, a2, a3⟩, b0, b1, b2, b3⟩ := four_all hR.1.c
              obtain ⟨⟨d0, d1, d2, d3⟩, g0, g1, g2, g3⟩ := four_all hR.1.z
              have HZ := Lib.hid hR.1.z
              have hlt := hR.1.lt
              have HR := Lib.hid hR
              clear hK hd3 hP4 hI3 hB4 hBR hI2 hall hpw hT4 hE4 HX2 hB5 hz3 hR hS hB6
              by_cases hn2 : n = 2
              · have hx := HXX.out
                simp only [PR.then, if_pos hn2] at hx
                subst hx
                have hn3 : ((n : Int) == 2) = true := by rw [hn2]; rfl
                go_wp2
                refine bodyPost_ret (v := exV op 0 [] (.slice (some ⟨W3.heap.size, 0, none⟩) 2 2)) ?_ rfl ?_
                · have hz7 := HS.out.z
                  unfold zeroE at hz7
                  have hh := four_all (set4_heap hz7 (.int .i64 op) (.int .i64 0) (.string ⟨#[]⟩) (.slice (some ⟨W3.heap.size, 0, none⟩) 2 2))
                  simp [results, Tryz.results30, go_sem, exV, strV, hh.1]
                · exact res_store (op := op) (n := 0) (s := []) (HB6.out.set4 HB5.out _ _ _ _) hpl (HS.out.k.mono (gp_le fun b hb _ => ⟨hb.1, rfl⟩)) HS.out.st HD3.out (.int .i64 op) (.int .i64 0) (.string ⟨#[]⟩) (.slice (some ⟨W3.heap.size, 0, none⟩) 2 2)
              · have hn3 : ((n : Int) == 2) = false := beq_eq_false_iff_ne.2 (by omega)
                have hx := HXX.out
                simp only [PR.then, if_neg hn2] at hx
                have HX5 := Lib.hid hx
                rw [← HD3.out] at HX5
                have hE5 : Ended (toks.drop p4) := by rw [HD3.out]; exact HE5.out.1
                clear hx
                go_wp2
                go_roundg g
                case rel => exact ⟨p4, _, _, HS.out, HB6.out.set4 HB5.out _ _ _ _, hE5, by omega, HX5⟩
                case measure => omega
end Go.Proofs.YtilmmgkclijhjaaGreatDoor
