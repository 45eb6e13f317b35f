/- The walks of types.of, types.Of. -/
import Derived.Test.YtilmmgkclijhjaaGreatDoorT2
import Derived.Test.YtilmmgkclijhjaaGreatDoorVc
set_option linter.unusedSimpArgs false
set_option linter.unusedVariables false
set_option linter.unusedSectionVars false
namespace Go.Proofs.YtilmmgkclijhjaaGreatDoor
open Go.RowKit Pal
/-- At most three parts, everywhere; an operation there is. -/
inductive Ar : Ex → Prop
  | mk (op n : Int) (s : Bs) (ks : List Ex) (ho : 1 ≤ op ∧ op ≤ 23) (hl : ks.length ≤ 3) (hk : ∀ k ∈ ks, Ar k) : Ar (.mk op n s ks)
theorem arity_le {op : Int} {n : Nat} (h : (n : Int) = arity op) : (1 ≤ op ∧ op ≤ 23) ∧ n ≤ 3 := by
  unfold arity at h
  split at h
  · omega
  · split at h
    · omega
    · split at h
      · omega
      · split at h <;> omega
theorem alone_ar {op n : Int} {s : Bs} {ks : List Ex} (h : alone op n s ks = true) : (ks.length : Int) = arity op := by
  unfold alone at h
  rw [Bool.and_eq_true, decide_eq_true_eq] at h
  exact h.1
theorem chk_ar : ∀ (e : Ex) (deep left : Nat), (chk e deep left).isSome = true → Ar e := by
  intro e
  refine Ex.ind (P := fun e => ∀ (deep left : Nat), (chk e deep left).isSome = true → Ar e) ?_ e
  intro op n s ks ih deep left h
  by_cases hc : left = 0 ∨ 24 < deep ∨ alone op n s ks = false
  · rw [chk_no hc] at h; cases h
  · rw [chk_yes hc] at h
    have ha : alone op n s ks = true := by
      cases hb : alone op n s ks with
      | true => rfl
      | false => exact absurd (.inr (.inr hb)) hc
    have h3 := arity_le (alone_ar ha)
    refine .mk op n s ks h3.1 h3.2 ?_
    have go : ∀ (l : List Ex), (∀ k ∈ l, k ∈ ks) → ∀ left, (chkL l (deep + 1) left).isSome = true → ∀ k ∈ l, Ar k := by
      intro l
      induction l with
      | nil => intro _ _ _ k hk; cases hk
      | cons a t iht =>
        intro hm left h k hk
        rw [chkL_cons] at h
        cases hca : chk a (deep + 1) left with
        | none => rw [hca] at h; cases h
        | some m =>
          rw [hca, Option.bind_some] at h
          rcases List.mem_cons.1 hk with rfl | hk
          · exact ih k (hm k (by simp)) _ _ (by rw [hca]; rfl)
          · exact iht (fun x hx => hm x (by simp [hx])) m h k hk
    exact go ks (fun _ h => h) _ h
theorem check_ar {e : Ex} (h : check e = true) : Ar e := chk_ar e 1 128 h
def valE (r : Except Int Int) : Int := match r with | .ok t => t | .error _ => 0
def errE (r : Except Int Int) : Int := match r with | .ok _ => 0 | .error f => f
def ofPost (r : Except Int Int) (w : World) (e : Ending) (w' : World) : Prop := e = .returned (.tuple #[.int .i64 (valE r), .int .i64 (errE r)]) ∧ Below w.heap.size w w'
/-- The types so far, ahead of those that follow. -/
def cont (ts : List Int) (r : Except Int (List Int)) : Except Int (List Int) := match r with | .ok us => .ok (ts ++ us) | .error f => .error f
theorem typL_nil (ns : List Bs) (tys : List Int) : typL ns tys [] = .ok [] := by rw [typL]
theorem typL_err {ns : List Bs} {tys : List Int} {k : Ex} {ks : List Ex} {f : Int} (h : typ ns tys k = .error f) : typL ns tys (k :: ks) = .error f := by rw [typL, h]
theorem typL_ok {ns : List Bs} {tys : List Int} {k : Ex} {ks : List Ex} {t : Int} (h : typ ns tys k = .ok t) (ts : List Int) : cont ts (typL ns tys (k :: ks)) = cont (ts ++ [t]) (typL ns tys ks) := by
  rw [typL, h]
  simp only
  cases typL ns tys ks with
  | error f => rfl
  | ok us => simp [cont]
theorem typ_err {ns : List Bs} {tys : List Int} {op n : Int} {s : Bs} {ks : List Ex} {f : Int} (h : typL ns tys ks = .error f) : typ ns tys (.mk op n s ks) = .error f := by rw [typ, h]
theorem typ_name {ns : List Bs} {tys : List Int} {n : Int} {s : Bs} {ks : List Ex} {ts : List Int} (h : typL ns tys ks = .ok ts) : typ ns tys (.mk 4 n s ks) = if findT ns tys s = 0 then .error 9 else .ok (findT ns tys s) := by rw [typ, h]; rfl
theorem typ_op {ns : List Bs} {tys : List Int} {op n : Int} {s : Bs} {ks : List Ex} {ts : List Int} (h : typL ns tys ks = .ok ts) (h4 : op ≠ 4) : typ ns tys (.mk op n s ks) =
    if made op (ts.getD 0 0) (ts.getD 1 0) (ts.getD 2 0) = 0 then .error 8 else .ok (made op (ts.getD 0 0) (ts.getD 1 0) (ts.getD 2 0)) := by rw [typ, h]; simp only; rw [if_neg h4]
theorem typ_err_ne : ∀ (ns : List Bs) (tys : List Int) (e : Ex) (f : Int), typ ns tys e = .error f → f = 8 ∨ f = 9 := by
  intro ns tys e
  refine Ex.ind (P := fun e => ∀ f, typ ns tys e = .error f → f = 8 ∨ f = 9) ?_ e
  intro op n s ks ih f h
  cases hl : typL ns tys ks with
  | error g =>
    rw [typ_err hl] at h
    simp only [Except.error.injEq] at h
    subst h

    have go : ∀ (l : List Ex), (∀ k ∈ l, k ∈ ks) → ∀ g, typL ns tys l = .error g → g = 8 ∨ g = 9 := by
      intro l
      induction l with
      | nil => intro _ g hg; rw [typL_nil] at hg; cases hg
      | cons a t iht =>
        intro hm g hg
        rw [typL] at hg
        cases ha : typ ns tys a with
        | error x => rw [ha] at hg; simp only [Except.error.injEq] at hg; subst hg; exact ih a (hm a (by simp)) _ ha
        | ok u =>
          rw [ha] at hg
          simp only at hg
          cases ht : typL ns tys t with
          | error x => rw [ht] at hg; simp only [Except.error.injEq] at hg; subst hg; exact iht (fun k hk => hm k (by simp [hk])) _ ht
          | ok us => rw [ht] at hg; cases hg
    exact go ks (fun _ h => h) _ hl
  | ok ts =>
    by_cases h4 : op = 4
    · subst h4
      rw [typ_name hl] at h
      split at h
      · simp only [Except.error.injEq] at h; omega
      · cases h
    · rw [typ_op hl h4] at h
      split at h
      · simp only [Except.error.injEq] at h; omega
      · cases h
/-- The three cells of the kinds of the parts. -/
def kd (ts : List Int) : Obj := .cells #[.int .i64 (ts.getD 0 0), .int .i64 (ts.getD 1 0), .int .i64 (ts.getD 2 0)] 50 (0, 0)
theorem kd_cells {W : World} {B : Nat} {ts : List Int} (h : W.heap[B]? = some (kd ts)) : W.cell? ⟨B, 0, none⟩ = some (.int .i64 (ts.getD 0 0)) ∧ W.cell? ⟨B, 1, none⟩ = some (.int .i64 (ts.getD 1 0)) ∧ W.cell? ⟨B, 2, none⟩ = some (.int .i64 (ts.getD 2 0)) ∧
    W.frozen? ⟨B, 0, none⟩ = false ∧ W.frozen? ⟨B, 1, none⟩ = false ∧ W.frozen? ⟨B, 2, none⟩ = false := by
  unfold kd at h
  simp [World.cell?, World.frozen?, h]
theorem kd_set {W : World} {B : Nat} {ts : List Int} (h : W.heap[B]? = some (kd ts)) (k : Nat) (hk : ts.length = k) (h3 : k < 3) (t : Int) : (W.setCell ⟨B, k, none⟩ (.int .i64 t)).heap[B]? = some (kd (ts ++ [t])) := by
  unfold kd at h ⊢
  match ts, k, hk, h3 with
  | [], 0, _, _ => simp [World.setCell, Array.getElem?_modify, h]
  | [a], 1, _, _ => simp [World.setCell, Array.getElem?_modify, h]
  | [a, b], 2, _, _ => simp [World.setCell, Array.getElem?_modify, h]
theorem set_other {W : World} {b : Nat} {p : Addr} (h : b ≠ p.block) (v : Value) : (W.setCell p v).heap[b]? = W.heap[b]? := Below.heap_setCell _ _ _ _ h
theorem kd_at {W : World} {B : Nat} {ts : List Int} (h : W.heap[B]? = some (kd ts)) (k : Nat) (h3 : k < 3) : (∃ x, W.cell? ⟨B, k, none⟩ = some (.int .i64 x)) ∧ W.frozen? ⟨B, k, none⟩ = false := by
  have c := kd_cells h
  rcases (by omega : k = 0 ∨ k = 1 ∨ k = 2) with rfl | rfl | rfl
  · exact ⟨⟨_, c.1⟩, c.2.2.2.1⟩
  · exact ⟨⟨_, c.2.1⟩, c.2.2.2.2.1⟩
  · exact ⟨⟨_, c.2.2.1⟩, c.2.2.2.2.2⟩
set_option maxRecDepth 1000000 in
set_option maxHeartbeats 4000000 in
theorem of_any (names : List Bs) (types : List Int) (nv tv : Value) (e : Ex) : ∀ (v : Value) (w : World), Ar e → StrsV (gh w) nv names → IntsV (gh w) tv types → KV (gh w) v e.ks →
    Calls Tryz.prog 17 #[exV e.op e.n e.s v, nv, tv] w (ofPost (typ names types e) w) := by
  refine Ex.ind (P := fun e => ∀ (v : Value) (w : World), Ar e → StrsV (gh w) nv names → IntsV (gh w) tv types → KV (gh w) v e.ks →
    Calls Tryz.prog 17 #[exV e.op e.n e.s v, nv, tv] w (ofPost (typ names types e) w)) ?_ e
  intro op n s ks ih v w hA hN hT hK
  simp only [Ex.op, Ex.n, Ex.s, Ex.ks] at hK ⊢
  obtain ⟨a, cap, rfl⟩ := hK.form
  have hl3 : ks.length ≤ 3 := by cases hA with | mk _ _ _ _ _ h _ => exact h
  have HO : Hid (1 ≤ op ∧ op ≤ 23) := by cases hA with | mk _ _ _ _ h _ _ => exact Lib.hid h
  have HAk : Hid (∀ k ∈ ks, Ar k) := by cases hA with | mk _ _ _ _ _ _ h => exact Lib.hid h
  have HI := Lib.hid ih
  obtain ⟨R, hR⟩ : ∃ R, typL names types ks = R := ⟨_, rfl⟩
  have HR := Lib.hid hR
  have hcap := hK.cap
  clear ih hR hA
  unfold exV strV
  go_enter Tryz.func17, Tryz.ntmps17
  go_wp2
  have hb0 : Below w.heap.size w ((w.alloc (.cells #[.int .i64 op, .int .i64 n, .string ⟨s.toArray⟩, .slice a ks.length cap] 24)).alloc (kd [])) := ((Below.refl _ _).alloc (Nat.le_refl _) _).alloc (by simp) _
  have he0 : ((w.alloc (.cells #[.int .i64 op, .int .i64 n, .string ⟨s.toArray⟩, .slice a ks.length cap] 24)).alloc (kd [])).heap[w.heap.size]? = some (.cells #[.int .i64 op, .int .i64 n, .string ⟨s.toArray⟩, .slice a ks.length cap] 24 (0, 0)) := by
    rw [Lib.alloc_old _ _ _ (by simp)]; exact heap_alloc_new w _
  have hk0 : ((w.alloc (.cells #[.int .i64 op, .int .i64 n, .string ⟨s.toArray⟩, .slice a ks.length cap] 24)).alloc (kd [])).heap[w.heap.size + 1]? = some (kd []) := by
    have := heap_alloc_new (w.alloc (.cells #[.int .i64 op, .int .i64 n, .string ⟨s.toArray⟩, .slice a ks.length cap] 24)) (kd [])
    simpa using this
  go_loopg [20] ks.length (fun g i wr => ∃ (k : Nat) (ts : List Int), i = .int .i64 k ∧ ts.length = k ∧ k + g = ks.length ∧ Below w.heap.size w wr ∧
    wr.heap[w.heap.size]? = some (.cells #[.int .i64 op, .int .i64 n, .string ⟨s.toArray⟩, .slice a ks.length cap] 24 (0, 0)) ∧ wr.heap[w.heap.size + 1]? = some (kd ts) ∧ Hid (cont ts (typL names types (ks.drop k)) = R))
  case atStart => exact ⟨0, [], rfl, rfl, by omega, hb0, he0, hk0, Lib.hid (by rw [← HR.out, List.drop_zero]; cases typL names types ks <;> rfl)⟩
  case round =>
    obtain ⟨k, ts, rfl, hts, hg, hbw, he, hkd, HC⟩ := hrel
    clear hb0 he0 hk0
    by_cases hlt : k < ks.length
    · have hKr := hK.keep hbw
      obtain ⟨b, off, u, rfl, c0, c1, c2, c3, hKu⟩ := hKr.at (List.getElem?_eq_getElem hlt)
      obtain ⟨ua, uc, rfl⟩ := hKu.form
      have hmem : ks[k] ∈ ks := List.getElem_mem hlt
      have hdr : ks.drop k = ks[k] :: ks.drop (k + 1) := List.drop_eq_getElem_cons hlt
      have hbA := (Below.refl wr.heap.size wr).alloc (Nat.le_refl _) (.cells #[.int .i64 ks[k].op, .int .i64 ks[k].n, .string ⟨ks[k].s.toArray⟩, .slice ua ks[k].ks.length uc] 24)
      have hbB := hbw.seq hbA
      have hx := HI.out ks[k] hmem (.slice ua ks[k].ks.length uc) _ (HAk.out _ hmem) (hN.mono (below_gh hbB)) (hT.mono (below_gh hbB)) (hKu.keep hbA)
      have HCC := HC.out
      rw [hdr] at HCC
      have HD := Lib.hid HCC
      have hB1 : w.heap.size + 1 < wr.heap.size := (Array.getElem?_eq_some_iff.1 hkd).1
      have he1 := (hbA.block _ (by omega)).trans he
      have hk1 := (hbA.block _ hB1).trans hkd
      have hz1 : wr.heap.size < (wr.alloc (.cells #[.int .i64 ks[k].op, .int .i64 ks[k].n, .string ⟨ks[k].s.toArray⟩, .slice ua ks[k].ks.length uc] 24)).heap.size := by simp
      unfold exV strV at hx
      unfold strV at c2
      have HX := Lib.hid hx
      have HE1 := Lib.hid he1
      have HK1 := Lib.hid hk1
      clear hx HCC hdr hKu hKr HC hbA he hkd hmem he1 hk1 HI HAk
      go_wp2_with fail
      refine HX.out.mono ?_
      generalize wr.alloc (.cells #[.int .i64 ks[k].op, .int .i64 ks[k].n, .string ⟨ks[k].s.toArray⟩, .slice ua ks[k].ks.length uc] 24) = W1 at *
      rintro e W2 ⟨rfl, hb2⟩
      have hb3 := hbB.seq hb2
      have he2 := (hb2.block _ (by omega)).trans HE1.out
      have hk2 := (hb2.block _ (by omega)).trans HK1.out
      clear hb2 hbB HX HE1 HK1 c0 c1 c2 c3
      cases ht : typ names types ks[k] with
      | error f =>
        have HE : Hid (R = .error f) := Lib.hid (by rw [← HD.out, typL_err ht]; rfl)
        have hf := typ_err_ne _ _ _ _ ht
        have q : (f != 0) = true := bne_iff_ne.2 (by omega)
        have HV : Hid (valE (.error f) = 0 ∧ errE (.error f) = f) := Lib.hid ⟨rfl, rfl⟩
        clear ht hf
        rw [HV.out.1, HV.out.2]
        go_wp2
        go_ret2
        refine ⟨?_, hb3⟩
        rw [typ_err (HR.out.trans HE.out)]
        rfl
      | ok t =>
        have HE : Hid (cont (ts ++ [t]) (typL names types (ks.drop (k + 1))) = R) := Lib.hid (by rw [← HD.out, typL_ok ht])
        have HV : Hid (valE (.ok t) = t ∧ errE (.ok t) = 0) := Lib.hid ⟨rfl, rfl⟩
        obtain ⟨⟨x, cx⟩, fx⟩ := kd_at hk2 k (by omega)
        have k3 : (k : Int) < 3 := by omega
        have HK2 := Lib.hid hk2
        have HTS := Lib.hid hts
        have HE2 := Lib.hid he2
        clear ht hk2 hts he2
        rw [HV.out.1, HV.out.2]
        go_wp2
        go_roundg (gk - 1)
        case rel => exact ⟨k + 1, ts ++ [t], by go_num, by rw [List.length_append, HTS.out]; rfl, by omega, hb3.setCell (p := ⟨w.heap.size + 1, k, none⟩) (by simp) _, by rw [set_other (by simp)]; exact HE2.out, kd_set HK2.out k HTS.out (by omega) t, HE⟩
        case measure => omega
    · have hnil : ks.drop k = [] := List.drop_eq_nil_of_le (by omega)
      have HC2 : Hid (typL names types ks = .ok ts) := Lib.hid (by rw [HR.out, ← HC.out, hnil, typL_nil]; simp [cont])
      clear hnil HC HI HAk hK
      obtain ⟨d0, -, d2, -⟩ := (four_all he).1
      obtain ⟨x0, x1, x2, -⟩ := kd_cells hkd
      have HE := Lib.hid he
      have HKD := Lib.hid hkd
      clear he hkd
      by_cases h4 : op = 4
      · subst h4
        have hf := find_any s names types nv tv wr (hN.mono (below_gh hbw)) (hT.mono (below_gh hbw))
        unfold strV at hf
        have HF := Lib.hid hf
        have HT : Hid (typ names types (.mk 4 n s ks) = if findT names types s = 0 then .error 9 else .ok (findT names types s)) := Lib.hid (typ_name HC2.out)
        clear hf
        go_wp2_with fail
        refine HF.out.mono ?_
        rintro e W ⟨rfl, rfl⟩
        by_cases h0 : findT names types s = 0
        · have HV : Hid (decide (findT names types s ≠ 0) = false) := Lib.hid (decide_eq_false (by simpa using h0))
          have HT2 : Hid (typ names types (.mk 4 n s ks) = .error 9) := Lib.hid (by rw [HT.out, if_pos h0])
          clear h0
          rw [HV.out]
          go_wp2
          go_ret2
          refine ⟨?_, hbw⟩
          rw [HT2.out]; rfl
        · have HV : Hid (decide (findT names types s ≠ 0) = true) := Lib.hid (decide_eq_true h0)
          have HT2 : Hid (typ names types (.mk 4 n s ks) = .ok (findT names types s)) := Lib.hid (by rw [HT.out, if_neg h0])
          clear h0
          rw [HV.out]
          go_wp2
          go_ret2
          refine ⟨?_, hbw⟩
          rw [HT2.out]; rfl
      · have q4 : (op == 4) = false := beq_eq_false_iff_ne.2 h4
        have hm := made_any op (ts.getD 0 0) (ts.getD 1 0) (ts.getD 2 0) wr ⟨HO.out.1, HO.out.2, h4⟩
        have HT := Lib.hid (typ_op (n := n) (s := s) HC2.out h4)
        obtain ⟨m, hmm⟩ : ∃ m, made op (ts.getD 0 0) (ts.getD 1 0) (ts.getD 2 0) = m := ⟨_, rfl⟩
        rw [hmm] at hm HT
        have HM := Lib.hid hm
        clear hm hmm h4
        generalize ts.getD 0 0 = y0 at *
        generalize ts.getD 1 0 = y1 at *
        generalize ts.getD 2 0 = y2 at *
        go_wp2_with fail
        refine HM.out.mono ?_
        rintro e W ⟨rfl, hb4⟩
        have hb5 := hbw.seq hb4
        by_cases h0 : m = 0
        · subst h0
          have HT2 : Hid (typ names types (.mk op n s ks) = .error 8) := Lib.hid (by rw [HT.out, if_pos rfl])
          go_wp2
          go_ret2
          refine ⟨?_, hb5⟩
          rw [HT2.out]; rfl
        · have HT2 : Hid (typ names types (.mk op n s ks) = .ok m) := Lib.hid (by rw [HT.out, if_neg h0])
          have q0 : (m == 0) = false := beq_eq_false_iff_ne.2 h0
          clear h0
          go_wp2
          go_ret2
          refine ⟨?_, hb5⟩
          rw [HT2.out]; rfl
end Go.Proofs.YtilmmgkclijhjaaGreatDoor
