/- The walk of the program's own order. -/
import Derived.Test.YtoaomedlgmnopaaW5
import Derived.Test.YtoaomedlgmnopaaM2
namespace Go.Proofs.Ytoaomedlgmnopaa
open Go.RowKit Pal Pal.Graph

def sl (g N : Nat) : Value := .slice (some ⟨g, 0, none⟩) N N
def tabI (N : Nat) (f : Nat → Int) : List Value := (List.range N).map fun i => Value.int .i64 (f i)
theorem tabI_get {N : Nat} {f : Nat → Int} {i : Nat} (h : i < N) : (tabI N f)[i]? = some (.int .i64 (f i)) := by simp [tabI, h]
theorem tabI_congr {N : Nat} {f g : Nat → Int} (h : ∀ i, i < N → f i = g i) : tabI N f = tabI N g := List.map_congr_left fun i hi => by rw [h i (List.mem_range.1 hi)]
theorem tabI_set (N : Nat) (f : Nat → Int) (i : Nat) (v : Int) : (tabI N f).set i (.int .i64 v) = tabI N (fun x => if x = i then v else f x) := by
  apply List.ext_getElem?
  intro j
  simp only [tabI, List.getElem?_set, List.getElem?_map, List.length_map, List.length_range]
  by_cases e : i = j
  · subst e
    by_cases h : i < N
    · simp [h]
    · simp [h]
  · have : ¬ j = i := fun h => e h.symm
    by_cases h : j < N
    · simp [e, h, this]
    · simp [e, h]
theorem tabI_zero (N : Nat) : List.replicate N (Value.int .i64 0) = tabI N (fun _ => 0) := by
  apply List.ext_getElem?
  intro j
  simp only [tabI, List.getElem?_replicate, List.getElem?_map]
  by_cases h : j < N <;> simp [h]

/-- A slice of slices, all of the call's own. -/
structure BackSt (t : Tag) (w : World) (g : Nat) (bs : List Value) (B : List (List Int)) (N : Nat) : Prop where
  row : Row t 4 w 26 1 (sl g N) N bs
  len : B.length = N
  inner : ∀ (k : Nat) (u : Value) (l : List Int), bs[k]? = some u → B[k]? = some l → Row t (10 + k) w 3 1 u l.length (l.map (Value.int .i64))
theorem BackSt.keep {t t' : Tag} {w w' : World} {g : Nat} {bs : List Value} {B : List (List Int)} {N : Nat} {K : Nat → Prop} (h : BackSt t w g bs B N) (ev : Evo t w t' w' K) (hk4 : ¬ K 4) (hk : ∀ k, ¬ K (10 + k)) : BackSt t' w' g bs B N :=
  ⟨h.row.keep ev hk4, h.len, fun k u l h1 h2 => (h.inner k u l h1 h2).keep ev (hk k)⟩
theorem BackSt.blen {t : Tag} {w : World} {g : Nat} {bs : List Value} {B : List (List Int)} {N : Nat} (h : BackSt t w g bs B N) : bs.length = N := by have := h.row.len; omega
theorem BackSt.push {t t' : Tag} {w w' : World} {g : Nat} {bs : List Value} {B : List (List Int)} {N : Nat} (h : BackSt t w g bs B N) {k : Nat} {u v : Value} {l l' : List Int} (hu : bs[k]? = some u) (hl : B[k]? = some l)
    (hr : Row t' (10 + k) w' 3 1 v l'.length (l'.map (Value.int .i64))) (ev : Evo t w t' w' (· = 10 + k)) : BackSt t' (w'.setCell ⟨g, k, none⟩ v) g (bs.set k v) (B.set k l') N := by
  have hkb : k < bs.length := (List.getElem?_eq_some_iff.1 hu).1
  have hkB : k < B.length := (List.getElem?_eq_some_iff.1 hl).1
  have h1 := h.row.keep ev (by omega)
  have htg : t' g = 4 := h1.tag g rfl
  have ev2 : Evo t' w' t' (w'.setCell ⟨g, k, none⟩ v) (· = 4) := (Evo.refl _ _ _).setCell _ _ htg
  refine ⟨h1.set k v, by simpa using h.len, fun j x y hx hy => ?_⟩
  by_cases e : j = k
  · subst e
    rw [List.getElem?_set_self hkb] at hx
    rw [List.getElem?_set_self hkB] at hy
    cases hx; cases hy
    exact hr.keep ev2 (by omega)
  · rw [List.getElem?_set_ne (by omega)] at hx hy
    exact ((h.inner j x y hx hy).keep ev (by omega)).keep ev2 (by omega)
theorem BackSt.start {t : Tag} {w : World} {g N : Nat} (h : Row t 4 w 26 1 (sl g N) N (List.replicate N (.slice none 0 0))) : BackSt t w g (List.replicate N (.slice none 0 0)) (List.replicate N []) N :=
  ⟨h, by simp, fun k u l h1 h2 => by
    rw [List.getElem?_replicate] at h1 h2
    split at h1
    · rename_i hk
      rw [if_pos hk] at h2
      cases h1; cases h2
      exact Row.nil _ _ _ _ _
    · cases h1⟩

structure Ph1 (w : World) (N : Nat) (xss : List (List Int)) (t : Tag) (wr : World) (bs : List Value) (B : List (List Int)) (I j : Nat) : Prop where
  wants : Row t 3 wr 3 1 (sl w.heap.size N) N (tabI N (cntW N xss I j))
  back : BackSt t wr (w.heap.size + 1) bs B N
  ok : BackOk N xss B I j
  told : Row t 1 wr 4 1 (sl (w.heap.size + 2) N) N ((List.replicate N false).map Value.bool)
  ev : Evo T0 w t wr (· ≠ 0)

theorem ph1_start (w : World) (N : Nat) (xss : List (List Int)) (hN : N ≤ 4096) :
    ∃ t, Ph1 w N xss t (((w.alloc (.cells (madeCells #[.int .i64 0] N) 3)).alloc (.cells (madeCells #[.slice none 0 0] N) 26)).alloc (.cells (madeCells #[.bool false] N) 4)) (List.replicate N (.slice none 0 0)) (List.replicate N []) 0 0 := by
  have e1 : Evo T0 w (T0.set w.heap.size 3) (w.alloc (.cells (madeCells #[.int .i64 0] N) 3)) (· ≠ 0) := (Evo.refl _ _ _).alloc 3 _
  have r1 := Row.made T0 3 w 3 (.int .i64 0) N (by unfold maxLen; omega)
  have s1 : (w.alloc (.cells (madeCells #[.int .i64 0] N) 3)).heap.size = w.heap.size + 1 := by simp
  generalize w.alloc (.cells (madeCells #[.int .i64 0] N) 3) = w1 at *
  generalize T0.set w.heap.size 3 = t1 at *
  have e2 : Evo t1 w1 (t1.set w1.heap.size 4) (w1.alloc (.cells (madeCells #[.slice none 0 0] N) 26)) (fun _ => False) := (Evo.refl _ _ _).alloc 4 _
  have r2 := Row.made t1 4 w1 26 (.slice none 0 0) N (by unfold maxLen; omega)
  have s2 : (w1.alloc (.cells (madeCells #[.slice none 0 0] N) 26)).heap.size = w1.heap.size + 1 := by simp
  generalize w1.alloc (.cells (madeCells #[.slice none 0 0] N) 26) = w2 at *
  generalize t1.set w1.heap.size 4 = t2 at *
  have e3 : Evo t2 w2 (t2.set w2.heap.size 1) (w2.alloc (.cells (madeCells #[.bool false] N) 4)) (fun _ => False) := (Evo.refl _ _ _).alloc 1 _
  have r3 := Row.made t2 1 w2 4 (.bool false) N (by unfold maxLen; omega)
  refine ⟨t2.set w2.heap.size 1, ?_, ?_, backOk_start N xss, ?_, (e1.trans (e2.mono fun _ h => h.elim)).trans (e3.mono fun _ h => h.elim)⟩
  · have := (r1.keep e2 id).keep e3 id
    rw [tabI_zero] at this
    rw [tabI_congr (g := fun _ => 0) (fun i _ => by simp [cntW])]
    exact this
  · have := r2.keep e3 id
    rw [s1] at this
    exact BackSt.start this
  · rw [s2, s1] at r3
    simp only [List.map_replicate]
    rw [s2, s1]
    exact r3

structure Ph2 (w : World) (N : Nat) (xss : List (List Int)) (t : Tag) (wr : World) (bs : List Value) (B : List (List Int)) (u : Value) (j : Nat) : Prop where
  wants : Row t 3 wr 3 1 (sl w.heap.size N) N (tabI N (need N xss (st N xss j).2))
  back : BackSt t wr (w.heap.size + 1) bs B N
  ok : BackOk N xss B N 0
  told : Row t 1 wr 4 1 (sl (w.heap.size + 2) N) N ((st N xss j).2.map Value.bool)
  out : Row t 2 wr 3 1 u j ((st N xss j).1.map (Value.int .i64))
  len : (st N xss j).1.length = j
  ev : Evo T0 w t wr (· ≠ 0)

theorem ph2_start {w : World} {N : Nat} {xss : List (List Int)} {t : Tag} {wr : World} {bs : List Value} {B : List (List Int)} (h : Ph1 w N xss t wr bs B N 0) : Ph2 w N xss t wr bs B (.slice none 0 0) 0 := by
  refine ⟨?_, h.back, h.ok, ?_, Row.nil _ _ _ _ _, rfl, h.ev⟩
  · rw [tabI_congr (g := cntW N xss N 0) (fun i hi => ?_)]
    · exact h.wants
    · simp only [st, Int.toNat_natCast, need_start, cntW, if_pos hi]
  · simpa [st] using h.told

theorem ph1_ints {w : World} {N : Nat} {xss : List (List Int)} {t t1 : Tag} {wr w1 : World} {bs : List Value} {B : List (List Int)} {I j : Nat} (h : Ph1 w N xss t wr bs B I j) (ev : Evo t wr t1 w1 (fun _ => False)) : Ph1 w N xss t1 w1 bs B I j :=
  ⟨h.wants.keep ev id, h.back.keep ev id (fun _ => id), h.ok, h.told.keep ev id, h.ev.trans (ev.mono fun _ h => h.elim)⟩

/-- 'wants[i]++'. -/
theorem ph1_wants {w : World} {N : Nat} {xss : List (List Int)} {t : Tag} {wr : World} {bs : List Value} {B : List (List Int)} {I j : Nat} (h : Ph1 w N xss t wr bs B I j) :
    Row t 3 (wr.setCell ⟨w.heap.size, I, none⟩ (.int .i64 (cntW N xss I j I + 1))) 3 1 (sl w.heap.size N) N (tabI N (cntW N xss I (j + 1))) ∧ Evo t wr t (wr.setCell ⟨w.heap.size, I, none⟩ (.int .i64 (cntW N xss I j I + 1))) (· = 3) := by
  have h1 := h.wants.set I (.int .i64 (cntW N xss I j I + 1))
  rw [tabI_set] at h1
  rw [tabI_congr (g := cntW N xss I (j + 1)) (fun i _ => cntW_succ _ _ _ _ _)] at h1
  exact ⟨h1, (Evo.refl _ _ _).setCell _ _ (h.wants.tag _ rfl)⟩

theorem st_step {N : Nat} {xss : List (List Int)} {j k : Nat} (h : pick N xss (st N xss j).2 = some k) : st N xss (j + 1) = ((st N xss j).1 ++ [(k : Int)], (st N xss j).2.set k true) := step_some h

/-- How many are still waited for by i when k is told and the first m behind it are counted off. -/
def P5f (N : Nat) (xss : List (List Int)) (B : List (List Int)) (j k m : Nat) (i : Nat) : Int := need N xss (st N xss j).2 i - (((B[k]?).getD []).take m).count (i : Int)
structure Ph5 (w : World) (N : Nat) (xss : List (List Int)) (t : Tag) (wr : World) (bs : List Value) (B : List (List Int)) (u : Value) (j k m : Nat) : Prop where
  wants : Row t 3 wr 3 1 (sl w.heap.size N) N (tabI N (P5f N xss B j k m))
  back : BackSt t wr (w.heap.size + 1) bs B N
  ok : BackOk N xss B N 0
  told : Row t 1 wr 4 1 (sl (w.heap.size + 2) N) N ((st N xss (j + 1)).2.map Value.bool)
  out : Row t 2 wr 3 1 u (j + 1) ((st N xss (j + 1)).1.map (Value.int .i64))
  ev : Evo T0 w t wr (· ≠ 0)
theorem ph5_need {N : Nat} {xss : List (List Int)} {B : List (List Int)} {j k : Nat} {l : List Int} (hok : BackOk N xss B N 0) (hl : B[k]? = some l) (hp : pick N xss (st N xss j).2 = some k) {i : Nat} (hi : i < N) :
    P5f N xss B j k l.length i = need N xss (st N xss (j + 1)).2 i := by
  obtain ⟨h1, h2, _⟩ := pick_some hp
  simp only [may, Bool.and_eq_true, Bool.not_eq_true'] at h2
  rw [st_step hp]
  simp only
  rw [← need_step (by rw [st_len]; exact h1) h2.1]
  unfold P5f
  rw [hl]
  simp only [Option.getD_some, List.take_length]
  rw [hok.count k l hl i]
  simp [cntB, hi]
theorem ph5_step {w : World} {N : Nat} {xss : List (List Int)} {t : Tag} {wr : World} {bs : List Value} {B : List (List Int)} {u : Value} {j k m : Nat} (h : Ph5 w N xss t wr bs B u j k m) {l : List Int} {x : Int} (hl : B[k]? = some l) (hx : l[m]? = some x) (h0 : 0 ≤ x) :
    Ph5 w N xss t (wr.setCell ⟨w.heap.size, x.toNat, none⟩ (.int .i64 (P5f N xss B j k m x.toNat - 1))) bs B u j k (m + 1) := by
  have E : Evo t wr t (wr.setCell ⟨w.heap.size, x.toNat, none⟩ (.int .i64 (P5f N xss B j k m x.toNat - 1))) (· = 3) := (Evo.refl _ _ _).setCell _ _ (h.wants.tag _ rfl)
  refine ⟨?_, h.back.keep E (by omega) (fun k => by omega), h.ok, h.told.keep E (by omega), h.out.keep E (by omega), h.ev.trans (E.mono (K' := (· ≠ 0)) (fun x hx => by omega))⟩
  have h1 := h.wants.set x.toNat (.int .i64 (P5f N xss B j k m x.toNat - 1))
  rw [tabI_set] at h1
  rw [tabI_congr (g := P5f N xss B j k (m + 1)) (fun i _ => ?_)] at h1
  · exact h1
  · unfold P5f
    rw [hl]
    simp only [Option.getD_some]
    have ht : l.take (m + 1) = l.take m ++ [x] := by rw [List.take_add_one, hx]; rfl
    rw [ht, List.count_append]
    have hxx : x = ((x.toNat : Nat) : Int) := by omega
    by_cases e : i = x.toNat
    · rw [if_pos e, e, ← hxx]; simp; omega
    · rw [if_neg e]
      have : ¬ x = (i : Int) := by omega
      simp [this]

set_option maxHeartbeats 2000000 in
set_option maxRecDepth 100000 in
theorem order_any (h : GH) (N : Nat) (v : Value) (xss : List (List Int)) (w : World) (hN : N ≤ 100) (hS : ∀ (i : Nat) (xs : List Int), xss[i]? = some xs → xs.length ≤ 80) (hw : h.le (gh w)) (hx : RowsV h v xss) :
    Calls Try.prog 21 #[.int .i64 (N : Int), v] w (ToldPost N xss w) := by
  obtain ⟨i0, hi, hz0, hz1, hz2⟩ := info_parts3
  obtain ⟨i4, hi4, hy0, hy1, hy2⟩ := info_parts4
  obtain ⟨i26, hi26, hx0, hx1, hx2⟩ := info_parts26
  have hmk := run_made (P := Try.prog) Try.underlying32 hi4 hy0 hy1 hy2 rfl N (by omega) (by omega)
  have hmk3 := run_made (P := Try.prog) Try.underlying26 hi hz0 hz1 hz2 rfl N (by omega) (by omega)
  have hmk26 := run_made (P := Try.prog) Try.underlying22 hi26 hx0 hx1 hx2 rfl N (by omega) (by omega)
  obtain ⟨t, P0⟩ := ph1_start w N xss (by omega)
  have HS := Lib.hid hS; clear hS
  go_enter Try.func21, Try.ntmps21
  go_wp2
  go_step3
  go_wp2
  clear hmk hmk3 hmk26
  go_loopg [23] N (fun g i wr => ∃ I t bs B, I + g = N ∧ i = .int .i64 (I : Nat) ∧ Ph1 w N xss t wr bs B I 0)
  case atStart => exact ⟨0, t, _, _, by omega, rfl, P0⟩
  case round =>
    obtain ⟨I, t, bs, B, hIg, rfl, P⟩ := hrel
    obtain ⟨wo, rfl⟩ : ∃ wo : World, wo = wr := ⟨_, rfl⟩
    cases gk with
    | zero =>
      have hIN : I = N := by omega
      subst hIN
      have P2 := ph2_start P
      clear P P0
      go_wp2
      go_step3
      go_wp2
      go_loopg [12, 54] I (fun g u i wr => ∃ j t bs B, j + g = I ∧ i = .int .i64 (j : Nat) ∧ Ph2 w I xss t wr bs B u j)
      case atStart => exact ⟨0, t, bs, B, by omega, rfl, P2⟩
      case round =>
        clear P2
        obtain ⟨j, t, bs, B, hjg, rfl, P⟩ := hrel
        obtain ⟨la, lc, rfl⟩ := P.out.form
        obtain ⟨w2, rfl⟩ : ∃ w2 : World, w2 = wr := ⟨_, rfl⟩
        cases gk with
        | zero =>
          have hjN : j = I := by omega
          subst hjN
          go_wp2
          rw [Exit.noGoto_ret]
          go_ret2
          have hlen := P.len
          exact ⟨_, _, t, rfl, by rw [hlen]; exact P.out, P.told, P.ev⟩
        | succ g1 =>
          have hjlt : j < I := by omega
          have HM := Lib.hid (st_len (n := I) (xss := xss) j)
          go_wp2
          go_loopg [12, 57] I (fun g u i wr => ∃ k, k + g = I ∧ i = .int .i64 (k : Nat) ∧ u = .slice la j lc ∧ wr = w2 ∧ Hid (∀ i, i < k → may I xss (st I xss j).2 i = false))
          case atStart => exact ⟨0, by omega, rfl, rfl, rfl, fun i hi => by omega⟩
          case round =>
            obtain ⟨k, hkg, rfl, rfl, rfl, HT⟩ := hrel
            cases gk with
            | zero =>
              have hkI : k = I := by omega
              subst hkI
              have HP := Lib.hid (pick_none_iff.2 (fun i hi => HT.out i (by simpa using hi)))
              have hst := st_final P.len HP.out
              simp only [Int.toNat_natCast] at hst
              have HS2 := Lib.hid hst; clear hst
              go_wp2
              rw [Exit.noGoto_ret]
              go_ret2
              refine ⟨_, _, t, rfl, ?_, ?_, P.ev⟩
              · rw [HS2.out, P.len]; exact P.out
              · rw [HS2.out]; exact P.told
            | succ g2 =>
              have hkI : k < I := by omega
              obtain ⟨d, hdk⟩ : ∃ d, (st I xss j).2[k]? = some d := ⟨_, List.getElem?_eq_getElem (by have := HM.out; simp at this; omega)⟩
              obtain ⟨g, cap, hg, _, _, hcell, _⟩ := P.told.get (j := k) (x := .bool d) (by simp [hdk])
              simp only [sl, Value.slice.injEq, Option.some.injEq, Addr.mk.injEq, and_true, true_and] at hg
              obtain ⟨rfl, rfl⟩ := hg
              obtain ⟨g, cap, hg, _, _, hcell3, _⟩ := P.wants.get (tabI_get hkI)
              simp only [sl, Value.slice.injEq, Option.some.injEq, Addr.mk.injEq, and_true, true_and] at hg
              obtain ⟨rfl, rfl⟩ := hg
              obtain ⟨nd, hnd⟩ : ∃ nd, nd = need I xss (st I xss j).2 k := ⟨_, rfl⟩
              rw [← hnd] at hcell3
              have hgd : (st I xss j).2.getD k false = d := by simp [hdk]
              have hmay : may I xss (st I xss j).2 k = (!d && decide (nd ≤ 0)) := by
                unfold may
                rw [hgd, hnd]
                congr 1
                by_cases hf : freeB I xss (st I xss j).2 k = true
                · rw [hf]; simp [need_zero.2 hf]
                · simp only [Bool.not_eq_true] at hf
                  rw [hf]
                  symm
                  rw [decide_eq_false_iff_not]
                  intro hh
                  rw [need_zero.1 hh] at hf
                  cases hf
              have HD := Lib.hid hdk; clear hdk hgd
              have HND := Lib.hid hnd; clear hnd
              have HMAY := Lib.hid hmay; clear hmay
              cases d
              · by_cases hpos : 0 < nd
                · have HF : Hid (may I xss (st I xss j).2 k = false) := by
                    have := HMAY.out
                    simp only [Bool.not_false, Bool.true_and] at this
                    rw [decide_eq_false (by omega)] at this
                    exact this
                  go_wp2
                  go_roundg g2
                  case measure => omega
                  case rel =>
                    refine ⟨k + 1, by omega, by go_num, rfl, rfl, fun i hi => ?_⟩
                    by_cases hik : i = k
                    · rw [hik]; exact HF.out
                    · exact HT.out i (by omega)
                · have HF : Hid (may I xss (st I xss j).2 k = true) := by
                    have := HMAY.out
                    simp only [Bool.not_false, Bool.true_and] at this
                    rw [decide_eq_true (by omega)] at this
                    exact this
                  have HP := Lib.hid (pick_some_of (n := I) (by simpa using hkI) HF.out HT.out)
                  -- told[i] = true
                  have T1 := P.told.set k (.bool true)
                  rw [map_set_bool] at T1
                  have E1 : Evo t wr t (wr.setCell ⟨w.heap.size + 2, k, none⟩ (.bool true)) (· = 1) := (Evo.refl _ _ _).setCell _ _ (P.told.tag _ rfl)
                  have O1 := P.out.keep E1 (by omega)
                  have W1 := P.wants.keep E1 (by omega)
                  have B1 := P.back.keep E1 (by omega) (fun k => by omega)
                  have V1 := P.ev.trans (E1.mono (K' := (· ≠ 0)) (fun x hx => by omega))
                  clear E1
                  have hJ := P.len
                  have HJ := Lib.hid hJ; clear hJ
                  have hok := P.ok
                  clear P
                  go_wp2_with (at_builtin; refine wpList_append_one rfl _ _ 26 rfl 3 i0 (.int .i64 0) 1 8 Try.underlying26 hi hz0 hz1 hz2 rfl (by decide) rfl O1 #[.int .i64 k] 3 (0,0) _ rfl (by simp) rfl ?c1 ?c2 ?c3 ?_)
                  case c1 => rfl
                  case c2 => unfold maxLen; omega
                  case c3 => omega
                  intro v' t' w' hr3 he
                  have hd1 := (st_step HP.out)
                  have P5 : Ph5 w I xss t' w' bs B v' j k 0 := by
                    refine ⟨?_, B1.keep he (by omega) (fun k => by omega), hok, ?_, ?_, V1.trans (he.mono (K' := (· ≠ 0)) (fun x hx => by omega))⟩
                    · rw [tabI_congr (g := need I xss (st I xss j).2) (fun i hi => by unfold P5f; simp)]
                      exact W1.keep he (by omega)
                    · rw [hd1]; exact T1.keep he (by omega)
                    · rw [hd1]; simpa using hr3
                  obtain ⟨l, hl⟩ : ∃ l, B[k]? = some l := ⟨_, List.getElem?_eq_getElem (by rw [B1.len]; exact hkI)⟩
                  obtain ⟨u, hu⟩ : ∃ u, bs[k]? = some u := ⟨_, List.getElem?_eq_getElem (by rw [B1.blen]; exact hkI)⟩
                  obtain ⟨va, vc, rfl⟩ := hr3.form
                  clear he hr3 W1 T1 O1 B1 V1 hcell hcell3
                  obtain ⟨g, cap, hg, _, _, hcb, _⟩ := P5.back.row.get hu
                  simp only [sl, Value.slice.injEq, Option.some.injEq, Addr.mk.injEq, and_true, true_and] at hg
                  obtain ⟨rfl, rfl⟩ := hg
                  obtain ⟨ua, uc, rfl⟩ := (P5.back.inner k u l hu hl).form
                  have hsh := hok.short k l hl
                  have HLL := Lib.hid hl; clear hl
                  have HU := Lib.hid hu; clear hu
                  have HD1 := Lib.hid hd1; clear hd1
                  go_wp2
                  go_loopg [83] l.length (fun g i wr => ∃ m t, m + g = l.length ∧ i = .int .i64 (m : Nat) ∧ Ph5 w I xss t wr bs B (.slice va (j + 1) vc) j k m)
                  case atStart => exact ⟨0, t', by omega, rfl, P5⟩
                  case round =>
                    clear P5 hcb
                    obtain ⟨m, t, hmg, rfl, P⟩ := hrel
                    obtain ⟨w4, rfl⟩ : ∃ w4 : World, w4 = wr := ⟨_, rfl⟩
                    cases gk with
                    | zero =>
                      have hml : m = l.length := by omega
                      subst hml
                      go_wp2
                      go_roundg g1
                      case measure => omega
                      case rel =>
                        refine ⟨j + 1, t, bs, B, by omega, by go_num, ?_, P.back, P.ok, P.told, P.out, ?_, P.ev⟩
                        · have := P.wants
                          rw [tabI_congr (fun i hi => ph5_need hok HLL.out HP.out hi)] at this
                          exact this
                        · rw [st_length_succ HP.out, HJ.out]
                    | succ g5 =>
                      have hml : m < l.length := by omega
                      obtain ⟨x, hxm⟩ : ∃ x, l[m]? = some x := ⟨_, List.getElem?_eq_getElem hml⟩
                      obtain ⟨hx0, hxN⟩ := hok.range k l HLL.out x (List.mem_of_getElem? hxm)
                      have RL := P.back.inner k _ l HU.out HLL.out
                      obtain ⟨gl, cl, hgl, _, _, hcl, _⟩ := RL.get (j := m) (x := .int .i64 x) (by simp [hxm])
                      simp only [Value.slice.injEq, true_and] at hgl
                      obtain ⟨rfl, rfl⟩ := hgl
                      have hxk : x.toNat < I := by omega
                      obtain ⟨g, cap, hg, _, _, hcw, hfw⟩ := P.wants.get (tabI_get hxk)
                      simp only [sl, Value.slice.injEq, Option.some.injEq, Addr.mk.injEq, and_true, true_and] at hg
                      obtain ⟨rfl, rfl⟩ := hg
                      have PN := ph5_step P HLL.out hxm hx0
                      obtain ⟨cw, hcwe⟩ : ∃ cw, cw = P5f I xss B j k m x.toNat := ⟨_, rfl⟩
                      rw [← hcwe] at PN
                      have hcw' : w4.cell? ⟨w.heap.size, x.toNat, none⟩ = some (.int .i64 cw) := by rw [hcwe]; exact hcw
                      have hcwb : -8100 ≤ cw ∧ cw ≤ 80 := by
                        have h1 := need_bounds (n := I) (xss := xss) (done := (st I xss j).2) (lst_short HS.out x.toNat)
                        have h2 : ((((B[k]?).getD []).take m).count (x.toNat : Int)) ≤ 8080 := Nat.le_trans List.count_le_length (Nat.le_trans (List.length_take_le _ _) (by omega))
                        rw [hcwe]; unfold P5f
                        omega
                      obtain ⟨hcw0, hcw1⟩ := hcwb
                      have HX := Lib.hid hxm; clear hxm
                      have HCW := Lib.hid hcwe; clear hcwe hcw RL P
                      go_wp2
                      go_roundg g5
                      case measure => omega
                      case rel => exact ⟨m + 1, t, by omega, by go_num, PN⟩
              · have HF : Hid (may I xss (st I xss j).2 k = false) := by
                  have := HMAY.out
                  simp only [Bool.not_true, Bool.false_and] at this
                  exact this
                go_wp2
                go_roundg g2
                case measure => omega
                case rel =>
                  refine ⟨k + 1, by omega, by go_num, rfl, rfl, fun i hi => ?_⟩
                  by_cases hik : i = k
                  · rw [hik]; exact HF.out
                  · exact HT.out i (by omega)
    | succ g1 =>
      have hlt : I < N := by omega
      have hle : h.le (gh wo) := by
        have := P.ev.hz (by simp)
        rw [hz_T0] at this
        exact hw.trans (this.trans (hz_gh _ _))
      go_wp2_with fail
      refine (list_any h N _ xss I _ hle hx).mono ?_
      rintro e w1 ⟨v', rfl, ho, hb⟩
      obtain ⟨t1, hr1, he1⟩ := Row.ofOwn t 5 (fun _ => False) hb ho
      have P1 := ph1_ints P he1
      clear P he1 ho hb
      obtain ⟨a, c, rfl⟩ := hr1.form
      have hls := lst_short (n := (N : Int)) HS.out I
      have hlm : ∀ x ∈ lst N xss I, 0 ≤ x ∧ x < (N : Int) := fun x hx => lst_mem hx
      obtain ⟨L, hL⟩ : ∃ L, L = lst (N : Int) xss I := ⟨_, rfl⟩
      rw [← hL] at hls hlm hr1
      rw [← hL]
      have HL := Lib.hid hL; clear hL
      have HLM := Lib.hid hlm; clear hlm
      go_wp2
      go_loopg [31] L.length (fun g i wr => ∃ j t bs B, j + g = L.length ∧ i = .int .i64 (j : Nat) ∧ Ph1 w N xss t wr bs B I j ∧ Row t 5 wr 3 1 (.slice a L.length c) L.length (L.map (Value.int .i64)))
      case atStart => exact ⟨0, t1, bs, B, by omega, rfl, P1, hr1⟩
      case round =>
        clear P1 hr1 P0
        obtain ⟨j, t, bs, B, hjg, rfl, P, hr⟩ := hrel
        obtain ⟨w2, rfl⟩ : ∃ w2 : World, w2 = wr := ⟨_, rfl⟩
        cases gk with
        | zero =>
          have hjl : j = L.length := by omega
          subst hjl
          go_wp2
          go_roundg g1
          case measure => omega
          case rel =>
            refine ⟨I + 1, t, bs, B, by omega, by go_num, ?_, P.back, ?_, P.told, P.ev⟩
            · have := P.wants
              rw [HL.out, tabI_congr (fun i _ => cntW_next N xss I i)] at this
              exact this
            · have := P.ok
              rw [HL.out] at this
              exact backOk_next this (by rw [← HL.out]; exact hls)
        | succ g2 =>
          have hjl : j < L.length := by omega
          obtain ⟨x, hxj⟩ : ∃ x, L[j]? = some x := ⟨_, List.getElem?_eq_getElem hjl⟩
          obtain ⟨hx0, hxN⟩ := HLM.out x (List.mem_of_getElem? hxj)
          obtain ⟨gl, cl, hgl, _, _, hcl, _⟩ := hr.get (j := j) (x := .int .i64 x) (by simp [hxj])
          simp only [Value.slice.injEq, true_and] at hgl
          obtain ⟨rfl, rfl⟩ := hgl
          obtain ⟨g, cap, hg, _, _, hcw, hfw⟩ := P.wants.get (tabI_get hlt)
          simp only [sl, Value.slice.injEq, Option.some.injEq, Addr.mk.injEq, and_true, true_and] at hg
          obtain ⟨rfl, rfl⟩ := hg
          obtain ⟨cw, hcwe⟩ : ∃ cw, cw = cntW N xss I j I := ⟨_, rfl⟩
          have hcwj : cw = j := by rw [hcwe]; simp [cntW]
          have hcwb : 0 ≤ cw ∧ cw ≤ 80 := by omega
          obtain ⟨hcw0, hcw1⟩ := hcwb
          rw [← hcwe] at hcw
          have S1 := ph1_wants P
          rw [← hcwe] at S1
          have HCW := Lib.hid hcwe; clear hcwe hcwj
          -- back
          have hxk : x.toNat < N := by omega
          obtain ⟨u, hu⟩ : ∃ u, bs[x.toNat]? = some u := ⟨_, List.getElem?_eq_getElem (by rw [P.back.blen]; exact hxk)⟩
          obtain ⟨l, hl⟩ : ∃ l, B[x.toNat]? = some l := ⟨_, List.getElem?_eq_getElem (by rw [P.back.len]; exact hxk)⟩
          have B1 := P.back.keep S1.2 (by omega) (fun k => by omega)
          obtain ⟨g, cap, hg, _, _, hcb, hfb⟩ := B1.row.get hu
          simp only [sl, Value.slice.injEq, Option.some.injEq, Addr.mk.injEq, and_true, true_and] at hg
          obtain ⟨rfl, rfl⟩ := hg
          have R1 := B1.inner _ u l hu hl
          obtain ⟨ua, uc, rfl⟩ := R1.form
          have hsh := P.ok.short _ l hl
          have HX := Lib.hid hxj; clear hxj
          have HU := Lib.hid hu; clear hu
          have HLL := Lib.hid hl; clear hl
          go_wp2_with (at_builtin; refine wpList_append_one rfl _ _ 26 rfl 3 i0 (.int .i64 0) 1 8 Try.underlying26 hi hz0 hz1 hz2 rfl (by decide) rfl R1 #[.int .i64 I] 3 (0,0) _ rfl (by simp) rfl ?c1 ?c2 ?c3 ?_)
          case c1 => rfl
          case c2 => unfold maxLen; omega
          case c3 => omega
          intro v' t' w' hr3 he
          have B2 := B1.push HU.out HLL.out (l' := l ++ [(I : Int)]) (by simpa using hr3) he
          have htg : t' (w.heap.size + 1) = 4 := by rw [he.tag _ (B1.row.own.lt _ rfl).2]; exact B1.row.tag _ rfl
          have E2 : Evo t' w' t' (w'.setCell ⟨w.heap.size + 1, x.toNat, none⟩ v') (· = 4) := (Evo.refl _ _ _).setCell _ _ htg
          have hcb2 := he.cell (by rw [B1.row.tag _ rfl]; omega) hcb
          have hfb2 : w'.frozen? ⟨w.heap.size + 1, x.toNat, none⟩ = false := by
            obtain ⟨g, cap, hg, _, _, _, hf⟩ := (B1.row.keep he (by omega)).get HU.out
            simp only [sl, Value.slice.injEq, Option.some.injEq, Addr.mk.injEq, and_true, true_and] at hg
            rw [← hg.1] at hf; exact hf
          have PN : Ph1 w N xss t' (w'.setCell ⟨w.heap.size + 1, x.toNat, none⟩ v') (bs.set x.toNat v') (B.set x.toNat (l ++ [(I : Int)])) I (j + 1) := by
            refine ⟨(S1.1.keep he (by omega)).keep E2 (by omega), B2, backOk_push P.ok hlt (by rw [← HL.out]; exact HX.out) HLL.out, ?_, ?_⟩
            · exact ((P.told.keep S1.2 (by omega)).keep he (by omega)).keep E2 (by omega)
            · exact ((P.ev.trans (S1.2.mono (K' := (· ≠ 0)) (fun x hx => by omega))).trans (he.mono (K' := (· ≠ 0)) (fun x hx => by omega))).trans (E2.mono (K' := (· ≠ 0)) (fun x hx => by omega))
          have RN := ((hr.keep S1.2 (by omega)).keep he (by omega)).keep E2 (by omega)
          obtain ⟨va, vc, rfl⟩ := hr3.form
          clear P hr S1 B1 R1 hr3 he B2 E2 hcb hcw hcl
          go_wp2
          go_roundg g2
          case measure => omega
          case rel => exact ⟨j + 1, t', _, _, by omega, by go_num, PN, RN⟩
end Go.Proofs.Ytoaomedlgmnopaa
