/- The walk of palaverlaw11.SchemaRings. Condition: the arguments are int64's. -/
import Derived.Test.YtpfhhikbaeknpaaGreatDoorSM
import Derived.Test.YtpfhhikbaeknpaaGreatDoorSQ
import Derived.Test.YtpfhhikbaeknpaaGreatDoorR1
import Derived.Laws.BytesArg
import Derived.Deep.CutRange
set_option linter.unusedSimpArgs false
set_option linter.unusedVariables false
set_option linter.unusedSectionVars false
namespace Go.Proofs.YtpfhhikbaeknpaaGreatDoor
open Go.RowKit Pal
attribute [local go_sem ↓] Go.wp_at_zero Go.wp_at_succ
theorem rconv_row (xs : List Int) (w : World) (n : Nat) (hn : xs.length = n) (C : Array Value) (hC : C = (xs.map (Value.int .u8)).toArray) :
    (convert 23 9 (.slice (some ⟨w.heap.size, 0, none⟩) n n)).run Tryz.prog (w.alloc (.cells C 5)) = .ok (.string ⟨(xs.map fun x => x.toNat.toUInt8).toArray⟩) (w.alloc (.cells C 5)) := by
  subst hC
  refine (run_convert_bytes_arg (P := Tryz.prog) (w.alloc (.cells (xs.map (Value.int .u8)).toArray 5)) 23 5 Tryz.underlying23 Tryz.underlying5 w.heap.size 0 n n xs hn (fun i hi => ?_) 9 Tryz.underlying9).trans rfl
  have hb := heap_alloc_new w (.cells (xs.map (Value.int .u8)).toArray 5)
  simp only [World.cell?, hb, Nat.zero_add, List.getElem?_toArray, List.getElem?_map]
  rw [List.getElem?_eq_getElem (by omega)]
  simp [List.getD, List.getElem?_eq_getElem (show i < xs.length by omega)]
def rnPost (i : Nat) (w : World) (e : Ending) (w' : World) : Prop := e = .returned (.string ⟨(nmB i).toArray⟩) ∧ Below w.heap.size w w'
theorem nmB_eq (i : Nat) : (⟨#[102]⟩ : ByteArray) ++ ⟨#[97 + UInt8.ofNat i]⟩ = ⟨(nmB i).toArray⟩ := by
  have e : 97 + UInt8.ofNat i = UInt8.ofNat (97 + i) := by rw [UInt8.ofNat_add]; rfl
  rw [e]
  rfl
set_option maxRecDepth 1000000 in
set_option maxHeartbeats 2000000 in
theorem rname_any (i : Nat) (w : World) (h : i < 20) : Calls Tryz.prog 10 #[.int .i64 i] w (rnPost i w) := by
  have hb := (Below.refl w.heap.size w).alloc (Nat.le_refl _) (.cells #[.int .u8 (97 + (i : Int))] 5)
  have HE := Lib.hid (nmB_eq i)
  have kc := rconv_row [97 + (i : Int)] w 1 rfl #[.int .u8 (97 + (i : Int))] rfl
  simp only [List.map_cons, List.map_nil] at kc
  have q1 : (0 : Int) ≤ (i : Int) := by omega
  have q2 : (i : Int) < 20 := by omega
  have HB := Lib.hid hb
  unfold rnPost
  clear hb
  go_enter Tryz.func10, Tryz.ntmps10
  go_wp2
  go_ret
  refine ⟨?_, HB.out⟩
  rw [← HE.out]
  rfl
/-- The fields so far, a row of the call's own; blocks beside it. -/
def RgS (w : World) (L : List Fd) (v : Value) (BL : List (Nat × Obj)) (W : World) : Prop :=
  ∃ t, Row t 6 W 27 5 v L.length (L.flatMap inCells) ∧ Evo T0 w t W (· ≠ 0) ∧ ∀ x ∈ BL, t x.1 = 7 ∧ W.heap[x.1]? = some x.2
section
variable {w W W' : World} {L : List Fd} {v : Value} {BL : List (Nat × Obj)}
theorem RgS.call (h : RgS w L v BL W) (hb : Below W.heap.size W W') : RgS w L v BL W' := by
  obtain ⟨t, hr, he, hm⟩ := h
  have ev : Evo t W (t.ext W.heap.size 0) W' (fun _ => False) := Evo.below hb (Tag.ext_lt _ _ _)
  refine ⟨_, hr.keep ev (fun h => h), he.trans (ev.mono fun _ h => h.elim), fun x hx => ?_⟩
  obtain ⟨q1, q2⟩ := hm x hx
  have hl := (Array.getElem?_eq_some_iff.1 q2).1
  exact ⟨(ev.tag _ hl).trans q1, (ev.block _ hl (fun h => h)).trans q2⟩
theorem RgS.drew (h : RgS w L v BL W) : RgS w L v BL W.drew := h.call (Below.refl _ _).drew
theorem RgS.alloc (h : RgS w L v BL W) (o : Obj) : RgS w L v ((W.heap.size, o) :: BL) (W.alloc o) := by
  obtain ⟨t, hr, he, hm⟩ := h
  have ev : Evo t W (t.set W.heap.size 7) (W.alloc o) (fun _ => False) := (Evo.refl t W _).alloc 7 o
  refine ⟨_, hr.keep ev (fun h => h), he.trans (ev.mono fun _ h => h.elim), fun x hx => ?_⟩
  rcases List.mem_cons.1 hx with rfl | hx
  · exact ⟨Tag.set_same _ _ _, heap_alloc_new _ _⟩
  · obtain ⟨q1, q2⟩ := hm x hx
    have hl := (Array.getElem?_eq_some_iff.1 q2).1
    exact ⟨(ev.tag _ hl).trans q1, (ev.block _ hl (fun h => h)).trans q2⟩
theorem RgS.allocD (h : RgS w L v BL W) (o : Obj) : RgS w L v ((W.heap.size, o) :: BL) (W.drew.alloc o) := h.drew.alloc o
theorem RgS.below (h : RgS w L v BL W) : Below w.heap.size w W := by obtain ⟨t, _, he, _⟩ := h; exact he.toBelow (by simp)
theorem RgS.bare (h : RgS w L v BL W) : RgS w L v [] W := by obtain ⟨t, hr, he, _⟩ := h; exact ⟨t, hr, he, fun x hx => by cases hx⟩
theorem RgS.at0 {b : Nat} {o : Obj} (h : RgS w L v ((b, o) :: BL) W) : W.heap[b]? = some o := by obtain ⟨t, _, _, hm⟩ := h; exact (hm _ List.mem_cons_self).2
theorem RgS.form (h : RgS w L v BL W) : ∃ a c, v = .slice a L.length c := by obtain ⟨t, hr, _⟩ := h; exact hr.form
theorem RgS.fds (h : RgS w L v BL W) : FdsV (gh W) v L := by obtain ⟨t, hr, _⟩ := h; exact SlV.ofRow inCells L noFd (by decide) inCells_len hr
theorem RgS.store {b : Nat} {x0 x1 x2 x3 x4 y : Value} {T : TypeId} (h : RgS w L v [(b, .cells #[x0, x1, x2, x3, x4] T (0, 0))] W) : RgS w L v [(b, .cells #[x0, x1, y, x3, x4] T (0, 0))] (W.setCell ⟨b, 2, none⟩ y) := by
  have h0 := h.at0
  obtain ⟨t, hr, he, hm⟩ := h
  obtain ⟨q1, q2⟩ := hm _ List.mem_cons_self
  have e2 : Evo t W t (W.setCell ⟨b, 2, none⟩ y) (· = 7) := (Evo.refl _ _ _).setCell _ _ q1
  refine ⟨t, hr.keep e2 (by decide), he.trans (e2.mono fun _ h => by rw [h]; decide), fun x hx => ?_⟩
  obtain rfl := List.mem_singleton.1 hx
  exact ⟨q1, by simp [World.setCell, Array.getElem?_modify, h0]⟩
theorem RgS.fill {b : Nat} {x0 x1 x2 x3 x4 y0 y1 y2 y3 y4 : Value} {T : TypeId} (h : RgS w L v [(b, .cells #[x0, x1, x2, x3, x4] T (0, 0))] W) :
    RgS w L v [(b, .cells #[y0, y1, y2, y3, y4] T (0, 0))] (((((W.setCell ⟨b, 0, none⟩ y0).setCell ⟨b, 1, none⟩ y1).setCell ⟨b, 2, none⟩ y2).setCell ⟨b, 3, none⟩ y3).setCell ⟨b, 4, none⟩ y4) := by
  have h0 := h.at0
  obtain ⟨t, hr, he, hm⟩ := h
  obtain ⟨q1, q2⟩ := hm _ List.mem_cons_self
  have e2 : Evo t W t (((((W.setCell ⟨b, 0, none⟩ y0).setCell ⟨b, 1, none⟩ y1).setCell ⟨b, 2, none⟩ y2).setCell ⟨b, 3, none⟩ y3).setCell ⟨b, 4, none⟩ y4) (· = 7) := (((((Evo.refl _ _ _).setCell _ _ q1).setCell _ _ q1).setCell _ _ q1).setCell _ _ q1).setCell _ _ q1
  refine ⟨t, hr.keep e2 (by decide), he.trans (e2.mono fun _ h => by rw [h]; decide), fun x hx => ?_⟩
  obtain rfl := List.mem_singleton.1 hx
  exact ⟨q1, by simp [World.setCell, Array.getElem?_modify, h0]⟩
theorem RgS.start (w : World) : RgS w [] (.slice none 0 0) [] w := ⟨T0, Row.nil _ _ _ _ _, Evo.refl _ _ _, fun x hx => by cases hx⟩
end
theorem RgS.grown {w W : World} {L : List Fd} {f : Fd} {v : Value} {t : Tag} (hr : Row t 6 W 27 5 v (L.length + 1) (L.flatMap inCells ++ inCells f)) (he : Evo T0 w t W (· ≠ 0)) : RgS w (L ++ [f]) v [] W :=
  ⟨t, by rw [List.length_append, List.flatMap_append, List.flatMap_cons, List.flatMap_nil, List.append_nil]; exact hr, he, fun x hx => by cases hx⟩
theorem ring_more (k q m : Nat) (op : Bool) : (List.range q).map outF ++ (List.range (m + 1)).map (ringF k op) = ((List.range q).map outF ++ (List.range m).map (ringF k op)) ++ [ringF k op m] := by
  rw [List.range_succ, List.map_append, ← List.append_assoc]; rfl
theorem five_at {W : World} {B : Nat} {x0 x1 x2 x3 x4 : Value} {T : TypeId} (h : W.heap[B]? = some (.cells #[x0, x1, x2, x3, x4] T (0, 0))) :
    (W.cell? ⟨B, 0, none⟩ = some x0 ∧ W.cell? ⟨B, 1, none⟩ = some x1 ∧ W.cell? ⟨B, 2, none⟩ = some x2 ∧ W.cell? ⟨B, 3, none⟩ = some x3 ∧ W.cell? ⟨B, 4, none⟩ = some x4) ∧
    (W.frozen? ⟨B, 0, none⟩ = false ∧ W.frozen? ⟨B, 1, none⟩ = false ∧ W.frozen? ⟨B, 2, none⟩ = false ∧ W.frozen? ⟨B, 3, none⟩ = false ∧ W.frozen? ⟨B, 4, none⟩ = false) := by
  simp [World.cell?, World.frozen?, h]
theorem inCells_one (f : Fd) : ∀ u ∈ inCells f, u.oneCell' = true := by
  have h : (inCells f).all Value.oneCell' = true := rfl
  exact fun u hu => List.all_eq_true.1 h u hu
theorem ring_len (k j : Nat) (op : Bool) : (ringL k j op).length = j + k := by simp [ringL]
theorem ring_short (k j : Nat) (op : Bool) : ∀ f ∈ ringL k j op, Short f := by
  intro f hf
  unfold ringL at hf
  rcases List.mem_append.1 hf with hf | hf
  · obtain ⟨i, _, rfl⟩ := List.mem_map.1 hf
    exact ⟨by simp [outF, nmB], by simp [outF, nmB], by simp [outF], by simp [outF], by simp [outF]⟩
  · obtain ⟨i, _, rfl⟩ := List.mem_map.1 hf
    refine ⟨by simp [ringF, nmB], ?_, by simp [ringF], by simp [ringF], by simp [ringF]⟩
    simp only [ringF]
    split <;> simp [nmB]
theorem x_nm (i : Nat) : (⟨#[120]⟩ : ByteArray) ++ ⟨(nmB i).toArray⟩ = ⟨(120 :: nmB i).toArray⟩ := rfl
set_option maxRecDepth 1000000 in
set_option maxHeartbeats 8000000 in
theorem rings_walk (n from0 : Int) (op : Bool) (w : World) (hL : Lay2 w) (hn : -9223372036854775808 ≤ n ∧ n ≤ 9223372036854775807) (hf : -9223372036854775808 ≤ from0 ∧ from0 ≤ 9223372036854775807) :
    Calls Tryz.prog 3 #[.int .i64 n, .int .i64 from0, .bool op] w (yesPost w) := by
  have HL := Lib.hid hL.lay
  have HPN := Lib.hid (fun W => place_any n 15 W hn (by omega) (by omega))
  have HPF := Lib.hid (fun W => place_any from0 5 W hf (by omega) (by omega))
  have HAW := Lib.hid (fun W (hb : Below w.heap.size w W) => awake11 W (HL.out.below hb))
  obtain ⟨p, hp⟩ : ∃ p : Nat, n % 15 = p := ⟨(n % 15).toNat, by omega⟩
  have hp2 : p < 15 := by omega
  obtain ⟨j, hj⟩ : ∃ j : Nat, from0 % 5 = j := ⟨(from0 % 5).toNat, by omega⟩
  have hj2 : j < 5 := by omega
  rw [hp] at HPN
  rw [hj] at HPF
  obtain ⟨k, hk⟩ : ∃ k, p + 2 = k := ⟨_, rfl⟩
  have hk2 : 2 ≤ k := by omega
  have hk16 : k ≤ 16 := by omega
  have HKK : Hid ((2 : Int) + (p : Int) = (k : Int)) := Lib.hid (by omega)
  obtain ⟨i0, hi, hz0, hz1, hz2⟩ := infoFd
  have HN0 : Hid (∀ W, Calls Tryz.prog 10 #[.int .i64 0] W (rnPost 0 W)) := Lib.hid (fun W => rname_any 0 W (by omega))
  unfold yesPost at HAW ⊢
  unfold rnPost at HN0
  clear hL hn hf hp hj
  go_enter Tryz.func3, Tryz.ntmps3
  go_wp2_with fail
  refine (HPN.out _).mono ?_
  rintro r W1 ⟨rfl, rfl⟩
  go_wp2_with fail
  refine (HPF.out _).mono ?_
  rintro r W2 ⟨rfl, rfl⟩
  go_wp2_with fail
  rw [HKK.out]
  go_loopg [10, 11] j (fun gk lv i wr => ∃ q : Nat, i = .int .i64 q ∧ q + gk = j ∧ Hid (RgS w ((List.range q).map outF) lv [] wr))
  case atStart => exact ⟨0, rfl, by omega, Lib.hid (RgS.start w)⟩
  case round =>
    obtain ⟨q, rfl, hg, HP⟩ := hrel
    by_cases hq : q < j
    · have HNQ := Lib.hid (fun W => rname_any q W (by omega))
      unfold rnPost at HNQ
      go_wp2_with fail
      refine (HNQ.out _).mono ?_
      rintro r W3 ⟨rfl, hb3⟩
      have HP3 := Lib.hid (HP.out.call hb3)
      clear hb3 HP HNQ
      go_wp2_with fail
      refine (HN0.out _).mono ?_
      rintro r W4 ⟨rfl, hb4⟩
      have hp5 := (HP3.out.call hb4).alloc (.cells #[.string (⟨#[120]⟩ ++ ⟨(nmB q).toArray⟩), .int .i64 1, .string ⟨(nmB 0).toArray⟩, .string ⟨#[]⟩, .string ⟨#[]⟩] 27)
      have h0 := hp5.at0
      obtain ⟨t, hr, he, -⟩ := hp5
      have HA := Lib.hid (cells_add h0)
      have HE := Lib.hid he
      clear hb4 HP3 h0 he
      go_wp2_with (at_builtin; refine wpList_append_row rfl _ _ 25 rfl 27 i0 _ 5 72 Tryz.underlying25 hi hz0 hz1 hz2 rfl (by decide) rfl hr ⟨W4.heap.size, 0, none⟩ 1 1 _ rfl rfl HA.out ?c3 ?c4 ?c5 ?_)
      case c3 => intro u hu; exact inCells_one (outF q) u (by rw [x_nm] at hu; exact hu)
      case c4 => simp; unfold maxLen; omega
      case c5 => simp; omega
      intro v' t' w' hr' he' _
      have HPN2 : Hid (RgS w ((List.range (q + 1)).map outF) v' [] w') := Lib.hid ⟨t', by
        rw [List.range_succ, List.map_append, List.length_append, List.flatMap_append]
        simp only [List.map_cons, List.map_nil, List.length_singleton, List.flatMap_cons, List.flatMap_nil, List.append_nil, List.length_map, List.length_range]
        rw [x_nm] at hr'

        exact hr', HE.out.trans (he'.mono fun _ h => by rw [h]; decide), fun x hx => by cases hx⟩
      clear hr he' hr' HA HE
      go_wp2_with fail
      go_roundg (gk - 1)
      case rel => exact ⟨q + 1, by go_num, by omega, HPN2⟩
      case measure => omega
    · obtain rfl : q = j := by omega
      have HP0 : Hid (RgS w ((List.range q).map outF ++ (List.range 0).map (ringF k op)) u10 [] wr) := Lib.hid (by simpa using HP.out)
      clear HP
      go_wp2_with fail
      go_loopg [10, 12] k (fun gk lv i wr => ∃ m : Nat, i = .int .i64 m ∧ m + gk = k ∧ Hid (RgS w ((List.range q).map outF ++ (List.range m).map (ringF k op)) lv [] wr))
      case atStart => exact ⟨0, rfl, by omega, HP0⟩
      case round =>
        obtain ⟨m, rfl, hg2, HP⟩ := hrel
        by_cases hm : m < k
        · have HNI := Lib.hid (fun W => rname_any m W (by omega))
          have hmm : (m + 1) % k < k := Nat.mod_lt _ (by omega)
          have hnj := fun W => rname_any ((m + 1) % k) W (by omega)
          have hce : ((((m + 1) % k : Nat)) : Int) = ((m : Int) + 1) % (k : Int) := by simp
          rw [hce] at hnj
          have HNJ := Lib.hid hnj
          have hkz : ((k : Int) == 0) = false := by simp; omega
          unfold rnPost at HNI HNJ
          clear hnj hce
          go_upto_region 12 with fail
          go_cut [13] from 37 to 63 (fun s13 wc => ∃ b, s13 = .pointer (some ⟨b, 0, none⟩) ∧ RgS w ((List.range q).map outF ++ (List.range m).map (ringF k op)) u10 [(b, .cells #[.string ⟨(nmB m).toArray⟩, .int .i64 1, .string ⟨(nmB ((m + 1) % k)).toArray⟩, .string ⟨#[]⟩, .string ⟨#[]⟩] 27 (0, 0))] wc)
          case first =>
            go_region_with (first | (go_at_call 10; (with_reducible refine (HNI.out _).mono ?_); rintro r WD ⟨rfl, hb⟩; have HP := Lib.hid (HP.out.drew.call hb); clear hb; try (obtain ⟨⟨u0, u1, u2, u3, u4⟩, f0, f1, f2, f3, f4⟩ := five_at HP.out.at0)) | (go_at_call 10; (with_reducible refine (HNI.out _).mono ?_); rintro r WD ⟨rfl, hb⟩; have HP := Lib.hid (HP.out.call hb); clear hb; try (obtain ⟨⟨u0, u1, u2, u3, u4⟩, f0, f1, f2, f3, f4⟩ := five_at HP.out.at0)) | (go_at_call 10; (with_reducible refine (HNI.out _).mono ?_); rintro r WD ⟨rfl, hb⟩; have HP := Lib.hid ((HP.out.allocD _).call hb); clear hb; try (obtain ⟨⟨u0, u1, u2, u3, u4⟩, f0, f1, f2, f3, f4⟩ := five_at HP.out.at0)) | (go_at_call 10; (with_reducible refine (HNI.out _).mono ?_); rintro r WD ⟨rfl, hb⟩; have HP := Lib.hid ((HP.out.alloc _).call hb); clear hb; try (obtain ⟨⟨u0, u1, u2, u3, u4⟩, f0, f1, f2, f3, f4⟩ := five_at HP.out.at0)) | (go_at_call 10; (with_reducible refine (HNJ.out _).mono ?_); rintro r WD ⟨rfl, hb⟩; have HP := Lib.hid (HP.out.drew.call hb); clear hb; try (obtain ⟨⟨u0, u1, u2, u3, u4⟩, f0, f1, f2, f3, f4⟩ := five_at HP.out.at0)) | (go_at_call 10; (with_reducible refine (HNJ.out _).mono ?_); rintro r WD ⟨rfl, hb⟩; have HP := Lib.hid (HP.out.call hb); clear hb; try (obtain ⟨⟨u0, u1, u2, u3, u4⟩, f0, f1, f2, f3, f4⟩ := five_at HP.out.at0)) | (go_at_call 10; (with_reducible refine (HNJ.out _).mono ?_); rintro r WD ⟨rfl, hb⟩; have HP := Lib.hid ((HP.out.allocD _).call hb); clear hb; try (obtain ⟨⟨u0, u1, u2, u3, u4⟩, f0, f1, f2, f3, f4⟩ := five_at HP.out.at0)) | (go_at_call 10; (with_reducible refine (HNJ.out _).mono ?_); rintro r WD ⟨rfl, hb⟩; have HP := Lib.hid ((HP.out.alloc _).call hb); clear hb; try (obtain ⟨⟨u0, u1, u2, u3, u4⟩, f0, f1, f2, f3, f4⟩ := five_at HP.out.at0)))
            all_goals
              go_wp2_with fail
              go_meet
              case rel => first | exact ⟨_, rfl, HP.out.alloc _⟩ | exact ⟨_, rfl, HP.out.fill⟩
          case rest =>
            obtain ⟨b, rfl, hp9⟩ := hcut
            have HPX := Lib.hid hp9
            obtain ⟨⟨u0, u1, u2, u3, u4⟩, f0, f1, f2, f3, f4⟩ := five_at hp9.at0
            clear hp9 HP
            cases op with
            | false =>
              have HRF : Hid (ringF k false m = ⟨nmB m, 1, nmB ((m + 1) % k), [], []⟩) := Lib.hid rfl
              have hp6 := HPX.out.alloc (.cells #[.string ⟨(nmB m).toArray⟩, .int .i64 1, .string ⟨(nmB ((m + 1) % k)).toArray⟩, .string ⟨#[]⟩, .string ⟨#[]⟩] 27)
              have h6 := hp6.at0
              obtain ⟨t, hr, he, -⟩ := hp6
              have HA := Lib.hid (cells_add h6)
              have HE := Lib.hid he
              clear h6 he HPX
              go_wp2_with (at_builtin; refine wpList_append_row rfl _ _ 25 rfl 27 i0 _ 5 72 Tryz.underlying25 hi hz0 hz1 hz2 rfl (by decide) rfl hr _ 1 1 _ rfl rfl HA.out ?c3 ?c4 ?c5 ?_)
              case c3 => intro u hu; exact inCells_one (ringF k false m) u (by rw [HRF.out]; exact hu)
              case c4 => simp; unfold maxLen; omega
              case c5 => simp; omega
              intro v' t' w' hr' he' _
              have HPN2 : Hid (RgS w ((List.range q).map outF ++ (List.range (m + 1)).map (ringF k false)) v' [] w') := Lib.hid (by
                rw [ring_more]
                exact RgS.grown (by rw [HRF.out, List.flatMap_append, List.append_assoc, show ∀ A B : List Fd, A.length = q → B.length = m → (A ++ B).length = q + m from fun A B a b => by simp [a, b]]; exact hr'; simp; simp) (HE.out.trans (he'.mono fun _ h => by rw [h]; decide)))
              clear hr he' hr' HA HE
              go_wp2_with fail
              go_roundg (gk - 1)
              case rel => exact ⟨m + 1, by go_num, by omega, HPN2⟩
              case measure => omega
            | true =>
              by_cases hl : m = k - 1
              · have z1 : ((m : Int) == (k : Int) - 1) = true := by simp; omega
                have HRF : Hid (ringF k true m = ⟨nmB m, 1, [], [], []⟩) := Lib.hid (by unfold ringF; rw [show (true && m == k - 1) = true by simp [hl]]; rfl)
                clear hl
                go_upto_region 15 with fail
                have HPY := Lib.hid (HPX.out.store (y := .string ⟨#[]⟩))
                clear u0 u1 u2 u3 u4 f0 f1 f2 f3 f4 HPX
                generalize wc.setCell ⟨b, 2, none⟩ (.string ⟨#[]⟩) = WX at *
                have HPX := HPY
                obtain ⟨⟨u0, u1, u2, u3, u4⟩, f0, f1, f2, f3, f4⟩ := five_at HPX.out.at0
                clear HPY
                have hp6 := HPX.out.alloc (.cells #[.string ⟨(nmB m).toArray⟩, .int .i64 1, .string ⟨#[]⟩, .string ⟨#[]⟩, .string ⟨#[]⟩] 27)
                have h6 := hp6.at0
                obtain ⟨t, hr, he, -⟩ := hp6
                have HA := Lib.hid (cells_add h6)
                have HE := Lib.hid he
                clear h6 he HPX
                go_wp2_with (at_builtin; refine wpList_append_row rfl _ _ 25 rfl 27 i0 _ 5 72 Tryz.underlying25 hi hz0 hz1 hz2 rfl (by decide) rfl hr _ 1 1 _ rfl rfl HA.out ?c3 ?c4 ?c5 ?_)
                case c3 => intro u hu; exact inCells_one (ringF k true m) u (by rw [HRF.out]; exact hu)
                case c4 => simp; unfold maxLen; omega
                case c5 => simp; omega
                intro v' t' w' hr' he' _
                have HPN2 : Hid (RgS w ((List.range q).map outF ++ (List.range (m + 1)).map (ringF k true)) v' [] w') := Lib.hid (by
                  rw [ring_more]
                  exact RgS.grown (by rw [HRF.out, List.flatMap_append, List.append_assoc, show ∀ A B : List Fd, A.length = q → B.length = m → (A ++ B).length = q + m from fun A B a b => by simp [a, b]]; exact hr'; simp; simp) (HE.out.trans (he'.mono fun _ h => by rw [h]; decide)))
                clear hr he' hr' HA HE
                go_wp2_with fail
                go_roundg (gk - 1)
                case rel => exact ⟨m + 1, by go_num, by omega, HPN2⟩
                case measure => omega
              · have z1 : ((m : Int) == (k : Int) - 1) = false := by simp; omega
                have HRF : Hid (ringF k true m = ⟨nmB m, 1, nmB ((m + 1) % k), [], []⟩) := Lib.hid (by unfold ringF; rw [show (true && m == k - 1) = false by simp [hl]]; rfl)
                clear hl
                have hp6 := HPX.out.alloc (.cells #[.string ⟨(nmB m).toArray⟩, .int .i64 1, .string ⟨(nmB ((m + 1) % k)).toArray⟩, .string ⟨#[]⟩, .string ⟨#[]⟩] 27)
                have h6 := hp6.at0
                obtain ⟨t, hr, he, -⟩ := hp6
                have HA := Lib.hid (cells_add h6)
                have HE := Lib.hid he
                clear h6 he HPX
                go_wp2_with (at_builtin; refine wpList_append_row rfl _ _ 25 rfl 27 i0 _ 5 72 Tryz.underlying25 hi hz0 hz1 hz2 rfl (by decide) rfl hr _ 1 1 _ rfl rfl HA.out ?c3 ?c4 ?c5 ?_)
                case c3 => intro u hu; exact inCells_one (ringF k true m) u (by rw [HRF.out]; exact hu)
                case c4 => simp; unfold maxLen; omega
                case c5 => simp; omega
                intro v' t' w' hr' he' _
                have HPN2 : Hid (RgS w ((List.range q).map outF ++ (List.range (m + 1)).map (ringF k true)) v' [] w') := Lib.hid (by
                  rw [ring_more]
                  exact RgS.grown (by rw [HRF.out, List.flatMap_append, List.append_assoc, show ∀ A B : List Fd, A.length = q → B.length = m → (A ++ B).length = q + m from fun A B a b => by simp [a, b]]; exact hr'; simp; simp) (HE.out.trans (he'.mono fun _ h => by rw [h]; decide)))
                clear hr he' hr' HA HE
                go_wp2_with fail
                go_roundg (gk - 1)
                case rel => exact ⟨m + 1, by go_num, by omega, HPN2⟩
                case measure => omega
        · obtain rfl : m = k := by omega
          have HPR : Hid (RgS w (ringL m q op) u10 [] wr) := HP
          obtain ⟨a, c, rfl⟩ := HPR.out.form
          have hfv := HPR.out.fds
          have hbw := HPR.out.below
          rw [ring_len] at hfv
          rw [ring_len]
          have HB := Lib.hid hbw
          cases op with
          | false =>
            have hm2 := ring_shut (k := m) (j := q) hk2 hk16 hj2
            have HNEW := Lib.hid (new_bad _ _ (by rw [ring_len]; omega) (ring_short m q false) (HL.out.below hbw) hfv hm2)
            clear hfv hbw hm2 HPR HP HP0
            go_wp2_with fail
            refine HNEW.out.mono ?_
            rintro r W3 ⟨hb3, rfl⟩
            have HB3 := Lib.hid (HB.out.seq hb3)
            have HAW3 := Lib.hid (HAW.out W3 HB3.out)
            clear hb3 HNEW
            go_wp2_with fail
            refine HAW3.out.mono ?_
            rintro r W4 ⟨rfl, hb4⟩
            have HB4 := Lib.hid (HB3.out.seq hb4)
            clear hb4
            go_wp2
            go_ret
            exact ⟨rfl, HB4.out⟩
          | true =>
            obtain ⟨F, hm2, hlen⟩ := ring_open (k := m) (j := q) hk2 hk16 hj2
            have HNEW := Lib.hid (new_ok _ _ (by rw [ring_len]; omega) (ring_short m q true) (HL.out.below hbw) hfv hm2)
            have HLN := Lib.hid hlen
            clear hfv hbw hm2 hlen HPR HP HP0
            go_wp2_with fail
            refine HNEW.out.mono ?_
            rintro r W3 ⟨hb3, b, rfl, hs⟩
            have HB3 := Lib.hid (HB.out.seq hb3)
            have HOR := Lib.hid (order_of W3 hs)
            unfold intsPost at HOR
            clear hb3 HNEW hs
            have z1 : ((((m : Int) + (q : Int) - 1)) == (q : Int) + (m : Int) - 1) = true := by simp; omega
            go_wp2_with fail
            refine HOR.out.mono ?_
            rintro r W4 ⟨hb4, v4, rfl, hv4⟩
            obtain ⟨a4, c4, rfl, -⟩ := intsV_form hv4
            have HB4 := Lib.hid (HB3.out.seq hb4)
            have HAW4 := Lib.hid (HAW.out W4 HB4.out)
            have z2 : ((F.order.length : Int) == (q : Int) + (m : Int) - 1) = true := by have := HLN.out; simp; omega
            clear hb4 hv4 HOR
            go_wp2_with fail
            refine HAW4.out.mono ?_
            rintro r W5 ⟨rfl, hb5⟩
            have HB5 := Lib.hid (HB4.out.seq hb5)
            clear hb5
            go_wp2
            go_ret
            exact ⟨rfl, HB5.out⟩
end Go.Proofs.YtpfhhikbaeknpaaGreatDoor
