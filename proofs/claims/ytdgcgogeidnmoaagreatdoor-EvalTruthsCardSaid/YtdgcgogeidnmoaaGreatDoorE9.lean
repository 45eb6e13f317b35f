/- The walk of eval's text. Conditions: its parts come to what the plain law says, and that may be values. -/
import Derived.Test.YtdgcgogeidnmoaaGreatDoorE5
import Derived.Test.YtdgcgogeidnmoaaGreatDoorE7
set_option linter.unusedSimpArgs false
set_option linter.unusedVariables false
set_option linter.unusedSectionVars false
namespace Go.Proofs.YtdgcgogeidnmoaaGreatDoor
open Go.RowKit Pal
theorem mk_list (t : Bs) : (⟨t.toArray⟩ : ByteArray).data.toList = t := by simp
theorem mk_size (t : Bs) : (⟨t.toArray⟩ : ByteArray).size = t.length := by simp [ByteArray.size]
/-- Eval's need of a part that lies in a world ahead. -/
theorem need_kid {k : Ex} {names : List Bs} {vals : List Val} {p : Nat} {w : World} {ua : Option Addr} {uc : Nat} (hE : EvP names vals k) (hok : VOk (ev (look names vals) k)) (hW : WithV w p names vals) (hK : KV (gh w) (.slice ua k.ks.length uc) k.ks) :
    ∀ W, Below w.heap.size w W → ∀ (b : Nat) (T : TypeId) (l : List Int), W.heap[b]? = some (.cells (l.map (Value.int .i64)).toArray T (0, 0)) → l.length ≤ 17592186044416 →
    Calls Tryz.prog 142 #[.pointer (some ⟨p, 0, none⟩), .agg #[.int .i64 k.op, .int .i64 k.n, .string ⟨k.s.toArray⟩, .slice ua k.ks.length uc], .slice (some ⟨b, 0, none⟩) l.length l.length] W (needPost (need (ev (look names vals) k) l) W) := by
  intro W hb b T l hc hl
  exact need_any k names vals l (.slice ua k.ks.length uc) _ p W hE hok (hW.keep hb) (hK.keep hb) (intsV_row l T hc hl)
/-- The cells of the first part, and of the second. -/
theorem KV.at0 {w : World} {a : Option Addr} {n cap : Nat} {k : Ex} {ks : List Ex} (t : KV (gh w) (.slice a n cap) (k :: ks)) :
    ∃ b off ua uc, a = some ⟨b, off, none⟩ ∧ w.cell? ⟨b, off, none⟩ = some (.int .i64 k.op) ∧ w.cell? ⟨b, off + 1, none⟩ = some (.int .i64 k.n) ∧ w.cell? ⟨b, off + 2, none⟩ = some (.string ⟨k.s.toArray⟩) ∧ w.cell? ⟨b, off + 3, none⟩ = some (.slice ua k.ks.length uc) ∧ KV (gh w) (.slice ua k.ks.length uc) k.ks := by
  obtain ⟨b, off, u, ha, c0, c1, c2, c3, hk⟩ := t.at (j := 0) (k := k) rfl
  obtain ⟨ua, uc, rfl⟩ := hk.form
  rw [Nat.zero_mul, Nat.add_zero] at c0 c1 c2 c3
  exact ⟨b, off, ua, uc, ha, c0, c1, c2, c3, hk⟩
theorem KV.at1 {w : World} {b off : Nat} {n cap : Nat} {k0 k : Ex} {ks : List Ex} (t : KV (gh w) (.slice (some ⟨b, off, none⟩) n cap) (k0 :: k :: ks)) :
    ∃ ua uc, w.cell? ⟨b, off + 4, none⟩ = some (.int .i64 k.op) ∧ w.cell? ⟨b, off + 4 + 1, none⟩ = some (.int .i64 k.n) ∧ w.cell? ⟨b, off + 4 + 2, none⟩ = some (.string ⟨k.s.toArray⟩) ∧ w.cell? ⟨b, off + 4 + 3, none⟩ = some (.slice ua k.ks.length uc) ∧ KV (gh w) (.slice ua k.ks.length uc) k.ks := by
  obtain ⟨b', off', u, ha, c0, c1, c2, c3, hk⟩ := t.at (j := 1) (k := k) rfl
  simp only [Option.some.injEq, Addr.mk.injEq, and_true] at ha
  obtain ⟨rfl, rfl⟩ := ha
  obtain ⟨ua, uc, rfl⟩ := hk.form
  rw [Nat.one_mul] at c0 c1 c2 c3
  exact ⟨ua, uc, c0, c1, c2, c3, hk⟩
theorem textM_err {op : Int} {a b u : Val} (h : need a [3] = .error u) : textM op a b = u := by unfold textM; rw [h]
theorem textM_ok' {op : Int} {a b : Val} (h : need a [3] = .ok a) : textM op a b = if op = 19 then vInt (cnt a.s)
    else if op = 23 then longM (fold a.s)
    else if op = 21 then (match need b [1] with | .error v => v | .ok b => longM (takeP b.n.toNat a.s))
    else (match need b [3] with | .error v => v | .ok b => longM (a.s ++ b.s)) := by unfold textM; rw [h]; rfl
set_option maxRecDepth 1000000 in
set_option maxHeartbeats 8000000 in
theorem text1_any (names : List Bs) (vals : List Val) (op n : Int) (s : Bs) (k : Ex) (v : Value) (p : Nat) (w : World) (ho : op = 19 ∨ op = 23)
    (hE : EvP names vals k) (hok : VOk (ev (look names vals) k)) (hW : WithV w p names vals) (hK : KV (gh w) v [k]) :
    Calls Tryz.prog 101 #[.pointer (some ⟨p, 0, none⟩), exV op n s v] w (boxPost (textM op (ev (look names vals) k) vNil) w) := by
  obtain ⟨a, cap, rfl⟩ := hK.form
  have hcap := hK.cap
  obtain ⟨b, off, ua, uc, rfl, c0, c1, c2, c3, hKu⟩ := hK.at0
  have hnd := need_kid hE hok hW hKu
  generalize ev (look names vals) k = x at *
  have HN := Lib.hid hnd
  have HL := Lib.hid hW.lay
  have hbl := World.block_lt_of_cell? w _ c0
  have hb0 := (((Below.refl w.heap.size w).alloc (Nat.le_refl _) (.cells #[.int .i64 op, .int .i64 n, .string ⟨s.toArray⟩, .slice (some ⟨b, off, none⟩) 1 cap] 24)).alloc (by simp) (.cells #[.int .i64 3] 3))
  have he0 : ((w.alloc (.cells #[.int .i64 op, .int .i64 n, .string ⟨s.toArray⟩, .slice (some ⟨b, off, none⟩) 1 cap] 24)).alloc (.cells #[.int .i64 3] 3)).heap[w.heap.size]? = some (.cells #[.int .i64 op, .int .i64 n, .string ⟨s.toArray⟩, .slice (some ⟨b, off, none⟩) 1 cap] 24 (0, 0)) := by
    rw [Lib.alloc_old _ _ _ (by simp)]; exact heap_alloc_new w _
  have hi0 : ((w.alloc (.cells #[.int .i64 op, .int .i64 n, .string ⟨s.toArray⟩, .slice (some ⟨b, off, none⟩) 1 cap] 24)).alloc (.cells #[.int .i64 3] 3)).heap[w.heap.size + 1]? = some (.cells (([3] : List Int).map (Value.int .i64)).toArray 3 (0, 0)) := by
    have := heap_alloc_new (w.alloc (.cells #[.int .i64 op, .int .i64 n, .string ⟨s.toArray⟩, .slice (some ⟨b, off, none⟩) 1 cap] 24)) (.cells #[.int .i64 3] 3)
    simpa using this
  have HN3 := Lib.hid (hnd _ hb0 _ _ _ hi0 (by simp))
  have HB0 := Lib.hid hb0
  have HE0 := Lib.hid he0
  have HOK := Lib.hid hok
  clear hnd hE hW hK hKu hb0 he0 hi0 hok
  simp only [List.length_singleton] at *
  unfold exV strV
  go_enter Tryz.func101, Tryz.ntmps101
  go_wp2_with fail
  refine HN3.out.mono ?_
  rintro e W1 ⟨rfl, hb1⟩
  have hb2 := HB0.out.seq hb1
  have he1 := (hb1.block _ (by simp; omega)).trans HE0.out
  have hL1 := HL.out.below hb2
  have HB2 := Lib.hid hb2
  clear hb1 hb2 HB0 HE0 HN3 HN c0 c1 c2 c3
  rcases need_ok HOK.out [3] with ⟨u, hu, hvu⟩ | ⟨hu, hk1⟩
  · have HE : Hid (textM op x vNil = u) := Lib.hid (textM_err hu)
    rw [hu]
    clear hu
    unfold needV needB
    go_wp2
    try rw [Exit.noGoto_ret]
    go_ret
    exact ⟨by rw [HE.out]; rfl, HB2.out⟩
  · obtain ⟨d0, -⟩ := (four_all he1).1
    have HM := Lib.hid (textM_ok' (op := op) (b := vNil) hu)
    obtain ⟨tt, rfl, htt⟩ := HOK.out.k3 (by simpa using hk1)
    rw [hu]
    clear hu hk1
    unfold needV needB
    simp only [boxV_text]
    have htx := text_any tt W1 htt hL1
    obtain ⟨t1, t2, t3⟩ := textOk_iff htt
    have HT3 := Lib.hid t2
    have HTX := Lib.hid htx
    have HHL := Lib.hid hL1
    clear htx htt hL1
    unfold strRet strV at HTX
    unfold strV
    go_wp2_with fail
    refine HTX.out.mono ?_
    rintro e W2 ⟨rfl, hb3⟩
    have hb4 := HB2.out.seq hb3
    have hlt : w.heap.size < W1.heap.size := World.block_lt_of_cell? W1 _ d0
    have d1 : W2.cell? ⟨w.heap.size, 0, none⟩ = some (.int .i64 op) := (hb3.cell (p := ⟨w.heap.size, 0, none⟩) hlt).trans d0
    have hL2 := HHL.out.below hb3
    clear d0 hlt hb3 HB2 HTX he1 HHL
    rcases ho with rfl | rfl
    · have HG : Hid (textM 19 (vText tt) vNil = vInt (cnt tt)) := Lib.hid (by rw [HM.out]; rfl)
      have hc := runesCount_any ⟨tt.toArray⟩ W2 (by rw [mk_size]; omega)
      rw [mk_list] at hc
      have HC := Lib.hid hc
      clear hc
      go_wp2_with fail
      refine HC.out.mono ?_
      rintro e W3 ⟨rfl, hb5⟩
      have hb6 := hb4.seq hb5
      clear hb4 hb5
      go_wp2
      try rw [Exit.noGoto_ret]
      go_ret
      exact ⟨by rw [HG.out]; rfl, hb6⟩
    · have HG : Hid (textM 23 (vText tt) vNil = longM (fold tt)) := Lib.hid (by rw [HM.out]; rfl)
      have hf := fold_any ⟨tt.toArray⟩ W2 (by rw [mk_list]; exact HT3.out) (by rw [mk_size]; omega) hL2
      rw [mk_list] at hf
      unfold strRet strV at hf
      have hfl := fold_law tt.length tt (Nat.le_refl _) HT3.out
      have hfe : foldF tt.length tt = fold tt := rfl
      rw [hfe] at hfl
      have hln := len_cnt _ (fold tt) (Nat.le_refl _)
      generalize fold tt = ft at *
      have hcc := fun W => runesCount_any ⟨ft.toArray⟩ W (by rw [mk_size]; omega)
      simp only [mk_list] at hcc
      have HF := Lib.hid hf
      have HC := Lib.hid hcc
      clear hf hcc hln hfe
      go_wp2_with fail
      refine HF.out.mono ?_
      rintro e W3 ⟨rfl, hb5⟩
      have hb6 := hb4.seq hb5
      clear hb4 hb5 HF
      go_wp2_with fail
      refine (HC.out _).mono ?_
      rintro e W4 ⟨rfl, hb7⟩
      have hb8 := hb6.seq hb7
      clear hb6 hb7 HC
      have hng : ¬ 100 < cnt ft := by omega
      have HG2 : Hid (longM ft = vText ft) := Lib.hid (by unfold longM; rw [if_neg hng])
      have q : decide ((100 : Int) < (cnt ft : Int)) = false := decide_eq_false (by omega)
      clear hfl
      generalize cnt ft = cf at *
      go_wp2
      try rw [Exit.noGoto_ret]
      go_ret
      exact ⟨by rw [HG.out, HG2.out]; rfl, hb8⟩
end Go.Proofs.YtdgcgogeidnmoaaGreatDoor
