/- The walk of eval's need. Conditions: what is worked out may be a value. -/
import Derived.Test.YtdgcgogeidnmoaaGreatDoorE3
set_option linter.unusedSimpArgs false
set_option linter.unusedVariables false
set_option linter.unusedSectionVars false
namespace Go.Proofs.YtdgcgogeidnmoaaGreatDoor
open Go.RowKit Pal
theorem notBad {v : Val} (h : VOk v) (hk : v.k ≠ 4) : ∀ (T : TypeId) (w : World), (Instr.typeAssert (boxV v) T 47 true).run Tryz.prog w = .ok (.tuple #[.agg #[.int .i64 0, .int .i64 0, .string ⟨#[]⟩], .bool false]) w := by
  intro T w
  cases h with
  | nil => rw [boxV_nil]; kernel_rfl
  | int n h => rw [boxV_int]; kernel_rfl
  | bool b => rw [boxV_bool]; kernel_rfl
  | text s h => rw [boxV_text]; kernel_rfl
  | bad n h => exact absurd rfl hk
theorem need_bad {v : Val} (ks : List Int) (h : v.k = 4) : need v ks = .error v := by unfold need; rw [if_pos h]
theorem need_in {v : Val} {ks : List Int} (h : v.k ≠ 4) (g : ks.contains v.k = true) : need v ks = .ok v := by unfold need; rw [if_neg h, if_pos g]
theorem need_out {v : Val} {ks : List Int} (h : v.k ≠ 4) (g : ks.contains v.k = false) : need v ks = .error (vBad 3) := by unfold need; rw [if_neg h, if_neg (by rw [g]; decide)]
set_option maxRecDepth 1000000 in
set_option maxHeartbeats 4000000 in
theorem need_any (k : Ex) (names : List Bs) (vals : List Val) (ks : List Int) (v ksv : Value) (p : Nat) (w : World) (hE : EvP names vals k) (hok : VOk (ev (look names vals) k)) (hW : WithV w p names vals) (hK : KV (gh w) v k.ks) (hI : IntsV (gh w) ksv ks) :
    Calls Tryz.prog 142 #[.pointer (some ⟨p, 0, none⟩), exV k.op k.n k.s v, ksv] w (needPost (need (ev (look names vals) k) ks) w) := by
  obtain ⟨a, cap, rfl⟩ := hK.form
  obtain ⟨ia, icap, rfl, hil⟩ := intsV_form hI
  have hb0 := (Below.refl w.heap.size w).alloc (Nat.le_refl _) (.cells #[.int .i64 k.op, .int .i64 k.n, strV k.s, .slice a k.ks.length cap] 24)
  have hev := hE (.slice a k.ks.length cap) _ p (hW.keep hb0) (hK.keep hb0)
  generalize ev (look names vals) k = x at *
  have HEV := Lib.hid hev
  have HB0 := Lib.hid hb0
  have HL := Lib.hid hW.lay
  have HI := Lib.hid hI
  have HOK := Lib.hid hok
  clear hev hb0 hW hI hE hK
  unfold exV strV at *
  by_cases hk : x.k = 4
  · have HN := Lib.hid (need_bad ks hk)
    cases hok with
    | nil => cases hk
    | int n h => cases hk
    | bool b => cases hk
    | text s h => cases hk
    | bad n h =>
      unfold boxPost at HEV
      rw [boxV_bad] at HEV
      have x4 := ta_bad n
      go_enter Tryz.func142, Tryz.ntmps142
      go_wp2_with fail
      refine HEV.out.mono ?_
      rintro e W ⟨rfl, hb⟩
      have hbW := HB0.out.seq hb
      have hbA := fun o => hbW.alloc hbW.size o
      have HBA := Lib.hid hbA
      clear hb hbW hbA
      go_wp2
      go_ret2
      exact ⟨by rw [HN.out]; rfl, HBA.out _⟩
  · have hta := notBad hok hk
    have hkd := fun w hL => kind_any hok w hL
    have HX : Hid (x.k ≠ 4) := Lib.hid hk
    have HKD := Lib.hid hkd
    have hkr : 0 ≤ x.k ∧ x.k ≤ 4 := by cases hok <;> simp [vNil, vInt, vBool, vText, vBad]
    unfold boxPost at HEV
    obtain ⟨bx, hbx⟩ : ∃ bx, boxV x = bx := ⟨_, rfl⟩
    have HBX := Lib.hid hbx
    rw [hbx] at HEV hta HKD
    obtain ⟨xk, hxk⟩ : ∃ xk, x.k = xk := ⟨_, rfl⟩
    have HXK := Lib.hid hxk
    rw [hxk] at HKD hkr
    clear hk hkd hok hbx hxk
    go_enter Tryz.func142, Tryz.ntmps142
    go_wp2_with fail
    refine HEV.out.mono ?_
    rintro e W ⟨rfl, hb⟩
    have hbW := HB0.out.seq hb
    have hbA := hbW.alloc hbW.size (.cells #[.int .i64 0, .int .i64 0, .string ⟨#[]⟩] 47)
    have HBA := Lib.hid hbA
    clear hb hbW hbA
    go_wp2_with fail
    generalize W.alloc _ = WA at *
    refine (HKD.out _ (HL.out.below HBA.out)).mono ?_
    rintro e W2 ⟨rfl, hb2⟩
    have hbB := HBA.out.seq hb2
    have HBB := Lib.hid hbB
    clear hb2 hbB
    go_wp2
    go_loopg [29] ks.length (fun g i wr => ∃ j : Nat, i = .int .i64 j ∧ j + g = ks.length ∧ wr = W2 ∧ Hid ((ks.drop j).contains xk = ks.contains xk))
    case atStart => exact ⟨0, rfl, by omega, rfl, Lib.hid (by rw [List.drop_zero])⟩
    case round =>
      obtain ⟨j, rfl, hg, rfl, HC⟩ := hrel
      have k0 : ¬ ((j : Int) < 0) := by omega
      by_cases hlt : j < ks.length
      · obtain ⟨b, off, rfl, c0⟩ := intsV_at (HI.out.mono (below_gh HBB.out)) (List.getElem?_eq_getElem hlt)
        have hdr : ks.drop j = ks[j] :: ks.drop (j + 1) := List.drop_eq_getElem_cons hlt
        have hcc := HC.out
        rw [hdr, List.contains_cons] at hcc
        generalize ks[j] = y at *
        by_cases hy : xk = y
        · subst hy
          have HT : Hid (ks.contains xk = true) := Lib.hid (by rw [← hcc]; simp)
          clear hcc hdr HC
          go_wp2
          try rw [Exit.noGoto_ret]
          go_ret2
          refine ⟨?_, HBB.out⟩
          rw [need_in HX.out (by rw [HXK.out]; exact HT.out), ← HBX.out]
          rfl
        · have q : (xk == y) = false := beq_eq_false_iff_ne.2 hy
          rw [q, Bool.false_or] at hcc
          have HD := Lib.hid hcc
          clear hcc hdr HC hy
          go_wp2
          go_roundg (gk - 1)
          case rel => exact ⟨j + 1, by go_num, by omega, rfl, Lib.hid HD.out⟩
          case measure => omega
      · have HT : Hid (ks.contains xk = false) := Lib.hid (by rw [← HC.out, List.drop_eq_nil_of_le (by omega)]; rfl)
        clear HC
        go_wp2_with fail
        refine (bad_any 3 _).mono ?_
        rintro e W3 ⟨rfl, rfl⟩
        go_wp2
        try rw [Exit.noGoto_ret]
        go_ret2
        refine ⟨?_, HBB.out⟩
        rw [need_out HX.out (by rw [HXK.out]; exact HT.out)]
        rfl
end Go.Proofs.YtdgcgogeidnmoaaGreatDoor
