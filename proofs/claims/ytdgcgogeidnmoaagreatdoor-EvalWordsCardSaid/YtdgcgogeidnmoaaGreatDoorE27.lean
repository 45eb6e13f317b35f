/- The walk of palaverlaw09.EvalWords, whole. Conditions: the tables hold what they are laid with; the number is an int64's. -/
import Derived.Test.YtdgcgogeidnmoaaGreatDoorE26
import Derived.Test.YtdgcgogeidnmoaaGreatDoorR1
set_option linter.unusedSimpArgs false
set_option linter.unusedVariables false
set_option linter.unusedSectionVars false
namespace Go.Proofs.YtdgcgogeidnmoaaGreatDoor
open Go.RowKit Pal
set_option maxRecDepth 1000000 in
set_option maxHeartbeats 8000000 in
theorem words_t400 (s t : ByteArray) (n : Int) (w : World) (hL : Lay (gh w)) (q1 : decide ((400:Int) < s.size) = false) (q2 : decide ((400:Int) < t.size) = true) :
    Calls Tryz.prog 15 #[.string s, .string t, .int .i64 n] w (yesPost w) := by
  have HAW := Lib.hid (fun w hL => awake9 w hL)
  have HL := Lib.hid hL
  clear hL
  go_enter Tryz.func15, Tryz.ntmps15
  go_wp2_with fail
  refine (HAW.out _ HL.out).mono ?_
  rintro r W3 ⟨rfl, hb5⟩
  go_wp2
  go_ret
  exact ⟨rfl, hb5⟩
set_option maxRecDepth 1000000 in
set_option maxHeartbeats 8000000 in
theorem words_no (s t : ByteArray) (n : Int) (b : Bool) (w : World) (hL : Lay (gh w)) (q1 : decide ((400:Int) < s.size) = false) (q2 : decide ((400:Int) < t.size) = false) (M1 : Hid (MayAt s b)) (M2 : Hid (b = true → MayAt t false)) :
    Calls Tryz.prog 15 #[.string s, .string t, .int .i64 n] w (yesPost w) := by
  have HAW := Lib.hid (fun W (hb : Below w.heap.size w W) => awake9 W (hL.below hb))
  clear hL
  cases b with
  | false =>
    clear M2
    go_enter Tryz.func15, Tryz.ntmps15
    go_wp2_with fail
    refine (M1.out _).mono ?_
    rintro r W1 ⟨rfl, hb⟩
    go_wp2_with fail
    refine (HAW.out _ hb).mono ?_
    rintro r W3 ⟨rfl, hb5⟩
    have hbx := hb.seq hb5
    clear hb hb5
    go_wp2
    go_ret
    exact ⟨rfl, hbx⟩
  | true =>
    have M3 := Lib.hid (M2.out rfl)
    clear M2
    go_enter Tryz.func15, Tryz.ntmps15
    go_wp2_with fail
    refine (M1.out _).mono ?_
    rintro r W1 ⟨rfl, hb⟩
    go_wp2_with fail
    refine (M3.out _).mono ?_
    rintro r W2 ⟨rfl, hb2⟩
    have hb3 := hb.seq hb2
    clear hb hb2
    go_wp2_with fail
    refine (HAW.out _ hb3).mono ?_
    rintro r W3 ⟨rfl, hb5⟩
    have hbx := hb3.seq hb5
    clear hb3 hb5
    go_wp2
    go_ret
    exact ⟨rfl, hbx⟩
theorem app_b9 (a b : Bs) : ((⟨a.toArray⟩ : ByteArray) ++ ⟨b.toArray⟩) = ⟨(a ++ b).toArray⟩ := by
  apply ByteArray.ext
  simp
theorem words_walk (s t : ByteArray) (n : Int) (w : World) (hL2 : Lay2 w) (hs : s.size ≤ 9223372036854775807) (ht : t.size ≤ 9223372036854775807) (hn : -9223372036854775808 ≤ n ∧ n ≤ 9223372036854775807) :
    Calls Tryz.prog 15 #[.string s, .string t, .int .i64 n] w (yesPost w) := by
  have hL := hL2.lay
  obtain ⟨S, rfl⟩ : ∃ S : Bs, s = ⟨S.toArray⟩ := ⟨s.data.toList, by simp⟩
  obtain ⟨T, rfl⟩ : ∃ T : Bs, t = ⟨T.toArray⟩ := ⟨t.data.toList, by simp⟩
  have es : (⟨S.toArray⟩ : ByteArray).size = S.length := mk_size S
  have et : (⟨T.toArray⟩ : ByteArray).size = T.length := mk_size T
  by_cases h1 : 400 < S.length
  · exact words_s400 S T n w hL (decide_eq_true (by omega))
  have q1 : decide ((400:Int) < (⟨S.toArray⟩ : ByteArray).size) = false := decide_eq_false (by omega)
  by_cases h2 : 400 < T.length
  · exact words_t400 _ _ n w hL q1 (decide_eq_true (by omega))
  have q2 : decide ((400:Int) < (⟨T.toArray⟩ : ByteArray).size) = false := decide_eq_false (by omega)
  have mS : ∀ b, textOk S = b → MayAt ⟨S.toArray⟩ b := fun b h w => by
    have := may_any S w (by omega)
    rw [h] at this
    exact this
  have mT : ∀ b, textOk T = b → MayAt ⟨T.toArray⟩ b := fun b h w => by
    have := may_any T w (by omega)
    rw [h] at this
    exact this
  cases hS : textOk S with
  | false => exact words_no _ _ n false w hL q1 q2 (Lib.hid (mS _ hS)) (Lib.hid (fun h => by cases h))
  | true =>
    cases hT : textOk T with
    | false => exact words_no _ _ n true w hL q1 q2 (Lib.hid (mS _ hS)) (Lib.hid (fun _ => mT _ hT))
    | true =>
      have tx : ∀ X : Bs, TextAt ⟨X.toArray⟩ := fun X w => text9_any X w
      have oS := textOk_iff hS
      have oT := textOk_iff hT
      obtain ⟨p1, p2⟩ := words_plain hS hT
      have aS : LenAt ⟨S.toArray⟩ (cnt S) := fun W h => ask_len hS W h
      have aT : LenAt ⟨T.toArray⟩ (cnt T) := fun W h => ask_len hT W h
      have hw : wrap64 ((cnt S : Int) + (cnt T : Int)) = (cnt S : Int) + (cnt T : Int) := wrap64_eq (by unfold R64; omega)
      by_cases hc : 100 < cnt S + cnt T
      · have aC : CatAt ⟨S.toArray⟩ ⟨T.toArray⟩ 4 4 ⟨#[]⟩ := fun W h => by
          have := ask_cat hS hT W h
          rw [p1 hc] at this
          exact this
        exact words_long _ _ n _ _ w hL q1 q2 (by rw [hw]; exact decide_eq_true (by omega)) (Lib.hid (mS _ hS)) (Lib.hid (mT _ hT)) (Lib.hid (tx S)) (Lib.hid (tx T)) (Lib.hid aS) (Lib.hid aT) (Lib.hid aC)
      · obtain ⟨p3, p4⟩ := p2 (by omega)
        have oC := textOk_app hS hT (by omega)
        have aC : CatAt ⟨S.toArray⟩ ⟨T.toArray⟩ 3 0 ⟨(S ++ T).toArray⟩ := fun W h => by
          have := ask_cat hS hT W h
          rw [p3] at this
          exact this
        have a4 : CutAt ⟨(S ++ T).toArray⟩ (cnt S) ⟨S.toArray⟩ := fun W kb nb vb h hk hn hv => by
          have := ask_cut oC (cnt S : Int) (by omega) W kb nb vb h hk hn hv
          rw [show ((cnt S : Int)).toNat = cnt S by omega, p4] at this
          exact this
        have a5 : CutAt ⟨S.toArray⟩ n ⟨(takeP n.toNat S).toArray⟩ := fun W kb nb vb h hk hn' hv => ask_cut hS n hn W kb nb vb h hk hn' hv
        have hp := words_pre n.toNat S
        have ey : (⟨(takeP n.toNat S).toArray⟩ : ByteArray).size = (takeP n.toNat S).length := mk_size _
        exact words_short _ _ n _ _ w hL q1 q2 (by rw [hw]; exact decide_eq_false (by omega)) _ _ (app_b9 S T) (by omega) (decide_eq_true (by omega)) (by omega)
          (bs_take _ _ _ (by rw [mk_list, ey]; exact hp.2)) (Lib.hid (mS _ hS)) (Lib.hid (mT _ hT)) (Lib.hid (tx S)) (Lib.hid (tx T)) (Lib.hid aS) (Lib.hid aT) (Lib.hid aC) (Lib.hid (tx _)) (Lib.hid a4) (Lib.hid a5)
end Go.Proofs.YtdgcgogeidnmoaaGreatDoor
