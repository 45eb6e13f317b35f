/- Chapter 1's Upper (this text is written by gen_upper.py). Condition: the number is a rune's. The walks of palaverref09.sum, product. Condition: both numbers are an int64's. The walks of palaverref01.Fold, Cut; palaverref09.bad, num, truth, text, name. Conditions: texts are not too long; for Fold each piece is a rune. The walk of palaverref09's want. Condition: the expression comes to what the plain law says. -/
import Derived.Test.YtfjpdphphieaoaaGreatDoorPl
import Derived.Handy
import Derived.Test.YtfjpdphphieaoaaGreatDoorEC
import Derived.IntWalk
import Derived.Test.YtfjpdphphieaoaaGreatDoorRJ
import Derived.Test.YtfjpdphphieaoaaGreatDoorRH
import Derived.Test.YtfjpdphphieaoaaGreatDoorE15
import Derived.Test.YtfjpdphphieaoaaGreatDoorRE
import Derived.Test.YtfjpdphphieaoaaGreatDoorR4
set_option linter.unusedSectionVars false
set_option linter.unusedSimpArgs false
set_option linter.unusedVariables false
namespace Go.Proofs.YtfjpdphphieaoaaGreatDoor
open Go.RowKit Pal
set_option maxRecDepth 1000000 in
theorem rupper_0 (r : Int) (w : World) (h1 : 0 ≤ r) (h2 : r ≤ 96) :
    Calls Tryz.prog 110 #[.int .i32 r] w fun e w' => e = .returned (.int .i32 (upr r)) ∧ w = w' := by
  have E : upr r = r := by
    unfold upr
    repeat' split
    all_goals omega
  rw [E]
  clear E
  have g97 : ¬ 97 ≤ r := by omega
  have g224 : ¬ 224 ≤ r := by omega
  have g945 : ¬ 945 ≤ r := by omega
  have g1072 : ¬ 1072 ≤ r := by omega
  have l122 : r ≤ 122 := by omega
  have l254 : r ≤ 254 := by omega
  have l969 : r ≤ 969 := by omega
  have l1103 : r ≤ 1103 := by omega
  have e962 : (r == 962) = false := beq_eq_false_iff_ne.2 (by omega)
  have m247 : (r != 247) = true := bne_iff_ne.2 (by omega)
  go_enter Tryz.func110,Tryz.ntmps110
  go_wp2
  go_ret
  exact ⟨rfl,rfl⟩
set_option maxRecDepth 1000000 in
theorem rupper_1 (r : Int) (w : World) (h1 : 97 ≤ r) (h2 : r ≤ 122) :
    Calls Tryz.prog 110 #[.int .i32 r] w fun e w' => e = .returned (.int .i32 (upr r)) ∧ w = w' := by
  have E : upr r = r - 32 := by
    unfold upr
    repeat' split
    all_goals omega
  rw [E]
  clear E
  have g97 : 97 ≤ r := by omega
  have g224 : ¬ 224 ≤ r := by omega
  have g945 : ¬ 945 ≤ r := by omega
  have g1072 : ¬ 1072 ≤ r := by omega
  have l122 : r ≤ 122 := by omega
  have l254 : r ≤ 254 := by omega
  have l969 : r ≤ 969 := by omega
  have l1103 : r ≤ 1103 := by omega
  have e962 : (r == 962) = false := beq_eq_false_iff_ne.2 (by omega)
  have m247 : (r != 247) = true := bne_iff_ne.2 (by omega)
  go_enter Tryz.func110,Tryz.ntmps110
  go_wp2
  go_ret
  exact ⟨rfl,rfl⟩
set_option maxRecDepth 1000000 in
theorem rupper_2 (r : Int) (w : World) (h1 : 123 ≤ r) (h2 : r ≤ 223) :
    Calls Tryz.prog 110 #[.int .i32 r] w fun e w' => e = .returned (.int .i32 (upr r)) ∧ w = w' := by
  have E : upr r = r := by
    unfold upr
    repeat' split
    all_goals omega
  rw [E]
  clear E
  have g97 : 97 ≤ r := by omega
  have g224 : ¬ 224 ≤ r := by omega
  have g945 : ¬ 945 ≤ r := by omega
  have g1072 : ¬ 1072 ≤ r := by omega
  have l122 : ¬ r ≤ 122 := by omega
  have l254 : r ≤ 254 := by omega
  have l969 : r ≤ 969 := by omega
  have l1103 : r ≤ 1103 := by omega
  have e962 : (r == 962) = false := beq_eq_false_iff_ne.2 (by omega)
  have m247 : (r != 247) = true := bne_iff_ne.2 (by omega)
  go_enter Tryz.func110,Tryz.ntmps110
  go_wp2
  go_ret
  exact ⟨rfl,rfl⟩
set_option maxRecDepth 1000000 in
theorem rupper_3 (r : Int) (w : World) (h1 : 224 ≤ r) (h2 : r ≤ 246) :
    Calls Tryz.prog 110 #[.int .i32 r] w fun e w' => e = .returned (.int .i32 (upr r)) ∧ w = w' := by
  have E : upr r = r - 32 := by
    unfold upr
    repeat' split
    all_goals omega
  rw [E]
  clear E
  have g97 : 97 ≤ r := by omega
  have g224 : 224 ≤ r := by omega
  have g945 : ¬ 945 ≤ r := by omega
  have g1072 : ¬ 1072 ≤ r := by omega
  have l122 : ¬ r ≤ 122 := by omega
  have l254 : r ≤ 254 := by omega
  have l969 : r ≤ 969 := by omega
  have l1103 : r ≤ 1103 := by omega
  have e962 : (r == 962) = false := beq_eq_false_iff_ne.2 (by omega)
  have m247 : (r != 247) = true := bne_iff_ne.2 (by omega)
  go_enter Tryz.func110,Tryz.ntmps110
  go_wp2
  go_ret
  exact ⟨rfl,rfl⟩
set_option maxRecDepth 1000000 in
theorem rupper_4 (r : Int) (w : World) (h1 : 247 ≤ r) (h2 : r ≤ 247) :
    Calls Tryz.prog 110 #[.int .i32 r] w fun e w' => e = .returned (.int .i32 (upr r)) ∧ w = w' := by
  have E : upr r = r := by
    unfold upr
    repeat' split
    all_goals omega
  rw [E]
  clear E
  obtain rfl : r = 247 := by omega
  clear h1 h2
  go_enter Tryz.func110,Tryz.ntmps110
  go_wp2
  go_ret
  exact ⟨rfl,rfl⟩
set_option maxRecDepth 1000000 in
theorem rupper_5 (r : Int) (w : World) (h1 : 248 ≤ r) (h2 : r ≤ 254) :
    Calls Tryz.prog 110 #[.int .i32 r] w fun e w' => e = .returned (.int .i32 (upr r)) ∧ w = w' := by
  have E : upr r = r - 32 := by
    unfold upr
    repeat' split
    all_goals omega
  rw [E]
  clear E
  have g97 : 97 ≤ r := by omega
  have g224 : 224 ≤ r := by omega
  have g945 : ¬ 945 ≤ r := by omega
  have g1072 : ¬ 1072 ≤ r := by omega
  have l122 : ¬ r ≤ 122 := by omega
  have l254 : r ≤ 254 := by omega
  have l969 : r ≤ 969 := by omega
  have l1103 : r ≤ 1103 := by omega
  have e962 : (r == 962) = false := beq_eq_false_iff_ne.2 (by omega)
  have m247 : (r != 247) = true := bne_iff_ne.2 (by omega)
  go_enter Tryz.func110,Tryz.ntmps110
  go_wp2
  go_ret
  exact ⟨rfl,rfl⟩
set_option maxRecDepth 1000000 in
theorem rupper_6 (r : Int) (w : World) (h1 : 255 ≤ r) (h2 : r ≤ 944) :
    Calls Tryz.prog 110 #[.int .i32 r] w fun e w' => e = .returned (.int .i32 (upr r)) ∧ w = w' := by
  have E : upr r = r := by
    unfold upr
    repeat' split
    all_goals omega
  rw [E]
  clear E
  have g97 : 97 ≤ r := by omega
  have g224 : 224 ≤ r := by omega
  have g945 : ¬ 945 ≤ r := by omega
  have g1072 : ¬ 1072 ≤ r := by omega
  have l122 : ¬ r ≤ 122 := by omega
  have l254 : ¬ r ≤ 254 := by omega
  have l969 : r ≤ 969 := by omega
  have l1103 : r ≤ 1103 := by omega
  have e962 : (r == 962) = false := beq_eq_false_iff_ne.2 (by omega)
  have m247 : (r != 247) = true := bne_iff_ne.2 (by omega)
  go_enter Tryz.func110,Tryz.ntmps110
  go_wp2
  go_ret
  exact ⟨rfl,rfl⟩
set_option maxRecDepth 1000000 in
theorem rupper_7 (r : Int) (w : World) (h1 : 945 ≤ r) (h2 : r ≤ 961) :
    Calls Tryz.prog 110 #[.int .i32 r] w fun e w' => e = .returned (.int .i32 (upr r)) ∧ w = w' := by
  have E : upr r = r - 32 := by
    unfold upr
    repeat' split
    all_goals omega
  rw [E]
  clear E
  have g97 : 97 ≤ r := by omega
  have g224 : 224 ≤ r := by omega
  have g945 : 945 ≤ r := by omega
  have g1072 : ¬ 1072 ≤ r := by omega
  have l122 : ¬ r ≤ 122 := by omega
  have l254 : ¬ r ≤ 254 := by omega
  have l969 : r ≤ 969 := by omega
  have l1103 : r ≤ 1103 := by omega
  have e962 : (r == 962) = false := beq_eq_false_iff_ne.2 (by omega)
  have m247 : (r != 247) = true := bne_iff_ne.2 (by omega)
  go_enter Tryz.func110,Tryz.ntmps110
  go_wp2
  go_ret
  exact ⟨rfl,rfl⟩
set_option maxRecDepth 1000000 in
theorem rupper_8 (r : Int) (w : World) (h1 : 962 ≤ r) (h2 : r ≤ 962) :
    Calls Tryz.prog 110 #[.int .i32 r] w fun e w' => e = .returned (.int .i32 (upr r)) ∧ w = w' := by
  have E : upr r = 931 := by
    unfold upr
    repeat' split
    all_goals omega
  rw [E]
  clear E
  obtain rfl : r = 962 := by omega
  clear h1 h2
  go_enter Tryz.func110,Tryz.ntmps110
  go_wp2
  go_ret
  exact ⟨rfl,rfl⟩
set_option maxRecDepth 1000000 in
theorem rupper_9 (r : Int) (w : World) (h1 : 963 ≤ r) (h2 : r ≤ 969) :
    Calls Tryz.prog 110 #[.int .i32 r] w fun e w' => e = .returned (.int .i32 (upr r)) ∧ w = w' := by
  have E : upr r = r - 32 := by
    unfold upr
    repeat' split
    all_goals omega
  rw [E]
  clear E
  have g97 : 97 ≤ r := by omega
  have g224 : 224 ≤ r := by omega
  have g945 : 945 ≤ r := by omega
  have g1072 : ¬ 1072 ≤ r := by omega
  have l122 : ¬ r ≤ 122 := by omega
  have l254 : ¬ r ≤ 254 := by omega
  have l969 : r ≤ 969 := by omega
  have l1103 : r ≤ 1103 := by omega
  have e962 : (r == 962) = false := beq_eq_false_iff_ne.2 (by omega)
  have m247 : (r != 247) = true := bne_iff_ne.2 (by omega)
  go_enter Tryz.func110,Tryz.ntmps110
  go_wp2
  go_ret
  exact ⟨rfl,rfl⟩
set_option maxRecDepth 1000000 in
theorem rupper_10 (r : Int) (w : World) (h1 : 970 ≤ r) (h2 : r ≤ 1071) :
    Calls Tryz.prog 110 #[.int .i32 r] w fun e w' => e = .returned (.int .i32 (upr r)) ∧ w = w' := by
  have E : upr r = r := by
    unfold upr
    repeat' split
    all_goals omega
  rw [E]
  clear E
  have g97 : 97 ≤ r := by omega
  have g224 : 224 ≤ r := by omega
  have g945 : 945 ≤ r := by omega
  have g1072 : ¬ 1072 ≤ r := by omega
  have l122 : ¬ r ≤ 122 := by omega
  have l254 : ¬ r ≤ 254 := by omega
  have l969 : ¬ r ≤ 969 := by omega
  have l1103 : r ≤ 1103 := by omega
  have e962 : (r == 962) = false := beq_eq_false_iff_ne.2 (by omega)
  have m247 : (r != 247) = true := bne_iff_ne.2 (by omega)
  go_enter Tryz.func110,Tryz.ntmps110
  go_wp2
  go_ret
  exact ⟨rfl,rfl⟩
set_option maxRecDepth 1000000 in
theorem rupper_11 (r : Int) (w : World) (h1 : 1072 ≤ r) (h2 : r ≤ 1103) :
    Calls Tryz.prog 110 #[.int .i32 r] w fun e w' => e = .returned (.int .i32 (upr r)) ∧ w = w' := by
  have E : upr r = r - 32 := by
    unfold upr
    repeat' split
    all_goals omega
  rw [E]
  clear E
  have g97 : 97 ≤ r := by omega
  have g224 : 224 ≤ r := by omega
  have g945 : 945 ≤ r := by omega
  have g1072 : 1072 ≤ r := by omega
  have l122 : ¬ r ≤ 122 := by omega
  have l254 : ¬ r ≤ 254 := by omega
  have l969 : ¬ r ≤ 969 := by omega
  have l1103 : r ≤ 1103 := by omega
  have e962 : (r == 962) = false := beq_eq_false_iff_ne.2 (by omega)
  have m247 : (r != 247) = true := bne_iff_ne.2 (by omega)
  go_enter Tryz.func110,Tryz.ntmps110
  go_wp2
  go_ret
  exact ⟨rfl,rfl⟩
set_option maxRecDepth 1000000 in
theorem rupper_12 (r : Int) (w : World) (h1 : 1104 ≤ r) (h2 : r ≤ 1114111) :
    Calls Tryz.prog 110 #[.int .i32 r] w fun e w' => e = .returned (.int .i32 (upr r)) ∧ w = w' := by
  have E : upr r = r := by
    unfold upr
    repeat' split
    all_goals omega
  rw [E]
  clear E
  have g97 : 97 ≤ r := by omega
  have g224 : 224 ≤ r := by omega
  have g945 : 945 ≤ r := by omega
  have g1072 : 1072 ≤ r := by omega
  have l122 : ¬ r ≤ 122 := by omega
  have l254 : ¬ r ≤ 254 := by omega
  have l969 : ¬ r ≤ 969 := by omega
  have l1103 : ¬ r ≤ 1103 := by omega
  have e962 : (r == 962) = false := beq_eq_false_iff_ne.2 (by omega)
  have m247 : (r != 247) = true := bne_iff_ne.2 (by omega)
  go_enter Tryz.func110,Tryz.ntmps110
  go_wp2
  go_ret
  exact ⟨rfl,rfl⟩
theorem rupper_any (r : Int) (w : World) (hr : 0 ≤ r ∧ r ≤ 1114111) :
    Calls Tryz.prog 110 #[.int .i32 r] w fun e w' => e = .returned (.int .i32 (upr r)) ∧ w = w' := by
  by_cases c0 : 0 ≤ r ∧ r ≤ 96
  · exact rupper_0 r w c0.1 c0.2
  by_cases c1 : 97 ≤ r ∧ r ≤ 122
  · exact rupper_1 r w c1.1 c1.2
  by_cases c2 : 123 ≤ r ∧ r ≤ 223
  · exact rupper_2 r w c2.1 c2.2
  by_cases c3 : 224 ≤ r ∧ r ≤ 246
  · exact rupper_3 r w c3.1 c3.2
  by_cases c4 : 247 ≤ r ∧ r ≤ 247
  · exact rupper_4 r w c4.1 c4.2
  by_cases c5 : 248 ≤ r ∧ r ≤ 254
  · exact rupper_5 r w c5.1 c5.2
  by_cases c6 : 255 ≤ r ∧ r ≤ 944
  · exact rupper_6 r w c6.1 c6.2
  by_cases c7 : 945 ≤ r ∧ r ≤ 961
  · exact rupper_7 r w c7.1 c7.2
  by_cases c8 : 962 ≤ r ∧ r ≤ 962
  · exact rupper_8 r w c8.1 c8.2
  by_cases c9 : 963 ≤ r ∧ r ≤ 969
  · exact rupper_9 r w c9.1 c9.2
  by_cases c10 : 970 ≤ r ∧ r ≤ 1071
  · exact rupper_10 r w c10.1 c10.2
  by_cases c11 : 1072 ≤ r ∧ r ≤ 1103
  · exact rupper_11 r w c11.1 c11.2
  by_cases c12 : 1104 ≤ r ∧ r ≤ 1114111
  · exact rupper_12 r w c12.1 c12.2
  omega
end Go.Proofs.YtfjpdphphieaoaaGreatDoor
namespace Go.Proofs.YtfjpdphphieaoaaGreatDoor
open Go.RowKit Pal
theorem sum_law {a b : Int} (ha : R64 a) (hb : R64 b) : (decide (0 ≤ b) == decide (a ≤ wrap64 (a + b))) = decide (R64 (a + b)) := by
  rw [Bool.eq_iff_iff,beq_iff_eq,Bool.eq_iff_iff,decide_eq_true_iff,decide_eq_true_iff,decide_eq_true_iff]
  unfold wrap64 R64 at *
  omega
def fit2Post (x : Int) (w : World) (e : Ending) (w' : World) : Prop := e = .returned (.tuple #[.int .i64 (wrap64 x),.bool (decide (R64 x))]) ∧ w = w'
set_option maxRecDepth 1000000 in
theorem jsum_any (a b : Int) (w : World) (ha : R64 a) (hb : R64 b) : Calls Tryz.prog 83 #[.int .i64 a,.int .i64 b] w (fit2Post (a + b) w) := by
  have HF := Lib.hid (sum_law ha hb)
  clear ha hb
  unfold fit2Post
  rw [← HF.out]
  go_enter Tryz.func83,Tryz.ntmps83
  go_wp2
  go_ret2
  exact ⟨rfl,rfl⟩
def prodPost (a b : Int) (w : World) (e : Ending) (w' : World) : Prop := ∃ c : Int,e = .returned (.tuple #[.int .i64 c,.bool (decide (R64 (a * b)))]) ∧ (R64 (a * b) → c = a * b) ∧ w = w'
set_option maxRecDepth 1000000 in
set_option maxHeartbeats 4000000 in
theorem jprod_nn (a b : Int) (w : World) (ha : R64 a) (hb : R64 b) (s1 : ¬ a < 0) (s2 : ¬ b < 0) : Calls Tryz.prog 82 #[.int .i64 a,.int .i64 b] w (prodPost a b w) := by
  have ha' := ha
  have hb' := hb
  unfold R64 at ha' hb'
  have x0 : 0 ≤ a ∧ a ≤ 9223372036854775808 := by unfold R64 at ha; omega
  have y0 : 0 ≤ b ∧ b ≤ 9223372036854775808 := by unfold R64 at hb; omega
  have hab : a * b = a * b := rfl
  have hp0 : 0 ≤ a * b := Int.mul_nonneg x0.1 y0.1
  have hz : a = 0 → a * b = 0 := fun h => by rw [h,Int.zero_mul]
  have hq : 0 < a → (b ≤ 9223372036854775808 / a ↔ a * b ≤ 9223372036854775808) := fun h => by rw [Int.le_ediv_iff_mul_le h,Int.mul_comm]
  by_cases hbig : a ≠ 0 ∧ 9223372036854775808 / a < b
  · have hn : decide (R64 (a * b)) = false := decide_eq_false (by
      have := hq (by omega)
      generalize a * b = P at *
      unfold R64
      rw [hab]
      omega)
    have HN := Lib.hid hn
    have HR : Hid (¬ R64 (a * b)) := Lib.hid (of_decide_eq_false hn)
    have q1 : (a != 0) = true := bne_iff_ne.2 hbig.1
    have q2 := hbig.2
    have q0 : ¬ a = 0 := hbig.1
    clear hn hbig hq hz hp0 hab
    go_enter Tryz.func82,Tryz.ntmps82
    go_wp2
    go_ret2
    exact ⟨0,by rw [HN.out]; rfl,fun h => absurd h HR.out,rfl⟩
  · have hle : a * b ≤ 9223372036854775808 := by
      by_cases h0 : a = 0
      · rw [hz h0]; decide
      · exact (hq (by omega)).1 (by
          apply Classical.byContradiction
          intro h
          exact hbig ⟨h0,by omega⟩)
    obtain ⟨P,hP⟩ : ∃ P,a * b = P := ⟨_,rfl⟩
    rw [hP] at hle hp0
    have hab : a * b = P := by rw [hab,hP]
    have P1 : IntKind.u64.wrap (a * b) = P := by rw [hP,IntKind.wrap_u64]; omega
    have hyes : decide (P < 9223372036854775808) = decide (R64 (a * b)) := by
      rw [Bool.eq_iff_iff,decide_eq_true_iff,decide_eq_true_iff]; unfold R64; rw [hab]; omega
    have HY := Lib.hid hyes
    have HC : Hid (R64 (a * b) → wrap64 P = a * b) := Lib.hid (fun h => by unfold R64 at h; rw [hab] at h ⊢; unfold wrap64; omega)
    clear hyes
    have hcase : (a != 0) = false ∨ ((a != 0) = true ∧ ¬ a = 0 ∧ ¬ 9223372036854775808 / a < b) := by
      by_cases h0 : a = 0
      · exact .inl (by rw [h0]; rfl)
      · exact .inr ⟨bne_iff_ne.2 h0,h0,fun h => hbig ⟨h0,h⟩⟩
    clear hbig hq hz hp0 hab hle hP
    rcases hcase with q1 | ⟨q1,q0,q2⟩
    all_goals
      go_enter Tryz.func82,Tryz.ntmps82
      go_wp2
      go_ret2
      exact ⟨_,by rw [← HY.out]; rfl,HC.out,rfl⟩
set_option maxRecDepth 1000000 in
set_option maxHeartbeats 4000000 in
theorem jprod_np (a b : Int) (w : World) (ha : R64 a) (hb : R64 b) (s1 : ¬ a < 0) (s2 : b < 0) : Calls Tryz.prog 82 #[.int .i64 a,.int .i64 b] w (prodPost a b w) := by
  have ha' := ha
  have hb' := hb
  unfold R64 at ha' hb'
  have x0 : 0 ≤ a ∧ a ≤ 9223372036854775808 := by unfold R64 at ha; omega
  obtain ⟨y,hy⟩ : ∃ y,y = -b := ⟨_,rfl⟩
  have Y1 : IntKind.u64.wrap (-IntKind.u64.wrap b) = y := by rw [IntKind.wrap_u64,IntKind.wrap_u64]; unfold R64 at hb; omega
  have y0 : 0 ≤ y ∧ y ≤ 9223372036854775808 := by unfold R64 at hb; omega
  have hsb : b = -y := by omega
  have hab : a * b = -(a * y) := by rw [hsb,Int.mul_neg]
  have hp0 : 0 ≤ a * y := Int.mul_nonneg x0.1 y0.1
  have hz : a = 0 → a * y = 0 := fun h => by rw [h,Int.zero_mul]
  have hq : 0 < a → (y ≤ 9223372036854775808 / a ↔ a * y ≤ 9223372036854775808) := fun h => by rw [Int.le_ediv_iff_mul_le h,Int.mul_comm]
  by_cases hbig : a ≠ 0 ∧ 9223372036854775808 / a < y
  · have hn : decide (R64 (a * b)) = false := decide_eq_false (by
      have := hq (by omega)
      generalize a * y = P at *
      unfold R64
      rw [hab]
      omega)
    have HN := Lib.hid hn
    have HR : Hid (¬ R64 (a * b)) := Lib.hid (of_decide_eq_false hn)
    have q1 : (a != 0) = true := bne_iff_ne.2 hbig.1
    have q2 := hbig.2
    have q0 : ¬ a = 0 := hbig.1
    clear hn hbig hq hz hp0 hab hsb hy
    go_enter Tryz.func82,Tryz.ntmps82
    go_wp2
    go_ret2
    exact ⟨0,by rw [HN.out]; rfl,fun h => absurd h HR.out,rfl⟩
  · have hle : a * y ≤ 9223372036854775808 := by
      by_cases h0 : a = 0
      · rw [hz h0]; decide
      · exact (hq (by omega)).1 (by
          apply Classical.byContradiction
          intro h
          exact hbig ⟨h0,by omega⟩)
    obtain ⟨P,hP⟩ : ∃ P,a * y = P := ⟨_,rfl⟩
    rw [hP] at hle hp0
    have hab : a * b = -P := by rw [hab,hP]
    have P1 : IntKind.u64.wrap (a * y) = P := by rw [hP,IntKind.wrap_u64]; omega
    have P2 : IntKind.u64.wrap (-P) = (-P) % 18446744073709551616 := IntKind.wrap_u64 _
    have hyes : decide (R64 (a * b)) = true := decide_eq_true (by unfold R64; rw [hab]; omega)
    have HY := Lib.hid hyes
    have HC : Hid (wrap64 (IntKind.u64.wrap (-P)) = a * b) := Lib.hid (by rw [P2,hab]; unfold wrap64; omega)
    have q3 : P ≤ 9223372036854775808 := hle
    clear P2 hyes
    have hcase : (a != 0) = false ∨ ((a != 0) = true ∧ ¬ a = 0 ∧ ¬ 9223372036854775808 / a < y) := by
      by_cases h0 : a = 0
      · exact .inl (by rw [h0]; rfl)
      · exact .inr ⟨bne_iff_ne.2 h0,h0,fun h => hbig ⟨h0,h⟩⟩
    clear hbig hq hz hp0 hab hle hP hsb hy
    rcases hcase with q1 | ⟨q1,q0,q2⟩
    all_goals
      go_enter Tryz.func82,Tryz.ntmps82
      go_wp2
      go_ret2
      exact ⟨_,by rw [HY.out]; rfl,fun _ => HC.out,rfl⟩
set_option maxRecDepth 1000000 in
set_option maxHeartbeats 4000000 in
theorem jprod_pn (a b : Int) (w : World) (ha : R64 a) (hb : R64 b) (s1 : a < 0) (s2 : ¬ b < 0) : Calls Tryz.prog 82 #[.int .i64 a,.int .i64 b] w (prodPost a b w) := by
  have ha' := ha
  have hb' := hb
  unfold R64 at ha' hb'
  obtain ⟨x,hx⟩ : ∃ x,x = -a := ⟨_,rfl⟩
  have X1 : IntKind.u64.wrap (-IntKind.u64.wrap a) = x := by rw [IntKind.wrap_u64,IntKind.wrap_u64]; unfold R64 at ha; omega
  have x0 : 0 ≤ x ∧ x ≤ 9223372036854775808 := by unfold R64 at ha; omega
  have HX : Hid (a = -x) := Lib.hid (by omega)
  have hsa : a = -x := by omega
  have y0 : 0 ≤ b ∧ b ≤ 9223372036854775808 := by unfold R64 at hb; omega
  have hab : a * b = -(x * b) := by rw [hsa,Int.neg_mul]
  have hp0 : 0 ≤ x * b := Int.mul_nonneg x0.1 y0.1
  have hz : x = 0 → x * b = 0 := fun h => by rw [h,Int.zero_mul]
  have hq : 0 < x → (b ≤ 9223372036854775808 / x ↔ x * b ≤ 9223372036854775808) := fun h => by rw [Int.le_ediv_iff_mul_le h,Int.mul_comm]
  by_cases hbig : x ≠ 0 ∧ 9223372036854775808 / x < b
  · have hn : decide (R64 (a * b)) = false := decide_eq_false (by
      have := hq (by omega)
      generalize x * b = P at *
      unfold R64
      rw [hab]
      omega)
    have HN := Lib.hid hn
    have HR : Hid (¬ R64 (a * b)) := Lib.hid (of_decide_eq_false hn)
    have q1 : (x != 0) = true := bne_iff_ne.2 hbig.1
    have q2 := hbig.2
    have q0 : ¬ x = 0 := hbig.1
    clear hn hbig hq hz hp0 hab hsa hx HX
    go_enter Tryz.func82,Tryz.ntmps82
    go_wp2
    go_ret2
    exact ⟨0,by rw [HN.out]; rfl,fun h => absurd h HR.out,rfl⟩
  · have hle : x * b ≤ 9223372036854775808 := by
      by_cases h0 : x = 0
      · rw [hz h0]; decide
      · exact (hq (by omega)).1 (by
          apply Classical.byContradiction
          intro h
          exact hbig ⟨h0,by omega⟩)
    obtain ⟨P,hP⟩ : ∃ P,x * b = P := ⟨_,rfl⟩
    rw [hP] at hle hp0
    have hab : a * b = -P := by rw [hab,hP]
    have P1 : IntKind.u64.wrap (x * b) = P := by rw [hP,IntKind.wrap_u64]; omega
    have P2 : IntKind.u64.wrap (-P) = (-P) % 18446744073709551616 := IntKind.wrap_u64 _
    have hyes : decide (R64 (a * b)) = true := decide_eq_true (by unfold R64; rw [hab]; omega)
    have HY := Lib.hid hyes
    have HC : Hid (wrap64 (IntKind.u64.wrap (-P)) = a * b) := Lib.hid (by rw [P2,hab]; unfold wrap64; omega)
    have q3 : P ≤ 9223372036854775808 := hle
    clear P2 hyes
    have hcase : (x != 0) = false ∨ ((x != 0) = true ∧ ¬ x = 0 ∧ ¬ 9223372036854775808 / x < b) := by
      by_cases h0 : x = 0
      · exact .inl (by rw [h0]; rfl)
      · exact .inr ⟨bne_iff_ne.2 h0,h0,fun h => hbig ⟨h0,h⟩⟩
    clear hbig hq hz hp0 hab hle hP hsa hx HX
    rcases hcase with q1 | ⟨q1,q0,q2⟩
    all_goals
      go_enter Tryz.func82,Tryz.ntmps82
      go_wp2
      go_ret2
      exact ⟨_,by rw [HY.out]; rfl,fun _ => HC.out,rfl⟩
set_option maxRecDepth 1000000 in
set_option maxHeartbeats 4000000 in
theorem jprod_pp (a b : Int) (w : World) (ha : R64 a) (hb : R64 b) (s1 : a < 0) (s2 : b < 0) : Calls Tryz.prog 82 #[.int .i64 a,.int .i64 b] w (prodPost a b w) := by
  have ha' := ha
  have hb' := hb
  unfold R64 at ha' hb'
  obtain ⟨x,hx⟩ : ∃ x,x = -a := ⟨_,rfl⟩
  have X1 : IntKind.u64.wrap (-IntKind.u64.wrap a) = x := by rw [IntKind.wrap_u64,IntKind.wrap_u64]; unfold R64 at ha; omega
  have x0 : 0 ≤ x ∧ x ≤ 9223372036854775808 := by unfold R64 at ha; omega
  have HX : Hid (a = -x) := Lib.hid (by omega)
  have hsa : a = -x := by omega
  obtain ⟨y,hy⟩ : ∃ y,y = -b := ⟨_,rfl⟩
  have Y1 : IntKind.u64.wrap (-IntKind.u64.wrap b) = y := by rw [IntKind.wrap_u64,IntKind.wrap_u64]; unfold R64 at hb; omega
  have y0 : 0 ≤ y ∧ y ≤ 9223372036854775808 := by unfold R64 at hb; omega
  have hsb : b = -y := by omega
  have hab : a * b = x * y := by rw [hsa,hsb,Int.neg_mul_neg]
  have hp0 : 0 ≤ x * y := Int.mul_nonneg x0.1 y0.1
  have hz : x = 0 → x * y = 0 := fun h => by rw [h,Int.zero_mul]
  have hq : 0 < x → (y ≤ 9223372036854775808 / x ↔ x * y ≤ 9223372036854775808) := fun h => by rw [Int.le_ediv_iff_mul_le h,Int.mul_comm]
  by_cases hbig : x ≠ 0 ∧ 9223372036854775808 / x < y
  · have hn : decide (R64 (a * b)) = false := decide_eq_false (by
      have := hq (by omega)
      generalize x * y = P at *
      unfold R64
      rw [hab]
      omega)
    have HN := Lib.hid hn
    have HR : Hid (¬ R64 (a * b)) := Lib.hid (of_decide_eq_false hn)
    have q1 : (x != 0) = true := bne_iff_ne.2 hbig.1
    have q2 := hbig.2
    have q0 : ¬ x = 0 := hbig.1
    clear hn hbig hq hz hp0 hab hsa hx HX hsb hy
    go_enter Tryz.func82,Tryz.ntmps82
    go_wp2
    go_ret2
    exact ⟨0,by rw [HN.out]; rfl,fun h => absurd h HR.out,rfl⟩
  · have hle : x * y ≤ 9223372036854775808 := by
      by_cases h0 : x = 0
      · rw [hz h0]; decide
      · exact (hq (by omega)).1 (by
          apply Classical.byContradiction
          intro h
          exact hbig ⟨h0,by omega⟩)
    obtain ⟨P,hP⟩ : ∃ P,x * y = P := ⟨_,rfl⟩
    rw [hP] at hle hp0
    have hab : a * b = P := by rw [hab,hP]
    have P1 : IntKind.u64.wrap (x * y) = P := by rw [hP,IntKind.wrap_u64]; omega
    have hyes : decide (P < 9223372036854775808) = decide (R64 (a * b)) := by
      rw [Bool.eq_iff_iff,decide_eq_true_iff,decide_eq_true_iff]; unfold R64; rw [hab]; omega
    have HY := Lib.hid hyes
    have HC : Hid (R64 (a * b) → wrap64 P = a * b) := Lib.hid (fun h => by unfold R64 at h; rw [hab] at h ⊢; unfold wrap64; omega)
    clear hyes
    have hcase : (x != 0) = false ∨ ((x != 0) = true ∧ ¬ x = 0 ∧ ¬ 9223372036854775808 / x < y) := by
      by_cases h0 : x = 0
      · exact .inl (by rw [h0]; rfl)
      · exact .inr ⟨bne_iff_ne.2 h0,h0,fun h => hbig ⟨h0,h⟩⟩
    clear hbig hq hz hp0 hab hle hP hsa hx HX hsb hy
    rcases hcase with q1 | ⟨q1,q0,q2⟩
    all_goals
      go_enter Tryz.func82,Tryz.ntmps82
      go_wp2
      go_ret2
      exact ⟨_,by rw [← HY.out]; rfl,HC.out,rfl⟩
theorem jprod_any (a b : Int) (w : World) (ha : R64 a) (hb : R64 b) : Calls Tryz.prog 82 #[.int .i64 a,.int .i64 b] w (prodPost a b w) := by
  by_cases s1 : a < 0 <;> by_cases s2 : b < 0
  · exact jprod_pp a b w ha hb s1 s2
  · exact jprod_pn a b w ha hb s1 s2
  · exact jprod_np a b w ha hb s1 s2
  · exact jprod_nn a b w ha hb s1 s2
end Go.Proofs.YtfjpdphphieaoaaGreatDoor
namespace Go.Proofs.YtfjpdphphieaoaaGreatDoor
open Go.RowKit Pal
set_option maxRecDepth 1000000 in
theorem jbad_any (n : Int) (w : World) : Calls Tryz.prog 77 #[.int .i64 n] w (valPost (vBad n) w) := by
  go_enter Tryz.func77,Tryz.ntmps77
  go_wp2
  have hh := three_all (heap_alloc_new w (.cells #[.int .i64 4,.int .i64 n,.string ⟨#[]⟩] 33))
  refine bodyPost_ret (v := valV (vBad n)) (by simp [results,Tryz.results77,go_sem,valV,strV,vBad,hh.1]) rfl ⟨rfl,(Below.refl _ _).alloc (Nat.le_refl _) _⟩
set_option maxRecDepth 1000000 in
theorem jnum_any (n : Int) (w : World) : Calls Tryz.prog 40 #[.int .i64 n] w (valPost (vInt n) w) := by
  go_enter Tryz.func40,Tryz.ntmps40
  go_wp2
  have hh := three_all (heap_alloc_new w (.cells #[.int .i64 1,.int .i64 n,.string ⟨#[]⟩] 33))
  refine bodyPost_ret (v := valV (vInt n)) (by simp [results,Tryz.results40,go_sem,valV,strV,vInt,hh.1]) rfl ⟨rfl,(Below.refl _ _).alloc (Nat.le_refl _) _⟩
set_option maxRecDepth 1000000 in
theorem jtruth_any (b : Bool) (w : World) : Calls Tryz.prog 41 #[.bool b] w (valPost (vBool b) w) := by
  cases b
  · go_enter Tryz.func41,Tryz.ntmps41
    go_wp2
    have hh := three_all (heap_alloc_new w (.cells #[.int .i64 2,.int .i64 0,.string ⟨#[]⟩] 33))
    refine bodyPost_ret (v := valV (vBool false)) (by simp [results,Tryz.results41,go_sem,valV,strV,vBool,hh.1]) rfl ⟨rfl,(Below.refl _ _).alloc (Nat.le_refl _) _⟩
  · go_enter Tryz.func41,Tryz.ntmps41
    go_wp2
    have hh := three_all (heap_alloc_new w (.cells #[.int .i64 2,.int .i64 1,.string ⟨#[]⟩] 33))
    refine bodyPost_ret (v := valV (vBool true)) (by simp [results,Tryz.results41,go_sem,valV,strV,vBool,hh.1]) rfl ⟨rfl,(Below.refl _ _).alloc (Nat.le_refl _) _⟩
set_option maxRecDepth 1000000 in
set_option maxHeartbeats 2000000 in
theorem jtext_any (s : Bs) (w : World) (hs : s.length ≤ 1000000) : Calls Tryz.prog 79 #[strV s] w (valPost (longM s) w) := by
  have hsz : (⟨s.toArray⟩ : ByteArray).size = s.length := by simp [ByteArray.size]
  have hd : (⟨s.toArray⟩ : ByteArray).data.toList = s := by simp
  have hc := fun W => refCount_any ⟨s.toArray⟩ W (by omega)
  simp only [hd] at hc
  have HC := Lib.hid hc
  have HB := Lib.hid (fun W => jbad_any 4 W)
  have hz := heap_alloc_new w (.cells #[.int .i64 0,.int .i64 0,.string ⟨#[]⟩] 33)
  have HZ := Lib.hid hz
  have HB0 := Lib.hid ((Below.refl w.heap.size w).alloc (Nat.le_refl _) (.cells #[.int .i64 0,.int .i64 0,.string ⟨#[]⟩] 33))
  have HLT : Hid (w.heap.size < (w.alloc (.cells #[.int .i64 0,.int .i64 0,.string ⟨#[]⟩] 33)).heap.size) := Lib.hid (by simp)
  have HL : Hid (longM s = if 100 < cnt s then vBad 4 else vText s) := Lib.hid rfl
  unfold strV
  generalize longM s = R at *
  obtain ⟨n,hn⟩ : ∃ n,cnt s = n := ⟨_,rfl⟩
  rw [hn] at HC HL
  clear hc hsz hd hz hn
  go_enter Tryz.func79,Tryz.ntmps79
  go_wp2_with fail
  refine (HC.out _).mono ?_
  generalize w.alloc (.cells #[.int .i64 0,.int .i64 0,.string ⟨#[]⟩] 33) = W0 at *
  rintro r W1 ⟨rfl,hb⟩
  have HZ1 := Lib.hid ((hb.block _ HLT.out).trans HZ.out)
  have HB1 := Lib.hid (HB0.out.seq hb)
  clear hb
  by_cases h : 100 < n
  · have HR : Hid (R = vBad 4) := Lib.hid (by rw [HL.out,if_pos h])
    go_wp2_with fail
    refine (HB.out _).mono ?_
    rintro r W2 ⟨rfl,hb⟩
    have hz2 := (hb.block _ (Array.getElem?_eq_some_iff.1 HZ1.out).1).trans HZ1.out
    have HZ2 := Lib.hid hz2
    have HB2 := Lib.hid (HB1.out.seq hb)
    obtain ⟨⟨c0,c1,c2⟩,f0,f1,f2⟩ := three_all hz2
    clear hb hz2
    unfold valV strV vBad
    go_wp2
    have hh := three_all (set3_heap HZ2.out (.int .i64 4) (.int .i64 4) (.string ⟨#[]⟩))
    refine bodyPost_ret (v := valV (vBad 4)) (by simp [results,Tryz.results79,go_sem,valV,strV,vBad,hh.1]) rfl ⟨by rw [HR.out],below_set3 HB2.out (Nat.le_refl _) _ _ _⟩
  · have HR : Hid (R = vText s) := Lib.hid (by rw [HL.out,if_neg h])
    obtain ⟨⟨c0,c1,c2⟩,f0,f1,f2⟩ := three_all HZ1.out
    go_wp2
    have hh := three_all (set3_heap HZ1.out (.int .i64 3) (.int .i64 0) (.string ⟨s.toArray⟩))
    refine bodyPost_ret (v := valV (vText s)) (by simp [results,Tryz.results79,go_sem,valV,strV,vText,hh.1]) rfl ⟨by rw [HR.out],below_set3 HB1.out (Nat.le_refl _) _ _ _⟩
/-- Where n pieces end. -/
theorem takeP_at {l : Bs} : ∀ {k p : Nat},AtP l k p → takeP k l = l.take p := by
  intro k p h
  have key : ∀ (n : Nat) {k p : Nat},AtP l k p → takeP (k + n) l = l.take p ++ takeP n (l.drop p) := by
    intro n k p h
    induction h generalizing n with
    | zero => simp
    | @step k p h hp ih =>
      rw [show k + 1 + n = k + (n + 1) by omega,ih,takeP_go (drop_ne hp),← List.append_assoc,List.drop_drop,← List.take_add]
  have := key 0 h
  rw [Nat.add_zero] at this
  rw [this]
  simp [takeP]
theorem AtP.exists_at {l : Bs} : ∀ k,k ≤ cnt l → ∃ p,AtP l k p := by
  intro k
  induction k with
  | zero => intro _; exact ⟨0,.zero⟩
  | succ k ih =>
    intro hk
    obtain ⟨p,hp⟩ := ih (by omega)
    exact ⟨_,.step hp ((hp.lt).1 (by omega))⟩
theorem takeP_over : ∀ (n : Nat) (l : Bs),cnt l ≤ n → takeP n l = l := by
  intro n
  induction n with
  | zero =>
    intro l h
    by_cases hn : l = []
    · subst hn; exact takeP_nil 0
    · rw [cnt_cons hn] at h; omega
  | succ n ih =>
    intro l h
    by_cases hn : l = []
    · subst hn; exact takeP_nil _
    · rw [takeP_go hn,ih _ (by rw [cnt_cons hn] at h; omega),List.take_append_drop]
set_option maxRecDepth 1000000 in
set_option maxHeartbeats 2000000 in
theorem refCut_any (s : Bs) (n : Nat) (w : World) (hs : s.length ≤ 1000000) (hn : n ≤ 1000000) : Calls Tryz.prog 81 #[strV s,.int .i64 n] w (strRet (takeP n s) w) := by
  have hsz : (⟨s.toArray⟩ : ByteArray).size = s.length := by simp [ByteArray.size]
  have hd : (⟨s.toArray⟩ : ByteArray).data.toList = s := by simp
  have hp := fun W => pieces_any ⟨s.toArray⟩ W (by omega)
  unfold piecesPost at hp
  simp only [hd] at hp
  have HP := Lib.hid hp
  obtain ⟨R,hR⟩ : ∃ R,takeP n s = R := ⟨_,rfl⟩
  rw [hR]
  unfold strV
  by_cases h0 : n < 1
  · obtain rfl : n = 0 := by omega
    have HR : Hid (R = []) := Lib.hid (by rw [← hR]; simp [takeP])
    clear hp hR hsz hd hn h0
    go_enter Tryz.func81,Tryz.ntmps81
    go_wp2_with fail
    refine (HP.out _).mono ?_
    rintro r W ⟨hb,v,rfl,hv⟩
    go_wp2
    go_ret
    exact ⟨by rw [HR.out]; rfl,hb⟩
  by_cases h1 : cnt s ≤ n
  · have HR : Hid (R = s) := Lib.hid (by rw [← hR]; exact takeP_over n s h1)
    obtain ⟨c,hc⟩ : ∃ c,cnt s = c := ⟨_,rfl⟩
    have HC := Lib.hid hc
    rw [hc] at h1
    have i1 : ¬ ((n : Int) < 1) := by omega
    have q1 : decide ((c : Int) ≤ (n : Int)) = true := decide_eq_true (by omega)
    clear hp hR hsz hd hn h0 hc
    go_enter Tryz.func81,Tryz.ntmps81
    go_wp2_with fail
    refine (HP.out _).mono ?_
    rintro r W ⟨hb,v,rfl,hv⟩
    obtain ⟨a,cap,rfl⟩ := hv.form
    rw [HC.out]
    clear hv
    go_wp2
    go_ret
    exact ⟨by rw [HR.out]; rfl,hb⟩
  · obtain ⟨p,hat⟩ := AtP.exists_at (l := s) n (by omega)
    have hpl := (hat.lt).1 (by omega)
    have HR : Hid (R = s.take p) := Lib.hid (by rw [← hR]; exact takeP_at hat)
    obtain ⟨c,hc⟩ : ∃ c,cnt s = c := ⟨_,rfl⟩
    have HC := Lib.hid hc
    have HAT := Lib.hid hat
    have HPL := Lib.hid hpl
    rw [hc] at h1
    obtain ⟨sb,hsb⟩ : ∃ sb : ByteArray,(⟨s.toArray⟩ : ByteArray) = sb := ⟨_,rfl⟩
    have HEX : Hid (sb.extract 0 p = ⟨(s.take p).toArray⟩) := Lib.hid (by rw [← hsb,ext_bytes]; simp)
    rw [hsb] at HP hsz ⊢
    have hp1 : p ≤ sb.size := by omega
    have hp2 : ¬ sb.size < p := by omega
    have hsm : sb.size ≤ 1000000 := by omega
    have i1 : ¬ ((n : Int) < 1) := by omega
    have i2 : n < c := by omega
    have q1 : decide ((c : Int) ≤ (n : Int)) = false := decide_eq_false (by omega)
    clear hp hR hsz hd h0 hc hat hpl hsb hs h1
    go_enter Tryz.func81,Tryz.ntmps81
    go_wp2_with fail
    refine (HP.out _).mono ?_
    rintro r W ⟨hb,v,rfl,hv⟩
    obtain ⟨a,cap,rfl⟩ := hv.form
    obtain ⟨b,off,rfl,c0,c1,c2,c3⟩ := hv.at HAT.out HPL.out
    rw [HC.out]
    clear hv c1 c2 c3
    go_wp2
    go_ret
    exact ⟨by rw [HR.out]; unfold strV; rw [← HEX.out]; rfl,hb⟩
theorem fold_len : ∀ (f : Nat) (l : Bs),(foldF f l).length ≤ 4 * f := by
  intro f
  induction f with
  | zero => intro l; simp [foldF]
  | succ f ih =>
    intro l
    unfold foldF
    split
    · simp
    · rw [List.length_append]
      have h1 := ih (l.drop (wd l))
      split
      · rw [List.length_take]; omega
      · have := (enc_len (upr (rn l))).2; omega
set_option maxRecDepth 1000000 in
set_option maxHeartbeats 4000000 in
theorem refFold_any (s : Bs) (w : World) (hs : s.length ≤ 1000000) (hv : val s = true) : Calls Tryz.prog 80 #[strV s] w (strRet (fold s) w) := by
  have hsz : (⟨s.toArray⟩ : ByteArray).size = s.length := by simp [ByteArray.size]
  have hd : (⟨s.toArray⟩ : ByteArray).data.toList = s := by simp
  have hp := pieces_any ⟨s.toArray⟩ w (by omega)
  unfold piecesPost at hp
  simp only [hd] at hp
  have HP := Lib.hid hp
  obtain ⟨R,hR⟩ : ∃ R,fold s = R := ⟨_,rfl⟩
  rw [hR]
  unfold fold at hR
  have HR := Lib.hid hR
  have HV := Lib.hid hv
  have HU := Lib.hid (fun r W h => rupper_any r W h)
  have HBY := Lib.hid (fun r W h => rbytes_any r W h)
  unfold strV
  clear hp hR hsz hd hv
  go_enter Tryz.func80,Tryz.ntmps80
  go_wp2_with fail
  refine HP.out.mono ?_
  rintro r W ⟨hb,v,rfl,hps⟩
  obtain ⟨a,cap,rfl⟩ := hps.form
  have HPS := Lib.hid hps
  have HBW := Lib.hid hb
  obtain ⟨c,hc⟩ : ∃ c,cnt s = c := ⟨_,rfl⟩
  have HC := Lib.hid hc
  have hcl : c ≤ 1000000 := by have := cnt_le s; omega
  rw [hc] at HPS ⊢
  clear hps hb hc
  go_wp2
  go_loopg [3,5] c (fun g t i wr => ∃ (k p f : Nat) (x : Bs),i = .int .i64 k ∧ t = .string ⟨x.toArray⟩ ∧ k + g = c ∧ x.length ≤ 4 * k ∧ Hid (AtP s k p) ∧ Hid (s.length ≤ p + f) ∧ Hid (val (s.drop p) = true) ∧ Hid (x ++ foldF f (s.drop p) = R) ∧ Hid (Below W.heap.size W wr))
  case atStart => exact ⟨0,0,s.length,[],rfl,rfl,by omega,by simp,Lib.hid .zero,Lib.hid (by omega),Lib.hid (by rw [List.drop_zero]; exact HV.out),Lib.hid (by rw [List.drop_zero,List.nil_append]; exact HR.out),Lib.hid (Below.refl _ _)⟩
  case round =>
    obtain ⟨k,p,f,x,rfl,rfl,hg,hxl,HA,HF,HVA,HX,HB⟩ := hrel
    by_cases hlt : k < c
    · have hpl := (HA.out.lt).1 (by rw [HC.out]; exact hlt)
      obtain ⟨b,off,rfl,c0,c1,c2,c3⟩ := (HPS.out.mono (below_gh HB.out)).at HA.out hpl
      have hne := drop_ne hpl
      obtain ⟨f,rfl⟩ : ∃ f',f = f' + 1 := ⟨f - 1,by have := HF.out; omega⟩
      have hva := HVA.out
      rw [val_cons hne] at hva
      have hbad : badB (s.drop p) = false := by
        cases h : badB (s.drop p) with
        | false => rfl
        | true =>
          unfold badB at h
          rw [if_pos (of_decide_eq_true h)] at hva
          cases hva
      have hnb : ¬ (rn (s.drop p) = 65533 ∧ wd (s.drop p) = 1) := by unfold badB at hbad; exact of_decide_eq_false hbad
      rw [if_neg hnb,List.drop_drop] at hva
      have hx := HX.out
      unfold foldF at hx
      rw [if_neg hne,if_neg hnb,← List.append_assoc,List.drop_drop] at hx
      rw [hbad] at c3
      have hw := wd_pos (s.drop p)
      have HA2 : Hid (AtP s (k + 1) (p + wd (s.drop p))) := Lib.hid (.step HA.out hpl)
      have HF2 : Hid (s.length ≤ p + wd (s.drop p) + f) := Lib.hid (by have := HF.out; omega)
      have HVA2 := Lib.hid hva
      have HX2 := Lib.hid hx
      have hrr := rn_range (s.drop p)
      have hel := (enc_len (upr (rn (s.drop p)))).2
      have HSC := Lib.hid (upr_scalar (scalar_rn (s.drop p)))
      have HU2 := Lib.hid (HU.out (rn (s.drop p)) wr hrr)
      generalize p + wd (s.drop p) = p2 at *
      generalize rn (s.drop p) = r at *
      have HBY2 := Lib.hid (HBY.out (upr r) wr HSC.out)
      generalize upr r = u at *
      generalize Lib.encodeRune u = y at *
      have hy1 : (⟨x.toArray⟩ : ByteArray).size = x.length := by simp [ByteArray.size]
      have hy2 : (⟨y.toArray⟩ : ByteArray).size = y.length := by simp [ByteArray.size]
      have hle : ¬ 9223372036854775807 < (⟨x.toArray⟩ : ByteArray).size + (⟨y.toArray⟩ : ByteArray).size := by omega
      have HAP := Lib.hid (app_bytes x y)
      clear hpl hne hva hbad hnb hx hw hrr hy1 hy2 HA HF HVA HX c0 c1
      go_wp2_with fail
      refine HU2.out.mono ?_
      rintro r1 W1 ⟨rfl,rfl⟩
      go_wp2_with fail
      refine HBY2.out.mono ?_
      rintro r2 W2 ⟨rfl,hb2⟩
      have HB2 := Lib.hid (HB.out.seq hb2)
      clear hb2 c2 c3
      go_wp2
      try rw [HAP.out]
      go_roundg (gk - 1)
      case rel => exact ⟨k + 1,p2,f,x ++ y,by go_num,rfl,by omega,by rw [List.length_append]; omega,HA2,HF2,HVA2,HX2,HB2⟩
      case measure => omega
    · have hnil : s.drop p = [] := by
        apply Classical.byContradiction
        intro h
        have hpl : p < s.length := by
          apply Classical.byContradiction
          intro h2
          exact h (List.drop_eq_nil_of_le (by omega))
        have := (HA.out.lt).2 hpl
        rw [HC.out] at this
        exact hlt this
      have HE : Hid (x = R) := Lib.hid (by
        rw [← HX.out,hnil]
        cases f <;> simp [foldF])
      clear hnil HX
      go_wp2
      go_ret
      exact ⟨by rw [← HE.out]; rfl,HBW.out.seq HB.out⟩
theorem look_none (vs : List Val) (s : Bs) : look [] vs s = vNil := by rw [look.eq_def]
/-- What the document's eval is handed. -/
structure RW (W : World) (p : Nat) (names : List Bs) (vals : List Val) : Prop where
  fine : VFine vals
  cell : ∃ nv vv,W.heap[p]? = some (.cells #[nv,vv] 57 (0,0)) ∧ StrsV (gh W) nv names ∧ ValsV (gh W) vv vals
theorem RW.keep {W W' : World} {p : Nat} {names : List Bs} {vals : List Val} (h : RW W p names vals) (hb : Below W.heap.size W W') : RW W' p names vals := by
  obtain ⟨hf,nv,vv,hc,hn,hv⟩ := h
  have hp : p < W.heap.size := (Array.getElem?_eq_some_iff.1 hc).1
  exact ⟨hf,nv,vv,(hb.block _ hp).trans hc,hn.mono (below_gh hb),hv.mono (below_gh hb)⟩
theorem RW.ok {W : World} {p : Nat} {names : List Bs} {vals : List Val} (h : RW W p names vals) (s : Bs) : VOk (look names vals s) := look_ok names vals s (fun v hv => (h.fine v hv).1)
set_option maxRecDepth 1000000 in
set_option maxHeartbeats 4000000 in
theorem jname_any (names : List Bs) (vals : List Val) (s : Bs) (p : Nat) (w : World) (hW : RW w p names vals) :
    Calls Tryz.prog 42 #[.pointer (some ⟨p,0,none⟩),strV s] w (valPost (look names vals s) w) := by
  have hb0 := (Below.refl w.heap.size w).alloc (Nat.le_refl _) (.cells #[.int .i64 0,.int .i64 0,.string ⟨#[]⟩] 33)
  obtain ⟨hf,nv,vv,hc,hn,hv⟩ := hW.keep hb0
  have hz := heap_alloc_new w (.cells #[.int .i64 0,.int .i64 0,.string ⟨#[]⟩] 33)
  obtain ⟨na,nc,rfl⟩ := hn.form
  obtain ⟨va,vc,rfl,hvl,hvc⟩ := hv.form
  have hnl : names.length ≤ 9223372036854775807 := by
    obtain ⟨_,_,hv,_,h1,h2,_⟩ := hn
    simp only [Value.slice.injEq] at hv
    unfold maxLen at h2
    omega
  have hvl2 : vals.length ≤ 9223372036854775807 := by omega
  obtain ⟨R,hR⟩ : ∃ R,look names vals s = R := ⟨_,rfl⟩
  rw [hR]
  have HR := Lib.hid hR
  have HB0 := Lib.hid hb0
  have HZ := Lib.hid hz
  have HF := Lib.hid hf
  have HPC := Lib.hid hc
  have HCK := Lib.hid (fun (x : Val) W (h : x.s.length ≤ 9223372036854775807) => refCheck_any x.k x.n x.s W h)
  obtain ⟨p0,p1,hplt⟩ := two_cells hc
  unfold strV at HCK ⊢
  clear hR hb0 hz hf hc hvl hvc hW
  go_enter Tryz.func42,Tryz.ntmps42
  go_upto_region 1 with fail
  generalize w.alloc (.cells #[.int .i64 0,.int .i64 0,.string ⟨#[]⟩] 33) = W0 at *
  obtain ⟨⟨z0,z1,z2⟩,f0,f1,f2⟩ := three_all HZ.out
  go_wp2
  go_loopg [5] names.length (fun g i wr => ∃ k : Nat,i = .int .i64 k ∧ k + g = names.length ∧ wr = W0 ∧ Hid (look (names.drop k) (vals.drop k) s = R))
  case atStart => exact ⟨0,rfl,by omega,rfl,Lib.hid HR.out⟩
  case round =>
    obtain ⟨k,rfl,hg,rfl,HC⟩ := hrel
    by_cases hlt : k < names.length
    · obtain ⟨b,off,rfl,c0⟩ := hn.at (List.getElem?_eq_getElem hlt)
      unfold strV at c0
      have hdr : names.drop k = names[k] :: names.drop (k + 1) := List.drop_eq_getElem_cons hlt
      by_cases hs : names[k] = s
      · have hc := HC.out
        rw [hdr,look_hit hs] at hc
        have q : (names[k] != s) = false := by simp [hs]
        have qe : (names[k] == s) = true := by simp [hs]
        by_cases hlt2 : k < vals.length
        · rw [List.drop_eq_getElem_cons hlt2] at hc
          simp only at hc
          obtain ⟨b2,off2,rfl,d0,d1,d2⟩ := hv.at (List.getElem?_eq_getElem hlt2)
          have hxf := (HF.out _ (List.getElem_mem hlt2)).2
          unfold strV at d2
          have HVA := Lib.hid (And.intro hv (List.getElem?_eq_getElem hlt2))
          generalize vals[k] = x at *
          have HK2 := Lib.hid (HCK.out x wr (by omega))
          obtain ⟨ok,hok⟩ : ∃ b,okV x = b := ⟨_,rfl⟩
          have HOK := Lib.hid hok
          have HCC := Lib.hid hc
          have q2 : decide ((vals.length : Int) ≤ (k : Int)) = false := decide_eq_false (by omega)
          have q3 : ¬ vals.length ≤ k := by omega
          clear hc hdr HC hn hv hs hok hxf
          go_wp2_with fail
          refine HK2.out.mono ?_
          rintro r W2 ⟨rfl,hb2⟩
          have hz2 := (hb2.block _ (Array.getElem?_eq_some_iff.1 HZ.out).1).trans HZ.out
          have HZ2 := Lib.hid hz2
          have HBF := Lib.hid (HB0.out.seq hb2)
          rw [show okV ⟨x.k,x.n,x.s⟩ = ok from HOK.out]
          cases ok with
          | false =>
            have HE : Hid (R = vNil) := Lib.hid (by rw [← HCC.out,HOK.out]; rfl)
            clear hb2 z0 z1 z2 f0 f1 f2 d0 d1 d2 c0 p0 p1
            obtain ⟨⟨z0,z1,z2⟩,f0,f1,f2⟩ := three_all hz2
            clear hz2
            go_wp2
            try rw [Exit.noGoto_ret]
            have hh := three_all (set3_heap HZ2.out (.int .i64 0) (.int .i64 0) (.string ⟨#[]⟩))
            refine bodyPost_ret (v := valV vNil) (by simp [results,Tryz.results42,go_sem,valV,strV,vNil,hh.1]) rfl ⟨by rw [HE.out],below_set3 HBF.out (Nat.le_refl _) _ _ _⟩
          | true =>
            have HE : Hid (R = x) := Lib.hid (by rw [← HCC.out,HOK.out]; rfl)
            obtain ⟨b3,off3,he,g0,g1,g2⟩ := (HVA.out.1.mono (below_gh hb2)).at HVA.out.2
            obtain ⟨rfl,rfl⟩ : b3 = b2 ∧ off3 = off2 := by simp at he; exact ⟨he.1.symm,he.2.symm⟩
            obtain ⟨p2,p3,-⟩ := two_cells ((hb2.block _ (Array.getElem?_eq_some_iff.1 HPC.out).1).trans HPC.out)
            unfold strV at g2
            clear hb2 z0 z1 z2 f0 f1 f2 d0 d1 d2 c0 p0 p1 he
            obtain ⟨⟨z0,z1,z2⟩,f0,f1,f2⟩ := three_all hz2
            clear hz2
            go_wp2
            try rw [Exit.noGoto_ret]
            have hh := three_all (set3_heap HZ2.out (.int .i64 x.k) (.int .i64 x.n) (.string ⟨x.s.toArray⟩))
            refine bodyPost_ret (v := valV x) (by simp [results,Tryz.results42,go_sem,valV,strV,hh.1]) rfl ⟨by rw [HE.out],below_set3 HBF.out (Nat.le_refl _) _ _ _⟩
        · rw [List.drop_eq_nil_of_le (by omega)] at hc
          have HE : Hid (R = vNil) := Lib.hid (by rw [← hc])
          have q3 : vals.length ≤ k := by omega
          have q2 : decide ((vals.length : Int) ≤ (k : Int)) = true := decide_eq_true (by omega)
          clear hc hdr HC hs hn hv
          go_wp2
          try rw [Exit.noGoto_ret]
          have hh := three_all (set3_heap HZ.out (.int .i64 0) (.int .i64 0) (.string ⟨#[]⟩))
          refine bodyPost_ret (v := valV vNil) (by simp [results,Tryz.results42,go_sem,valV,strV,vNil,hh.1]) rfl ⟨by rw [HE.out],below_set3 HB0.out (Nat.le_refl _) _ _ _⟩
      · have hc := HC.out
        rw [hdr,look_miss hs,List.tail_drop] at hc
        have HD := Lib.hid hc
        have q : (names[k] != s) = true := bne_iff_ne.2 hs
        have qe : (names[k] == s) = false := beq_eq_false_iff_ne.2 hs
        clear hc hdr HC hs
        go_wp2
        go_roundg (gk - 1)
        case rel => exact ⟨k + 1,by go_num,by omega,rfl,Lib.hid HD.out⟩
        case measure => omega
    · have HE : Hid (R = vNil) := Lib.hid (by rw [← HC.out,List.drop_eq_nil_of_le (by omega),look_none])
      clear HC
      go_wp2
      have hh := three_all (set3_heap HZ.out (.int .i64 0) (.int .i64 0) (.string ⟨#[]⟩))
      refine bodyPost_ret (v := valV vNil) (by simp [results,Tryz.results42,go_sem,valV,strV,vNil,hh.1]) rfl ⟨by rw [HE.out],below_set3 HB0.out (Nat.le_refl _) _ _ _⟩
end Go.Proofs.YtfjpdphphieaoaaGreatDoor
namespace Go.Proofs.YtfjpdphphieaoaaGreatDoor
open Go.RowKit Pal
/-- The document's of comes to what the plain law says. -/
def JP (names : List Bs) (vals : List Val) (e : Ex) : Prop := ∀ (v : Value) (W : World) (p : Nat),RW W p names vals → KV (gh W) v e.ks →
  Calls Tryz.prog 20 #[.pointer (some ⟨p,0,none⟩),exV e.op e.n e.s v] W (valPost (ev (look names vals) e) W)
def wantPost (r : Except Val Val) (w : World) (e : Ending) (w' : World) : Prop := e = .returned (.tuple #[valV (needV r),.bool (needB r)]) ∧ Below w.heap.size w w'
def wants (x : Val) (kind : Int) : Except Val Val := if x.k = 4 then .error x else if x.k = 0 ∨ (kind ≠ 0 ∧ x.k ≠ kind) then .error (vBad 3) else .ok x
theorem kid_cells {w : World} {b o0 o1 o2 o3 : Nat} {v0 v1 v2 v3 : Value} (h0 : w.cell? ⟨b,o0,none⟩ = some v0) (h1 : w.cell? ⟨b,o1,none⟩ = some v1) (h2 : w.cell? ⟨b,o2,none⟩ = some v2) (h3 : w.cell? ⟨b,o3,none⟩ = some v3) :
    ∀ W,Below w.heap.size w W → W.cell? ⟨b,o0,none⟩ = some v0 ∧ W.cell? ⟨b,o1,none⟩ = some v1 ∧ W.cell? ⟨b,o2,none⟩ = some v2 ∧ W.cell? ⟨b,o3,none⟩ = some v3 := by
  intro W hb
  have hl := World.block_lt_of_cell? w _ h0
  exact ⟨(hb.cell (p := ⟨b,o0,none⟩) hl).trans h0,(hb.cell (p := ⟨b,o1,none⟩) hl).trans h1,(hb.cell (p := ⟨b,o2,none⟩) hl).trans h2,(hb.cell (p := ⟨b,o3,none⟩) hl).trans h3⟩
set_option maxRecDepth 1000000 in
set_option maxHeartbeats 8000000 in
theorem jwant_any (k : Ex) (kind : Int) (names : List Bs) (vals : List Val) (v : Value) (p : Nat) (w : World) (hE : JP names vals k) (hW : RW w p names vals) (hK : KV (gh w) v k.ks) :
    Calls Tryz.prog 76 #[.pointer (some ⟨p,0,none⟩),exV k.op k.n k.s v,.int .i64 kind] w (wantPost (wants (ev (look names vals) k) kind) w) := by
  obtain ⟨a,cap,rfl⟩ := hK.form
  have K0 := Lib.hid ((Kept.start w).new2 (.cells #[.int .i64 k.op,.int .i64 k.n,.string ⟨k.s.toArray⟩,.slice a k.ks.length cap] 28) (.cells #[.int .i64 0,.int .i64 0,.string ⟨#[]⟩] 33))
  have HO := Lib.hid (fun W (hb : Below w.heap.size w W) => hE (.slice a k.ks.length cap) W p (hW.keep hb) (hK.keep hb))
  generalize ev (look names vals) k = x at *
  obtain ⟨xk,hxk⟩ : ∃ n,x.k = n := ⟨_,rfl⟩
  obtain ⟨xn,hxn⟩ : ∃ n,x.n = n := ⟨_,rfl⟩
  obtain ⟨xs,hxs⟩ : ∃ s : ByteArray,(⟨x.s.toArray⟩ : ByteArray) = s := ⟨_,rfl⟩
  have HX : Hid (valV x = .agg #[.int .i64 xk,.int .i64 xn,.string xs]) := Lib.hid (by unfold valV strV; rw [hxk,hxn,hxs])
  obtain ⟨R,hR⟩ : ∃ R,wants x kind = R := ⟨_,rfl⟩
  have HR := Lib.hid hR
  have HBD := Lib.hid (fun W => jbad_any 3 W)
  rw [hR]
  unfold wants at hR
  rw [hxk] at hR
  unfold exV strV valPost at HO
  simp only [HX.out] at HO
  unfold exV strV
  clear hE hW hK hxk hxn hxs
  have hcase : (xk = 4 ∧ R = .error x) ∨ (xk ≠ 4 ∧ xk = 0 ∧ R = .error (vBad 3)) ∨ (xk ≠ 4 ∧ xk ≠ 0 ∧ kind ≠ 0 ∧ xk ≠ kind ∧ R = .error (vBad 3)) ∨ (xk ≠ 4 ∧ xk ≠ 0 ∧ kind = 0 ∧ R = .ok x) ∨ (xk ≠ 4 ∧ xk ≠ 0 ∧ kind ≠ 0 ∧ xk = kind ∧ R = .ok x) := by
    by_cases h4 : xk = 4
    · rw [if_pos h4] at hR; exact .inl ⟨h4,hR.symm⟩
    rw [if_neg h4] at hR
    by_cases h0 : xk = 0
    · rw [if_pos (.inl h0)] at hR; exact .inr (.inl ⟨h4,h0,hR.symm⟩)
    by_cases hk0 : kind = 0
    · rw [if_neg (fun h => by rcases h with h | h; exact h0 h; exact h.1 hk0)] at hR; exact .inr (.inr (.inr (.inl ⟨h4,h0,hk0,hR.symm⟩)))
    by_cases hk : xk = kind
    · rw [if_neg (fun h => by rcases h with h | h; exact h0 h; exact h.2 hk)] at hR; exact .inr (.inr (.inr (.inr ⟨h4,h0,hk0,hk,hR.symm⟩)))
    · rw [if_pos (.inr ⟨hk0,hk⟩)] at hR; exact .inr (.inr (.inl ⟨h4,h0,hk0,hk,hR.symm⟩))
  clear hR HR
  go_enter Tryz.func76,Tryz.ntmps76
  go_upto_region 1 with fail
  generalize (w.alloc (.cells #[.int .i64 k.op,.int .i64 k.n,.string ⟨k.s.toArray⟩,.slice a k.ks.length cap] 28)).alloc (.cells #[.int .i64 0,.int .i64 0,.string ⟨#[]⟩] 33) = W1 at *
  obtain ⟨⟨e0,e1,e2,e3⟩,-⟩ := four_all K0.out.tail.at0
  go_wp2_with fail
  refine (HO.out _ K0.out.below).mono ?_
  rintro r W2 ⟨rfl,hb⟩
  have K1 := Lib.hid (K0.out.call hb)
  clear hb e0 e1 e2 e3 HO K0
  have K2 := Lib.hid (K1.out.new (.cells #[.int .i64 xk,.int .i64 xn,.string xs] 33))
  go_upto_region 2 with fail
  generalize W2.alloc (.cells #[.int .i64 xk,.int .i64 xn,.string xs] 33) = W3 at *
  generalize W2.heap.size = bX at *
  obtain ⟨⟨x0,x1,x2⟩,-⟩ := three_all K2.out.at0
  rcases hcase with ⟨h4,hR⟩ | ⟨h4,h0,hR⟩ | ⟨h4,h0,hk0,hk,hR⟩ | ⟨h4,h0,hk0,hR⟩ | ⟨h4,h0,hk0,hk,hR⟩
  · have HR := Lib.hid hR
    have q4 : (xk == 4) = true := by simp [h4]
    clear hR h4
    obtain ⟨⟨z0,z1,z2⟩,zf0,zf1,zf2⟩ := three_all K2.out.tail.at0
    go_wp2
    have hh := three_all (set3_heap K2.out.tail.at0 (.int .i64 xk) (.int .i64 xn) (.string xs))
    refine bodyPost_ret (v := .tuple #[.agg #[.int .i64 xk,.int .i64 xn,.string xs],.bool false]) (by simp [results,Tryz.results76,go_sem,hh.1]) rfl ⟨by rw [HR.out,← HX.out]; rfl,below_set3 K2.out.below (by omega) _ _ _⟩
  · have HR := Lib.hid hR
    have q4 : (xk == 4) = false := beq_eq_false_iff_ne.2 h4
    have q0 : (xk == 0) = true := by simp [h0]
    clear hR h4 h0
    go_wp2_with fail
    refine (HBD.out _).mono ?_
    rintro r W4 ⟨rfl,hb⟩
    have K3 := Lib.hid (K2.out.call hb)
    clear hb x0 x1 x2
    unfold valV strV vBad
    obtain ⟨⟨z0,z1,z2⟩,zf0,zf1,zf2⟩ := three_all K3.out.tail.at0
    go_wp2
    have hh := three_all (set3_heap K3.out.tail.at0 (.int .i64 4) (.int .i64 3) (.string ⟨#[]⟩))
    refine bodyPost_ret (v := .tuple #[valV (vBad 3),.bool false]) (by simp [results,Tryz.results76,go_sem,valV,strV,vBad,hh.1]) rfl ⟨by rw [HR.out]; rfl,below_set3 K3.out.below (by omega) _ _ _⟩
  · have HR := Lib.hid hR
    have q4 : (xk == 4) = false := beq_eq_false_iff_ne.2 h4
    have q0 : (xk == 0) = false := beq_eq_false_iff_ne.2 h0
    have q1 : (kind != 0) = true := bne_iff_ne.2 hk0
    have q2 : (xk != kind) = true := bne_iff_ne.2 hk
    clear hR h4 h0 hk0 hk
    go_wp2_with fail
    refine (HBD.out _).mono ?_
    rintro r W4 ⟨rfl,hb⟩
    have K3 := Lib.hid (K2.out.call hb)
    clear hb x0 x1 x2
    unfold valV strV vBad
    obtain ⟨⟨z0,z1,z2⟩,zf0,zf1,zf2⟩ := three_all K3.out.tail.at0
    go_wp2
    have hh := three_all (set3_heap K3.out.tail.at0 (.int .i64 4) (.int .i64 3) (.string ⟨#[]⟩))
    refine bodyPost_ret (v := .tuple #[valV (vBad 3),.bool false]) (by simp [results,Tryz.results76,go_sem,valV,strV,vBad,hh.1]) rfl ⟨by rw [HR.out]; rfl,below_set3 K3.out.below (by omega) _ _ _⟩
  · have HR := Lib.hid hR
    have q4 : (xk == 4) = false := beq_eq_false_iff_ne.2 h4
    have q0 : (xk == 0) = false := beq_eq_false_iff_ne.2 h0
    have q1 : (kind != 0) = false := by simp [hk0]
    clear hR h4 h0 hk0
    obtain ⟨⟨z0,z1,z2⟩,zf0,zf1,zf2⟩ := three_all K2.out.tail.at0
    go_wp2
    have hh := three_all (set3_heap K2.out.tail.at0 (.int .i64 xk) (.int .i64 xn) (.string xs))
    refine bodyPost_ret (v := .tuple #[.agg #[.int .i64 xk,.int .i64 xn,.string xs],.bool true]) (by simp [results,Tryz.results76,go_sem,hh.1]) rfl ⟨by rw [HR.out,← HX.out]; rfl,below_set3 K2.out.below (by omega) _ _ _⟩
  · have HR := Lib.hid hR
    have q4 : (xk == 4) = false := beq_eq_false_iff_ne.2 h4
    have q0 : (xk == 0) = false := beq_eq_false_iff_ne.2 h0
    have q1 : (kind != 0) = true := bne_iff_ne.2 hk0
    have q2 : (xk != kind) = false := by simp [hk]
    clear hR h4 h0 hk0 hk
    obtain ⟨⟨z0,z1,z2⟩,zf0,zf1,zf2⟩ := three_all K2.out.tail.at0
    go_wp2
    have hh := three_all (set3_heap K2.out.tail.at0 (.int .i64 xk) (.int .i64 xn) (.string xs))
    refine bodyPost_ret (v := .tuple #[.agg #[.int .i64 xk,.int .i64 xn,.string xs],.bool true]) (by simp [results,Tryz.results76,go_sem,hh.1]) rfl ⟨by rw [HR.out,← HX.out]; rfl,below_set3 K2.out.below (by omega) _ _ _⟩
theorem wants_need {x : Val} (h : VOk x) (kind : Int) (hk : kind = 1 ∨ kind = 2 ∨ kind = 3) : wants x kind = need x [kind] := by
  unfold wants need
  by_cases h4 : x.k = 4
  · rw [if_pos h4,if_pos h4]
  rw [if_neg h4,if_neg h4]
  by_cases hx : x.k = kind
  · rw [if_neg (by omega),if_pos (by simp [hx])]
  · rw [if_pos (by omega),if_neg (by simp [hx])]
theorem VOk.kinds {x : Val} (h : VOk x) : x.k = 0 ∨ x.k = 1 ∨ x.k = 2 ∨ x.k = 3 ∨ x.k = 4 := by
  have := h.ok
  unfold okV at this
  repeat' split at this
  all_goals first | omega | cases this
theorem wants_any {x : Val} (h : VOk x) : wants x 0 = need x [1,3,2] := by
  unfold wants need
  by_cases h4 : x.k = 4
  · rw [if_pos h4,if_pos h4]
  rw [if_neg h4,if_neg h4]
  by_cases h0 : x.k = 0
  · rw [if_pos (.inl h0),if_neg (by simp [h0])]
  · rw [if_neg (by omega),if_pos (by have := h.kinds; simp; omega)]
end Go.Proofs.YtfjpdphphieaoaaGreatDoor
