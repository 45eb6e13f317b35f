/- Chapter 1's Class (this text is written by gen_w2.py). The walks of chapter 1's pieces: more, one. Chapter 1's pieces, as plain law: what its 'one' computes is what decoding computes. The walk of chapter 1's one: a piece. The walk of chapter 1's one, at a first byte that announces two, and at one that announces none. -/
import Derived.Test.YtilmmgkclijhjaaGreatDoorProg
import Derived.Test.YtilmmgkclijhjaaGreatDoorLx
import Derived.Handy
set_option linter.unusedSimpArgs false
set_option linter.unusedVariables false
set_option linter.unusedSectionVars false
namespace Go.Proofs.YtilmmgkclijhjaaGreatDoor
open Go.RowKit Pal
set_option maxRecDepth 1000000 in
theorem class01_0 (r : Int) (w : World) (h1 : 48 ≤ r) (h2 : r ≤ 57) :
    Calls Tryz.prog 70 #[.int .i32 r] w fun e w' => e = .returned (.int .i64 (cls01 r)) ∧ w' = w := by
  have E : cls01 r = 2 := by
    unfold cls01
    repeat' split
    all_goals omega
  rw [E]; clear E
  have g48 : 48 ≤ r := by omega
  have g97 : ¬ 97 ≤ r := by omega
  have g65 : ¬ 65 ≤ r := by omega
  have g192 : ¬ 192 ≤ r := by omega
  have g913 : ¬ 913 ≤ r := by omega
  have g945 : ¬ 945 ≤ r := by omega
  have g1040 : ¬ 1040 ≤ r := by omega
  have g19968 : ¬ 19968 ≤ r := by omega
  have l57 : r ≤ 57 := by omega
  have l122 : r ≤ 122 := by omega
  have l90 : r ≤ 90 := by omega
  have l591 : r ≤ 591 := by omega
  have l937 : r ≤ 937 := by omega
  have l969 : r ≤ 969 := by omega
  have l1103 : r ≤ 1103 := by omega
  have l40959 : r ≤ 40959 := by omega
  have e9 : (r == 9) = false := beq_eq_false_iff_ne.2 (by omega)
  have e10 : (r == 10) = false := beq_eq_false_iff_ne.2 (by omega)
  have e13 : (r == 13) = false := beq_eq_false_iff_ne.2 (by omega)
  have e32 : (r == 32) = false := beq_eq_false_iff_ne.2 (by omega)
  have e160 : (r == 160) = false := beq_eq_false_iff_ne.2 (by omega)
  have e12288 : (r == 12288) = false := beq_eq_false_iff_ne.2 (by omega)
  have e95 : (r == 95) = false := beq_eq_false_iff_ne.2 (by omega)
  have e170 : (r == 170) = false := beq_eq_false_iff_ne.2 (by omega)
  have e181 : (r == 181) = false := beq_eq_false_iff_ne.2 (by omega)
  have e186 : (r == 186) = false := beq_eq_false_iff_ne.2 (by omega)
  have e215 : (r == 215) = false := beq_eq_false_iff_ne.2 (by omega)
  have e247 : (r == 247) = false := beq_eq_false_iff_ne.2 (by omega)
  have e930 : (r == 930) = false := beq_eq_false_iff_ne.2 (by omega)
  have m215 : (r != 215) = true := bne_iff_ne.2 (by omega)
  have m247 : (r != 247) = true := bne_iff_ne.2 (by omega)
  have m930 : (r != 930) = true := bne_iff_ne.2 (by omega)
  clear h1 h2 
  go_enter Tryz.func70, Tryz.ntmps70
  go_wp2
  go_ret
  exact ⟨rfl, rfl⟩
set_option maxRecDepth 1000000 in
theorem class01_1 (w : World) :
    Calls Tryz.prog 70 #[.int .i32 9] w fun e w' => e = .returned (.int .i64 (cls01 9)) ∧ w' = w := by
  have E : cls01 9 = 3 := by decide
  rw [E]
  go_enter Tryz.func70, Tryz.ntmps70
  go_wp2
  go_ret
  exact ⟨rfl, rfl⟩
set_option maxRecDepth 1000000 in
theorem class01_2 (w : World) :
    Calls Tryz.prog 70 #[.int .i32 10] w fun e w' => e = .returned (.int .i64 (cls01 10)) ∧ w' = w := by
  have E : cls01 10 = 3 := by decide
  rw [E]
  go_enter Tryz.func70, Tryz.ntmps70
  go_wp2
  go_ret
  exact ⟨rfl, rfl⟩
set_option maxRecDepth 1000000 in
theorem class01_3 (w : World) :
    Calls Tryz.prog 70 #[.int .i32 13] w fun e w' => e = .returned (.int .i64 (cls01 13)) ∧ w' = w := by
  have E : cls01 13 = 3 := by decide
  rw [E]
  go_enter Tryz.func70, Tryz.ntmps70
  go_wp2
  go_ret
  exact ⟨rfl, rfl⟩
set_option maxRecDepth 1000000 in
theorem class01_4 (w : World) :
    Calls Tryz.prog 70 #[.int .i32 32] w fun e w' => e = .returned (.int .i64 (cls01 32)) ∧ w' = w := by
  have E : cls01 32 = 3 := by decide
  rw [E]
  go_enter Tryz.func70, Tryz.ntmps70
  go_wp2
  go_ret
  exact ⟨rfl, rfl⟩
set_option maxRecDepth 1000000 in
theorem class01_5 (w : World) :
    Calls Tryz.prog 70 #[.int .i32 160] w fun e w' => e = .returned (.int .i64 (cls01 160)) ∧ w' = w := by
  have E : cls01 160 = 3 := by decide
  rw [E]
  go_enter Tryz.func70, Tryz.ntmps70
  go_wp2
  go_ret
  exact ⟨rfl, rfl⟩
set_option maxRecDepth 1000000 in
theorem class01_6 (w : World) :
    Calls Tryz.prog 70 #[.int .i32 12288] w fun e w' => e = .returned (.int .i64 (cls01 12288)) ∧ w' = w := by
  have E : cls01 12288 = 3 := by decide
  rw [E]
  go_enter Tryz.func70, Tryz.ntmps70
  go_wp2
  go_ret
  exact ⟨rfl, rfl⟩
set_option maxRecDepth 1000000 in
theorem class01_7 (r : Int) (w : World) (h1 : 97 ≤ r) (h2 : r ≤ 122) :
    Calls Tryz.prog 70 #[.int .i32 r] w fun e w' => e = .returned (.int .i64 (cls01 r)) ∧ w' = w := by
  have E : cls01 r = 1 := by
    unfold cls01
    repeat' split
    all_goals omega
  rw [E]; clear E
  have g48 : 48 ≤ r := by omega
  have g97 : 97 ≤ r := by omega
  have g65 : 65 ≤ r := by omega
  have g192 : ¬ 192 ≤ r := by omega
  have g913 : ¬ 913 ≤ r := by omega
  have g945 : ¬ 945 ≤ r := by omega
  have g1040 : ¬ 1040 ≤ r := by omega
  have g19968 : ¬ 19968 ≤ r := by omega
  have l57 : ¬ r ≤ 57 := by omega
  have l122 : r ≤ 122 := by omega
  have l90 : ¬ r ≤ 90 := by omega
  have l591 : r ≤ 591 := by omega
  have l937 : r ≤ 937 := by omega
  have l969 : r ≤ 969 := by omega
  have l1103 : r ≤ 1103 := by omega
  have l40959 : r ≤ 40959 := by omega
  have e9 : (r == 9) = false := beq_eq_false_iff_ne.2 (by omega)
  have e10 : (r == 10) = false := beq_eq_false_iff_ne.2 (by omega)
  have e13 : (r == 13) = false := beq_eq_false_iff_ne.2 (by omega)
  have e32 : (r == 32) = false := beq_eq_false_iff_ne.2 (by omega)
  have e160 : (r == 160) = false := beq_eq_false_iff_ne.2 (by omega)
  have e12288 : (r == 12288) = false := beq_eq_false_iff_ne.2 (by omega)
  have e95 : (r == 95) = false := beq_eq_false_iff_ne.2 (by omega)
  have e170 : (r == 170) = false := beq_eq_false_iff_ne.2 (by omega)
  have e181 : (r == 181) = false := beq_eq_false_iff_ne.2 (by omega)
  have e186 : (r == 186) = false := beq_eq_false_iff_ne.2 (by omega)
  have e215 : (r == 215) = false := beq_eq_false_iff_ne.2 (by omega)
  have e247 : (r == 247) = false := beq_eq_false_iff_ne.2 (by omega)
  have e930 : (r == 930) = false := beq_eq_false_iff_ne.2 (by omega)
  have m215 : (r != 215) = true := bne_iff_ne.2 (by omega)
  have m247 : (r != 247) = true := bne_iff_ne.2 (by omega)
  have m930 : (r != 930) = true := bne_iff_ne.2 (by omega)
  clear h1 h2 
  go_enter Tryz.func70, Tryz.ntmps70
  go_wp2
  go_ret
  exact ⟨rfl, rfl⟩
set_option maxRecDepth 1000000 in
theorem class01_8 (r : Int) (w : World) (h1 : 65 ≤ r) (h2 : r ≤ 90) :
    Calls Tryz.prog 70 #[.int .i32 r] w fun e w' => e = .returned (.int .i64 (cls01 r)) ∧ w' = w := by
  have E : cls01 r = 1 := by
    unfold cls01
    repeat' split
    all_goals omega
  rw [E]; clear E
  have g48 : 48 ≤ r := by omega
  have g97 : ¬ 97 ≤ r := by omega
  have g65 : 65 ≤ r := by omega
  have g192 : ¬ 192 ≤ r := by omega
  have g913 : ¬ 913 ≤ r := by omega
  have g945 : ¬ 945 ≤ r := by omega
  have g1040 : ¬ 1040 ≤ r := by omega
  have g19968 : ¬ 19968 ≤ r := by omega
  have l57 : ¬ r ≤ 57 := by omega
  have l122 : r ≤ 122 := by omega
  have l90 : r ≤ 90 := by omega
  have l591 : r ≤ 591 := by omega
  have l937 : r ≤ 937 := by omega
  have l969 : r ≤ 969 := by omega
  have l1103 : r ≤ 1103 := by omega
  have l40959 : r ≤ 40959 := by omega
  have e9 : (r == 9) = false := beq_eq_false_iff_ne.2 (by omega)
  have e10 : (r == 10) = false := beq_eq_false_iff_ne.2 (by omega)
  have e13 : (r == 13) = false := beq_eq_false_iff_ne.2 (by omega)
  have e32 : (r == 32) = false := beq_eq_false_iff_ne.2 (by omega)
  have e160 : (r == 160) = false := beq_eq_false_iff_ne.2 (by omega)
  have e12288 : (r == 12288) = false := beq_eq_false_iff_ne.2 (by omega)
  have e95 : (r == 95) = false := beq_eq_false_iff_ne.2 (by omega)
  have e170 : (r == 170) = false := beq_eq_false_iff_ne.2 (by omega)
  have e181 : (r == 181) = false := beq_eq_false_iff_ne.2 (by omega)
  have e186 : (r == 186) = false := beq_eq_false_iff_ne.2 (by omega)
  have e215 : (r == 215) = false := beq_eq_false_iff_ne.2 (by omega)
  have e247 : (r == 247) = false := beq_eq_false_iff_ne.2 (by omega)
  have e930 : (r == 930) = false := beq_eq_false_iff_ne.2 (by omega)
  have m215 : (r != 215) = true := bne_iff_ne.2 (by omega)
  have m247 : (r != 247) = true := bne_iff_ne.2 (by omega)
  have m930 : (r != 930) = true := bne_iff_ne.2 (by omega)
  clear h1 h2 
  go_enter Tryz.func70, Tryz.ntmps70
  go_wp2
  go_ret
  exact ⟨rfl, rfl⟩
set_option maxRecDepth 1000000 in
theorem class01_9 (w : World) :
    Calls Tryz.prog 70 #[.int .i32 95] w fun e w' => e = .returned (.int .i64 (cls01 95)) ∧ w' = w := by
  have E : cls01 95 = 1 := by decide
  rw [E]
  go_enter Tryz.func70, Tryz.ntmps70
  go_wp2
  go_ret
  exact ⟨rfl, rfl⟩
set_option maxRecDepth 1000000 in
theorem class01_10 (w : World) :
    Calls Tryz.prog 70 #[.int .i32 170] w fun e w' => e = .returned (.int .i64 (cls01 170)) ∧ w' = w := by
  have E : cls01 170 = 1 := by decide
  rw [E]
  go_enter Tryz.func70, Tryz.ntmps70
  go_wp2
  go_ret
  exact ⟨rfl, rfl⟩
set_option maxRecDepth 1000000 in
theorem class01_11 (w : World) :
    Calls Tryz.prog 70 #[.int .i32 181] w fun e w' => e = .returned (.int .i64 (cls01 181)) ∧ w' = w := by
  have E : cls01 181 = 1 := by decide
  rw [E]
  go_enter Tryz.func70, Tryz.ntmps70
  go_wp2
  go_ret
  exact ⟨rfl, rfl⟩
set_option maxRecDepth 1000000 in
theorem class01_12 (w : World) :
    Calls Tryz.prog 70 #[.int .i32 186] w fun e w' => e = .returned (.int .i64 (cls01 186)) ∧ w' = w := by
  have E : cls01 186 = 1 := by decide
  rw [E]
  go_enter Tryz.func70, Tryz.ntmps70
  go_wp2
  go_ret
  exact ⟨rfl, rfl⟩
set_option maxRecDepth 1000000 in
theorem class01_13 (r : Int) (w : World) (h1 : 192 ≤ r) (h2 : r ≤ 214) :
    Calls Tryz.prog 70 #[.int .i32 r] w fun e w' => e = .returned (.int .i64 (cls01 r)) ∧ w' = w := by
  have E : cls01 r = 1 := by
    unfold cls01
    repeat' split
    all_goals omega
  rw [E]; clear E
  have g48 : 48 ≤ r := by omega
  have g97 : 97 ≤ r := by omega
  have g65 : 65 ≤ r := by omega
  have g192 : 192 ≤ r := by omega
  have g913 : ¬ 913 ≤ r := by omega
  have g945 : ¬ 945 ≤ r := by omega
  have g1040 : ¬ 1040 ≤ r := by omega
  have g19968 : ¬ 19968 ≤ r := by omega
  have l57 : ¬ r ≤ 57 := by omega
  have l122 : ¬ r ≤ 122 := by omega
  have l90 : ¬ r ≤ 90 := by omega
  have l591 : r ≤ 591 := by omega
  have l937 : r ≤ 937 := by omega
  have l969 : r ≤ 969 := by omega
  have l1103 : r ≤ 1103 := by omega
  have l40959 : r ≤ 40959 := by omega
  have e9 : (r == 9) = false := beq_eq_false_iff_ne.2 (by omega)
  have e10 : (r == 10) = false := beq_eq_false_iff_ne.2 (by omega)
  have e13 : (r == 13) = false := beq_eq_false_iff_ne.2 (by omega)
  have e32 : (r == 32) = false := beq_eq_false_iff_ne.2 (by omega)
  have e160 : (r == 160) = false := beq_eq_false_iff_ne.2 (by omega)
  have e12288 : (r == 12288) = false := beq_eq_false_iff_ne.2 (by omega)
  have e95 : (r == 95) = false := beq_eq_false_iff_ne.2 (by omega)
  have e170 : (r == 170) = false := beq_eq_false_iff_ne.2 (by omega)
  have e181 : (r == 181) = false := beq_eq_false_iff_ne.2 (by omega)
  have e186 : (r == 186) = false := beq_eq_false_iff_ne.2 (by omega)
  have e215 : (r == 215) = false := beq_eq_false_iff_ne.2 (by omega)
  have e247 : (r == 247) = false := beq_eq_false_iff_ne.2 (by omega)
  have e930 : (r == 930) = false := beq_eq_false_iff_ne.2 (by omega)
  have m215 : (r != 215) = true := bne_iff_ne.2 (by omega)
  have m247 : (r != 247) = true := bne_iff_ne.2 (by omega)
  have m930 : (r != 930) = true := bne_iff_ne.2 (by omega)
  clear h1 h2 
  go_enter Tryz.func70, Tryz.ntmps70
  go_wp2
  go_ret
  exact ⟨rfl, rfl⟩
set_option maxRecDepth 1000000 in
theorem class01_14 (r : Int) (w : World) (h1 : 216 ≤ r) (h2 : r ≤ 246) :
    Calls Tryz.prog 70 #[.int .i32 r] w fun e w' => e = .returned (.int .i64 (cls01 r)) ∧ w' = w := by
  have E : cls01 r = 1 := by
    unfold cls01
    repeat' split
    all_goals omega
  rw [E]; clear E
  have g48 : 48 ≤ r := by omega
  have g97 : 97 ≤ r := by omega
  have g65 : 65 ≤ r := by omega
  have g192 : 192 ≤ r := by omega
  have g913 : ¬ 913 ≤ r := by omega
  have g945 : ¬ 945 ≤ r := by omega
  have g1040 : ¬ 1040 ≤ r := by omega
  have g19968 : ¬ 19968 ≤ r := by omega
  have l57 : ¬ r ≤ 57 := by omega
  have l122 : ¬ r ≤ 122 := by omega
  have l90 : ¬ r ≤ 90 := by omega
  have l591 : r ≤ 591 := by omega
  have l937 : r ≤ 937 := by omega
  have l969 : r ≤ 969 := by omega
  have l1103 : r ≤ 1103 := by omega
  have l40959 : r ≤ 40959 := by omega
  have e9 : (r == 9) = false := beq_eq_false_iff_ne.2 (by omega)
  have e10 : (r == 10) = false := beq_eq_false_iff_ne.2 (by omega)
  have e13 : (r == 13) = false := beq_eq_false_iff_ne.2 (by omega)
  have e32 : (r == 32) = false := beq_eq_false_iff_ne.2 (by omega)
  have e160 : (r == 160) = false := beq_eq_false_iff_ne.2 (by omega)
  have e12288 : (r == 12288) = false := beq_eq_false_iff_ne.2 (by omega)
  have e95 : (r == 95) = false := beq_eq_false_iff_ne.2 (by omega)
  have e170 : (r == 170) = false := beq_eq_false_iff_ne.2 (by omega)
  have e181 : (r == 181) = false := beq_eq_false_iff_ne.2 (by omega)
  have e186 : (r == 186) = false := beq_eq_false_iff_ne.2 (by omega)
  have e215 : (r == 215) = false := beq_eq_false_iff_ne.2 (by omega)
  have e247 : (r == 247) = false := beq_eq_false_iff_ne.2 (by omega)
  have e930 : (r == 930) = false := beq_eq_false_iff_ne.2 (by omega)
  have m215 : (r != 215) = true := bne_iff_ne.2 (by omega)
  have m247 : (r != 247) = true := bne_iff_ne.2 (by omega)
  have m930 : (r != 930) = true := bne_iff_ne.2 (by omega)
  clear h1 h2 
  go_enter Tryz.func70, Tryz.ntmps70
  go_wp2
  go_ret
  exact ⟨rfl, rfl⟩
set_option maxRecDepth 1000000 in
theorem class01_15 (r : Int) (w : World) (h1 : 248 ≤ r) (h2 : r ≤ 591) :
    Calls Tryz.prog 70 #[.int .i32 r] w fun e w' => e = .returned (.int .i64 (cls01 r)) ∧ w' = w := by
  have E : cls01 r = 1 := by
    unfold cls01
    repeat' split
    all_goals omega
  rw [E]; clear E
  have g48 : 48 ≤ r := by omega
  have g97 : 97 ≤ r := by omega
  have g65 : 65 ≤ r := by omega
  have g192 : 192 ≤ r := by omega
  have g913 : ¬ 913 ≤ r := by omega
  have g945 : ¬ 945 ≤ r := by omega
  have g1040 : ¬ 1040 ≤ r := by omega
  have g19968 : ¬ 19968 ≤ r := by omega
  have l57 : ¬ r ≤ 57 := by omega
  have l122 : ¬ r ≤ 122 := by omega
  have l90 : ¬ r ≤ 90 := by omega
  have l591 : r ≤ 591 := by omega
  have l937 : r ≤ 937 := by omega
  have l969 : r ≤ 969 := by omega
  have l1103 : r ≤ 1103 := by omega
  have l40959 : r ≤ 40959 := by omega
  have e9 : (r == 9) = false := beq_eq_false_iff_ne.2 (by omega)
  have e10 : (r == 10) = false := beq_eq_false_iff_ne.2 (by omega)
  have e13 : (r == 13) = false := beq_eq_false_iff_ne.2 (by omega)
  have e32 : (r == 32) = false := beq_eq_false_iff_ne.2 (by omega)
  have e160 : (r == 160) = false := beq_eq_false_iff_ne.2 (by omega)
  have e12288 : (r == 12288) = false := beq_eq_false_iff_ne.2 (by omega)
  have e95 : (r == 95) = false := beq_eq_false_iff_ne.2 (by omega)
  have e170 : (r == 170) = false := beq_eq_false_iff_ne.2 (by omega)
  have e181 : (r == 181) = false := beq_eq_false_iff_ne.2 (by omega)
  have e186 : (r == 186) = false := beq_eq_false_iff_ne.2 (by omega)
  have e215 : (r == 215) = false := beq_eq_false_iff_ne.2 (by omega)
  have e247 : (r == 247) = false := beq_eq_false_iff_ne.2 (by omega)
  have e930 : (r == 930) = false := beq_eq_false_iff_ne.2 (by omega)
  have m215 : (r != 215) = true := bne_iff_ne.2 (by omega)
  have m247 : (r != 247) = true := bne_iff_ne.2 (by omega)
  have m930 : (r != 930) = true := bne_iff_ne.2 (by omega)
  clear h1 h2 
  go_enter Tryz.func70, Tryz.ntmps70
  go_wp2
  go_ret
  exact ⟨rfl, rfl⟩
set_option maxRecDepth 1000000 in
theorem class01_16 (r : Int) (w : World) (h1 : 913 ≤ r) (h2 : r ≤ 929) :
    Calls Tryz.prog 70 #[.int .i32 r] w fun e w' => e = .returned (.int .i64 (cls01 r)) ∧ w' = w := by
  have E : cls01 r = 1 := by
    unfold cls01
    repeat' split
    all_goals omega
  rw [E]; clear E
  have g48 : 48 ≤ r := by omega
  have g97 : 97 ≤ r := by omega
  have g65 : 65 ≤ r := by omega
  have g192 : 192 ≤ r := by omega
  have g913 : 913 ≤ r := by omega
  have g945 : ¬ 945 ≤ r := by omega
  have g1040 : ¬ 1040 ≤ r := by omega
  have g19968 : ¬ 19968 ≤ r := by omega
  have l57 : ¬ r ≤ 57 := by omega
  have l122 : ¬ r ≤ 122 := by omega
  have l90 : ¬ r ≤ 90 := by omega
  have l591 : ¬ r ≤ 591 := by omega
  have l937 : r ≤ 937 := by omega
  have l969 : r ≤ 969 := by omega
  have l1103 : r ≤ 1103 := by omega
  have l40959 : r ≤ 40959 := by omega
  have e9 : (r == 9) = false := beq_eq_false_iff_ne.2 (by omega)
  have e10 : (r == 10) = false := beq_eq_false_iff_ne.2 (by omega)
  have e13 : (r == 13) = false := beq_eq_false_iff_ne.2 (by omega)
  have e32 : (r == 32) = false := beq_eq_false_iff_ne.2 (by omega)
  have e160 : (r == 160) = false := beq_eq_false_iff_ne.2 (by omega)
  have e12288 : (r == 12288) = false := beq_eq_false_iff_ne.2 (by omega)
  have e95 : (r == 95) = false := beq_eq_false_iff_ne.2 (by omega)
  have e170 : (r == 170) = false := beq_eq_false_iff_ne.2 (by omega)
  have e181 : (r == 181) = false := beq_eq_false_iff_ne.2 (by omega)
  have e186 : (r == 186) = false := beq_eq_false_iff_ne.2 (by omega)
  have e215 : (r == 215) = false := beq_eq_false_iff_ne.2 (by omega)
  have e247 : (r == 247) = false := beq_eq_false_iff_ne.2 (by omega)
  have e930 : (r == 930) = false := beq_eq_false_iff_ne.2 (by omega)
  have m215 : (r != 215) = true := bne_iff_ne.2 (by omega)
  have m247 : (r != 247) = true := bne_iff_ne.2 (by omega)
  have m930 : (r != 930) = true := bne_iff_ne.2 (by omega)
  clear h1 h2 
  go_enter Tryz.func70, Tryz.ntmps70
  go_wp2
  go_ret
  exact ⟨rfl, rfl⟩
set_option maxRecDepth 1000000 in
theorem class01_17 (r : Int) (w : World) (h1 : 931 ≤ r) (h2 : r ≤ 937) :
    Calls Tryz.prog 70 #[.int .i32 r] w fun e w' => e = .returned (.int .i64 (cls01 r)) ∧ w' = w := by
  have E : cls01 r = 1 := by
    unfold cls01
    repeat' split
    all_goals omega
  rw [E]; clear E
  have g48 : 48 ≤ r := by omega
  have g97 : 97 ≤ r := by omega
  have g65 : 65 ≤ r := by omega
  have g192 : 192 ≤ r := by omega
  have g913 : 913 ≤ r := by omega
  have g945 : ¬ 945 ≤ r := by omega
  have g1040 : ¬ 1040 ≤ r := by omega
  have g19968 : ¬ 19968 ≤ r := by omega
  have l57 : ¬ r ≤ 57 := by omega
  have l122 : ¬ r ≤ 122 := by omega
  have l90 : ¬ r ≤ 90 := by omega
  have l591 : ¬ r ≤ 591 := by omega
  have l937 : r ≤ 937 := by omega
  have l969 : r ≤ 969 := by omega
  have l1103 : r ≤ 1103 := by omega
  have l40959 : r ≤ 40959 := by omega
  have e9 : (r == 9) = false := beq_eq_false_iff_ne.2 (by omega)
  have e10 : (r == 10) = false := beq_eq_false_iff_ne.2 (by omega)
  have e13 : (r == 13) = false := beq_eq_false_iff_ne.2 (by omega)
  have e32 : (r == 32) = false := beq_eq_false_iff_ne.2 (by omega)
  have e160 : (r == 160) = false := beq_eq_false_iff_ne.2 (by omega)
  have e12288 : (r == 12288) = false := beq_eq_false_iff_ne.2 (by omega)
  have e95 : (r == 95) = false := beq_eq_false_iff_ne.2 (by omega)
  have e170 : (r == 170) = false := beq_eq_false_iff_ne.2 (by omega)
  have e181 : (r == 181) = false := beq_eq_false_iff_ne.2 (by omega)
  have e186 : (r == 186) = false := beq_eq_false_iff_ne.2 (by omega)
  have e215 : (r == 215) = false := beq_eq_false_iff_ne.2 (by omega)
  have e247 : (r == 247) = false := beq_eq_false_iff_ne.2 (by omega)
  have e930 : (r == 930) = false := beq_eq_false_iff_ne.2 (by omega)
  have m215 : (r != 215) = true := bne_iff_ne.2 (by omega)
  have m247 : (r != 247) = true := bne_iff_ne.2 (by omega)
  have m930 : (r != 930) = true := bne_iff_ne.2 (by omega)
  clear h1 h2 
  go_enter Tryz.func70, Tryz.ntmps70
  go_wp2
  go_ret
  exact ⟨rfl, rfl⟩
set_option maxRecDepth 1000000 in
theorem class01_18 (r : Int) (w : World) (h1 : 945 ≤ r) (h2 : r ≤ 969) :
    Calls Tryz.prog 70 #[.int .i32 r] w fun e w' => e = .returned (.int .i64 (cls01 r)) ∧ w' = w := by
  have E : cls01 r = 1 := by
    unfold cls01
    repeat' split
    all_goals omega
  rw [E]; clear E
  have g48 : 48 ≤ r := by omega
  have g97 : 97 ≤ r := by omega
  have g65 : 65 ≤ r := by omega
  have g192 : 192 ≤ r := by omega
  have g913 : 913 ≤ r := by omega
  have g945 : 945 ≤ r := by omega
  have g1040 : ¬ 1040 ≤ r := by omega
  have g19968 : ¬ 19968 ≤ r := by omega
  have l57 : ¬ r ≤ 57 := by omega
  have l122 : ¬ r ≤ 122 := by omega
  have l90 : ¬ r ≤ 90 := by omega
  have l591 : ¬ r ≤ 591 := by omega
  have l937 : ¬ r ≤ 937 := by omega
  have l969 : r ≤ 969 := by omega
  have l1103 : r ≤ 1103 := by omega
  have l40959 : r ≤ 40959 := by omega
  have e9 : (r == 9) = false := beq_eq_false_iff_ne.2 (by omega)
  have e10 : (r == 10) = false := beq_eq_false_iff_ne.2 (by omega)
  have e13 : (r == 13) = false := beq_eq_false_iff_ne.2 (by omega)
  have e32 : (r == 32) = false := beq_eq_false_iff_ne.2 (by omega)
  have e160 : (r == 160) = false := beq_eq_false_iff_ne.2 (by omega)
  have e12288 : (r == 12288) = false := beq_eq_false_iff_ne.2 (by omega)
  have e95 : (r == 95) = false := beq_eq_false_iff_ne.2 (by omega)
  have e170 : (r == 170) = false := beq_eq_false_iff_ne.2 (by omega)
  have e181 : (r == 181) = false := beq_eq_false_iff_ne.2 (by omega)
  have e186 : (r == 186) = false := beq_eq_false_iff_ne.2 (by omega)
  have e215 : (r == 215) = false := beq_eq_false_iff_ne.2 (by omega)
  have e247 : (r == 247) = false := beq_eq_false_iff_ne.2 (by omega)
  have e930 : (r == 930) = false := beq_eq_false_iff_ne.2 (by omega)
  have m215 : (r != 215) = true := bne_iff_ne.2 (by omega)
  have m247 : (r != 247) = true := bne_iff_ne.2 (by omega)
  have m930 : (r != 930) = true := bne_iff_ne.2 (by omega)
  clear h1 h2 
  go_enter Tryz.func70, Tryz.ntmps70
  go_wp2
  go_ret
  exact ⟨rfl, rfl⟩
set_option maxRecDepth 1000000 in
theorem class01_19 (r : Int) (w : World) (h1 : 1040 ≤ r) (h2 : r ≤ 1103) :
    Calls Tryz.prog 70 #[.int .i32 r] w fun e w' => e = .returned (.int .i64 (cls01 r)) ∧ w' = w := by
  have E : cls01 r = 1 := by
    unfold cls01
    repeat' split
    all_goals omega
  rw [E]; clear E
  have g48 : 48 ≤ r := by omega
  have g97 : 97 ≤ r := by omega
  have g65 : 65 ≤ r := by omega
  have g192 : 192 ≤ r := by omega
  have g913 : 913 ≤ r := by omega
  have g945 : 945 ≤ r := by omega
  have g1040 : 1040 ≤ r := by omega
  have g19968 : ¬ 19968 ≤ r := by omega
  have l57 : ¬ r ≤ 57 := by omega
  have l122 : ¬ r ≤ 122 := by omega
  have l90 : ¬ r ≤ 90 := by omega
  have l591 : ¬ r ≤ 591 := by omega
  have l937 : ¬ r ≤ 937 := by omega
  have l969 : ¬ r ≤ 969 := by omega
  have l1103 : r ≤ 1103 := by omega
  have l40959 : r ≤ 40959 := by omega
  have e9 : (r == 9) = false := beq_eq_false_iff_ne.2 (by omega)
  have e10 : (r == 10) = false := beq_eq_false_iff_ne.2 (by omega)
  have e13 : (r == 13) = false := beq_eq_false_iff_ne.2 (by omega)
  have e32 : (r == 32) = false := beq_eq_false_iff_ne.2 (by omega)
  have e160 : (r == 160) = false := beq_eq_false_iff_ne.2 (by omega)
  have e12288 : (r == 12288) = false := beq_eq_false_iff_ne.2 (by omega)
  have e95 : (r == 95) = false := beq_eq_false_iff_ne.2 (by omega)
  have e170 : (r == 170) = false := beq_eq_false_iff_ne.2 (by omega)
  have e181 : (r == 181) = false := beq_eq_false_iff_ne.2 (by omega)
  have e186 : (r == 186) = false := beq_eq_false_iff_ne.2 (by omega)
  have e215 : (r == 215) = false := beq_eq_false_iff_ne.2 (by omega)
  have e247 : (r == 247) = false := beq_eq_false_iff_ne.2 (by omega)
  have e930 : (r == 930) = false := beq_eq_false_iff_ne.2 (by omega)
  have m215 : (r != 215) = true := bne_iff_ne.2 (by omega)
  have m247 : (r != 247) = true := bne_iff_ne.2 (by omega)
  have m930 : (r != 930) = true := bne_iff_ne.2 (by omega)
  clear h1 h2 
  go_enter Tryz.func70, Tryz.ntmps70
  go_wp2
  go_ret
  exact ⟨rfl, rfl⟩
set_option maxRecDepth 1000000 in
theorem class01_20 (r : Int) (w : World) (h1 : 19968 ≤ r) (h2 : r ≤ 40959) :
    Calls Tryz.prog 70 #[.int .i32 r] w fun e w' => e = .returned (.int .i64 (cls01 r)) ∧ w' = w := by
  have E : cls01 r = 1 := by
    unfold cls01
    repeat' split
    all_goals omega
  rw [E]; clear E
  have g48 : 48 ≤ r := by omega
  have g97 : 97 ≤ r := by omega
  have g65 : 65 ≤ r := by omega
  have g192 : 192 ≤ r := by omega
  have g913 : 913 ≤ r := by omega
  have g945 : 945 ≤ r := by omega
  have g1040 : 1040 ≤ r := by omega
  have g19968 : 19968 ≤ r := by omega
  have l57 : ¬ r ≤ 57 := by omega
  have l122 : ¬ r ≤ 122 := by omega
  have l90 : ¬ r ≤ 90 := by omega
  have l591 : ¬ r ≤ 591 := by omega
  have l937 : ¬ r ≤ 937 := by omega
  have l969 : ¬ r ≤ 969 := by omega
  have l1103 : ¬ r ≤ 1103 := by omega
  have l40959 : r ≤ 40959 := by omega
  have e9 : (r == 9) = false := beq_eq_false_iff_ne.2 (by omega)
  have e10 : (r == 10) = false := beq_eq_false_iff_ne.2 (by omega)
  have e13 : (r == 13) = false := beq_eq_false_iff_ne.2 (by omega)
  have e32 : (r == 32) = false := beq_eq_false_iff_ne.2 (by omega)
  have e160 : (r == 160) = false := beq_eq_false_iff_ne.2 (by omega)
  have e12288 : (r == 12288) = false := beq_eq_false_iff_ne.2 (by omega)
  have e95 : (r == 95) = false := beq_eq_false_iff_ne.2 (by omega)
  have e170 : (r == 170) = false := beq_eq_false_iff_ne.2 (by omega)
  have e181 : (r == 181) = false := beq_eq_false_iff_ne.2 (by omega)
  have e186 : (r == 186) = false := beq_eq_false_iff_ne.2 (by omega)
  have e215 : (r == 215) = false := beq_eq_false_iff_ne.2 (by omega)
  have e247 : (r == 247) = false := beq_eq_false_iff_ne.2 (by omega)
  have e930 : (r == 930) = false := beq_eq_false_iff_ne.2 (by omega)
  have m215 : (r != 215) = true := bne_iff_ne.2 (by omega)
  have m247 : (r != 247) = true := bne_iff_ne.2 (by omega)
  have m930 : (r != 930) = true := bne_iff_ne.2 (by omega)
  clear h1 h2 
  go_enter Tryz.func70, Tryz.ntmps70
  go_wp2
  go_ret
  exact ⟨rfl, rfl⟩
set_option maxRecDepth 1000000 in
theorem class01_21 (r : Int) (w : World) (h1 : -2147483648 ≤ r) (h2 : r ≤ 47) (n9 : r ≠ 9) (n10 : r ≠ 10) (n13 : r ≠ 13) (n32 : r ≠ 32):
    Calls Tryz.prog 70 #[.int .i32 r] w fun e w' => e = .returned (.int .i64 (cls01 r)) ∧ w' = w := by
  have E : cls01 r = 0 := by
    unfold cls01
    repeat' split
    all_goals omega
  rw [E]; clear E
  have g48 : ¬ 48 ≤ r := by omega
  have g97 : ¬ 97 ≤ r := by omega
  have g65 : ¬ 65 ≤ r := by omega
  have g192 : ¬ 192 ≤ r := by omega
  have g913 : ¬ 913 ≤ r := by omega
  have g945 : ¬ 945 ≤ r := by omega
  have g1040 : ¬ 1040 ≤ r := by omega
  have g19968 : ¬ 19968 ≤ r := by omega
  have l57 : r ≤ 57 := by omega
  have l122 : r ≤ 122 := by omega
  have l90 : r ≤ 90 := by omega
  have l591 : r ≤ 591 := by omega
  have l937 : r ≤ 937 := by omega
  have l969 : r ≤ 969 := by omega
  have l1103 : r ≤ 1103 := by omega
  have l40959 : r ≤ 40959 := by omega
  have e9 : (r == 9) = false := beq_eq_false_iff_ne.2 (by omega)
  have e10 : (r == 10) = false := beq_eq_false_iff_ne.2 (by omega)
  have e13 : (r == 13) = false := beq_eq_false_iff_ne.2 (by omega)
  have e32 : (r == 32) = false := beq_eq_false_iff_ne.2 (by omega)
  have e160 : (r == 160) = false := beq_eq_false_iff_ne.2 (by omega)
  have e12288 : (r == 12288) = false := beq_eq_false_iff_ne.2 (by omega)
  have e95 : (r == 95) = false := beq_eq_false_iff_ne.2 (by omega)
  have e170 : (r == 170) = false := beq_eq_false_iff_ne.2 (by omega)
  have e181 : (r == 181) = false := beq_eq_false_iff_ne.2 (by omega)
  have e186 : (r == 186) = false := beq_eq_false_iff_ne.2 (by omega)
  have e215 : (r == 215) = false := beq_eq_false_iff_ne.2 (by omega)
  have e247 : (r == 247) = false := beq_eq_false_iff_ne.2 (by omega)
  have e930 : (r == 930) = false := beq_eq_false_iff_ne.2 (by omega)
  have m215 : (r != 215) = true := bne_iff_ne.2 (by omega)
  have m247 : (r != 247) = true := bne_iff_ne.2 (by omega)
  have m930 : (r != 930) = true := bne_iff_ne.2 (by omega)
  clear h1 h2 n9 n10 n13 n32
  go_enter Tryz.func70, Tryz.ntmps70
  go_wp2
  go_ret
  exact ⟨rfl, rfl⟩
set_option maxRecDepth 1000000 in
theorem class01_22 (r : Int) (w : World) (h1 : 58 ≤ r) (h2 : r ≤ 64) :
    Calls Tryz.prog 70 #[.int .i32 r] w fun e w' => e = .returned (.int .i64 (cls01 r)) ∧ w' = w := by
  have E : cls01 r = 0 := by
    unfold cls01
    repeat' split
    all_goals omega
  rw [E]; clear E
  have g48 : 48 ≤ r := by omega
  have g97 : ¬ 97 ≤ r := by omega
  have g65 : ¬ 65 ≤ r := by omega
  have g192 : ¬ 192 ≤ r := by omega
  have g913 : ¬ 913 ≤ r := by omega
  have g945 : ¬ 945 ≤ r := by omega
  have g1040 : ¬ 1040 ≤ r := by omega
  have g19968 : ¬ 19968 ≤ r := by omega
  have l57 : ¬ r ≤ 57 := by omega
  have l122 : r ≤ 122 := by omega
  have l90 : r ≤ 90 := by omega
  have l591 : r ≤ 591 := by omega
  have l937 : r ≤ 937 := by omega
  have l969 : r ≤ 969 := by omega
  have l1103 : r ≤ 1103 := by omega
  have l40959 : r ≤ 40959 := by omega
  have e9 : (r == 9) = false := beq_eq_false_iff_ne.2 (by omega)
  have e10 : (r == 10) = false := beq_eq_false_iff_ne.2 (by omega)
  have e13 : (r == 13) = false := beq_eq_false_iff_ne.2 (by omega)
  have e32 : (r == 32) = false := beq_eq_false_iff_ne.2 (by omega)
  have e160 : (r == 160) = false := beq_eq_false_iff_ne.2 (by omega)
  have e12288 : (r == 12288) = false := beq_eq_false_iff_ne.2 (by omega)
  have e95 : (r == 95) = false := beq_eq_false_iff_ne.2 (by omega)
  have e170 : (r == 170) = false := beq_eq_false_iff_ne.2 (by omega)
  have e181 : (r == 181) = false := beq_eq_false_iff_ne.2 (by omega)
  have e186 : (r == 186) = false := beq_eq_false_iff_ne.2 (by omega)
  have e215 : (r == 215) = false := beq_eq_false_iff_ne.2 (by omega)
  have e247 : (r == 247) = false := beq_eq_false_iff_ne.2 (by omega)
  have e930 : (r == 930) = false := beq_eq_false_iff_ne.2 (by omega)
  have m215 : (r != 215) = true := bne_iff_ne.2 (by omega)
  have m247 : (r != 247) = true := bne_iff_ne.2 (by omega)
  have m930 : (r != 930) = true := bne_iff_ne.2 (by omega)
  clear h1 h2 
  go_enter Tryz.func70, Tryz.ntmps70
  go_wp2
  go_ret
  exact ⟨rfl, rfl⟩
set_option maxRecDepth 1000000 in
theorem class01_23 (r : Int) (w : World) (h1 : 91 ≤ r) (h2 : r ≤ 96) (n95 : r ≠ 95):
    Calls Tryz.prog 70 #[.int .i32 r] w fun e w' => e = .returned (.int .i64 (cls01 r)) ∧ w' = w := by
  have E : cls01 r = 0 := by
    unfold cls01
    repeat' split
    all_goals omega
  rw [E]; clear E
  have g48 : 48 ≤ r := by omega
  have g97 : ¬ 97 ≤ r := by omega
  have g65 : 65 ≤ r := by omega
  have g192 : ¬ 192 ≤ r := by omega
  have g913 : ¬ 913 ≤ r := by omega
  have g945 : ¬ 945 ≤ r := by omega
  have g1040 : ¬ 1040 ≤ r := by omega
  have g19968 : ¬ 19968 ≤ r := by omega
  have l57 : ¬ r ≤ 57 := by omega
  have l122 : r ≤ 122 := by omega
  have l90 : ¬ r ≤ 90 := by omega
  have l591 : r ≤ 591 := by omega
  have l937 : r ≤ 937 := by omega
  have l969 : r ≤ 969 := by omega
  have l1103 : r ≤ 1103 := by omega
  have l40959 : r ≤ 40959 := by omega
  have e9 : (r == 9) = false := beq_eq_false_iff_ne.2 (by omega)
  have e10 : (r == 10) = false := beq_eq_false_iff_ne.2 (by omega)
  have e13 : (r == 13) = false := beq_eq_false_iff_ne.2 (by omega)
  have e32 : (r == 32) = false := beq_eq_false_iff_ne.2 (by omega)
  have e160 : (r == 160) = false := beq_eq_false_iff_ne.2 (by omega)
  have e12288 : (r == 12288) = false := beq_eq_false_iff_ne.2 (by omega)
  have e95 : (r == 95) = false := beq_eq_false_iff_ne.2 (by omega)
  have e170 : (r == 170) = false := beq_eq_false_iff_ne.2 (by omega)
  have e181 : (r == 181) = false := beq_eq_false_iff_ne.2 (by omega)
  have e186 : (r == 186) = false := beq_eq_false_iff_ne.2 (by omega)
  have e215 : (r == 215) = false := beq_eq_false_iff_ne.2 (by omega)
  have e247 : (r == 247) = false := beq_eq_false_iff_ne.2 (by omega)
  have e930 : (r == 930) = false := beq_eq_false_iff_ne.2 (by omega)
  have m215 : (r != 215) = true := bne_iff_ne.2 (by omega)
  have m247 : (r != 247) = true := bne_iff_ne.2 (by omega)
  have m930 : (r != 930) = true := bne_iff_ne.2 (by omega)
  clear h1 h2 n95
  go_enter Tryz.func70, Tryz.ntmps70
  go_wp2
  go_ret
  exact ⟨rfl, rfl⟩
set_option maxRecDepth 1000000 in
theorem class01_24 (r : Int) (w : World) (h1 : 123 ≤ r) (h2 : r ≤ 191) (n160 : r ≠ 160) (n170 : r ≠ 170) (n181 : r ≠ 181) (n186 : r ≠ 186):
    Calls Tryz.prog 70 #[.int .i32 r] w fun e w' => e = .returned (.int .i64 (cls01 r)) ∧ w' = w := by
  have E : cls01 r = 0 := by
    unfold cls01
    repeat' split
    all_goals omega
  rw [E]; clear E
  have g48 : 48 ≤ r := by omega
  have g97 : 97 ≤ r := by omega
  have g65 : 65 ≤ r := by omega
  have g192 : ¬ 192 ≤ r := by omega
  have g913 : ¬ 913 ≤ r := by omega
  have g945 : ¬ 945 ≤ r := by omega
  have g1040 : ¬ 1040 ≤ r := by omega
  have g19968 : ¬ 19968 ≤ r := by omega
  have l57 : ¬ r ≤ 57 := by omega
  have l122 : ¬ r ≤ 122 := by omega
  have l90 : ¬ r ≤ 90 := by omega
  have l591 : r ≤ 591 := by omega
  have l937 : r ≤ 937 := by omega
  have l969 : r ≤ 969 := by omega
  have l1103 : r ≤ 1103 := by omega
  have l40959 : r ≤ 40959 := by omega
  have e9 : (r == 9) = false := beq_eq_false_iff_ne.2 (by omega)
  have e10 : (r == 10) = false := beq_eq_false_iff_ne.2 (by omega)
  have e13 : (r == 13) = false := beq_eq_false_iff_ne.2 (by omega)
  have e32 : (r == 32) = false := beq_eq_false_iff_ne.2 (by omega)
  have e160 : (r == 160) = false := beq_eq_false_iff_ne.2 (by omega)
  have e12288 : (r == 12288) = false := beq_eq_false_iff_ne.2 (by omega)
  have e95 : (r == 95) = false := beq_eq_false_iff_ne.2 (by omega)
  have e170 : (r == 170) = false := beq_eq_false_iff_ne.2 (by omega)
  have e181 : (r == 181) = false := beq_eq_false_iff_ne.2 (by omega)
  have e186 : (r == 186) = false := beq_eq_false_iff_ne.2 (by omega)
  have e215 : (r == 215) = false := beq_eq_false_iff_ne.2 (by omega)
  have e247 : (r == 247) = false := beq_eq_false_iff_ne.2 (by omega)
  have e930 : (r == 930) = false := beq_eq_false_iff_ne.2 (by omega)
  have m215 : (r != 215) = true := bne_iff_ne.2 (by omega)
  have m247 : (r != 247) = true := bne_iff_ne.2 (by omega)
  have m930 : (r != 930) = true := bne_iff_ne.2 (by omega)
  clear h1 h2 n160 n170 n181 n186
  go_enter Tryz.func70, Tryz.ntmps70
  go_wp2
  go_ret
  exact ⟨rfl, rfl⟩
set_option maxRecDepth 1000000 in
theorem class01_25 (w : World) :
    Calls Tryz.prog 70 #[.int .i32 215] w fun e w' => e = .returned (.int .i64 (cls01 215)) ∧ w' = w := by
  have E : cls01 215 = 0 := by decide
  rw [E]
  go_enter Tryz.func70, Tryz.ntmps70
  go_wp2
  go_ret
  exact ⟨rfl, rfl⟩
set_option maxRecDepth 1000000 in
theorem class01_26 (w : World) :
    Calls Tryz.prog 70 #[.int .i32 247] w fun e w' => e = .returned (.int .i64 (cls01 247)) ∧ w' = w := by
  have E : cls01 247 = 0 := by decide
  rw [E]
  go_enter Tryz.func70, Tryz.ntmps70
  go_wp2
  go_ret
  exact ⟨rfl, rfl⟩
set_option maxRecDepth 1000000 in
theorem class01_27 (r : Int) (w : World) (h1 : 592 ≤ r) (h2 : r ≤ 912) :
    Calls Tryz.prog 70 #[.int .i32 r] w fun e w' => e = .returned (.int .i64 (cls01 r)) ∧ w' = w := by
  have E : cls01 r = 0 := by
    unfold cls01
    repeat' split
    all_goals omega
  rw [E]; clear E
  have g48 : 48 ≤ r := by omega
  have g97 : 97 ≤ r := by omega
  have g65 : 65 ≤ r := by omega
  have g192 : 192 ≤ r := by omega
  have g913 : ¬ 913 ≤ r := by omega
  have g945 : ¬ 945 ≤ r := by omega
  have g1040 : ¬ 1040 ≤ r := by omega
  have g19968 : ¬ 19968 ≤ r := by omega
  have l57 : ¬ r ≤ 57 := by omega
  have l122 : ¬ r ≤ 122 := by omega
  have l90 : ¬ r ≤ 90 := by omega
  have l591 : ¬ r ≤ 591 := by omega
  have l937 : r ≤ 937 := by omega
  have l969 : r ≤ 969 := by omega
  have l1103 : r ≤ 1103 := by omega
  have l40959 : r ≤ 40959 := by omega
  have e9 : (r == 9) = false := beq_eq_false_iff_ne.2 (by omega)
  have e10 : (r == 10) = false := beq_eq_false_iff_ne.2 (by omega)
  have e13 : (r == 13) = false := beq_eq_false_iff_ne.2 (by omega)
  have e32 : (r == 32) = false := beq_eq_false_iff_ne.2 (by omega)
  have e160 : (r == 160) = false := beq_eq_false_iff_ne.2 (by omega)
  have e12288 : (r == 12288) = false := beq_eq_false_iff_ne.2 (by omega)
  have e95 : (r == 95) = false := beq_eq_false_iff_ne.2 (by omega)
  have e170 : (r == 170) = false := beq_eq_false_iff_ne.2 (by omega)
  have e181 : (r == 181) = false := beq_eq_false_iff_ne.2 (by omega)
  have e186 : (r == 186) = false := beq_eq_false_iff_ne.2 (by omega)
  have e215 : (r == 215) = false := beq_eq_false_iff_ne.2 (by omega)
  have e247 : (r == 247) = false := beq_eq_false_iff_ne.2 (by omega)
  have e930 : (r == 930) = false := beq_eq_false_iff_ne.2 (by omega)
  have m215 : (r != 215) = true := bne_iff_ne.2 (by omega)
  have m247 : (r != 247) = true := bne_iff_ne.2 (by omega)
  have m930 : (r != 930) = true := bne_iff_ne.2 (by omega)
  clear h1 h2 
  go_enter Tryz.func70, Tryz.ntmps70
  go_wp2
  go_ret
  exact ⟨rfl, rfl⟩
set_option maxRecDepth 1000000 in
theorem class01_28 (w : World) :
    Calls Tryz.prog 70 #[.int .i32 930] w fun e w' => e = .returned (.int .i64 (cls01 930)) ∧ w' = w := by
  have E : cls01 930 = 0 := by decide
  rw [E]
  go_enter Tryz.func70, Tryz.ntmps70
  go_wp2
  go_ret
  exact ⟨rfl, rfl⟩
set_option maxRecDepth 1000000 in
theorem class01_29 (r : Int) (w : World) (h1 : 938 ≤ r) (h2 : r ≤ 944) :
    Calls Tryz.prog 70 #[.int .i32 r] w fun e w' => e = .returned (.int .i64 (cls01 r)) ∧ w' = w := by
  have E : cls01 r = 0 := by
    unfold cls01
    repeat' split
    all_goals omega
  rw [E]; clear E
  have g48 : 48 ≤ r := by omega
  have g97 : 97 ≤ r := by omega
  have g65 : 65 ≤ r := by omega
  have g192 : 192 ≤ r := by omega
  have g913 : 913 ≤ r := by omega
  have g945 : ¬ 945 ≤ r := by omega
  have g1040 : ¬ 1040 ≤ r := by omega
  have g19968 : ¬ 19968 ≤ r := by omega
  have l57 : ¬ r ≤ 57 := by omega
  have l122 : ¬ r ≤ 122 := by omega
  have l90 : ¬ r ≤ 90 := by omega
  have l591 : ¬ r ≤ 591 := by omega
  have l937 : ¬ r ≤ 937 := by omega
  have l969 : r ≤ 969 := by omega
  have l1103 : r ≤ 1103 := by omega
  have l40959 : r ≤ 40959 := by omega
  have e9 : (r == 9) = false := beq_eq_false_iff_ne.2 (by omega)
  have e10 : (r == 10) = false := beq_eq_false_iff_ne.2 (by omega)
  have e13 : (r == 13) = false := beq_eq_false_iff_ne.2 (by omega)
  have e32 : (r == 32) = false := beq_eq_false_iff_ne.2 (by omega)
  have e160 : (r == 160) = false := beq_eq_false_iff_ne.2 (by omega)
  have e12288 : (r == 12288) = false := beq_eq_false_iff_ne.2 (by omega)
  have e95 : (r == 95) = false := beq_eq_false_iff_ne.2 (by omega)
  have e170 : (r == 170) = false := beq_eq_false_iff_ne.2 (by omega)
  have e181 : (r == 181) = false := beq_eq_false_iff_ne.2 (by omega)
  have e186 : (r == 186) = false := beq_eq_false_iff_ne.2 (by omega)
  have e215 : (r == 215) = false := beq_eq_false_iff_ne.2 (by omega)
  have e247 : (r == 247) = false := beq_eq_false_iff_ne.2 (by omega)
  have e930 : (r == 930) = false := beq_eq_false_iff_ne.2 (by omega)
  have m215 : (r != 215) = true := bne_iff_ne.2 (by omega)
  have m247 : (r != 247) = true := bne_iff_ne.2 (by omega)
  have m930 : (r != 930) = true := bne_iff_ne.2 (by omega)
  clear h1 h2 
  go_enter Tryz.func70, Tryz.ntmps70
  go_wp2
  go_ret
  exact ⟨rfl, rfl⟩
set_option maxRecDepth 1000000 in
theorem class01_30 (r : Int) (w : World) (h1 : 970 ≤ r) (h2 : r ≤ 1039) :
    Calls Tryz.prog 70 #[.int .i32 r] w fun e w' => e = .returned (.int .i64 (cls01 r)) ∧ w' = w := by
  have E : cls01 r = 0 := by
    unfold cls01
    repeat' split
    all_goals omega
  rw [E]; clear E
  have g48 : 48 ≤ r := by omega
  have g97 : 97 ≤ r := by omega
  have g65 : 65 ≤ r := by omega
  have g192 : 192 ≤ r := by omega
  have g913 : 913 ≤ r := by omega
  have g945 : 945 ≤ r := by omega
  have g1040 : ¬ 1040 ≤ r := by omega
  have g19968 : ¬ 19968 ≤ r := by omega
  have l57 : ¬ r ≤ 57 := by omega
  have l122 : ¬ r ≤ 122 := by omega
  have l90 : ¬ r ≤ 90 := by omega
  have l591 : ¬ r ≤ 591 := by omega
  have l937 : ¬ r ≤ 937 := by omega
  have l969 : ¬ r ≤ 969 := by omega
  have l1103 : r ≤ 1103 := by omega
  have l40959 : r ≤ 40959 := by omega
  have e9 : (r == 9) = false := beq_eq_false_iff_ne.2 (by omega)
  have e10 : (r == 10) = false := beq_eq_false_iff_ne.2 (by omega)
  have e13 : (r == 13) = false := beq_eq_false_iff_ne.2 (by omega)
  have e32 : (r == 32) = false := beq_eq_false_iff_ne.2 (by omega)
  have e160 : (r == 160) = false := beq_eq_false_iff_ne.2 (by omega)
  have e12288 : (r == 12288) = false := beq_eq_false_iff_ne.2 (by omega)
  have e95 : (r == 95) = false := beq_eq_false_iff_ne.2 (by omega)
  have e170 : (r == 170) = false := beq_eq_false_iff_ne.2 (by omega)
  have e181 : (r == 181) = false := beq_eq_false_iff_ne.2 (by omega)
  have e186 : (r == 186) = false := beq_eq_false_iff_ne.2 (by omega)
  have e215 : (r == 215) = false := beq_eq_false_iff_ne.2 (by omega)
  have e247 : (r == 247) = false := beq_eq_false_iff_ne.2 (by omega)
  have e930 : (r == 930) = false := beq_eq_false_iff_ne.2 (by omega)
  have m215 : (r != 215) = true := bne_iff_ne.2 (by omega)
  have m247 : (r != 247) = true := bne_iff_ne.2 (by omega)
  have m930 : (r != 930) = true := bne_iff_ne.2 (by omega)
  clear h1 h2 
  go_enter Tryz.func70, Tryz.ntmps70
  go_wp2
  go_ret
  exact ⟨rfl, rfl⟩
set_option maxRecDepth 1000000 in
theorem class01_31 (r : Int) (w : World) (h1 : 1104 ≤ r) (h2 : r ≤ 19967) (n12288 : r ≠ 12288):
    Calls Tryz.prog 70 #[.int .i32 r] w fun e w' => e = .returned (.int .i64 (cls01 r)) ∧ w' = w := by
  have E : cls01 r = 0 := by
    unfold cls01
    repeat' split
    all_goals omega
  rw [E]; clear E
  have g48 : 48 ≤ r := by omega
  have g97 : 97 ≤ r := by omega
  have g65 : 65 ≤ r := by omega
  have g192 : 192 ≤ r := by omega
  have g913 : 913 ≤ r := by omega
  have g945 : 945 ≤ r := by omega
  have g1040 : 1040 ≤ r := by omega
  have g19968 : ¬ 19968 ≤ r := by omega
  have l57 : ¬ r ≤ 57 := by omega
  have l122 : ¬ r ≤ 122 := by omega
  have l90 : ¬ r ≤ 90 := by omega
  have l591 : ¬ r ≤ 591 := by omega
  have l937 : ¬ r ≤ 937 := by omega
  have l969 : ¬ r ≤ 969 := by omega
  have l1103 : ¬ r ≤ 1103 := by omega
  have l40959 : r ≤ 40959 := by omega
  have e9 : (r == 9) = false := beq_eq_false_iff_ne.2 (by omega)
  have e10 : (r == 10) = false := beq_eq_false_iff_ne.2 (by omega)
  have e13 : (r == 13) = false := beq_eq_false_iff_ne.2 (by omega)
  have e32 : (r == 32) = false := beq_eq_false_iff_ne.2 (by omega)
  have e160 : (r == 160) = false := beq_eq_false_iff_ne.2 (by omega)
  have e12288 : (r == 12288) = false := beq_eq_false_iff_ne.2 (by omega)
  have e95 : (r == 95) = false := beq_eq_false_iff_ne.2 (by omega)
  have e170 : (r == 170) = false := beq_eq_false_iff_ne.2 (by omega)
  have e181 : (r == 181) = false := beq_eq_false_iff_ne.2 (by omega)
  have e186 : (r == 186) = false := beq_eq_false_iff_ne.2 (by omega)
  have e215 : (r == 215) = false := beq_eq_false_iff_ne.2 (by omega)
  have e247 : (r == 247) = false := beq_eq_false_iff_ne.2 (by omega)
  have e930 : (r == 930) = false := beq_eq_false_iff_ne.2 (by omega)
  have m215 : (r != 215) = true := bne_iff_ne.2 (by omega)
  have m247 : (r != 247) = true := bne_iff_ne.2 (by omega)
  have m930 : (r != 930) = true := bne_iff_ne.2 (by omega)
  clear h1 h2 n12288
  go_enter Tryz.func70, Tryz.ntmps70
  go_wp2
  go_ret
  exact ⟨rfl, rfl⟩
set_option maxRecDepth 1000000 in
theorem class01_32 (r : Int) (w : World) (h1 : 40960 ≤ r) (h2 : r ≤ 2147483647) :
    Calls Tryz.prog 70 #[.int .i32 r] w fun e w' => e = .returned (.int .i64 (cls01 r)) ∧ w' = w := by
  have E : cls01 r = 0 := by
    unfold cls01
    repeat' split
    all_goals omega
  rw [E]; clear E
  have g48 : 48 ≤ r := by omega
  have g97 : 97 ≤ r := by omega
  have g65 : 65 ≤ r := by omega
  have g192 : 192 ≤ r := by omega
  have g913 : 913 ≤ r := by omega
  have g945 : 945 ≤ r := by omega
  have g1040 : 1040 ≤ r := by omega
  have g19968 : 19968 ≤ r := by omega
  have l57 : ¬ r ≤ 57 := by omega
  have l122 : ¬ r ≤ 122 := by omega
  have l90 : ¬ r ≤ 90 := by omega
  have l591 : ¬ r ≤ 591 := by omega
  have l937 : ¬ r ≤ 937 := by omega
  have l969 : ¬ r ≤ 969 := by omega
  have l1103 : ¬ r ≤ 1103 := by omega
  have l40959 : ¬ r ≤ 40959 := by omega
  have e9 : (r == 9) = false := beq_eq_false_iff_ne.2 (by omega)
  have e10 : (r == 10) = false := beq_eq_false_iff_ne.2 (by omega)
  have e13 : (r == 13) = false := beq_eq_false_iff_ne.2 (by omega)
  have e32 : (r == 32) = false := beq_eq_false_iff_ne.2 (by omega)
  have e160 : (r == 160) = false := beq_eq_false_iff_ne.2 (by omega)
  have e12288 : (r == 12288) = false := beq_eq_false_iff_ne.2 (by omega)
  have e95 : (r == 95) = false := beq_eq_false_iff_ne.2 (by omega)
  have e170 : (r == 170) = false := beq_eq_false_iff_ne.2 (by omega)
  have e181 : (r == 181) = false := beq_eq_false_iff_ne.2 (by omega)
  have e186 : (r == 186) = false := beq_eq_false_iff_ne.2 (by omega)
  have e215 : (r == 215) = false := beq_eq_false_iff_ne.2 (by omega)
  have e247 : (r == 247) = false := beq_eq_false_iff_ne.2 (by omega)
  have e930 : (r == 930) = false := beq_eq_false_iff_ne.2 (by omega)
  have m215 : (r != 215) = true := bne_iff_ne.2 (by omega)
  have m247 : (r != 247) = true := bne_iff_ne.2 (by omega)
  have m930 : (r != 930) = true := bne_iff_ne.2 (by omega)
  clear h1 h2 
  go_enter Tryz.func70, Tryz.ntmps70
  go_wp2
  go_ret
  exact ⟨rfl, rfl⟩
theorem class01_any (r : Int) (w : World) (hr : -2147483648 ≤ r ∧ r ≤ 2147483647) :
    Calls Tryz.prog 70 #[.int .i32 r] w fun e w' => e = .returned (.int .i64 (cls r)) ∧ w' = w := by
  rw [← cls01_eq]
  by_cases c1 : r = 9
  · rw [c1]; exact class01_1 w
  by_cases c2 : r = 10
  · rw [c2]; exact class01_2 w
  by_cases c3 : r = 13
  · rw [c3]; exact class01_3 w
  by_cases c4 : r = 32
  · rw [c4]; exact class01_4 w
  by_cases c5 : r = 160
  · rw [c5]; exact class01_5 w
  by_cases c6 : r = 12288
  · rw [c6]; exact class01_6 w
  by_cases c9 : r = 95
  · rw [c9]; exact class01_9 w
  by_cases c10 : r = 170
  · rw [c10]; exact class01_10 w
  by_cases c11 : r = 181
  · rw [c11]; exact class01_11 w
  by_cases c12 : r = 186
  · rw [c12]; exact class01_12 w
  by_cases c25 : r = 215
  · rw [c25]; exact class01_25 w
  by_cases c26 : r = 247
  · rw [c26]; exact class01_26 w
  by_cases c28 : r = 930
  · rw [c28]; exact class01_28 w
  by_cases c0 : 48 ≤ r ∧ r ≤ 57
  · exact class01_0 r w c0.1 c0.2 
  by_cases c7 : 97 ≤ r ∧ r ≤ 122
  · exact class01_7 r w c7.1 c7.2 
  by_cases c8 : 65 ≤ r ∧ r ≤ 90
  · exact class01_8 r w c8.1 c8.2 
  by_cases c13 : 192 ≤ r ∧ r ≤ 214
  · exact class01_13 r w c13.1 c13.2 
  by_cases c14 : 216 ≤ r ∧ r ≤ 246
  · exact class01_14 r w c14.1 c14.2 
  by_cases c15 : 248 ≤ r ∧ r ≤ 591
  · exact class01_15 r w c15.1 c15.2 
  by_cases c16 : 913 ≤ r ∧ r ≤ 929
  · exact class01_16 r w c16.1 c16.2 
  by_cases c17 : 931 ≤ r ∧ r ≤ 937
  · exact class01_17 r w c17.1 c17.2 
  by_cases c18 : 945 ≤ r ∧ r ≤ 969
  · exact class01_18 r w c18.1 c18.2 
  by_cases c19 : 1040 ≤ r ∧ r ≤ 1103
  · exact class01_19 r w c19.1 c19.2 
  by_cases c20 : 19968 ≤ r ∧ r ≤ 40959
  · exact class01_20 r w c20.1 c20.2 
  by_cases c21 : -2147483648 ≤ r ∧ r ≤ 47
  · exact class01_21 r w c21.1 c21.2 (by omega) (by omega) (by omega) (by omega)
  by_cases c22 : 58 ≤ r ∧ r ≤ 64
  · exact class01_22 r w c22.1 c22.2 
  by_cases c23 : 91 ≤ r ∧ r ≤ 96
  · exact class01_23 r w c23.1 c23.2 (by omega)
  by_cases c24 : 123 ≤ r ∧ r ≤ 191
  · exact class01_24 r w c24.1 c24.2 (by omega) (by omega) (by omega) (by omega)
  by_cases c27 : 592 ≤ r ∧ r ≤ 912
  · exact class01_27 r w c27.1 c27.2 
  by_cases c29 : 938 ≤ r ∧ r ≤ 944
  · exact class01_29 r w c29.1 c29.2 
  by_cases c30 : 970 ≤ r ∧ r ≤ 1039
  · exact class01_30 r w c30.1 c30.2 
  by_cases c31 : 1104 ≤ r ∧ r ≤ 19967
  · exact class01_31 r w c31.1 c31.2 (by omega)
  by_cases c32 : 40960 ≤ r ∧ r ≤ 2147483647
  · exact class01_32 r w c32.1 c32.2 
  omega
end Go.Proofs.YtilmmgkclijhjaaGreatDoor
namespace Go.Proofs.YtilmmgkclijhjaaGreatDoor
open Go.RowKit Pal
/-- The byte at a place; 0 behind the end. -/
def bt (s : ByteArray) (j : Nat) : Int := if h : j < s.size then (s[j]'h).toNat else 0
theorem bt_at {s : ByteArray} {j : Nat} (h : j < s.size) : bt s j = ((s[j]'h).toNat : Int) := by simp [bt, h]
theorem bt_range (s : ByteArray) (j : Nat) : 0 ≤ bt s j ∧ bt s j < 256 := by
  unfold bt
  split
  · rename_i h
    have := (s[j]'h).toNat_lt
    omega
  · omega
/-- Does it go on a sequence? -/
def goesOn (s : ByteArray) (j : Nat) : Prop := 128 ≤ bt s j ∧ bt s j ≤ 191
instance (s : ByteArray) (j : Nat) : Decidable (goesOn s j) := by unfold goesOn; infer_instance
theorem more_yes (s : ByteArray) (i : Nat) (h : i < s.size) (h1 : 128 ≤ (s[i]'h).toNat) (h2 : (s[i]'h).toNat ≤ 191) (w : World) :
    Calls Tryz.prog 85 #[.string s, .int .i64 i] w fun e w' => e = .returned (.tuple #[.int .i32 ((s[i]'h).toNat - 128 : Int), .bool true]) ∧ w' = w := by
  have e1 : (((s[i]'h).toNat : Int) - 128) % 256 = ((s[i]'h).toNat : Int) - 128 := by omega
  go_enter Tryz.func85, Tryz.ntmps85
  go_wp2
  go_ret2
  exact ⟨rfl, rfl⟩
theorem more_end (s : ByteArray) (i : Nat) (h : ¬ i < s.size) (w : World) :
    Calls Tryz.prog 85 #[.string s, .int .i64 i] w fun e w' => e = .returned (.tuple #[.int .i32 0, .bool false]) ∧ w' = w := by
  go_enter Tryz.func85, Tryz.ntmps85
  go_wp2
  go_ret2
  exact ⟨rfl, rfl⟩
theorem more_low (s : ByteArray) (i : Nat) (h : i < s.size) (h1 : (s[i]'h).toNat < 128) (w : World) :
    Calls Tryz.prog 85 #[.string s, .int .i64 i] w fun e w' => e = .returned (.tuple #[.int .i32 0, .bool false]) ∧ w' = w := by
  go_enter Tryz.func85, Tryz.ntmps85
  go_wp2
  go_ret2
  exact ⟨rfl, rfl⟩
theorem more_high (s : ByteArray) (i : Nat) (h : i < s.size) (h1 : 191 < (s[i]'h).toNat) (w : World) :
    Calls Tryz.prog 85 #[.string s, .int .i64 i] w fun e w' => e = .returned (.tuple #[.int .i32 0, .bool false]) ∧ w' = w := by
  go_enter Tryz.func85, Tryz.ntmps85
  go_wp2
  go_ret2
  exact ⟨rfl, rfl⟩
theorem refMore_any (s : ByteArray) (i : Nat) (w : World) :
    Calls Tryz.prog 85 #[.string s, .int .i64 i] w fun e w' => e = .returned (.tuple #[.int .i32 (if goesOn s i then bt s i - 128 else 0), .bool (decide (goesOn s i))]) ∧ w' = w := by
  by_cases h : i < s.size
  · have hb := bt_at h
    by_cases h1 : (s[i]'h).toNat < 128
    · have hg : ¬ goesOn s i := by unfold goesOn; omega
      rw [if_neg hg, decide_eq_false hg]
      exact more_low s i h h1 w
    · by_cases h2 : 191 < (s[i]'h).toNat
      · have hg : ¬ goesOn s i := by unfold goesOn; omega
        rw [if_neg hg, decide_eq_false hg]
        exact more_high s i h h2 w
      · have hg : goesOn s i := by unfold goesOn; omega
        rw [if_pos hg, decide_eq_true hg, hb]
        exact more_yes s i h (by omega) (by omega) w
  · have hb : bt s i = 0 := by simp [bt, h]
    have hg : ¬ goesOn s i := by unfold goesOn; omega
    rw [if_neg hg, decide_eq_false hg]
    exact more_end s i h w
end Go.Proofs.YtilmmgkclijhjaaGreatDoor
namespace Go.Proofs.YtilmmgkclijhjaaGreatDoor
open Go.RowKit Pal
/-- How many bytes the first byte announces, and its own bits. -/
def hdN (c : Int) : Nat := if 194 ≤ c ∧ c ≤ 223 then 2 else if 224 ≤ c ∧ c ≤ 239 then 3 else if 240 ≤ c ∧ c ≤ 244 then 4 else 0
def hdR (c : Int) : Int := if 194 ≤ c ∧ c ≤ 223 then c - 192 else if 224 ≤ c ∧ c ≤ 239 then c - 224 else if 240 ≤ c ∧ c ≤ 244 then c - 240 else 0
/-- The bits, k bytes on. -/
def accR (s : ByteArray) (i : Nat) : Nat → Int
  | 0 => hdR (bt s i)
  | k + 1 => accR s i k * 64 + (bt s (i + (k + 1)) - 128)
/-- The first k bytes behind the first one all go on. -/
def onTo (s : ByteArray) (i k : Nat) : Prop := ∀ j, 1 ≤ j → j ≤ k → goesOn s (i + j)
/-- Is it a rune of so many bytes? -/
def okR (n : Nat) (r : Int) : Prop := ¬ (n = 0 ∨ (n = 3 ∧ (r < 2048 ∨ (55296 ≤ r ∧ r ≤ 57343))) ∨ (n = 4 ∧ (r < 65536 ∨ 1114111 < r)))
instance (n : Nat) (r : Int) : Decidable (okR n r) := by unfold okR; infer_instance
theorem hdN_vals (c : Int) : hdN c = 0 ∨ hdN c = 2 ∨ hdN c = 3 ∨ hdN c = 4 := by
  unfold hdN
  repeat' split
  all_goals simp
theorem hdR_range (c : Int) : 0 ≤ hdR c ∧ hdR c < 32 := by
  unfold hdR
  repeat' split
  all_goals omega
theorem accR_range (s : ByteArray) (i : Nat) : ∀ k, k ≤ 3 → onTo s i k → 0 ≤ accR s i k ∧ accR s i k < 32 * 64 ^ k := by
  intro k
  induction k with
  | zero => intro _ _; simpa [accR] using hdR_range _
  | succ k ih =>
    intro hk ho
    have h1 := ih (by omega) (fun j h1 h2 => ho j h1 (by omega))
    have h2 := ho (k + 1) (by omega) (Nat.le_refl _)
    unfold goesOn at h2
    have hp : (64 : Int) ^ (k + 1) = 64 * 64 ^ k := by rw [Int.pow_succ, Int.mul_comm]
    simp only [accR]
    rw [hp]
    generalize (64 : Int) ^ k = P at *
    omega
end Go.Proofs.YtilmmgkclijhjaaGreatDoor
namespace Go.Proofs.YtilmmgkclijhjaaGreatDoor
open Go.RowKit Pal
def pieceV (i n : Nat) (r : Int) (bad : Bool) : Value := .agg #[.int .i64 i, .int .i64 n, .int .i32 r, .bool bad]
set_option maxRecDepth 1000000 in
theorem one_ascii (s : ByteArray) (i : Nat) (hi : i < s.size) (ha : (s[i]'hi).toNat < 128) (w : World) :
    Calls Tryz.prog 69 #[.string s, .int .i64 i] w fun e w' => e = .returned (pieceV i 1 (bt s i) false) ∧ Below w.heap.size w w' := by
  rw [bt_at hi]
  go_enter Tryz.func69, Tryz.ntmps69
  go_wp2
  refine bodyPost_ret (v := pieceV i 1 (s[i]'hi).toNat false) ?_ rfl ⟨rfl, (Below.refl _ _).alloc (Nat.le_refl _) _⟩
  simp [results, Tryz.results69, go_sem, pieceV]
end Go.Proofs.YtilmmgkclijhjaaGreatDoor
namespace Go.Proofs.YtilmmgkclijhjaaGreatDoor
open Go.RowKit Pal
set_option maxRecDepth 1000000 in
set_option maxHeartbeats 2000000 in
theorem one_two (s : ByteArray) (i : Nat) (hi : i < s.size) (hs : s.size ≤ 4611686018427387904) (h1 : 194 ≤ (s[i]'hi).toNat) (h2 : (s[i]'hi).toNat ≤ 223) (w : World) :
    Calls Tryz.prog 69 #[.string s, .int .i64 i] w fun e w' => e = .returned (if goesOn s (i + 1) then pieceV i 2 (((s[i]'hi).toNat - 192) * 64 + (bt s (i + 1) - 128)) false else pieceV i 1 65533 true) ∧ Below w.heap.size w w' := by
  have hb := bt_range s (i + 1)
  go_enter Tryz.func69, Tryz.ntmps69
  go_wp2
  refine wp_loop_rounds 3 ?_
  rw [rounds_succ]
  by_cases hg : goesOn s (i + 1)
  · have hgd : decide (goesOn s (i + 1)) = true := decide_eq_true hg
    go_wp2_with fail
    refine (refMore_any s (i + 1) _).mono ?_
    rintro e w1 ⟨rfl, rfl⟩
    rw [if_pos hg, hgd]
    go_wp2
    rw [rounds_succ]
    go_wp2
    refine bodyPost_ret (v := pieceV i 2 (((s[i]'hi).toNat - 192) * 64 + (bt s (i + 1) - 128)) false) ?_ rfl ⟨rfl, (Below.refl _ _).alloc (Nat.le_refl _) _⟩
    simp [results, Tryz.results69, go_sem, pieceV]
  · have hgd : decide (goesOn s (i + 1)) = false := decide_eq_false hg
    go_wp2_with fail
    refine (refMore_any s (i + 1) _).mono ?_
    rintro e w1 ⟨rfl, rfl⟩
    rw [if_neg hg, hgd]
    go_wp2
    refine bodyPost_ret (v := pieceV i 1 65533 true) ?_ rfl ⟨rfl, (Below.refl _ _).alloc (Nat.le_refl _) _⟩
    simp [results, Tryz.results69, go_sem, pieceV]
set_option maxRecDepth 1000000 in
set_option maxHeartbeats 2000000 in
theorem one_none1 (s : ByteArray) (i : Nat) (hi : i < s.size) (h1 : 128 ≤ (s[i]'hi).toNat) (h2 : (s[i]'hi).toNat < 194) (w : World) :
    Calls Tryz.prog 69 #[.string s, .int .i64 i] w fun e w' => e = .returned (pieceV i 1 65533 true) ∧ Below w.heap.size w w' := by
  go_enter Tryz.func69, Tryz.ntmps69
  go_wp2
  refine wp_loop_rounds 3 ?_
  rw [rounds_succ]
  go_wp2
  refine bodyPost_ret (v := pieceV i 1 65533 true) ?_ rfl ⟨rfl, (Below.refl _ _).alloc (Nat.le_refl _) _⟩
  simp [results, Tryz.results69, go_sem, pieceV]
set_option maxRecDepth 1000000 in
set_option maxHeartbeats 2000000 in
theorem one_none2 (s : ByteArray) (i : Nat) (hi : i < s.size) (h1 : 244 < (s[i]'hi).toNat) (w : World) :
    Calls Tryz.prog 69 #[.string s, .int .i64 i] w fun e w' => e = .returned (pieceV i 1 65533 true) ∧ Below w.heap.size w w' := by
  go_enter Tryz.func69, Tryz.ntmps69
  go_wp2
  refine wp_loop_rounds 3 ?_
  rw [rounds_succ]
  go_wp2
  refine bodyPost_ret (v := pieceV i 1 65533 true) ?_ rfl ⟨rfl, (Below.refl _ _).alloc (Nat.le_refl _) _⟩
  simp [results, Tryz.results69, go_sem, pieceV]
end Go.Proofs.YtilmmgkclijhjaaGreatDoor
