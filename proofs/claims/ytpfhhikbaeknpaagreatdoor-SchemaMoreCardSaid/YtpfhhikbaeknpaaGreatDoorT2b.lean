/- What expressions come to: it may be a value always; texts put together, cut off, folded: plain laws of eval. Condition where it is said: the expression may be. Values in boxes, rows of values, what eval is handed: how they lie. No condition. The walk of types.made, a. The walk of types.made, b. -/
import Derived.Test.YtpfhhikbaeknpaaGreatDoorVc
import Derived.Test.YtpfhhikbaeknpaaGreatDoorT1
import Derived.Lib.MapLaws
set_option linter.unusedSectionVars false
set_option linter.unusedSimpArgs false
set_option linter.unusedVariables false
namespace Go.Proofs.YtpfhhikbaeknpaaGreatDoor
open Go.RowKit Pal
theorem alone_kids {op n : Int} {s : Bs} {ks : List Ex} (h : alone op n s ks = true) : (ks.length : Int) = arity op := by
  unfold alone at h
  rw [Bool.and_eq_true,decide_eq_true_eq] at h
  exact h.1
/-- A value that may be. -/
inductive VOk : Val → Prop
  | nil : VOk vNil
  | int (n : Int) (h : -9223372036854775808 ≤ n ∧ n ≤ 9223372036854775807) : VOk (vInt n)
  | bool (b : Bool) : VOk (vBool b)
  | text (s : Bs) (h : textOk s = true) : VOk (vText s)
  | bad (n : Int) (h : 1 ≤ n ∧ n ≤ 4) : VOk (vBad n)
/-- An expression that may be, but for how deep and how great it is. -/
inductive Good : Ex → Prop
  | mk (op n : Int) (s : Bs) (ks : List Ex) (ha : alone op n s ks = true) (hn : -9223372036854775808 ≤ n ∧ n ≤ 9223372036854775807) (hk : ∀ k ∈ ks,Good k) : Good (.mk op n s ks)
theorem chk_good : ∀ (e : Ex) (deep left : Nat),Fine e → (chk e deep left).isSome = true → Good e := by
  intro e
  refine Ex.ind (P := fun e => ∀ (deep left : Nat),Fine e → (chk e deep left).isSome = true → Good e) ?_ e
  intro op n s ks ih deep left hF h
  by_cases hc : left = 0 ∨ 24 < deep ∨ alone op n s ks = false
  · rw [chk_no hc] at h; cases h
  · rw [chk_yes hc] at h
    have ha : alone op n s ks = true := by
      cases hb : alone op n s ks with
      | true => rfl
      | false => exact absurd (.inr (.inr hb)) hc
    have hFk := hF.kids.2
    have hFn : -9223372036854775808 ≤ n ∧ n ≤ 9223372036854775807 := by cases hF; assumption
    refine .mk op n s ks ha hFn ?_
    have go : ∀ (l : List Ex),(∀ k ∈ l,k ∈ ks) → ∀ left,(chkL l (deep + 1) left).isSome = true → ∀ k ∈ l,Good k := by
      intro l
      induction l with
      | nil => intro _ _ _ k hk; cases hk
      | cons a t iht =>
        intro hm left h k hk
        rw [chkL_cons] at h
        cases hca : chk a (deep + 1) left with
        | none => rw [hca] at h; cases h
        | some m =>
          rw [hca,Option.bind_some] at h
          rcases List.mem_cons.1 hk with rfl | hk
          · exact ih k (hm k (by simp)) _ _ (hFk k (hm k (by simp))) (by rw [hca]; rfl)
          · exact iht (fun x hx => hm x (by simp [hx])) m h k hk
    exact go ks (fun _ h => h) _ h
theorem check_good {e : Ex} (hF : Fine e) (h : check e = true) : Good e := chk_good e 1 128 hF h
end Go.Proofs.YtpfhhikbaeknpaaGreatDoor
namespace Go.Proofs.YtpfhhikbaeknpaaGreatDoor
open Go.RowKit Pal
/-- Values, as a slice reads. -/
def ValsV (h : GH) (v : Value) (l : List Val) : Prop := ∃ a cap,v = .slice a l.length cap ∧ (a = none → l = []) ∧ l.length ≤ cap ∧ cap ≤ maxLen ∧
  ∀ j x,l[j]? = some x → ∃ b off,a = some ⟨b,off,none⟩ ∧ h.cell b (off + j * 3) = some (.int .i64 x.k) ∧ h.cell b (off + j * 3 + 1) = some (.int .i64 x.n) ∧ h.cell b (off + j * 3 + 2) = some (strV x.s)
/-- No value is longer than any may be. -/
def VFine (l : List Val) : Prop := ∀ v ∈ l,(-9223372036854775808 ≤ v.n ∧ v.n ≤ 9223372036854775807) ∧ v.s.length ≤ 9223372036854775806
end Go.Proofs.YtpfhhikbaeknpaaGreatDoor
namespace Go.Proofs.YtpfhhikbaeknpaaGreatDoor
open Go.RowKit Pal
set_option maxRecDepth 1000000 in
set_option maxHeartbeats 4000000 in
theorem made_3 (a b c : Int) (w : World) :
    Calls Tryz.prog 103 #[.int .i64 3,.agg #[.int .i64 a,.int .i64 b,.int .i64 c]] w (madePost (made 3 a b c) w) := by
  go_enter Tryz.func103,Tryz.ntmps103
  go_wp2
  go_quiet (fail)
  go_wp2
  all_goals
    go_ret
    exact madePost_mk (by simp_all [made]) (below_drewN ((Below.refl _ _).alloc (Nat.le_refl _) _) _)
set_option maxRecDepth 1000000 in
set_option maxHeartbeats 4000000 in
theorem made_23 (a b c : Int) (w : World) :
    Calls Tryz.prog 103 #[.int .i64 23,.agg #[.int .i64 a,.int .i64 b,.int .i64 c]] w (madePost (made 23 a b c) w) := by
  go_enter Tryz.func103,Tryz.ntmps103
  go_wp2
  go_quiet (fail)
  go_wp2
  all_goals
    go_ret
    exact madePost_mk (by simp_all [made]) (below_drewN ((Below.refl _ _).alloc (Nat.le_refl _) _) _)
set_option maxRecDepth 1000000 in
set_option maxHeartbeats 4000000 in
theorem made_14 (a b c : Int) (w : World) :
    Calls Tryz.prog 103 #[.int .i64 14,.agg #[.int .i64 a,.int .i64 b,.int .i64 c]] w (madePost (made 14 a b c) w) := by
  go_enter Tryz.func103,Tryz.ntmps103
  go_wp2
  go_quiet (fail)
  go_wp2
  all_goals
    go_ret
    exact madePost_mk (by simp_all [made]) (below_drewN ((Below.refl _ _).alloc (Nat.le_refl _) _) _)
set_option maxRecDepth 1000000 in
set_option maxHeartbeats 4000000 in
theorem made_1 (a b c : Int) (w : World) :
    Calls Tryz.prog 103 #[.int .i64 1,.agg #[.int .i64 a,.int .i64 b,.int .i64 c]] w (madePost (made 1 a b c) w) := by
  go_enter Tryz.func103,Tryz.ntmps103
  go_wp2
  go_quiet (fail)
  go_wp2
  all_goals
    go_ret
    exact madePost_mk (by simp_all [made]) (below_drewN ((Below.refl _ _).alloc (Nat.le_refl _) _) _)
set_option maxRecDepth 1000000 in
set_option maxHeartbeats 4000000 in
theorem made_5 (a b c : Int) (w : World) :
    Calls Tryz.prog 103 #[.int .i64 5,.agg #[.int .i64 a,.int .i64 b,.int .i64 c]] w (madePost (made 5 a b c) w) := by
  go_enter Tryz.func103,Tryz.ntmps103
  go_wp2
  go_quiet (fail)
  go_wp2
  all_goals
    go_ret
    exact madePost_mk (by simp_all [made]) (below_drewN ((Below.refl _ _).alloc (Nat.le_refl _) _) _)
end Go.Proofs.YtpfhhikbaeknpaaGreatDoor
namespace Go.Proofs.YtpfhhikbaeknpaaGreatDoor
open Go.RowKit Pal
set_option maxRecDepth 1000000 in
set_option maxHeartbeats 4000000 in
theorem made_22 (a b c : Int) (w : World) :
    Calls Tryz.prog 103 #[.int .i64 22,.agg #[.int .i64 a,.int .i64 b,.int .i64 c]] w (madePost (made 22 a b c) w) := by
  go_enter Tryz.func103,Tryz.ntmps103
  go_wp2
  go_quiet (fail)
  go_wp2
  all_goals
    go_ret
    exact madePost_mk (by simp_all [made]) (below_drewN ((Below.refl _ _).alloc (Nat.le_refl _) _) _)
set_option maxRecDepth 1000000 in
set_option maxHeartbeats 4000000 in
theorem made_21 (a b c : Int) (w : World) :
    Calls Tryz.prog 103 #[.int .i64 21,.agg #[.int .i64 a,.int .i64 b,.int .i64 c]] w (madePost (made 21 a b c) w) := by
  go_enter Tryz.func103,Tryz.ntmps103
  go_wp2
  go_quiet (fail)
  go_wp2
  all_goals
    go_ret
    exact madePost_mk (by simp_all [made]) (below_drewN ((Below.refl _ _).alloc (Nat.le_refl _) _) _)
set_option maxRecDepth 1000000 in
set_option maxHeartbeats 4000000 in
theorem made_13 (a b c : Int) (w : World) :
    Calls Tryz.prog 103 #[.int .i64 13,.agg #[.int .i64 a,.int .i64 b,.int .i64 c]] w (madePost (made 13 a b c) w) := by
  go_enter Tryz.func103,Tryz.ntmps103
  go_wp2
  go_quiet (fail)
  go_wp2
  all_goals
    go_ret
    exact madePost_mk (by simp_all [made]) (below_drewN ((Below.refl _ _).alloc (Nat.le_refl _) _) _)
set_option maxRecDepth 1000000 in
set_option maxHeartbeats 4000000 in
theorem made_2 (a b c : Int) (w : World) :
    Calls Tryz.prog 103 #[.int .i64 2,.agg #[.int .i64 a,.int .i64 b,.int .i64 c]] w (madePost (made 2 a b c) w) := by
  go_enter Tryz.func103,Tryz.ntmps103
  go_wp2
  go_quiet (fail)
  go_wp2
  all_goals
    go_ret
    exact madePost_mk (by simp_all [made]) (below_drewN ((Below.refl _ _).alloc (Nat.le_refl _) _) _)
set_option maxRecDepth 1000000 in
set_option maxHeartbeats 4000000 in
theorem made_7 (a b c : Int) (w : World) :
    Calls Tryz.prog 103 #[.int .i64 7,.agg #[.int .i64 a,.int .i64 b,.int .i64 c]] w (madePost (made 7 a b c) w) := by
  go_enter Tryz.func103,Tryz.ntmps103
  go_wp2
  go_quiet (fail)
  go_wp2
  all_goals
    go_ret
    exact madePost_mk (by simp_all [made]) (below_drewN ((Below.refl _ _).alloc (Nat.le_refl _) _) _)
end Go.Proofs.YtpfhhikbaeknpaaGreatDoor
