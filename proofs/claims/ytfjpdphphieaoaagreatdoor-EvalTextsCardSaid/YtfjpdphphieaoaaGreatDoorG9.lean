/- The walks of types.Of, palaverlaw08.awake. Parse by its plain law; the walk of palaverlaw08.awake. -/
import Derived.Test.YtfjpdphphieaoaaGreatDoorT3
import Derived.Test.YtfjpdphphieaoaaGreatDoorVe
set_option linter.unusedSectionVars false
set_option linter.unusedSimpArgs false
set_option linter.unusedVariables false
namespace Go.Proofs.YtfjpdphphieaoaaGreatDoor
open Go.RowKit Pal
theorem StrsV_nil (h : GH) : StrsV h (.slice none 0 0) [] := ⟨none,0,rfl,fun _ => rfl,by simp,by simp [maxLen],fun j x hx => by simp at hx⟩
end Go.Proofs.YtfjpdphphieaoaaGreatDoor
namespace Go.Proofs.YtfjpdphphieaoaaGreatDoor
open Go.RowKit Pal
theorem parseM_fine {l : Bs} {e : Ex} (h : parseM l = .ok e) : Fine e := by
  unfold parseM at h
  by_cases hl : 400 < l.length
  · rw [if_pos hl] at h; cases h
  rw [if_neg hl] at h
  cases hx : lexAll l with
  | error p => rw [hx] at h; cases h
  | ok ts =>
    rw [hx] at h
    simp only at h
    cases hr : readL ts with
    | error q => rw [hr] at h; cases h
    | ok e' =>
      rw [hr] at h
      simp only at h
      by_cases hc : check e' = true
      · rw [if_pos hc] at h; cases h
        exact readL_fine (lexAll_fine (by omega) hx).2.2 hr
      · rw [if_neg hc] at h; cases h
theorem parseM_check {l : Bs} {e : Ex} (h : parseM l = .ok e) : check e = true := by
  unfold parseM at h
  by_cases hl : 400 < l.length
  · rw [if_pos hl] at h; cases h
  rw [if_neg hl] at h
  cases hx : lexAll l with
  | error p => rw [hx] at h; cases h
  | ok ts =>
    rw [hx] at h
    simp only at h
    cases hr : readL ts with
    | error q => rw [hr] at h; cases h
    | ok e' =>
      rw [hr] at h
      simp only at h
      by_cases hc : check e' = true
      · rw [if_pos hc] at h; cases h; exact hc
      · rw [if_neg hc] at h; cases h
/-- Parse, where it comes to an expression. -/
theorem parse_yes (s : ByteArray) (e : Ex) (w : World) (hm : s.size ≤ 9223372036854775807) (hp : parseM s.data.toList = .ok e) (hL : Lay (gh w)) :
    Calls Tryz.prog 11 #[.string s] w fun r w' => Below w.heap.size w w' ∧ ∃ a cap,r = .returned (.tuple #[.agg #[.int .i64 e.op,.int .i64 e.n,.string ⟨e.s.toArray⟩,.slice a e.ks.length cap],.int .i64 0,.int .i64 0]) ∧ KV (gh w') (.slice a e.ks.length cap) e.ks := by
  refine (parse_any s w hm hL).mono ?_
  rintro r w' ⟨hb,h⟩
  rw [hp] at h
  obtain ⟨v,rfl,kv,rfl,hK⟩ := h
  obtain ⟨a,cap,rfl⟩ := hK.form
  exact ⟨hb,a,cap,rfl,hK.mono (gp_gh _ _)⟩
def yesPost (w : World) (e : Ending) (w' : World) : Prop := e = .returned (.bool true) ∧ Below w.heap.size w w'
end Go.Proofs.YtfjpdphphieaoaaGreatDoor
