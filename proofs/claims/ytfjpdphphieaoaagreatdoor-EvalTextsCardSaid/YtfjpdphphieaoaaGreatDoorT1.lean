/- The walks of types.find, types.made. -/
import Derived.Test.YtfjpdphphieaoaaGreatDoorVb
set_option linter.unusedSectionVars false
set_option linter.unusedSimpArgs false
set_option linter.unusedVariables false
namespace Go.Proofs.YtfjpdphphieaoaaGreatDoor
open Go.RowKit Pal
theorem intsV_at {w : World} {a : Option Addr} {n cap : Nat} {xs : List Int} (t : IntsV (gh w) (.slice a n cap) xs) {j : Nat} {x : Int} (hj : xs[j]? = some x) : ∃ b off,a = some ⟨b,off,none⟩ ∧ w.cell? ⟨b,off + j,none⟩ = some (.int .i64 x) := by
  obtain ⟨a',cap',hv,hn,hl,hx⟩ := t
  simp only [Value.slice.injEq] at hv
  obtain ⟨rfl,rfl,rfl⟩ := hv
  obtain ⟨b,off,ha,hc⟩ := hx j x hj
  rw [gh_cell] at hc
  exact ⟨b,off,ha,hc⟩
theorem intsV_form {h : GH} {v : Value} {xs : List Int} (t : IntsV h v xs) : ∃ a cap,v = .slice a xs.length cap ∧ xs.length ≤ 17592186044416 := by obtain ⟨a,cap,hv,_,hl,_⟩ := t; exact ⟨a,cap,hv,hl⟩
end Go.Proofs.YtfjpdphphieaoaaGreatDoor
