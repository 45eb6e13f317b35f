/- The walk of palaverlaw00.Expr: a copy in new memory. Condition: the expression is not too deep, its texts short. -/
import Derived.Test.YtfjpdphphieaoaaGreatDoorTn
import Derived.Test.YtfjpdphphieaoaaGreatDoorVd
set_option linter.unusedSectionVars false
set_option linter.unusedSimpArgs false
set_option linter.unusedVariables false
namespace Go.Proofs.YtfjpdphphieaoaaGreatDoor
open Go.RowKit Pal
/-- Parts that are being put in a row. -/
structure CpIn (n0 : Nat) (tau : Tag) (W : World) (l : List (Ex × Value)) (sv : Value) : Prop where
  row : Row tau 1 W 28 4 sv l.length (l.flatMap exCells)
  k : ∀ x ∈ l,KV (gp (fun b => n0 ≤ b ∧ tau b ≠ 1) W) x.2 x.1.ks
  ge : ∀ b,tau b = 1 → n0 ≤ b ∧ b < W.heap.size
section
variable {n0 : Nat} {tau : Tag} {W W' : World} {l : List (Ex × Value)} {sv : Value}
end
theorem infoEx : (Tryz.prog.info? 28).map (fun i => (i.zero,i.size,i.bytes)) = some (some (.agg #[.int .i64 0,.int .i64 0,.string ⟨#[]⟩,.slice none 0 0]),4,56) := by kernel_rfl
end Go.Proofs.YtfjpdphphieaoaaGreatDoor
