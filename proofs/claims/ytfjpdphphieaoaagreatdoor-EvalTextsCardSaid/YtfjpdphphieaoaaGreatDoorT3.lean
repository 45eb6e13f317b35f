/- The walks of types.of, types.Of. -/
import Derived.Test.YtfjpdphphieaoaaGreatDoorT1
import Derived.Test.YtfjpdphphieaoaaGreatDoorVc
set_option linter.unusedSectionVars false
set_option linter.unusedSimpArgs false
set_option linter.unusedVariables false
namespace Go.Proofs.YtfjpdphphieaoaaGreatDoor
open Go.RowKit Pal
/-- At most three parts, everywhere; an operation there is. -/
inductive Ar : Ex → Prop
  | mk (op n : Int) (s : Bs) (ks : List Ex) (ho : 1 ≤ op ∧ op ≤ 23) (hl : ks.length ≤ 3) (hk : ∀ k ∈ ks,Ar k) : Ar (.mk op n s ks)
theorem set_other {W : World} {b : Nat} {p : Addr} (h : b ≠ p.block) (v : Value) : (W.setCell p v).heap[b]? = W.heap[b]? := Below.heap_setCell _ _ _ _ h
end Go.Proofs.YtfjpdphphieaoaaGreatDoor
