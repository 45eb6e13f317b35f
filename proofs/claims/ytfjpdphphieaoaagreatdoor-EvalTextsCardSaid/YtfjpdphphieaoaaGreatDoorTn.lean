/- The walk of palaverlaw00.Tiny: what it lets through. No condition but that numbers are an int64's, texts no longer than any may be. -/
import Derived.Test.YtfjpdphphieaoaaGreatDoorRN
import Derived.Test.YtfjpdphphieaoaaGreatDoorR3
set_option linter.unusedSectionVars false
set_option linter.unusedSimpArgs false
set_option linter.unusedVariables false
namespace Go.Proofs.YtfjpdphphieaoaaGreatDoor
open Go.RowKit Pal
/-- Not too deep, its texts short. -/
inductive Slim : Ex → Nat → Prop
  | mk (op n : Int) (s : Bs) (ks : List Ex) (deep : Nat) (hd : deep ≤ 35) (hs : s.length ≤ 1000) (hl : ks.length ≤ 300) (hk : ∀ k ∈ ks,Slim k (deep + 1)) : Slim (.mk op n s ks) deep
end Go.Proofs.YtfjpdphphieaoaaGreatDoor
