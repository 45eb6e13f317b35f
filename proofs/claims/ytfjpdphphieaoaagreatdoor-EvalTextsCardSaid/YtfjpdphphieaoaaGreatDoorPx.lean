/- What has a type comes to nothing, to what is bad, or to a value of that type; what is not needed is not worked out; what an expression comes to, and its type, hang on its names alone: plain laws of EvalTyped, EvalLazy, EvalNames, TypesMore. Conditions where they are said: the expression may be. -/
import Derived.Test.YtfjpdphphieaoaaGreatDoorEA
import Derived.Test.YtfjpdphphieaoaaGreatDoorT3
set_option linter.unusedSectionVars false
set_option linter.unusedSimpArgs false
set_option linter.unusedVariables false
namespace Go.Proofs.YtfjpdphphieaoaaGreatDoor
open Go.RowKit Pal
/-- A name occurs. -/
inductive Occ : Ex → Bs → Prop
  | here (n : Int) (s : Bs) (ks : List Ex) : Occ (.mk 4 n s ks) s
  | kid (op n : Int) (s : Bs) (ks : List Ex) (k : Ex) (x : Bs) (hk : k ∈ ks) (h : Occ k x) : Occ (.mk op n s ks) x
end Go.Proofs.YtfjpdphphieaoaaGreatDoor
