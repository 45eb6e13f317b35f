/- Closed facts of the translated program, each by the kernel by itself: what every row over it asks. No condition. -/
import Derived.Test.YtilmmgkclijhjaaGreatDoorRows
import Derived.ProofKit
import Derived.JoinedOf
set_option linter.unusedSimpArgs false
set_option linter.unusedVariables false
namespace Go.Proofs.YtilmmgkclijhjaaGreatDoor
open Go.RowKit Go.ChangeShapes Go.WideShapes Go.ChangeAt
open Go
set_option maxRecDepth 1000000
theorem zf_laid : laidOutB Tryz.prog = true := by kernel_rfl
theorem zf_maps : mapsRowed Tryz.prog = true := by kernel_rfl
theorem zf_keys : (true == Tryz.prog.plainKeys) = true := by kernel_rfl
theorem zf_heard : Tryz.prog.stopsHeard = true := by kernel_rfl
theorem zf_enter : Tryz.prog.mayEnter = true := by kernel_rfl
theorem zf_lift : (false == Tryz.prog.liftsFinal) = true := by kernel_rfl
end Go.Proofs.YtilmmgkclijhjaaGreatDoor
