/- What all rows of this seat ask of the start: the listed variables are laid by the program's own initialisers. -/
import Derived.Test.YtfjnhdbbjggkmaaRows
import Derived.WalkKit
import Derived.ProofKit
import Derived.SizedLaws
set_option linter.unusedVariables false
namespace Go.Proofs.Ytfjnhdbbjggkmaa
theorem own_knob : ownKnob Try.prog.godebug = none := by kernel_rfl
theorem fact_laidOut : laidOutB Try.prog = true := by kernel_rfl
theorem fact_rowed : mapsRowed Try.prog = true := by kernel_rfl
theorem fact_heard : Try.prog.stopsHeard = true := by kernel_rfl
theorem fact_enter : Try.prog.mayEnter = true := by kernel_rfl
end Go.Proofs.Ytfjnhdbbjggkmaa
