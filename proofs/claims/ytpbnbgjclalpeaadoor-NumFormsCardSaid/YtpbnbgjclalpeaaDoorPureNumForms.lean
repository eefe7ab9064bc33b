/- The pure statement of the law NumForms: what some instructions make of edges: a closed statement, computed by the kernel. -/
import Derived.Test.YtpbnbgjclalpeaaDoorPNx5
namespace Go.Proofs.YtpbnbgjclalpeaaDoor.Pure
open Go.RowKit Go.Proofs.YtpbnbgjclalpeaaDoor.PN Go.Proofs.YtpbnbgjclalpeaaDoorW.PrintWords Go.Proofs.YtpbnbgjclalpeaaDoorW.PrintLast
set_option maxRecDepth 100000 in
theorem NumForms : cloakroomlaw13_NumForms.Pure := ⟨60, by kernel_rfl⟩
end Go.Proofs.YtpbnbgjclalpeaaDoor.Pure
