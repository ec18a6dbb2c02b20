/- The plain law of PrioNil: nothing but the walk is in it. -/
import Derived.Test.YtbndichleiameaaDoorQ0
import Derived.Test.YtbndichleiameaaDoorPPxEostlerlaw10PrioNil
namespace Go.Proofs.YtbndichleiameaaDoor.Q
set_option linter.unusedVariables false
open PP
theorem PrioNil : ostlerlaw10_PrioNil.Pure := fun _ _ => ⟨0, rfl⟩
end Go.Proofs.YtbndichleiameaaDoor.Q
