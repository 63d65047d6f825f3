/- The laws on plays: a fall, who asks, what a fall takes; plain laws. -/
import Derived.Test.YtggnnidleedpaaaGreatWpzSwk12
import Derived.Test.YtggnnidleedpaaaGreatWpzW70
set_option linter.unusedVariables false
set_option linter.unusedSimpArgs false
namespace Go.Proofs.YtggnnidleedpaaaGreat
section
variable {w:Wld}
theorem Sr (h:WV w):(doW w ⟨4,0,0,[],⟨0,0⟩⟩).store.mem.length=0:=by rw [N3 h]; rfl
end
end Go.Proofs.YtggnnidleedpaaaGreat
