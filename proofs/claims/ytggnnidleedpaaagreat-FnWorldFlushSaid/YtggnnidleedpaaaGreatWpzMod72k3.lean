/- The laws on plays: one behind the other, a flush, half a flush, a merge; plain laws. -/
import Derived.Test.YtggnnidleedpaaaGreatWpzMod72k10
set_option linter.unusedVariables false
set_option linter.unusedSimpArgs false
namespace Go.Proofs.YtggnnidleedpaaaGreat
section
variable {w:Wld} {c:Int}
theorem KD (h:WV w) (hc:(w.store.mem.length:Int)=0∨(w.store.parts.length:Int)=6):(doW w ⟨2,0,c,[],⟨0,0⟩⟩ == w)=true:=by rw [Mg h hc rfl]; exact beq_self_eq_true _
end
end Go.Proofs.YtggnnidleedpaaaGreat
