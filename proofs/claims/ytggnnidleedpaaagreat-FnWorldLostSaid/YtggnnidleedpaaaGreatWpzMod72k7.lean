/- The laws on plays: one behind the other, a flush, half a flush, a merge; plain laws. -/
import Derived.Test.YtggnnidleedpaaaGreatWpzW70
set_option linter.unusedVariables false
set_option linter.unusedSimpArgs false
namespace Go.Proofs.YtggnnidleedpaaaGreat
theorem GM (n:Nat){k:Int}(hk:0< k):0≤Int.tmod (n:Int) k∧Int.tmod (n:Int) k< k:=⟨Int.tmod_nonneg k AB,Int.tmod_lt_of_pos _ hk⟩
end Go.Proofs.YtggnnidleedpaaaGreat
