/- The law FnOpen: plain laws. -/
import Derived.Test.YtganlmloonielaaGreatTazMod40k25
import Derived.Test.YtganlmloonielaaGreatTazMod52k24
import Derived.Test.YtganlmloonielaaGreatTazMod54k17
set_option linter.unusedVariables false
set_option linter.unusedSimpArgs false
namespace Go.Proofs.YtganlmloonielaaGreat
theorem IP {d:Dsk} (h:Af d=true):Aq d=Ai d:=by unfold Aq; rw [if_pos h]
theorem Eb {d:Dsk} (h:DD d) (hk:Af d=true):SD (Aq d):=by rw [IP hk]; exact h.sd hk
end Go.Proofs.YtganlmloonielaaGreat
