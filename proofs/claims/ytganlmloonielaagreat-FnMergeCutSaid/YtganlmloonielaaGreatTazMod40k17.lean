/- Blocks looked up by times; flushing and merging change nothing that is told: plain laws. -/
import Derived.Test.YtganlmloonielaaGreatTazMod20
set_option linter.unusedVariables false
set_option linter.unusedSimpArgs false
namespace Go.Proofs.YtganlmloonielaaGreat
theorem KQ (a:List Row):Bk a []=a:=rfl
end Go.Proofs.YtganlmloonielaaGreat
