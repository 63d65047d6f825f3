/- Blocks looked up by times; flushing and merging change nothing that is told: plain laws. -/
import Derived.Test.YtggnnidleedpaaaGreatWmzMod20
set_option linter.unusedVariables false
set_option linter.unusedSimpArgs false
namespace Go.Proofs.YtggnnidleedpaaaGreat
theorem Pt (t:Int):look t []=none:=rfl
theorem Ja {a:List Row}(h:Blk a):Bg [] a=a:=JY (Blk.nil.merge h) h (fun t=>by rw [Cg t _ Blk.nil h,Pt]; simp)
end Go.Proofs.YtggnnidleedpaaaGreat
