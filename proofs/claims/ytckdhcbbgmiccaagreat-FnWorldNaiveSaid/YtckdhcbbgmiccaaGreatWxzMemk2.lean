/- Memory in two parts: the blocks M that the call still changes, and all the rest, which stands. No conditions. -/
import Derived.Test.YtckdhcbbgmiccaaGreatWxzMem
set_option linter.unusedVariables false
set_option linter.unusedSimpArgs false
namespace Go.Proofs.YtckdhcbbgmiccaaGreat
theorem QO (s:Str):(bs s).data.toList=s:=by simp [bs]
end Go.Proofs.YtckdhcbbgmiccaaGreat
