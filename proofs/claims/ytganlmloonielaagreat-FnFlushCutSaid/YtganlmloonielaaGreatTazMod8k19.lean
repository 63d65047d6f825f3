/- What the program computes, as plain functions: disks and worlds. -/
import Derived.Test.YtganlmloonielaaGreatTazW4
set_option linter.unusedVariables false
set_option linter.unusedSimpArgs false
namespace Go.Proofs.YtganlmloonielaaGreat
theorem Hp (d:Dsk) (n:Int):Ao d n ≥ -1:=by have:=Jn n d.files 0; unfold Ao; omega
end Go.Proofs.YtganlmloonielaaGreat
