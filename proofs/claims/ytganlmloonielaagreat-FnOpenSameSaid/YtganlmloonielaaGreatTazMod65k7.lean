/- The laws on drawn disks: plain laws. -/
import Derived.Test.YtganlmloonielaaGreatTazOpsk11
import Derived.Test.YtganlmloonielaaGreatTazMod52k24
import Derived.Test.YtganlmloonielaaGreatTazMod60k8
set_option linter.unusedVariables false
set_option linter.unusedSimpArgs false
namespace Go.Proofs.YtganlmloonielaaGreat
section
variable {d:Dsk}
theorem MC (h:Af d=true):Af (BN d)=true:=by
 rw [Er h]
 exact CV.2 (CV.1 h).tidy.1
theorem Tg (h:Af d=true):Aq (BN d)=Aq d:=by
 rw [D7 h,D7 (MC h),Er h]
 exact (CV.1 h).tidy.2
theorem PB (h:Af d=true):(Aq (BN d)==Aq d)=true:=by rw [Tg h]; exact beq_self_eq_true _
end
end Go.Proofs.YtganlmloonielaaGreat
