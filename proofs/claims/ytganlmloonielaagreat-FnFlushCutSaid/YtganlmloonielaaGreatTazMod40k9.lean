/- Blocks looked up by times; flushing and merging change nothing that is told: plain laws. -/
import Derived.Test.YtganlmloonielaaGreatTazMod17k9
import Derived.Test.YtganlmloonielaaGreatTazW51ck18
import Derived.Test.YtganlmloonielaaGreatTazMod40k10
set_option linter.unusedVariables false
set_option linter.unusedSimpArgs false
namespace Go.Proofs.YtganlmloonielaaGreat
def CR (s:Sto):Sto × Bool:=if Ak s then At (BO s) else (⟨⟨[],[]⟩,[],[]⟩,false)
theorem Iy {s:Sto} (h:Ak s=false):CR s=(⟨⟨[],[]⟩,[],[]⟩,false):=by unfold CR; rw [if_neg (by simp [h])]
theorem KT {s:Sto} (h:Ak s=true):CR s=At (BO s):=by unfold CR; rw [if_pos h]
theorem Ge {s:Sto} (_h:SD s) (hk:Ak s=true) (h1:(s.mem.length:Int)=0∨(s.parts.length:Int)=6):CR s=(BO s,false):=by
 rw [KT hk]
 unfold At
 have e1:(BO s).mem.length=s.mem.length:=rfl
 have e2:(BO s).parts.length=s.parts.length:=rfl
 rw [if_pos AB]
theorem H7 {s:Sto} (_h:SD s) (hk:Ak s=true) (h1:(s.mem.length:Int)≠0) (h2:(s.parts.length:Int)≠6):CR s=(⟨(BO s).idx,(BO s).parts++[BK s.mem],[]⟩,true):=by
 rw [KT hk]
 unfold At
 have e1:(BO s).mem.length=s.mem.length:=rfl
 have e2:(BO s).parts.length=s.parts.length:=rfl
 have:=L5 hk
 rw [if_neg AB]
 rfl
end Go.Proofs.YtganlmloonielaaGreat
