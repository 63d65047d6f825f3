/- The laws on plays: one behind the other, a flush, half a flush, a merge; plain laws. -/
import Derived.Test.YtggnnidleedpaaaGreatWpzSwk12
import Derived.Test.YtggnnidleedpaaaGreatWpzW70
set_option linter.unusedVariables false
set_option linter.unusedSimpArgs false
namespace Go.Proofs.YtggnnidleedpaaaGreat
section
variable {w:Wld} {e:Evt}
theorem UE:∀ (es:List Evt) (w:Wld),(es.foldl doW w).disk.next≤w.disk.next+es.length:=by
 intro es
 induction es with
 | nil=>intro w; simp
 | cons e es ih =>
   intro w
   have h1:=ih (doW w e)
   have h2:=Sn w e
   rw [List.foldl_cons,List.length_cons]
   omega
theorem HR {es:List Evt}(h:EsD es) (h2:(AZ es).2=true):(AZ es).1.disk.next≤51:=by
 obtain ⟨_,e,hl⟩:=pv h h2
 have h3:=UE es DB
 have h4:DB.disk.next=1:=rfl
 rw [e]
 unfold Fk
 omega
end
end Go.Proofs.YtggnnidleedpaaaGreat
