/- The laws on lines: plain laws. -/
import Derived.Test.YtckdhcbbgmiccaaGreatDoorLdzMod82k5
set_option linter.unusedVariables false
set_option linter.unusedSimpArgs false
namespace Go.Proofs.YtckdhcbbgmiccaaGreatDoor
theorem Vo (a b:List Str):RF (a++b)=(b.map Txt.mk).foldl lnS (RF a):=by
 unfold RF
 rw [List.map_append,List.foldl_append]
theorem IC {t:Str}(h:LsO t){more:List Str}(hm:∀ l∈more,LnO l) (hl:(t++C8 more).length≤600):∃ p,WV p.1∧Aa t=FN p∧Aa (t++C8 more)=FN ((more.map Txt.mk).foldl lnS p):=by
 obtain ⟨ls,rfl,h⟩:=h
 rw [List.length_append] at hl
 refine ⟨RF ls,Vp h,Iw h AB,?_⟩
 rw [← Mr,Iw (fun l hx=>?_) (by rw [Mr,List.length_append]; omega),Vo]
 rcases List.mem_append.1 hx with hx | hx
 ·exact h l hx
 ·exact hm l hx
end Go.Proofs.YtckdhcbbgmiccaaGreatDoor
