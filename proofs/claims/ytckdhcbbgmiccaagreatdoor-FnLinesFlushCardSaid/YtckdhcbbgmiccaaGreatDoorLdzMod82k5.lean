/- The laws on lines: plain laws. -/
import Derived.Test.YtckdhcbbgmiccaaGreatDoorLdzMod82
set_option linter.unusedVariables false
set_option linter.unusedSimpArgs false
namespace Go.Proofs.YtckdhcbbgmiccaaGreatDoor
def RF (ls:List Str):Wld × Str:=(ls.map Txt.mk).foldl lnS (EL,[])
theorem Iw {ls:List Str}(h:∀ l∈ls,LnO l) (hl:(C8 ls).length≤600):Aa (C8 ls)=FN (RF ls):=by
 unfold Aa RF
 rw [if_neg AB,Mq (fun x hx=>(h x hx).1)]
theorem ZJ:∀ (ts:List Txt) (p:Wld × Str),WV p.1→(∀ t∈ts,LnD t.s)→WV (ts.foldl lnS p).1:=by
 intro ts
 induction ts with
 | nil=>intro p h _; exact h
 | cons t ts ih=>intro p h hl; exact ih _ (QL h (hl t AD)) (fun x hx=>hl x (by simp [hx]))
theorem Vp {ls:List Str}(h:∀ l∈ls,LnO l):WV (RF ls).1:=ZJ _ _ WV.new (fun t ht=>by
 obtain ⟨x,hx,rfl⟩:=List.mem_map.1 ht
 exact (h x hx).2)
end Go.Proofs.YtckdhcbbgmiccaaGreatDoor
