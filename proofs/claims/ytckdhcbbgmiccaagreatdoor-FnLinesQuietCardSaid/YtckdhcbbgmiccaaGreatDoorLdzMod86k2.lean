/- Lines that are drawn, and what the laws ask of them: plain laws. -/
import Derived.Test.YtckdhcbbgmiccaaGreatDoorLdzMod82k5
import Derived.Test.YtckdhcbbgmiccaaGreatDoorLdzMod86
set_option linter.unusedVariables false
set_option linter.unusedSimpArgs false
namespace Go.Proofs.YtckdhcbbgmiccaaGreatDoor
section
variable {t:Str}
theorem SZ (h:LsO t) (hl:¬ (t.length:Int) > 600):(Aa t).length≤10000000:=by
 have hq:GO t:=h.lns
 unfold Aa
 rw [if_neg AB]
 have key:∀ (ts:List Txt) (p:Wld × Str),WV p.1→(∀ x∈ts,LnD x.s)→WV (ts.foldl lnS p).1∧(ts.foldl lnS p).2.length≤p.2.length+5500 * ts.length:=by
  intro ts
  induction ts with
  | nil=>intro p hp _; exact ⟨hp,by simp⟩
  | cons x xs ih =>
    intro p hp hx
    have h1:=Mu (l:=x.s) hp
    obtain ⟨a,b⟩:=ih (lnS p x) (Lq hp (hx x AD)) (fun y hy=>hx y (by simp [hy]))
    refine ⟨a,Nat.le_trans b ?_⟩
    have e:(lnS p x).2=p.2++(Ax p.1 x.s).2:=rfl
    rw [e,List.length_append,List.length_cons]
    omega
 obtain ⟨a,b⟩:=key (DT t) (EL,[]) WV.new hq
 have h2:=Dp t
 have h3:=(BO t 10).2
 have h4:=(E9 a).2.1
 unfold FN Vi
 simp only [List.length_append,List.length_cons,List.length_nil] at b ⊢
 omega
end
end Go.Proofs.YtckdhcbbgmiccaaGreatDoor
