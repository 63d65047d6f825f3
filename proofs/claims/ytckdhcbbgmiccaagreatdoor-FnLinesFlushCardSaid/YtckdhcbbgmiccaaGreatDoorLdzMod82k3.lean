/- The laws on lines: plain laws. -/
import Derived.Test.YtckdhcbbgmiccaaGreatDoorLdzMod75k3
import Derived.Test.YtckdhcbbgmiccaaGreatDoorLdzMod82k4
set_option linter.unusedVariables false
set_option linter.unusedSimpArgs false
namespace Go.Proofs.YtckdhcbbgmiccaaGreatDoor
theorem QM (p:Wld × Str):lnS p ⟨GP⟩=(doW p.1 ⟨2,0,9,[],⟨0,0⟩⟩,p.2):=by
 show (doW p.1 ⟨2,0,9,[],⟨0,0⟩⟩,p.2++[])=_
 rw [List.append_nil]
theorem Ms (p:Wld × Str):lnS p ⟨Es⟩=(doW p.1 ⟨3,0,9,[],⟨0,0⟩⟩,p.2):=by
 show (doW p.1 ⟨3,0,9,[],⟨0,0⟩⟩,p.2++[])=_
 rw [List.append_nil]
theorem Jq {w:Wld}(h:WV w){e:Evt}(he:e=⟨2,0,9,[],⟨0,0⟩⟩∨e=⟨3,0,9,[],⟨0,0⟩⟩):Bt (doW w e).store [] 0 99=Bt w.store [] 0 99:=by
 rcases he with rfl | rfl
 ·exact (eq_of_beq (SS h NmD.nil rfl AE rfl (fun e=>absurd e AE))).symm
 ·exact (eq_of_beq (SS h NmD.nil rfl AE rfl (fun e=>absurd e AE))).symm
theorem O0 {p q:Wld × Str}(h:p.2=q.2) (h2:Bt p.1.store [] 0 99=Bt q.1.store [] 0 99):FN p=FN q:=by unfold FN; rw [h,h2]
section
theorem o6 {t:Str}(h:LsO t) (hl:¬ (t.length:Int) > 570):Aa (t++[102,108,117,115,104,10])=Aa t:=by
 obtain ⟨p,hp,e1,e2⟩:=IC h (more:=[GP]) (by simpa using LnO.flush) (by rw [List.length_append]; simp [C8,GP]; omega)
 have e3:C8 [GP]=[102,108,117,115,104,10]:=rfl
 rw [e3] at e2
 rw [e1,e2]
 show FN (lnS p ⟨GP⟩)=_
 rw [QM]
 exact O0 rfl (Jq hp (.inl rfl))
theorem o7 {t:Str}(h:LsO t) (hl:¬ (t.length:Int) > 570):Aa (t++[109,101,114,103,101,32,48,10])=Aa t:=by
 obtain ⟨p,hp,e1,e2⟩:=IC h (more:=[Es]) (by simpa using LnO.merge) (by rw [List.length_append]; simp [C8,Es]; omega)
 have e3:C8 [Es]=[109,101,114,103,101,32,48,10]:=rfl
 rw [e3] at e2
 rw [e1,e2]
 show FN (lnS p ⟨Es⟩)=_
 rw [Ms]
 exact O0 rfl (Jq hp (.inr rfl))
theorem o8 {t:Str}(h:LsO t) (hl:¬ (t.length:Int) > 570):Aa (t++[102,108,117,115,104,10,109,101,114,103,101,32,48,10,109,101,114,103,101,32,48,10])=Aa t:=by
 obtain ⟨p,hp,e1,e2⟩:=IC h (more:=[GP,Es,Es]) (by intro l hl; simp only [List.mem_cons,List.not_mem_nil,or_false] at hl; rcases hl with rfl | rfl | rfl; exact LnO.flush; exact LnO.merge; exact LnO.merge) (by rw [List.length_append]; simp [C8,GP,Es]; omega)
 have e3:C8 [GP,Es,Es]=[102,108,117,115,104,10,109,101,114,103,101,32,48,10,109,101,114,103,101,32,48,10]:=rfl
 rw [e3] at e2
 rw [e1,e2]
 show FN (lnS (lnS (lnS p ⟨GP⟩) ⟨Es⟩) ⟨Es⟩)=_
 rw [QM,Ms,Ms]
 have h1:=hp.do (e:=⟨2,0,9,[],⟨0,0⟩⟩) NmD.nil
 have h2:=h1.do (e:=⟨3,0,9,[],⟨0,0⟩⟩) NmD.nil
 exact O0 rfl ((Jq h2 (.inr rfl)).trans ((Jq h1 (.inr rfl)).trans (Jq hp (.inl rfl))))
end
end Go.Proofs.YtckdhcbbgmiccaaGreatDoor
