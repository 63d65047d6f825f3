/- The laws on lines: plain laws. -/
import Derived.Test.YtckdhcbbgmiccaaGreatDoorLdzMod82k4
set_option linter.unusedVariables false
set_option linter.unusedSimpArgs false
namespace Go.Proofs.YtckdhcbbgmiccaaGreatDoor
def GD:Str:=[119,104,97,116]
theorem LnO.Kh:LnO GD:=⟨by decide,by unfold LnD; decide⟩
theorem Oz (p:Wld × Str):lnS p ⟨GD⟩=(p.1,p.2++GC):=rfl
theorem Vr (p:Wld × Str):lnS p ⟨Iy⟩=(p.1,p.2++Kg p.1):=rfl
theorem ZK (p:Wld × Str):∃ o,lnS p ⟨TZ⟩=(p.1,p.2++o):=⟨Cc (Bt p.1.store [] 0 99),rfl⟩
section
theorem ZL {t:Str}(h:LsO t) (hl:¬ (t.length:Int) > 570):(Aa (t++[119,104,97,116,10])).length=(Aa t).length+5:=by
 obtain ⟨p,hp,e1,e2⟩:=IC h (more:=[GD]) (by simpa using LnO.Kh) (by rw [List.length_append]; simp [C8,GD]; omega)
 have e3:C8 [GD]=[119,104,97,116,10]:=rfl
 rw [e3] at e2
 rw [e1,e2]
 show (FN (lnS p ⟨GD⟩)).length=_
 rw [Oz]
 unfold FN GC
 simp only [List.length_append,List.length_cons,List.length_nil]
 omega
theorem o9 {t:Str}(h:LsO t) (hl:¬ (t.length:Int) > 570):(Aa (t++[97,115,107,32,42,32,48,32,57,57,10,119,104,97,116,10])).length≥(Aa (t++[119,104,97,116,10])).length:=by
 rw [ZL h hl]
 obtain ⟨p,hp,e1,e2⟩:=IC h (more:=[TZ,GD]) (by intro l hl; simp only [List.mem_cons,List.not_mem_nil,or_false] at hl; rcases hl with rfl | rfl; exact LnO.ask; exact LnO.Kh) (by rw [List.length_append]; simp [C8,TZ,GD]; omega)
 have e3:C8 [TZ,GD]=[97,115,107,32,42,32,48,32,57,57,10,119,104,97,116,10]:=rfl
 rw [e3] at e2
 rw [e1,e2]
 show (FN (lnS (lnS p ⟨TZ⟩) ⟨GD⟩)).length≥_
 obtain ⟨o,ho⟩:=ZK p
 rw [ho,Oz]
 unfold FN GC
 simp only [List.length_append,List.length_cons,List.length_nil]
 omega
theorem pA {t:Str}(h:LsO t) (hl:¬ (t.length:Int) > 570):(Aa (t++[112,97,114,116,115,10,119,104,97,116,10])).length > (Aa (t++[119,104,97,116,10])).length:=by
 rw [ZL h hl]
 obtain ⟨p,hp,e1,e2⟩:=IC h (more:=[Iy,GD]) (by intro l hl; simp only [List.mem_cons,List.not_mem_nil,or_false] at hl; rcases hl with rfl | rfl; exact LnO.parts; exact LnO.Kh) (by rw [List.length_append]; simp [C8,Iy,GD]; omega)
 have e3:C8 [Iy,GD]=[112,97,114,116,115,10,119,104,97,116,10]:=rfl
 rw [e3] at e2
 rw [e1,e2]
 show (FN (lnS (lnS p ⟨Iy⟩) ⟨GD⟩)).length > _
 rw [Vr,Oz]
 unfold FN GC Kg
 simp only [List.length_append,List.length_cons,List.length_nil]
 omega
end
end Go.Proofs.YtckdhcbbgmiccaaGreatDoor
