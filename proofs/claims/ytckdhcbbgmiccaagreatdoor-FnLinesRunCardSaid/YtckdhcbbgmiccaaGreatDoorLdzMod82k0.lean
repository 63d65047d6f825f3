/- The laws on lines: plain laws. -/
import Derived.Test.YtckdhcbbgmiccaaGreatDoorLdzMod86k2
set_option linter.unusedVariables false
set_option linter.unusedSimpArgs false
namespace Go.Proofs.YtckdhcbbgmiccaaGreatDoor
theorem Vq (p:Wld × Str):4≤(FN p).length:=by
 unfold FN Vi
 simp only [List.length_append,List.length_cons,List.length_nil]
 omega
theorem RH:∀ (hs:List Hit) (x:Str),(x++[10]++Cc hs).getLast? = some 10:=by
 intro hs
 induction hs with
 | nil=>intro x; simp [Cc]
 | cons h hs ih =>
   intro x
   have e:x++[10]++Cc (h::hs)=(x++[10]++h.name++GB h.rows)++[10]++Cc hs:=by simp [Cc,Ve]
   rw [e]
   exact ih _
theorem TY {p:Wld × Str}{i:Nat}{b:UInt8}(h:(FN p)[i]? = some b) (hi:i=(FN p).length - 1):b=10:=by
 have e:(FN p).getLast? = some 10:=by
  have:=RH (Bt p.1.store [] 0 99) (p.2++[97,108,108])
  unfold FN Vi
  rw [show p.2++[97,108,108,10]=p.2++[97,108,108]++[10] by simp]
  exact this
 rw [List.getLast?_eq_getElem?,← hi,h] at e
 exact Option.some.inj e
theorem oD {t:Str}(h:LsO t) (hl:¬ (t.length:Int) > 600):∃ p,Aa t=FN p∧WV p.1:=by
 obtain ⟨ls,rfl,h⟩:=h
 exact ⟨_,Iw h AB,Vp h⟩
end Go.Proofs.YtckdhcbbgmiccaaGreatDoor
namespace Go.Proofs.YtckdhcbbgmiccaaGreatDoor
section
variable {t:Str}
theorem ZZ (h:LsO t) (hl:¬ (t.length:Int) > 600):4≤(Aa t).length:=by
 obtain ⟨p,e,_⟩:=oD h hl
 rw [e]
 exact Vq p
theorem Xk (h:LsO t) (hl:¬ (t.length:Int) > 600){i:Nat}{b:UInt8}(hb:(Aa t)[i]? = some b) (hi:(i:Int)=(Aa t).length - 1):(b.toNat:Int)=10:=by
 obtain ⟨p,e,_⟩:=oD h hl
 rw [e] at hb hi
 rw [TY hb AB]
 rfl
end
end Go.Proofs.YtckdhcbbgmiccaaGreatDoor
