/- The laws on worlds: the last one is told, what happens, what cannot be; plain laws. -/
import Derived.Test.YtckdhcbbgmiccaaGreatDoorLdzMod71
set_option linter.unusedVariables false
set_option linter.unusedSimpArgs false
namespace Go.Proofs.YtckdhcbbgmiccaaGreatDoor
section
variable {x y:Wld} {e:Evt}
theorem SS (h:WV x) (he:NmD e.name) (ey:doW x e=y) (k4:e.kind≠4) (hc:e.cut=9) (hn:e.kind=1→¬ (y.store.mem.length:Int) > x.store.mem.length):(Bt x.store [] 0 99==Bt y.store [] 0 99)=true:=by
 rw [beq_iff_eq]
 by_cases k1:e.kind=1
 ·have hn:=hn k1
  cases ho:Ar e.name with
  | false=>rw [HZ k1 ho] at ey; rw [ey]
  | true =>
    rw [JJ k1 ho] at ey
    cases hb:(CQ x.store e.name e.row).2 with
    | false =>
      rw [Vn hb] at ey
      rw [← ey]
    | true =>
      obtain ⟨a1,a2,a3,a4,a5⟩:=Oj hb
      have ey2:y.store=GL x.store e.name e.row:=by rw [← ey,a5]
      rw [ey2,Mo] at hn
      omega
 ·by_cases k2:e.kind=2
  ·rw [IU k2] at ey
   by_cases hs:((BD x.disk x.store).length:Int)=0∨e.cut< 0
   ·rw [C2 hs] at ey; rw [ey]
   ·have q:=h.fl (fun e0=>hs (.inl (by rw [e0]; rfl)))
    rw [Df (fun e0=>hs (.inl e0)) (fun e0=>hs (.inr e0)) (by rw [F8 q]; omega),(Gn h.sd h.k q.m q.parts).1] at ey
    rw [← ey]
    exact (Hp h q).symm
  ·by_cases k3:e.kind=3
   ·rw [HA k3] at ey
    by_cases hs:((Aq x.disk e.at_).length:Int)=0∨e.cut< 0
    ·rw [C2 hs] at ey; rw [ey]
    ·obtain ⟨a,b,q,i0,e3,_⟩:=h.mg (i:=e.at_) (fun e0=>hs (.inl (by rw [e0]; rfl)))
     have hp:e.at_.toNat+2≤x.store.parts.length:=by rw [← h.open,q.open.2.2]; exact q.l
     have em:(BL x.store e.at_).1=CV x.store e.at_.toNat:=by
      have:=Jk hp
      rw [← i0] at this
      rw [this]
     rw [Df (fun e0=>hs (.inl e0)) (fun e0=>hs (.inr e0)) (by rw [e3,F9 q]; omega),em] at ey
     rw [← ey]
     exact (Hm h.sd h.k hp).symm
   ·rw [NY k1 k2 k3 k4] at ey; rw [ey]
end
end Go.Proofs.YtckdhcbbgmiccaaGreatDoor
