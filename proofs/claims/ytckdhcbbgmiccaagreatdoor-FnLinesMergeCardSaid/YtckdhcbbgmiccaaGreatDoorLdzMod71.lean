/- The laws on plays: names, files, parts; plain laws. -/
import Derived.Test.YtckdhcbbgmiccaaGreatDoorLdzMod42
set_option linter.unusedVariables false
set_option linter.unusedSimpArgs false
namespace Go.Proofs.YtckdhcbbgmiccaaGreatDoor
section
variable {w:Wld}
theorem QJ (h:WV w):(w.disk.files.length:Int)=w.disk.list.length∧(w.disk.list.length:Int)=w.store.parts.length:=by
 have h1:=h.v.VI
 have e:(BR w.disk).files=w.disk.files:=by
  unfold BR
  rw [List.filter_eq_self]
  exact fun f hf=>List.contains_iff_mem.2 (h.tf f hf)
 rw [e] at h1
 refine ⟨by omega,?_⟩
 rw [h.p,List.length_map]
theorem Jp (h:WV w):w.store.parts.length≤6∧w.store.mem.length≤20∧w.store.idx.names.length≤6:=⟨(Dh.1 h.k).1,(Dh.1 h.k).2.1,h.wd.wi.sto.nm.len⟩
theorem Iv {d:Dsk}:(At d).idx.names=d.names:=rfl
end
theorem EsD.take {es:List Evt}(h:EsD es) (k:Nat):EsD ((es.take k).drop 0):=fun e he=>h e (List.mem_of_mem_take (List.mem_of_mem_drop he))
end Go.Proofs.YtckdhcbbgmiccaaGreatDoor
namespace Go.Proofs.YtckdhcbbgmiccaaGreatDoor
section
variable {w:Wld} {e:Evt}
theorem ZF (B:Int):∀ (l:List Stp) (d:Dsk),d.next≤B→(∀ x∈l,x.kind=1→x.num+1≤B)→(l.foldl doD d).next≤B:=by
 intro l
 induction l with
 | nil=>intro d h _; exact h
 | cons x xs ih =>
   intro d h hx
   rw [List.foldl_cons]
   refine ih _ ?_ (fun y hy=>hx y (by simp [hy]))
   unfold doD
   split
   ·rename_i hk; exact hx x AD hk
   ·split
    ·exact h
    ·split
     ·exact h
     ·exact h
theorem Vj (d:Dsk) (s:Sto):∀ x∈BD d s,x.kind=1→x.num+1≤d.next+1:=by
 intro x hx hk
 unfold BD at hx
 split at hx
 ·cases hx
 ·simp only [List.mem_cons,List.not_mem_nil,or_false] at hx
  rcases hx with rfl | rfl
  ·exact Int.le_refl _
  ·simp at hk
theorem Vk (d:Dsk) (a:Int):∀ x∈Aq d a,x.kind=1→x.num+1≤d.next+1:=by
 intro x hx hk
 unfold Aq at hx
 split at hx
 ·cases hx
 ·simp only [List.mem_cons,List.not_mem_nil,or_false] at hx
  rcases hx with rfl | rfl | rfl | rfl
  ·exact Int.le_refl _
  ·simp at hk
  ·simp at hk
  ·simp at hk
theorem QK {st:List Stp}{c:Int}{s:Sto}(h:∀ x∈st,x.kind=1→x.num+1≤w.disk.next+1):(Br w st c s).disk.next≤w.disk.next+1:=by
 have key:(toD w.disk st c).next≤w.disk.next+1:=ZF _ _ _ AB (fun x hx=>h x (List.mem_of_mem_take hx))
 unfold Br
 split
 ·omega
 ·split
  ·exact key
  ·exact key
theorem Vl (w:Wld) (e:Evt):(doW w e).disk.next≤w.disk.next+1:=by
 by_cases k1:e.kind=1
 ·cases hn:Ar e.name with
  | false=>rw [HZ k1 hn]; omega
  | true=>rw [JJ k1 hn]; show w.disk.next≤_; omega
 ·by_cases k2:e.kind=2
  ·rw [IU k2]; exact QK (Vj _ _)
  ·by_cases k3:e.kind=3
   ·rw [HA k3]; exact QK (Vk _ _)
   ·by_cases k4:e.kind=4
    ·rw [NX k4]; show w.disk.next≤_; omega
    ·rw [NY k1 k2 k3 k4]; omega
theorem XZ:∀ (es:List Evt) (w:Wld),(es.foldl doW w).disk.next≤w.disk.next+es.length:=by
 intro es
 induction es with
 | nil=>intro w; simp
 | cons e es ih =>
   intro w
   have h1:=ih (doW w e)
   have h2:=Vl w e
   rw [List.foldl_cons,List.length_cons]
   omega
theorem Ov (h:WV w) (hc:(w.store.mem.length:Int)=0∨(w.store.parts.length:Int)=6) (k:e.kind=2):doW w e=w:=by
 rw [IU k]
 refine C2 (.inl ?_)
 have hl:=(QJ h).2
 rw [En AB]
 rfl
theorem ZG (h:WV w) (hn:w.disk.next≤60) (h0:¬ (w.store.mem.length:Int)=0) (h6:¬ (w.store.parts.length:Int)=6):FlD w.disk w.store:=by
 have h1:=QJ h
 have h2:=Jp h
 exact ⟨h.v,h.sd,h.k,h.nb,h.p,fun e=>h0 (by rw [e]; rfl),by omega,by omega,by omega⟩
theorem Ow (h:WV w) (q:FlD w.disk w.store) (k:e.kind=2) (hc:¬ e.cut< 2):doW w e=⟨DA w.store,toD w.disk (BD w.disk w.store) e.cut⟩:=by
 rw [IU k]
 have hl:=F8 q
 rw [Df AB AB AB,(Gn h.sd h.k q.m q.parts).1]
theorem SR (h:WV w) (k:e.kind=4):doW w e=⟨At w.disk,BR w.disk⟩:=by
 rw [NX k]; exact IB h.dd h.v
theorem Hp (h:WV w) (q:FlD w.disk w.store):Bt (DA w.store) [] 0 99=Bt w.store [] 0 99 :=
 Mb (x:=DA w.store) (s:=w.store) rfl (h.k.trans (JV h.sd h.k q.m q.parts).symm) (fun _ id a b=>Ip (StoK.of h.sd h.k) a (by have:=h.sd.nm.len; omega)) _ _
theorem oZ (h:WV w) (hn:w.disk.next≤60){a:Int}(h0:0≤a) (h1:a+2≤w.disk.list.length):∃ x y,MgD w.disk a.toNat x y∧Aq w.disk a=Aq w.disk a.toNat:=by
 have hl:=QJ h
 have h2:=Jp h
 have hc:¬ (!(inR a 0 ((w.disk.list.length:Int) - 2)) || decide (w.disk.next≥999) || decide (w.disk.files.length≥20))=true:=by
  have hi:inR a 0 ((w.disk.list.length:Int) - 2)=true:=by simp [inR]; omega
  have hx:decide (w.disk.next≥999)=false:=decide_eq_false AB
  have hy:decide (w.disk.files.length≥20)=false:=decide_eq_false AB
  rw [hi,hx,hy]
  decide
 obtain ⟨x,y,q,_,e,_⟩:=h.mg (i:=a) (by unfold Aq; rw [if_neg hc]; simp)
 exact ⟨x,y,q,e⟩
theorem Ox (h:WV w){x y:Int}(q:MgD w.disk e.at_.toNat x y) (es:Aq w.disk e.at_=Aq w.disk e.at_.toNat) (h0:0≤e.at_) (k:e.kind=3) (hc:¬ e.cut< 4) :
 doW w e=⟨CV w.store e.at_.toNat,toD w.disk (Aq w.disk e.at_.toNat) e.cut⟩:=by
 rw [HA k,es]
 have hl:=F9 q
 have hp:e.at_.toNat+2≤w.store.parts.length:=by rw [← h.open,q.open.2.2]; exact q.l
 have em:(BL w.store e.at_).1=CV w.store e.at_.toNat:=by
  have:=Jk hp
  rw [show ((e.at_.toNat:Nat):Int)=e.at_ by omega] at this
  rw [this]
 rw [Df AB AB AB,em]
theorem Xa (h:WV w){x y:Int}(q:MgD w.disk e.at_.toNat x y) (es:Aq w.disk e.at_=Aq w.disk e.at_.toNat) (k:e.kind=3) (h1:0≤e.cut) (hc:e.cut< 4) :
 doW w e=⟨At (toD w.disk (Aq w.disk e.at_.toNat) e.cut),BR (toD w.disk (Aq w.disk e.at_.toNat) e.cut)⟩:=by
 rw [HA k,es]
 have hl:=F9 q
 rw [E2 AB AB AB]
 exact IB (w:=⟨w.store,toD w.disk (Aq w.disk e.at_.toNat) e.cut⟩) (by have:=Mf h e.at_ e.cut; rwa [es] at this) (q.to _).1
theorem X8 (h:WV w){x y:Int}{a:Nat}(q:MgD w.disk a x y) (c:Int):Bt (At (toD w.disk (Aq w.disk a) c)) [] 0 99=Bt (At w.disk) [] 0 99:=by
 rw [(q.to c).2]
 split
 ·rfl
 ·exact Hm q.sd q.v.so (by rw [q.open.2.2]; exact q.l)
end
section
variable {w:Wld} {c:Int}
theorem o5 (h:WV w) (hn:w.disk.next≤60){a:Int}(h0:0≤a) (h1:a+2≤w.disk.list.length) (hc:0≤c∧c< 5) :
 (Bt (doW (doW w ⟨3,a,c,[],⟨0,0⟩⟩) ⟨4,0,0,[],⟨0,0⟩⟩).store [] 0 99==Bt (doW w ⟨4,0,0,[],⟨0,0⟩⟩).store [] 0 99)=true∧(Bt (doW w ⟨3,a,9,[],⟨0,0⟩⟩).store [] 0 99==Bt w.store [] 0 99)=true ∧
  ((doW w ⟨3,a,9,[],⟨0,0⟩⟩).disk.list.length:Int)=w.disk.list.length - 1:=by
 obtain ⟨x,y,q,es⟩:=oZ h hn h0 h1
 have hx:WV (doW w ⟨3,a,c,[],⟨0,0⟩⟩):=h.do NmD.nil
 have e9:=Ox (e:=⟨3,a,9,[],⟨0,0⟩⟩) h q es h0 rfl (by show ¬ (9:Int)< 4; decide)
 have hp:a.toNat+2≤w.store.parts.length:=by rw [← h.open,q.open.2.2]; exact q.l
 rw [SR hx rfl,SR (e:=⟨4,0,0,[],⟨0,0⟩⟩) h rfl,e9]
 refine ⟨?_,?_,?_⟩
 ·show (Bt (At (doW w ⟨3,a,c,[],⟨0,0⟩⟩).disk) [] 0 99==Bt (At w.disk) [] 0 99)=true
  by_cases h4:c< 4
  ·rw [Xa (e:=⟨3,a,c,[],⟨0,0⟩⟩) h q es rfl hc.1 h4]
   show (Bt (At (BR (toD w.disk (Aq w.disk a.toNat) c))) [] 0 99==_)=true
   obtain ⟨_,eo⟩:=(q.to c).1.tidy
   rw [eo,X8 h q c]
   exact beq_self_eq_true _
  ·rw [Ox (e:=⟨3,a,c,[],⟨0,0⟩⟩) h q es h0 rfl h4]
   show (Bt (At (toD w.disk (Aq w.disk a.toNat) c)) [] 0 99==_)=true
   rw [X8 h q c]
   exact beq_self_eq_true _
 ·show (Bt (CV w.store a.toNat) [] 0 99==_)=true
  rw [Hm h.sd h.k hp]
  exact beq_self_eq_true _
 ·show (((toD w.disk (Aq w.disk a.toNat) 9).list.length:Nat):Int)=_
  rw [Me q AE]
  have:=q.l
  have e:(mgD w.disk a.toNat x y).list=w.disk.list.take a.toNat++[w.disk.next]++w.disk.list.drop (a.toNat+2):=rfl
  show (((mgD w.disk a.toNat x y).list.length:Nat):Int)=_
  rw [e]
  simp only [List.length_append,List.length_take,List.length_drop,List.length_cons,List.length_nil]
  omega
end
end Go.Proofs.YtckdhcbbgmiccaaGreatDoor
namespace Go.Proofs.YtckdhcbbgmiccaaGreatDoor
theorem TW {p:List Tag→Bool}:∀ (l m:List (List Tag)) (i:Nat),BG p i (l++m)=BG p i l++BG p (i+l.length) m:=by
 intro l
 induction l with
 | nil=>intro m i; rfl
 | cons n ns ih =>
   intro m i
   rw [List.cons_append]
   show (if p n then [(i:Int)+1] else [])++BG p (i+1) (ns++m)=((if p n then [(i:Int)+1] else [])++BG p (i+1) ns)++BG p (i+(n::ns).length) m
   rw [ih,← List.append_assoc,List.length_cons,show i+(ns.length+1)=i+1+ns.length by omega]
theorem ZH {id:Int}:∀ (ps:List Prt),(∀ p∈ps,∀ i∈p.ids,i≠id)→ps.foldl (CG id) []=[]:=by
 intro ps
 induction ps with
 | nil=>intro _; rfl
 | cons p ps ih =>
   intro h
   rw [List.foldl_cons]
   have e:CG id [] p=[]:=by
    unfold CG partOf
    rw [Pm _ _ (h p AD)]
    rfl
   rw [e]
   exact ih (fun q hq=>h q (by simp [hq]))
section
variable {w:Wld}
theorem ZI (h:WV w):∃ l,w.store.idx.names=w.disk.names++l:=⟨w.store.idx.names.drop w.disk.names.length,by
 have:=List.take_append_drop w.disk.names.length w.store.idx.names
 rw [← h.m] at this
 exact this.symm⟩
theorem Vm (h:WV w) (hm:w.store.mem=[]):Bt (At w.disk) [] 0 99=Bt w.store [] 0 99:=by
 obtain ⟨l,hl⟩:=ZI h
 have r1:∀ id,rowsOf w.store id=w.store.parts.foldl (CG id) []:=fun id=>by unfold rowsOf; rw [hm]; rfl
 have r2:∀ id,rowsOf (At w.disk) id=w.store.parts.foldl (CG id) []:=fun id=>by rw [← h.open]; rfl
 rw [Oh h.v.so Ma,Oh h.k Ma]
 unfold Fi
 rw [hl,Iv,TW,List.flatMap_append]
 have e1:(BG (fits []) 0 w.disk.names).flatMap (DR (At w.disk) 0 99)=(BG (fits []) 0 w.disk.names).flatMap (DR w.store 0 99):=by
  have key:∀ (q:List Int),(∀ i∈q,1≤i∧i≤w.disk.names.length)→q.flatMap (DR (At w.disk) 0 99)=q.flatMap (DR w.store 0 99):=by
   intro q
   induction q with
   | nil=>intro _; rfl
   | cons i is ih =>
     intro hq
     rw [List.flatMap_cons,List.flatMap_cons,ih (fun j hj=>hq j (by simp [hj]))]
     have h1:=hq i AD
     unfold DR
     rw [r1,r2,hl,Iv]
     have e:(w.disk.names++l).getD (i - 1).toNat []=w.disk.names.getD (i - 1).toNat []:=by
      rw [List.getD_eq_getElem?_getD,List.getD_eq_getElem?_getD,List.getElem?_append_left AB]
     rw [e]
  exact key _ (fun i hi=>C3 hi)
 have e2:(BG (fits []) (0+w.disk.names.length) l).flatMap (DR w.store 0 99)=[]:=by
  rw [List.flatMap_eq_nil_iff]
  intro i hi
  have h1:=Nn l _ i hi
  have h0:rowsOf w.store i=[]:=by
   rw [r1]
   refine ZH _ fun p hp j hj=>?_
   rw [← h.open] at hp
   have h2:=Ja ((Dh.1 h.v.so).2.2.1 p hp) j hj
   rw [Iv] at h2
   omega
  unfold DR
  rw [h0]
  rfl
 rw [e1,e2,List.append_nil]
theorem oC (h:WV w):(doW w ⟨4,0,0,[],⟨0,0⟩⟩).store=At w.disk:=by rw [SR h rfl]
structure SM (w x:Wld) (k:Nat):Prop where
 wv:WV x
 ask:Bt x.store [] 0 99=Bt w.store [] 0 99
 nx:x.disk.next≤52+k
 len:x.disk.list.length≤6 - k∨x.disk.list.length≤1
theorem SM.start (h:WV w) (hn:w.disk.next≤51):SM w (doW w ⟨2,0,9,[],⟨0,0⟩⟩) 0:=by
 have hx:WV (doW w ⟨2,0,9,[],⟨0,0⟩⟩):=h.do NmD.nil
 have h1:=Vl w ⟨2,0,9,[],⟨0,0⟩⟩
 have h2:=QJ hx
 have h3:=Jp hx
 refine ⟨hx,?_,by omega,.inl AB⟩
 by_cases hc:(w.store.mem.length:Int)=0∨(w.store.parts.length:Int)=6
 ·rw [Ov h hc rfl]
 ·have q:=ZG h AB (fun e=>hc (.inl e)) (fun e=>hc (.inr e))
  rw [Ow (e:=⟨2,0,9,[],⟨0,0⟩⟩) h q rfl AE]
  exact Hp h q
theorem SM.step {x:Wld}{k:Nat}(h:SM w x k) (hk:k< 6):SM w (doW x ⟨3,0,9,[],⟨0,0⟩⟩) (k+1):=by
 have hx:WV (doW x ⟨3,0,9,[],⟨0,0⟩⟩):=h.wv.do NmD.nil
 have h1:=Vl x ⟨3,0,9,[],⟨0,0⟩⟩
 have hn:=h.nx
 by_cases hl:2≤x.disk.list.length
 ·obtain ⟨_,e2,e3⟩:=o5 (c:=0) (a:=0) h.wv AB AB AB AB
  refine ⟨hx,(eq_of_beq e2).trans h.ask,by omega,?_⟩
  rcases h.len with h4 | h4 <;> omega
 ·have e:doW x ⟨3,0,9,[],⟨0,0⟩⟩=x:=by
   rw [HA (e:=⟨3,0,9,[],⟨0,0⟩⟩) rfl]
   refine C2 (.inl ?_)
   show ((Aq x.disk 0).length:Int)=0
   have:Aq x.disk 0=[]:=by
    unfold Aq
    rw [if_pos]
    have hi:inR 0 0 ((x.disk.list.length:Int) - 2)=false:=by simp [inR]; omega
    rw [hi]
    rfl
   rw [this]
   rfl
  rw [e]
  exact ⟨h.wv,h.ask,by omega,.inr AB⟩
theorem SM.fin {x:Wld}(h:SM w x 6):WV (doW x ⟨2,0,9,[],⟨0,0⟩⟩)∧(Bt (doW x ⟨2,0,9,[],⟨0,0⟩⟩).store [] 0 99==Bt w.store [] 0 99)=true∧(Bt (doW (doW x ⟨2,0,9,[],⟨0,0⟩⟩) ⟨4,0,0,[],⟨0,0⟩⟩).store [] 0 99==Bt w.store [] 0 99)=true ∧
 (doW x ⟨2,0,9,[],⟨0,0⟩⟩).store.mem.length=0∧(doW x ⟨2,0,9,[],⟨0,0⟩⟩).disk.list.length≤2:=by
 have hx:WV (doW x ⟨2,0,9,[],⟨0,0⟩⟩):=h.wv.do NmD.nil
 have hl:=h.len
 have hn:=h.nx
 have h2:=QJ h.wv
 have key:(doW x ⟨2,0,9,[],⟨0,0⟩⟩).store.mem=[]∧Bt (doW x ⟨2,0,9,[],⟨0,0⟩⟩).store [] 0 99=Bt w.store [] 0 99∧(doW x ⟨2,0,9,[],⟨0,0⟩⟩).disk.list.length≤2:=by
  by_cases hm:(x.store.mem.length:Int)=0
  ·rw [Ov h.wv (.inl hm) rfl]
   exact ⟨List.length_eq_zero_iff.1 AB,h.ask,by omega⟩
  ·have q:=ZG h.wv AB hm AB
   rw [Ow (e:=⟨2,0,9,[],⟨0,0⟩⟩) h.wv q rfl AE]
   refine ⟨rfl,(Hp h.wv q).trans h.ask,?_⟩
   show (toD x.disk (BD x.disk x.store) 9).list.length≤2
   rw [(It q (c:=9) AE).2]
   simp only [List.length_append,List.length_cons,List.length_nil]
   omega
 obtain ⟨k1,k2,k3⟩:=key
 refine ⟨hx,by rw [k2]; exact beq_self_eq_true _,?_,by rw [k1]; rfl,k3⟩
 rw [oC hx,Vm hx k1,k2]
 exact beq_self_eq_true _
end
end Go.Proofs.YtckdhcbbgmiccaaGreatDoor
namespace Go.Proofs.YtckdhcbbgmiccaaGreatDoor
def NB (w:Wld):Prop:=w.store.mem=[]→w.store.idx.names=w.disk.names
theorem Vn {s:Sto}{n:List Tag}{r:Row}(h:(CQ s n r).2=false):(CQ s n r).1=s:=by
 unfold CQ at h ⊢
 split at h
 ·rename_i hc; rw [if_pos hc]
 ·rename_i hc
  rw [if_neg hc]
  split at h
  ·rename_i hc2; rw [if_pos hc2]
  ·cases h
section
variable {w:Wld}
theorem NB.do (h:WV w) (nb:NB w) (e:Evt):NB (doW w e):=by
 by_cases k1:e.kind=1
 ·cases hn:Ar e.name with
  | false=>rw [HZ k1 hn]; exact nb
  | true =>
    rw [JJ k1 hn]
    cases hb:(CQ w.store e.name e.row).2 with
    | false=>rw [Vn hb]; exact nb
    | true =>
      intro hm
      rw [(Oj hb).2.2.2.2] at hm
      have hm2:w.store.mem++[⟨(BY w.store.idx e.name).2.1,e.row⟩]=[]:=hm
      simp at hm2
 ·by_cases k2:e.kind=2
  ·rw [IU k2]
   by_cases hs:((BD w.disk w.store).length:Int)=0∨e.cut< 0
   ·rw [C2 hs]; exact nb
   ·have q:=h.fl (fun e0=>hs (.inl (by rw [e0]; rfl)))
    by_cases hc:e.cut< (BD w.disk w.store).length
    ·rw [E2 (fun e0=>hs (.inl e0)) (fun e0=>hs (.inr e0)) hc,IB (w:=⟨w.store,toD w.disk (BD w.disk w.store) e.cut⟩) (P3 h q _) (q.to _).1]
     exact fun _=>rfl
    ·rw [Df (fun e0=>hs (.inl e0)) (fun e0=>hs (.inr e0)) hc,(Gn h.sd h.k q.m q.parts).1]
     have o:=(q.to e.cut).2
     rw [F8 q] at hc
     rw [if_neg hc] at o
     intro _
     exact (congrArg (fun s:Sto=>s.idx.names) o).symm
  ·by_cases k3:e.kind=3
   ·rw [HA k3]
    by_cases hs:((Aq w.disk e.at_).length:Int)=0∨e.cut< 0
    ·rw [C2 hs]; exact nb
    ·obtain ⟨x,y,q,i0,e3,_⟩:=h.mg (i:=e.at_) (fun e0=>hs (.inl (by rw [e0]; rfl)))
     have o:=(q.to e.cut).2
     by_cases hc:e.cut< (Aq w.disk e.at_).length
     ·rw [E2 (fun e0=>hs (.inl e0)) (fun e0=>hs (.inr e0)) hc,IB (w:=⟨w.store,toD w.disk (Aq w.disk e.at_) e.cut⟩) (Mf h _ _) (by rw [e3]; exact (q.to _).1)]
      exact fun _=>rfl
     ·rw [Df (fun e0=>hs (.inl e0)) (fun e0=>hs (.inr e0)) hc]
      have hp:e.at_.toNat+2≤w.store.parts.length:=by rw [← h.open,q.open.2.2]; exact q.l
      have em:(BL w.store e.at_).1=CV w.store e.at_.toNat:=by
       have:=Jk hp
       rw [← i0] at this
       rw [this]
      have hd:(toD w.disk (Aq w.disk e.at_.toNat) e.cut).names=w.disk.names:=by
       split at o
       ·exact congrArg (fun s:Sto=>s.idx.names) o
       ·exact congrArg (fun s:Sto=>s.idx.names) o
      intro hm
      rw [em] at hm ⊢
      show w.store.idx.names=(toD w.disk (Aq w.disk e.at_) e.cut).names
      rw [e3,hd]
      exact nb hm
   ·by_cases k4:e.kind=4
    ·rw [SR h k4]; exact fun _=>rfl
    ·rw [NY k1 k2 k3 k4]; exact nb
theorem NB.foldl:∀ (es:List Evt) (w:Wld),WV w→NB w→EsD es→NB (es.foldl doW w):=by
 intro es
 induction es with
 | nil=>intro w _ nb _; exact nb
 | cons e es ih =>
   intro w h nb he
   exact ih _ (h.do (he e AD).1) (nb.do h e) (fun x hx=>he x (by simp [hx]))
def c9 (e:Evt):Evt:=⟨e.kind,e.at_,9,e.name,e.row⟩
def nvS (p:List Evt × List Evt) (e:Evt):List Evt × List Evt:=if e.kind=1∧(p.1.length:Int)< 20 then (p.1++[c9 e],p.2++[c9 e]) else if e.kind=2∨e.kind=3 then (p.1,p.2++[c9 e]) else p
structure NV (A B:List Evt):Prop where
 ea:EsD A
 eb:EsD B
 ix:(Co B).store.idx=(Co A).store.idx
 rw:∀ id,1≤id→id≤6→rowsOf (Co B).store id=rowsOf (Co A).store id
 la:A.length≤20
 ma:(Co A).store.mem.length≤A.length
 mb:(Co B).store.mem.length≤A.length
theorem DB (es:List Evt) (e:Evt):Co (es++[e])=doW (Co es) e:=by unfold Co; rw [List.foldl_append]; rfl
theorem NV.nil:NV [] []:=⟨EsD.nil,EsD.nil,rfl,fun _ _ _=>rfl,by simp,by simp [Co,EL],by simp [Co,EL]⟩
theorem Mo (s:Sto) (n:List Tag) (r:Row):(GL s n r).mem.length=s.mem.length+1:=by simp [GL]
theorem add_same {s t:Sto}{n:List Tag}{r:Row}(hs:SD s) (ht:SD t) (ks:Ab s=true) (kt:Ab t=true) (hi:t.idx=s.idx) (hr:∀ id,1≤id→id≤6→rowsOf t id=rowsOf s id) (hm:s.mem.length< 20) (hm2:t.mem.length< 20) :
 (CQ t n r).1.idx=(CQ s n r).1.idx∧(∀ id,1≤id→id≤6→rowsOf (CQ t n r).1 id=rowsOf (CQ s n r).1 id)∧(CQ s n r).1.mem.length≤s.mem.length+1∧(CQ t n r).1.mem.length≤t.mem.length+1:=by
 have same:t.idx=s.idx∧(∀ id,1≤id→id≤6→rowsOf t id=rowsOf s id)∧s.mem.length≤s.mem.length+1∧t.mem.length≤t.mem.length+1:=⟨hi,hr,by omega,by omega⟩
 cases h1:(BY s.idx n).2.2 with
 | false=>rw [L6 h1,L6 (by rw [hi]; exact h1)]; exact same
 | true =>
   cases h2:Be r with
   | false=>rw [L7 h2,L7 h2]; exact same
   | true =>
     obtain ⟨_,i2,_,i4⟩:=Qj hs.idx hs.nm n
     have i5:=i4 h1
     have i6:=i2.len
     have hx:∀ id,1≤id→id≤6→rowsOf (GL t n r) id=rowsOf (GL s n r) id:=fun id a b=>by rw [MX ht kt,MX hs ks,hi,hr id a b]
     have h3:=hx (BY s.idx n).2.1 i5.1 AB
     by_cases h4:((rowsOf (GL s n r) (BY s.idx n).2.1).length:Int) > 24
     ·rw [Gz h1 h2 AB h4,Gz (by rw [hi]; exact h1) h2 AB (by rw [hi,h3]; exact h4)]; exact same
     ·rw [G0 h1 h2 AB h4,G0 (by rw [hi]; exact h1) h2 AB (by rw [hi,h3]; exact h4)]
      refine ⟨?_,hx,by rw [Mo]; exact Nat.le_refl _,by rw [Mo]; exact Nat.le_refl _⟩
      show (BY t.idx n).1=(BY s.idx n).1
      rw [hi]
theorem NV.add {A B:List Evt}(h:NV A B){e:Evt}(he:EvD e) (k:e.kind=1) (hl:(A.length:Int)< 20):NV (A++[c9 e]) (B++[c9 e]):=by
 have ha:=WV.Y3 h.ea
 have hb:=WV.Y3 h.eb
 have m1:=h.ma
 have m2:=h.mb
 have key:(doW (Co B) (c9 e)).store.idx=(doW (Co A) (c9 e)).store.idx∧(∀ id,1≤id→id≤6→rowsOf (doW (Co B) (c9 e)).store id=rowsOf (doW (Co A) (c9 e)).store id) ∧
  (doW (Co A) (c9 e)).store.mem.length≤A.length+1∧(doW (Co B) (c9 e)).store.mem.length≤A.length+1:=by
  have k9:(c9 e).kind=1:=k
  cases hn:Ar (c9 e).name with
  | false=>rw [HZ k9 hn,HZ k9 hn]; exact ⟨h.ix,h.rw,by omega,by omega⟩
  | true =>
    rw [JJ k9 hn,JJ k9 hn]
    obtain ⟨q1,q2,q3,q4⟩:=add_same (n:=(c9 e).name) (r:=(c9 e).row) ha.sd hb.sd ha.k hb.k h.ix h.rw AB AB
    exact ⟨q1,q2,Nat.le_trans q3 AB,Nat.le_trans q4 AB⟩
 obtain ⟨k1,k2,k3,k4⟩:=key
 refine ⟨h.ea.snoc he,h.eb.snoc he,?_,?_,?_,?_,?_⟩
 ·rw [DB,DB]; exact k1
 ·rw [DB,DB]; exact k2
 ·rw [List.length_append,List.length_cons,List.length_nil]; omega
 ·rw [DB,List.length_append,List.length_cons,List.length_nil]; exact k3
 ·rw [DB,List.length_append,List.length_cons,List.length_nil]; exact k4
theorem NV.flush {A B:List Evt}(h:NV A B){e:Evt}(he:EvD e) (k:e.kind=2∨e.kind=3) (hl:B.length≤50):NV A (B++[c9 e]):=by
 have hb:=WV.Y3 h.eb
 have nx:(Co B).disk.next≤60:=by
  have h3:=XZ B EL
  have h4:EL.disk.next=1:=rfl
  unfold Co
  omega
 have m2:=h.mb
 have n6:=hb.sd.nm.len
 have key:(doW (Co B) (c9 e)).store.idx=(Co B).store.idx∧(∀ id,1≤id→id≤6→rowsOf (doW (Co B) (c9 e)).store id=rowsOf (Co B).store id)∧(doW (Co B) (c9 e)).store.mem.length≤A.length:=by
  rcases k with k | k
  ·by_cases hc:((Co B).store.mem.length:Int)=0∨((Co B).store.parts.length:Int)=6
   ·rw [Ov (e:=c9 e) hb hc k]; exact ⟨rfl,fun _ _ _=>rfl,m2⟩
   ·have q:=ZG hb nx (fun e=>hc (.inl e)) (fun e=>hc (.inr e))
    rw [Ow (e:=c9 e) hb q k (by show ¬ (9:Int)< 2; decide)]
    exact ⟨rfl,fun id a b=>Ip (StoK.of hb.sd hb.k) a b,by show (0:Nat)≤_; omega⟩
  ·by_cases hs:((Aq (Co B).disk e.at_).length:Int)=0
   ·rw [HA (e:=c9 e) k]
    have hs9:((Aq (Co B).disk (c9 e).at_).length:Int)=0:=hs
    rw [C2 (.inl hs9)]
    exact ⟨rfl,fun _ _ _=>rfl,m2⟩
   ·obtain ⟨x,y,q,i0,e3,_⟩:=hb.mg (i:=e.at_) (fun e0=>hs (by rw [e0]; rfl))
    have hp:e.at_.toNat+2≤(Co B).store.parts.length:=by rw [← hb.open,q.open.2.2]; exact q.l
    rw [Ox (e:=c9 e) hb q e3 (by show 0≤e.at_; omega) k (by show ¬ (9:Int)< 4; decide)]
    exact ⟨rfl,fun id a b=>(E4 (StoK.of hb.sd hb.k) hp a b).2,m2⟩
 obtain ⟨k1,k2,k3⟩:=key
 refine ⟨h.ea,h.eb.snoc he,?_,?_,h.la,h.ma,?_⟩
 ·rw [DB,k1]; exact h.ix
 ·rw [DB]; exact fun id a b=>(k2 id a b).trans (h.rw id a b)
 ·rw [DB]; exact k3
theorem NV.step {p:List Evt × List Evt}(h:NV p.1 p.2){e:Evt}(he:EvD e) (hl:p.2.length≤50):NV (nvS p e).1 (nvS p e).2∧(nvS p e).2.length≤p.2.length+1:=by
 unfold nvS
 split
 ·rename_i k; exact ⟨h.add he k.1 k.2,by simp⟩
 ·split
  ·rename_i k; exact ⟨h.flush he k hl,by simp⟩
  ·exact ⟨h,by omega⟩
theorem NV.foldl:∀ (es:List Evt) (p:List Evt × List Evt),NV p.1 p.2→EsD es→p.2.length+es.length≤50→NV (es.foldl nvS p).1 (es.foldl nvS p).2∧(es.foldl nvS p).2.length≤50:=by
 intro es
 induction es with
 | nil=>intro p h _ hl; exact ⟨h,by simpa using hl⟩
 | cons e es ih =>
   intro p h he hl
   rw [List.length_cons] at hl
   obtain ⟨a,b⟩:=h.step (he e AD) AB
   exact ih _ a (fun x hx=>he x (by simp [hx])) AB
end
end Go.Proofs.YtckdhcbbgmiccaaGreatDoor
namespace Go.Proofs.YtckdhcbbgmiccaaGreatDoor
def LsD (es:List Evt):Prop:=∀ e∈es,EvD e∧e.kind≠4∧e.cut=9
theorem LsD.nil:LsD []:=fun e h=>by cases h
theorem LsD.snoc {es:List Evt}{e:Evt}(h:LsD es) (he:EvD e) (k:e.kind≠4):LsD (es++[c9 e]):=fun x hx=>by
 rcases List.mem_append.1 hx with hx | hx
 ·exact h x hx
 ·simp at hx; subst hx; exact ⟨he,k,rfl⟩
end Go.Proofs.YtckdhcbbgmiccaaGreatDoor
