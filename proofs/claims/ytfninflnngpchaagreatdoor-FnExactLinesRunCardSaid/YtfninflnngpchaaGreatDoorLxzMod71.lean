/- The laws on plays: names, files, parts; plain laws. -/
import Derived.Test.YtfninflnngpchaaGreatDoorLxzMod42
set_option linter.unusedVariables false
set_option linter.unusedSimpArgs false
namespace Go.Proofs.YtfninflnngpchaaGreatDoor
section
variable {w:Wld}
theorem Rm (h:WV w):(w.disk.files.length:Int)=w.disk.list.length∧(w.disk.list.length:Int)=w.store.parts.length:=by
 have h1:=h.v.Uj
 have e:(BN w.disk).files=w.disk.files:=by
  unfold BN
  rw [List.filter_eq_self]
  exact fun f hf=>List.contains_iff_mem.2 (h.tf f hf)
 rw [e] at h1
 refine ⟨by omega,?_⟩
 rw [h.p,List.length_map]
theorem LN (h:WV w):w.store.parts.length≤6∧w.store.mem.length≤20∧w.store.idx.names.length≤6:=⟨(DY.1 h.k).1,(DY.1 h.k).2.1,h.wd.wi.sto.nm.len⟩
theorem Ik {d:Dsk}:(Ar d).idx.names=d.names:=rfl
end
theorem EsD.take {es:List Evt}(h:EsD es) (k:Nat):EsD ((es.take k).drop 0):=fun e he=>h e (List.mem_of_mem_take (List.mem_of_mem_drop he))
end Go.Proofs.YtfninflnngpchaaGreatDoor
namespace Go.Proofs.YtfninflnngpchaaGreatDoor
section
variable {w:Wld} {e:Evt}
theorem Ye (B:Int):∀ (l:List Stp) (d:Dsk),d.next≤B→(∀ x∈l,x.kind=1→x.num+1≤B)→(l.foldl doD d).next≤B:=by
 intro l
 induction l with
 | nil=>intro d h _; exact h
 | cons x xs ih =>
   intro d h hx
   rw [List.foldl_cons]
   refine ih _ ?_ (fun y hy=>hx y (by simp [hy]))
   unfold doD
   split
   ·rename_i hk; exact hx x AD hk
   ·split
    ·exact h
    ·split
     ·exact h
     ·exact h
theorem U7 (d:Dsk) (s:Sto):∀ x∈BB d s,x.kind=1→x.num+1≤d.next+1:=by
 intro x hx hk
 unfold BB at hx
 split at hx
 ·cases hx
 ·simp only [List.mem_cons,List.not_mem_nil,or_false] at hx
  rcases hx with rfl | rfl
  ·exact Int.le_refl _
  ·simp at hk
theorem U8 (d:Dsk) (a:Int):∀ x∈Al d a,x.kind=1→x.num+1≤d.next+1:=by
 intro x hx hk
 unfold Al at hx
 split at hx
 ·cases hx
 ·simp only [List.mem_cons,List.not_mem_nil,or_false] at hx
  rcases hx with rfl | rfl | rfl | rfl
  ·exact Int.le_refl _
  ·simp at hk
  ·simp at hk
  ·simp at hk
theorem Pm {st:List Stp}{c:Int}{s:Sto}(h:∀ x∈st,x.kind=1→x.num+1≤w.disk.next+1):(Bl w st c s).disk.next≤w.disk.next+1:=by
 have key:(toD w.disk st c).next≤w.disk.next+1:=Ye _ _ _ AB (fun x hx=>h x (List.mem_of_mem_take hx))
 unfold Bl
 split
 ·omega
 ·split
  ·exact key
  ·exact key
theorem XT (w:Wld) (e:Evt):(doW w e).disk.next≤w.disk.next+1:=by
 by_cases k1:e.kind=1
 ·cases hn:Ao e.name with
  | false=>rw [IW k1 hn]; omega
  | true=>rw [KW k1 hn]; show w.disk.next≤_; omega
 ·by_cases k2:e.kind=2
  ·rw [I4 k2]; exact Pm (U7 _ _)
  ·by_cases k3:e.kind=3
   ·rw [HO k3]; exact Pm (U8 _ _)
   ·by_cases k4:e.kind=4
    ·rw [M4 k4]; show w.disk.next≤_; omega
    ·rw [Ox k1 k2 k3 k4]; omega
theorem Wx:∀ (es:List Evt) (w:Wld),(es.foldl doW w).disk.next≤w.disk.next+es.length:=by
 intro es
 induction es with
 | nil=>intro w; simp
 | cons e es ih =>
   intro w
   have h1:=ih (doW w e)
   have h2:=XT w e
   rw [List.foldl_cons,List.length_cons]
   omega
theorem Rn (h:WV w) (hc:(w.store.mem.length:Int)=0∨(w.store.parts.length:Int)=6) (k:e.kind=2):doW w e=w:=by
 rw [I4 k]
 refine DV (.inl ?_)
 have hl:=(Rm h).2
 rw [Ei AB]
 rfl
theorem Zd (h:WV w) (hn:w.disk.next≤60) (h0:¬ (w.store.mem.length:Int)=0) (h6:¬ (w.store.parts.length:Int)=6):FlD w.disk w.store:=by
 have h1:=Rm h
 have h2:=LN h
 exact ⟨h.v,h.sd,h.k,h.nb,h.p,fun e=>h0 (by rw [e]; rfl),by omega,by omega,by omega⟩
theorem Ro (h:WV w) (q:FlD w.disk w.store) (k:e.kind=2) (hc:¬ e.cut< 2):doW w e=⟨Cz w.store,toD w.disk (BB w.disk w.store) e.cut⟩:=by
 rw [I4 k]
 have hl:=HY q
 rw [EJ AB AB AB,(HZ h.sd h.k q.m q.parts).1]
theorem Rp (h:WV w) (k:e.kind=4):doW w e=⟨Ar w.disk,BN w.disk⟩:=by
 rw [M4 k]; exact H0 h.dd h.v
theorem Pn (h:WV w) (q:FlD w.disk w.store):By (Cz w.store) [] 0 99=By w.store [] 0 99 :=
 MB (x:=Cz w.store) (s:=w.store) rfl (h.k.trans (JE h.sd h.k q.m q.parts).symm) (fun _ id a b=>Ic (StoK.of h.sd h.k) a (by have:=h.sd.nm.len; omega)) _ _
theorem Z5 (h:WV w) (hn:w.disk.next≤60){a:Int}(h0:0≤a) (h1:a+2≤w.disk.list.length):∃ x y,MgD w.disk a.toNat x y∧Al w.disk a=Al w.disk a.toNat:=by
 have hl:=Rm h
 have h2:=LN h
 have hc:¬ (!(inR a 0 ((w.disk.list.length:Int) - 2)) || decide (w.disk.next≥999) || decide (w.disk.files.length≥20))=true:=by
  have hi:inR a 0 ((w.disk.list.length:Int) - 2)=true:=by simp [inR]; omega
  have hx:decide (w.disk.next≥999)=false:=decide_eq_false AB
  have hy:decide (w.disk.files.length≥20)=false:=decide_eq_false AB
  rw [hi,hx,hy]
  decide
 obtain ⟨x,y,q,_,e,_⟩:=h.mg (i:=a) (by unfold Al; rw [if_neg hc]; simp)
 exact ⟨x,y,q,e⟩
theorem OP (h:WV w){x y:Int}(q:MgD w.disk e.at_.toNat x y) (es:Al w.disk e.at_=Al w.disk e.at_.toNat) (h0:0≤e.at_) (k:e.kind=3) (hc:¬ e.cut< 4) :
 doW w e=⟨CV w.store e.at_.toNat,toD w.disk (Al w.disk e.at_.toNat) e.cut⟩:=by
 rw [HO k,es]
 have hl:=Ha q
 have hp:e.at_.toNat+2≤w.store.parts.length:=by rw [← h.open,q.open.2.2]; exact q.l
 have em:(BH w.store e.at_).1=CV w.store e.at_.toNat:=by
  have:=ME hp
  rw [show ((e.at_.toNat:Nat):Int)=e.at_ by omega] at this
  rw [this]
 rw [EJ AB AB AB,em]
theorem Wy (h:WV w){x y:Int}(q:MgD w.disk e.at_.toNat x y) (es:Al w.disk e.at_=Al w.disk e.at_.toNat) (k:e.kind=3) (h1:0≤e.cut) (hc:e.cut< 4) :
 doW w e=⟨Ar (toD w.disk (Al w.disk e.at_.toNat) e.cut),BN (toD w.disk (Al w.disk e.at_.toNat) e.cut)⟩:=by
 rw [HO k,es]
 have hl:=Ha q
 rw [Ex AB AB AB]
 exact H0 (w:=⟨w.store,toD w.disk (Al w.disk e.at_.toNat) e.cut⟩) (by have:=MG h e.at_ e.cut; rwa [es] at this) (q.to _).1
theorem XU (h:WV w){x y:Int}{a:Nat}(q:MgD w.disk a x y) (c:Int):By (Ar (toD w.disk (Al w.disk a) c)) [] 0 99=By (Ar w.disk) [] 0 99:=by
 rw [(q.to c).2]
 split
 ·rfl
 ·exact Ke q.sd q.v.so (by rw [q.open.2.2]; exact q.l)
end
section
variable {w:Wld} {c:Int}
theorem Z6 (h:WV w) (hn:w.disk.next≤60){a:Int}(h0:0≤a) (h1:a+2≤w.disk.list.length) (hc:0≤c∧c< 5) :
 (By (doW (doW w ⟨3,a,c,[],⟨0,0⟩⟩) ⟨4,0,0,[],⟨0,0⟩⟩).store [] 0 99==By (doW w ⟨4,0,0,[],⟨0,0⟩⟩).store [] 0 99)=true∧(By (doW w ⟨3,a,9,[],⟨0,0⟩⟩).store [] 0 99==By w.store [] 0 99)=true ∧
  ((doW w ⟨3,a,9,[],⟨0,0⟩⟩).disk.list.length:Int)=w.disk.list.length - 1:=by
 obtain ⟨x,y,q,es⟩:=Z5 h hn h0 h1
 have hx:WV (doW w ⟨3,a,c,[],⟨0,0⟩⟩):=h.do NmD.nil
 have e9:=OP (e:=⟨3,a,9,[],⟨0,0⟩⟩) h q es h0 rfl (by show ¬ (9:Int)< 4; decide)
 have hp:a.toNat+2≤w.store.parts.length:=by rw [← h.open,q.open.2.2]; exact q.l
 rw [Rp hx rfl,Rp (e:=⟨4,0,0,[],⟨0,0⟩⟩) h rfl,e9]
 refine ⟨?_,?_,?_⟩
 ·show (By (Ar (doW w ⟨3,a,c,[],⟨0,0⟩⟩).disk) [] 0 99==By (Ar w.disk) [] 0 99)=true
  by_cases h4:c< 4
  ·rw [Wy (e:=⟨3,a,c,[],⟨0,0⟩⟩) h q es rfl hc.1 h4]
   show (By (Ar (BN (toD w.disk (Al w.disk a.toNat) c))) [] 0 99==_)=true
   obtain ⟨_,eo⟩:=(q.to c).1.tidy
   rw [eo,XU h q c]
   exact beq_self_eq_true _
  ·rw [OP (e:=⟨3,a,c,[],⟨0,0⟩⟩) h q es h0 rfl h4]
   show (By (Ar (toD w.disk (Al w.disk a.toNat) c)) [] 0 99==_)=true
   rw [XU h q c]
   exact beq_self_eq_true _
 ·show (By (CV w.store a.toNat) [] 0 99==_)=true
  rw [Ke h.sd h.k hp]
  exact beq_self_eq_true _
 ·show (((toD w.disk (Al w.disk a.toNat) 9).list.length:Nat):Int)=_
  rw [MF q AE]
  have:=q.l
  have e:(mgD w.disk a.toNat x y).list=w.disk.list.take a.toNat++[w.disk.next]++w.disk.list.drop (a.toNat+2):=rfl
  show (((mgD w.disk a.toNat x y).list.length:Nat):Int)=_
  rw [e]
  simp only [List.length_append,List.length_take,List.length_drop,List.length_cons,List.length_nil]
  omega
end
end Go.Proofs.YtfninflnngpchaaGreatDoor
namespace Go.Proofs.YtfninflnngpchaaGreatDoor
theorem Sv {p:List Tag→Bool}:∀ (l m:List (List Tag)) (i:Nat),BD p i (l++m)=BD p i l++BD p (i+l.length) m:=by
 intro l
 induction l with
 | nil=>intro m i; rfl
 | cons n ns ih =>
   intro m i
   rw [List.cons_append]
   show (if p n then [(i:Int)+1] else [])++BD p (i+1) (ns++m)=((if p n then [(i:Int)+1] else [])++BD p (i+1) ns)++BD p (i+(n::ns).length) m
   rw [ih,← List.append_assoc,List.length_cons,show i+(ns.length+1)=i+1+ns.length by omega]
theorem Yf {id:Int}:∀ (ps:List Prt),(∀ p∈ps,∀ i∈p.ids,i≠id)→ps.foldl (Bv id) []=[]:=by
 intro ps
 induction ps with
 | nil=>intro _; rfl
 | cons p ps ih =>
   intro h
   rw [List.foldl_cons]
   have e:Bv id [] p=[]:=by
    unfold Bv partOf
    rw [PE _ _ (h p AD)]
    rfl
   rw [e]
   exact ih (fun q hq=>h q (by simp [hq]))
section
variable {w:Wld}
theorem Yg (h:WV w):∃ l,w.store.idx.names=w.disk.names++l:=⟨w.store.idx.names.drop w.disk.names.length,by
 have:=List.take_append_drop w.disk.names.length w.store.idx.names
 rw [← h.m] at this
 exact this.symm⟩
theorem U9 (h:WV w) (hm:w.store.mem=[]):By (Ar w.disk) [] 0 99=By w.store [] 0 99:=by
 obtain ⟨l,hl⟩:=Yg h
 have r1:∀ id,rowsOf w.store id=w.store.parts.foldl (Bv id) []:=fun id=>by unfold rowsOf; rw [hm]; rfl
 have r2:∀ id,rowsOf (Ar w.disk) id=w.store.parts.foldl (Bv id) []:=fun id=>by rw [← h.open]; rfl
 rw [OF h.v.so MA,OF h.k MA]
 unfold FW
 rw [hl,Ik,Sv,List.flatMap_append]
 have e1:(BD (fits []) 0 w.disk.names).flatMap (DH (Ar w.disk) 0 99)=(BD (fits []) 0 w.disk.names).flatMap (DH w.store 0 99):=by
  have key:∀ (q:List Int),(∀ i∈q,1≤i∧i≤w.disk.names.length)→q.flatMap (DH (Ar w.disk) 0 99)=q.flatMap (DH w.store 0 99):=by
   intro q
   induction q with
   | nil=>intro _; rfl
   | cons i is ih =>
     intro hq
     rw [List.flatMap_cons,List.flatMap_cons,ih (fun j hj=>hq j (by simp [hj]))]
     have h1:=hq i AD
     unfold DH
     rw [r1,r2,hl,Ik]
     have e:(w.disk.names++l).getD (i - 1).toNat []=w.disk.names.getD (i - 1).toNat []:=by
      rw [List.getD_eq_getElem?_getD,List.getD_eq_getElem?_getD,List.getElem?_append_left AB]
     rw [e]
  exact key _ (fun i hi=>Cp hi)
 have e2:(BD (fits []) (0+w.disk.names.length) l).flatMap (DH w.store 0 99)=[]:=by
  rw [List.flatMap_eq_nil_iff]
  intro i hi
  have h1:=NG l _ i hi
  have h0:rowsOf w.store i=[]:=by
   rw [r1]
   refine Yf _ fun p hp j hj=>?_
   rw [← h.open] at hp
   have h2:=JJ ((DY.1 h.v.so).2.2.1 p hp) j hj
   rw [Ik] at h2
   omega
  unfold DH
  rw [h0]
  rfl
 rw [e1,e2,List.append_nil]
theorem Ze (h:WV w):(doW w ⟨4,0,0,[],⟨0,0⟩⟩).store=Ar w.disk:=by rw [Rp h rfl]
structure SM (w x:Wld) (k:Nat):Prop where
 wv:WV x
 ask:By x.store [] 0 99=By w.store [] 0 99
 nx:x.disk.next≤52+k
 len:x.disk.list.length≤6 - k∨x.disk.list.length≤1
theorem SM.step {x:Wld}{k:Nat}(h:SM w x k) (hk:k< 6):SM w (doW x ⟨3,0,9,[],⟨0,0⟩⟩) (k+1):=by
 have hx:WV (doW x ⟨3,0,9,[],⟨0,0⟩⟩):=h.wv.do NmD.nil
 have h1:=XT x ⟨3,0,9,[],⟨0,0⟩⟩
 have hn:=h.nx
 by_cases hl:2≤x.disk.list.length
 ·obtain ⟨_,e2,e3⟩:=Z6 (c:=0) (a:=0) h.wv AB AB AB AB
  refine ⟨hx,(eq_of_beq e2).trans h.ask,by omega,?_⟩
  rcases h.len with h4 | h4 <;> omega
 ·have e:doW x ⟨3,0,9,[],⟨0,0⟩⟩=x:=by
   rw [HO (e:=⟨3,0,9,[],⟨0,0⟩⟩) rfl]
   refine DV (.inl ?_)
   show ((Al x.disk 0).length:Int)=0
   have:Al x.disk 0=[]:=by
    unfold Al
    rw [if_pos]
    have hi:inR 0 0 ((x.disk.list.length:Int) - 2)=false:=by simp [inR]; omega
    rw [hi]
    rfl
   rw [this]
   rfl
  rw [e]
  exact ⟨h.wv,h.ask,by omega,.inr AB⟩
theorem SM.fin {x:Wld}(h:SM w x 6):WV (doW x ⟨2,0,9,[],⟨0,0⟩⟩)∧(By (doW x ⟨2,0,9,[],⟨0,0⟩⟩).store [] 0 99==By w.store [] 0 99)=true∧(By (doW (doW x ⟨2,0,9,[],⟨0,0⟩⟩) ⟨4,0,0,[],⟨0,0⟩⟩).store [] 0 99==By w.store [] 0 99)=true ∧
 (doW x ⟨2,0,9,[],⟨0,0⟩⟩).store.mem.length=0∧(doW x ⟨2,0,9,[],⟨0,0⟩⟩).disk.list.length≤2:=by
 have hx:WV (doW x ⟨2,0,9,[],⟨0,0⟩⟩):=h.wv.do NmD.nil
 have hl:=h.len
 have hn:=h.nx
 have h2:=Rm h.wv
 have key:(doW x ⟨2,0,9,[],⟨0,0⟩⟩).store.mem=[]∧By (doW x ⟨2,0,9,[],⟨0,0⟩⟩).store [] 0 99=By w.store [] 0 99∧(doW x ⟨2,0,9,[],⟨0,0⟩⟩).disk.list.length≤2:=by
  by_cases hm:(x.store.mem.length:Int)=0
  ·rw [Rn h.wv (.inl hm) rfl]
   exact ⟨List.length_eq_zero_iff.1 AB,h.ask,by omega⟩
  ·have q:=Zd h.wv AB hm AB
   rw [Ro (e:=⟨2,0,9,[],⟨0,0⟩⟩) h.wv q rfl AE]
   refine ⟨rfl,(Pn h.wv q).trans h.ask,?_⟩
   show (toD x.disk (BB x.disk x.store) 9).list.length≤2
   rw [(Ii q (c:=9) AE).2]
   simp only [List.length_append,List.length_cons,List.length_nil]
   omega
 obtain ⟨k1,k2,k3⟩:=key
 refine ⟨hx,by rw [k2]; exact beq_self_eq_true _,?_,by rw [k1]; rfl,k3⟩
 rw [Ze hx,U9 hx k1,k2]
 exact beq_self_eq_true _
end
end Go.Proofs.YtfninflnngpchaaGreatDoor
namespace Go.Proofs.YtfninflnngpchaaGreatDoor
def NB (w:Wld):Prop:=w.store.mem=[]→w.store.idx.names=w.disk.names
theorem Yh {s:Sto}{n:List Tag}{r:Row}(h:(CI s n r).2=false):(CI s n r).1=s:=by
 unfold CI at h ⊢
 split at h
 ·rename_i hc; rw [if_pos hc]
 ·rename_i hc
  rw [if_neg hc]
  split at h
  ·rename_i hc2; rw [if_pos hc2]
  ·cases h
section
variable {w:Wld}
theorem NB.do (h:WV w) (nb:NB w) (e:Evt):NB (doW w e):=by
 by_cases k1:e.kind=1
 ·cases hn:Ao e.name with
  | false=>rw [IW k1 hn]; exact nb
  | true =>
    rw [KW k1 hn]
    cases hb:(CI w.store e.name e.row).2 with
    | false=>rw [Yh hb]; exact nb
    | true =>
      intro hm
      rw [(RN hb).2.2.2.2] at hm
      have hm2:w.store.mem++[⟨(BV w.store.idx e.name).2.1,e.row⟩]=[]:=hm
      simp at hm2
 ·by_cases k2:e.kind=2
  ·rw [I4 k2]
   by_cases hs:((BB w.disk w.store).length:Int)=0∨e.cut< 0
   ·rw [DV hs]; exact nb
   ·have q:=h.fl (fun e0=>hs (.inl (by rw [e0]; rfl)))
    by_cases hc:e.cut< (BB w.disk w.store).length
    ·rw [Ex (fun e0=>hs (.inl e0)) (fun e0=>hs (.inr e0)) hc,H0 (w:=⟨w.store,toD w.disk (BB w.disk w.store) e.cut⟩) (PW h q _) (q.to _).1]
     exact fun _=>rfl
    ·rw [EJ (fun e0=>hs (.inl e0)) (fun e0=>hs (.inr e0)) hc,(HZ h.sd h.k q.m q.parts).1]
     have o:=(q.to e.cut).2
     rw [HY q] at hc
     rw [if_neg hc] at o
     intro _
     exact (congrArg (fun s:Sto=>s.idx.names) o).symm
  ·by_cases k3:e.kind=3
   ·rw [HO k3]
    by_cases hs:((Al w.disk e.at_).length:Int)=0∨e.cut< 0
    ·rw [DV hs]; exact nb
    ·obtain ⟨x,y,q,i0,e3,_⟩:=h.mg (i:=e.at_) (fun e0=>hs (.inl (by rw [e0]; rfl)))
     have o:=(q.to e.cut).2
     by_cases hc:e.cut< (Al w.disk e.at_).length
     ·rw [Ex (fun e0=>hs (.inl e0)) (fun e0=>hs (.inr e0)) hc,H0 (w:=⟨w.store,toD w.disk (Al w.disk e.at_) e.cut⟩) (MG h _ _) (by rw [e3]; exact (q.to _).1)]
      exact fun _=>rfl
     ·rw [EJ (fun e0=>hs (.inl e0)) (fun e0=>hs (.inr e0)) hc]
      have hp:e.at_.toNat+2≤w.store.parts.length:=by rw [← h.open,q.open.2.2]; exact q.l
      have em:(BH w.store e.at_).1=CV w.store e.at_.toNat:=by
       have:=ME hp
       rw [← i0] at this
       rw [this]
      have hd:(toD w.disk (Al w.disk e.at_.toNat) e.cut).names=w.disk.names:=by
       split at o
       ·exact congrArg (fun s:Sto=>s.idx.names) o
       ·exact congrArg (fun s:Sto=>s.idx.names) o
      intro hm
      rw [em] at hm ⊢
      show w.store.idx.names=(toD w.disk (Al w.disk e.at_) e.cut).names
      rw [e3,hd]
      exact nb hm
   ·by_cases k4:e.kind=4
    ·rw [Rp h k4]; exact fun _=>rfl
    ·rw [Ox k1 k2 k3 k4]; exact nb
theorem NB.foldl:∀ (es:List Evt) (w:Wld),WV w→NB w→EsD es→NB (es.foldl doW w):=by
 intro es
 induction es with
 | nil=>intro w _ nb _; exact nb
 | cons e es ih =>
   intro w h nb he
   exact ih _ (h.do (he e AD).1) (nb.do h e) (fun x hx=>he x (by simp [hx]))
def c9 (e:Evt):Evt:=⟨e.kind,e.at_,9,e.name,e.row⟩
def nvS (p:List Evt × List Evt) (e:Evt):List Evt × List Evt:=if e.kind=1∧(p.1.length:Int)< 20 then (p.1++[c9 e],p.2++[c9 e]) else if e.kind=2∨e.kind=3 then (p.1,p.2++[c9 e]) else p
structure NV (A B:List Evt):Prop where
 ea:EsD A
 eb:EsD B
 ix:(Cd B).store.idx=(Cd A).store.idx
 rw:∀ id,1≤id→id≤6→rowsOf (Cd B).store id=rowsOf (Cd A).store id
 la:A.length≤20
 ma:(Cd A).store.mem.length≤A.length
 mb:(Cd B).store.mem.length≤A.length
theorem C1 (es:List Evt) (e:Evt):Cd (es++[e])=doW (Cd es) e:=by unfold Cd; rw [List.foldl_append]; rfl
theorem NV.nil:NV [] []:=⟨EsD.nil,EsD.nil,rfl,fun _ _ _=>rfl,by simp,by simp [Cd,Ee],by simp [Cd,Ee]⟩
theorem Po (s:Sto) (n:List Tag) (r:Row):(GG s n r).mem.length=s.mem.length+1:=by simp [GG]
theorem add_same {s t:Sto}{n:List Tag}{r:Row}(hs:SD s) (ht:SD t) (ks:Aa s=true) (kt:Aa t=true) (hi:t.idx=s.idx) (hr:∀ id,1≤id→id≤6→rowsOf t id=rowsOf s id) (hm:s.mem.length< 20) (hm2:t.mem.length< 20) :
 (CI t n r).1.idx=(CI s n r).1.idx∧(∀ id,1≤id→id≤6→rowsOf (CI t n r).1 id=rowsOf (CI s n r).1 id)∧(CI s n r).1.mem.length≤s.mem.length+1∧(CI t n r).1.mem.length≤t.mem.length+1:=by
 have same:t.idx=s.idx∧(∀ id,1≤id→id≤6→rowsOf t id=rowsOf s id)∧s.mem.length≤s.mem.length+1∧t.mem.length≤t.mem.length+1:=⟨hi,hr,by omega,by omega⟩
 cases h1:(BV s.idx n).2.2 with
 | false=>rw [LY h1,LY (by rw [hi]; exact h1)]; exact same
 | true =>
   cases h2:BZ r with
   | false=>rw [LZ h2,LZ h2]; exact same
   | true =>
     obtain ⟨_,i2,_,i4⟩:=QD hs.idx hs.nm n
     have i5:=i4 h1
     have i6:=i2.len
     have hx:∀ id,1≤id→id≤6→rowsOf (GG t n r) id=rowsOf (GG s n r) id:=fun id a b=>by rw [L7 ht kt,L7 hs ks,hi,hr id a b]
     have h3:=hx (BV s.idx n).2.1 i5.1 AB
     by_cases h4:((rowsOf (GG s n r) (BV s.idx n).2.1).length:Int) > 24
     ·rw [Gj h1 h2 AB h4,Gj (by rw [hi]; exact h1) h2 AB (by rw [hi,h3]; exact h4)]; exact same
     ·rw [Gk h1 h2 AB h4,Gk (by rw [hi]; exact h1) h2 AB (by rw [hi,h3]; exact h4)]
      refine ⟨?_,hx,by rw [Po]; exact Nat.le_refl _,by rw [Po]; exact Nat.le_refl _⟩
      show (BV t.idx n).1=(BV s.idx n).1
      rw [hi]
theorem NV.add {A B:List Evt}(h:NV A B){e:Evt}(he:EvD e) (k:e.kind=1) (hl:(A.length:Int)< 20):NV (A++[c9 e]) (B++[c9 e]):=by
 have ha:=WV.YS h.ea
 have hb:=WV.YS h.eb
 have m1:=h.ma
 have m2:=h.mb
 have key:(doW (Cd B) (c9 e)).store.idx=(doW (Cd A) (c9 e)).store.idx∧(∀ id,1≤id→id≤6→rowsOf (doW (Cd B) (c9 e)).store id=rowsOf (doW (Cd A) (c9 e)).store id) ∧
  (doW (Cd A) (c9 e)).store.mem.length≤A.length+1∧(doW (Cd B) (c9 e)).store.mem.length≤A.length+1:=by
  have k9:(c9 e).kind=1:=k
  cases hn:Ao (c9 e).name with
  | false=>rw [IW k9 hn,IW k9 hn]; exact ⟨h.ix,h.rw,by omega,by omega⟩
  | true =>
    rw [KW k9 hn,KW k9 hn]
    obtain ⟨q1,q2,q3,q4⟩:=add_same (n:=(c9 e).name) (r:=(c9 e).row) ha.sd hb.sd ha.k hb.k h.ix h.rw AB AB
    exact ⟨q1,q2,Nat.le_trans q3 AB,Nat.le_trans q4 AB⟩
 obtain ⟨k1,k2,k3,k4⟩:=key
 refine ⟨h.ea.snoc he,h.eb.snoc he,?_,?_,?_,?_,?_⟩
 ·rw [C1,C1]; exact k1
 ·rw [C1,C1]; exact k2
 ·rw [List.length_append,List.length_cons,List.length_nil]; omega
 ·rw [C1,List.length_append,List.length_cons,List.length_nil]; exact k3
 ·rw [C1,List.length_append,List.length_cons,List.length_nil]; exact k4
theorem NV.flush {A B:List Evt}(h:NV A B){e:Evt}(he:EvD e) (k:e.kind=2∨e.kind=3) (hl:B.length≤50):NV A (B++[c9 e]):=by
 have hb:=WV.YS h.eb
 have nx:(Cd B).disk.next≤60:=by
  have h3:=Wx B Ee
  have h4:Ee.disk.next=1:=rfl
  unfold Cd
  omega
 have m2:=h.mb
 have n6:=hb.sd.nm.len
 have key:(doW (Cd B) (c9 e)).store.idx=(Cd B).store.idx∧(∀ id,1≤id→id≤6→rowsOf (doW (Cd B) (c9 e)).store id=rowsOf (Cd B).store id)∧(doW (Cd B) (c9 e)).store.mem.length≤A.length:=by
  rcases k with k | k
  ·by_cases hc:((Cd B).store.mem.length:Int)=0∨((Cd B).store.parts.length:Int)=6
   ·rw [Rn (e:=c9 e) hb hc k]; exact ⟨rfl,fun _ _ _=>rfl,m2⟩
   ·have q:=Zd hb nx (fun e=>hc (.inl e)) (fun e=>hc (.inr e))
    rw [Ro (e:=c9 e) hb q k (by show ¬ (9:Int)< 2; decide)]
    exact ⟨rfl,fun id a b=>Ic (StoK.of hb.sd hb.k) a b,by show (0:Nat)≤_; omega⟩
  ·by_cases hs:((Al (Cd B).disk e.at_).length:Int)=0
   ·rw [HO (e:=c9 e) k]
    have hs9:((Al (Cd B).disk (c9 e).at_).length:Int)=0:=hs
    rw [DV (.inl hs9)]
    exact ⟨rfl,fun _ _ _=>rfl,m2⟩
   ·obtain ⟨x,y,q,i0,e3,_⟩:=hb.mg (i:=e.at_) (fun e0=>hs (by rw [e0]; rfl))
    have hp:e.at_.toNat+2≤(Cd B).store.parts.length:=by rw [← hb.open,q.open.2.2]; exact q.l
    rw [OP (e:=c9 e) hb q e3 (by show 0≤e.at_; omega) k (by show ¬ (9:Int)< 4; decide)]
    exact ⟨rfl,fun id a b=>(Ez (StoK.of hb.sd hb.k) hp a b).2,m2⟩
 obtain ⟨k1,k2,k3⟩:=key
 refine ⟨h.ea,h.eb.snoc he,?_,?_,h.la,h.ma,?_⟩
 ·rw [C1,k1]; exact h.ix
 ·rw [C1]; exact fun id a b=>(k2 id a b).trans (h.rw id a b)
 ·rw [C1]; exact k3
theorem NV.step {p:List Evt × List Evt}(h:NV p.1 p.2){e:Evt}(he:EvD e) (hl:p.2.length≤50):NV (nvS p e).1 (nvS p e).2∧(nvS p e).2.length≤p.2.length+1:=by
 unfold nvS
 split
 ·rename_i k; exact ⟨h.add he k.1 k.2,by simp⟩
 ·split
  ·rename_i k; exact ⟨h.flush he k hl,by simp⟩
  ·exact ⟨h,by omega⟩
theorem NV.foldl:∀ (es:List Evt) (p:List Evt × List Evt),NV p.1 p.2→EsD es→p.2.length+es.length≤50→NV (es.foldl nvS p).1 (es.foldl nvS p).2∧(es.foldl nvS p).2.length≤50:=by
 intro es
 induction es with
 | nil=>intro p h _ hl; exact ⟨h,by simpa using hl⟩
 | cons e es ih =>
   intro p h he hl
   rw [List.length_cons] at hl
   obtain ⟨a,b⟩:=h.step (he e AD) AB
   exact ih _ a (fun x hx=>he x (by simp [hx])) AB
end
end Go.Proofs.YtfninflnngpchaaGreatDoor
namespace Go.Proofs.YtfninflnngpchaaGreatDoor
def LsD (es:List Evt):Prop:=∀ e∈es,EvD e∧e.kind≠4∧e.cut=9
theorem LsD.nil:LsD []:=fun e h=>by cases h
theorem LsD.snoc {es:List Evt}{e:Evt}(h:LsD es) (he:EvD e) (k:e.kind≠4):LsD (es++[c9 e]):=fun x hx=>by
 rcases List.mem_append.1 hx with hx | hx
 ·exact h x hx
 ·simp at hx; subst hx; exact ⟨he,k,rfl⟩
end Go.Proofs.YtfninflnngpchaaGreatDoor
