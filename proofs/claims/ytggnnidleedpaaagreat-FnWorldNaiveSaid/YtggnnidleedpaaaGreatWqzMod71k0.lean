/- The laws on plays: names, files, parts; plain laws. -/
import Derived.Test.YtggnnidleedpaaaGreatWqzW70
open Go.Proofs.Tryz
set_option linter.unusedVariables false
set_option linter.unusedSimpArgs false
namespace Go.Proofs.YtggnnidleedpaaaGreat
section
variable {w:Wld}
theorem Vh (h:WV w):w.disk.names.length≤w.store.idx.names.length:=by
 have:=congrArg List.length h.m
 rw [List.length_take] at this
 omega
theorem So (h:WV w){e:Evt}(he:NmD e.name):∃ l,(doW w e).disk.names=w.disk.names++l:=by
 have same:∃ l,w.disk.names=w.disk.names++l:=⟨[],by simp⟩
 have pre:∃ l,w.store.idx.names=w.disk.names++l:=⟨w.store.idx.names.drop w.disk.names.length,by
  have:=List.take_append_drop w.disk.names.length w.store.idx.names
  rw [← h.m] at this
  exact this.symm⟩
 by_cases k1:e.kind=1
 ·cases hn:Aq e.name with
  | false=>rw [Gj k1 hn]; exact same
  | true=>rw [Gi k1 hn]; exact same
 ·by_cases k2:e.kind=2
  ·rw [Gk k2]
   by_cases hs:((As w.disk w.store).length:Int)=0∨e.cut< 0
   ·rw [Co hs]; exact same
   ·have q:=h.fl (fun e0=>hs (.inl (by rw [e0]; rfl)))
    have ht:∃ l,(toD w.disk (As w.disk w.store) e.cut).names=w.disk.names++l:=by
     have o:=(q.to e.cut).2
     split at o
     ·have:(toD w.disk (As w.disk w.store) e.cut).names=w.disk.names:=congrArg (fun s=>s.idx.names) o
      rw [this]; exact same
     ·have:(toD w.disk (As w.disk w.store) e.cut).names=w.store.idx.names:=congrArg (fun s=>s.idx.names) o
      rw [this]; exact pre
    by_cases hc:e.cut< (As w.disk w.store).length
    ·rw [DL (fun e0=>hs (.inl e0)) (fun e0=>hs (.inr e0)) hc]
     exact ht
    ·rw [DM (fun e0=>hs (.inl e0)) (fun e0=>hs (.inr e0)) hc]
     exact ht
  ·by_cases k3:e.kind=3
   ·rw [GC k3]
    by_cases hs:((Aj w.disk e.at_).length:Int)=0∨e.cut< 0
    ·rw [Co hs]; exact same
    ·obtain ⟨x,y,q,i0,e3,_⟩:=h.mg (i:=e.at_) (fun e0=>hs (.inl (by rw [e0]; rfl)))
     have ht:∃ l,(toD w.disk (Aj w.disk e.at_) e.cut).names=w.disk.names++l:=by
      rw [e3]
      have o:=(q.to e.cut).2
      have:(toD w.disk (Aj w.disk e.at_.toNat) e.cut).names=w.disk.names:=by
       split at o
       ·exact congrArg (fun s=>s.idx.names) o
       ·exact congrArg (fun s=>s.idx.names) o
      rw [this]; exact same
     by_cases hc:e.cut< (Aj w.disk e.at_).length
     ·rw [DL (fun e0=>hs (.inl e0)) (fun e0=>hs (.inr e0)) hc]
      exact ht
     ·rw [DM (fun e0=>hs (.inl e0)) (fun e0=>hs (.inr e0)) hc]
      exact ht
   ·by_cases k4:e.kind=4
    ·rw [Lc k4]; exact same
    ·rw [Ld k1 k2 k3 k4]; exact same
theorem N3:∀ (es:List Evt) (w:Wld),WV w→EsD es→∃ l,(es.foldl doW w).disk.names=w.disk.names++l:=by
 intro es
 induction es with
 | nil=>intro w _ _; exact ⟨[],by simp⟩
 | cons e es ih =>
   intro w h he
   obtain ⟨l1,h1⟩:=So h (he e AD).1
   obtain ⟨l2,h2⟩:=ih _ (h.do (he e AD).1) (fun x hx=>he x (by simp [hx]))
   exact ⟨l1++l2,by rw [List.foldl_cons,h2,h1,List.append_assoc]⟩
end
theorem Vi {es:List Evt}{k:Nat}(h:EsD es) (h2:(Ay es).2=true):∃ l,(Ay es).1.disk.names=(Ay ((es.take k).drop 0)).1.disk.names++l:=by
 obtain ⟨_,e1,hl⟩:=pv h h2
 have e2:(Ay ((es.take k).drop 0)).1=Bu (es.take k):=by
  rw [Gz (by rw [List.length_drop,List.length_take]; omega)]
  rfl
 rw [e1,e2]
 have e3:Bu es=(es.drop k).foldl doW (Bu (es.take k)):=by
  unfold Bu
  rw [← List.foldl_append,List.take_append_drop]
 rw [e3]
 exact N3 _ _ (WV.Oz (fun e he=>h e (List.mem_of_mem_take he))) (fun e he=>h e (List.mem_of_mem_drop he))
theorem Wq {es:List Evt}{k i:Nat}(h:EsD es) (h2:(Ay es).2=true) (hi:i< (Ay ((es.take k).drop 0)).1.disk.names.length):i< (Ay es).1.disk.names.length:=by
 obtain ⟨l,e⟩:=Vi (k:=k) h h2
 rw [e,List.length_append]
 omega
end Go.Proofs.YtggnnidleedpaaaGreat
namespace Go.Proofs.YtggnnidleedpaaaGreat
section
variable {w:Wld}
def nvP (es:List Evt):List Evt × List Evt:=es.foldl nvS ([],[])
theorem Sx {es:List Evt}(h:EsD es) (h2:(Ay es).2=true):NV (nvP es).1 (nvP es).2∧(nvP es).2.length≤50:=by
 obtain ⟨_,_,hl⟩:=pv h h2
 exact NV.foldl es ([],[]) NV.nil h (by simpa using hl)
theorem WZ {es:List Evt}(h:EsD es) (h2:(Ay es).2=true):(Ay (nvP es).2).2=true∧(Ay (nvP es).1).2=true∧(Bd (Ay (nvP es).2).1.store [] 0 99==Bd (Ay (nvP es).1).1.store [] 0 99)=true:=by
 obtain ⟨q,hl⟩:=Sx h h2
 have:=q.la
 rw [Gz (es:=(nvP es).2) AB,Gz (es:=(nvP es).1) AB]
 refine ⟨rfl,rfl,beq_iff_eq.2 ?_⟩
 have ha:=WV.Oz q.ea
 have hb:=WV.Oz q.eb
 exact IS q.ix (ha.k.trans hb.k.symm) (fun _ id a b=>q.rw id a (by have:=ha.sd.nm.len; omega)) _ _
theorem JN {es A B:List Evt}(e:(A,B)=nvP es) (h:EsD es) (h2:(Ay es).2=true):EsD A∧EsD B∧(Ay B).2=true∧(Ay A).2=true∧(Bd (Ay B).1.store [] 0 99==Bd (Ay A).1.store [] 0 99)=true:=by
 have q:=(Sx h h2).1
 have o:=WZ h h2
 rw [← e] at q o
 exact ⟨q.ea,q.eb,o⟩
theorem nv0 {es:List Evt}{i:Nat}{p:List Evt × List Evt}{e:Evt}(h:(es.drop i).foldl nvS p=nvP es) (hd:es[i]? = some e):(es.drop (i+1)).foldl nvS (nvS p e)=nvP es:=by
 rw [Be hd,List.foldl_cons] at h
 exact h
theorem Mn {es A B:List Evt}{e:Evt}{i:Nat}(h:(es.drop i).foldl nvS (A,B)=nvP es) (hd:es[i]? = some e) (k:e.kind=1) (hl:(A.length:Int)< 20):(es.drop (i+1)).foldl nvS (A++[c9 e],B++[c9 e])=nvP es:=by
 have q:=nv0 h hd
 have u:nvS (A,B) e=(A++[c9 e],B++[c9 e]):=by unfold nvS; rw [if_pos ⟨k,hl⟩]
 rwa [u] at q
theorem Mo {es A B:List Evt}{e:Evt}{i:Nat}(h:(es.drop i).foldl nvS (A,B)=nvP es) (hd:es[i]? = some e) (k:¬ (e.kind=1∧(A.length:Int)< 20)) (k2:e.kind=2∨e.kind=3):(es.drop (i+1)).foldl nvS (A,B++[c9 e])=nvP es:=by
 have q:=nv0 h hd
 have u:nvS (A,B) e=(A,B++[c9 e]):=by unfold nvS; rw [if_neg k,if_pos k2]
 rwa [u] at q
theorem Mp {es A B:List Evt}{e:Evt}{i:Nat}(h:(es.drop i).foldl nvS (A,B)=nvP es) (hd:es[i]? = some e) (k:¬ (e.kind=1∧(A.length:Int)< 20)) (k2:¬ (e.kind=2∨e.kind=3)):(es.drop (i+1)).foldl nvS (A,B)=nvP es:=by
 have q:=nv0 h hd
 have u:nvS (A,B) e=(A,B):=by unfold nvS; rw [if_neg k,if_neg k2]
 rwa [u] at q
theorem EO {es A B:List Evt}{i:Nat}(h:(es.drop i).foldl nvS (A,B)=nvP es) (hi:es.length≤i):(A,B)=nvP es:=by
 rw [List.drop_of_length_le hi] at h
 exact h
end
end Go.Proofs.YtggnnidleedpaaaGreat
namespace Go.Proofs.YtggnnidleedpaaaGreat
set_option maxRecDepth 100000
set_option maxHeartbeats 4000000
variable {w:World} {F:Nat→Prop} {a1:Option Addr} {n1 c1:Nat}
theorem HJ (code:List UInt8) (h1:RepS w F a1 n1 c1 code)  : Calls Tryz.prog 14 [.slice a1 n1 c1].toArray w (Am fun rv w'=>rv=.bool (true)∧Ext w w'):=by
 cases h1.len
 refine goT func14 ?_
 have Z:=(St.i0 F w).p h1
 have bF:=h1.max
 refine .s<|.g<|.r 1<|.d<|.s<|.s<|.g<|.r 2<|.bp ((code.length:Int) > 1048576) (fun aB=>.d<|.ct<|.s<|.g<|.r 1<|.d<|T.rt func14 results14 (.bool true) ⟨(AG AF),Z.xt⟩) fun aB=>.d<|.cf<|.sk<|.s<|.g<|.r 1<|RG.cl (Ea code (Z.mg 1 0)) ?_
 rintro cN w ⟨⟨aa,aV,bG⟩,aC⟩
 refine RG.vL Z aV aC ?_
 intro aW aX Z
 have bH:=Z.mf 0 aa
 refine .r 1<|.d<|.s<|.g<|.r 1<|RG.CT (us:=[.bool ((Ay aa).2)]) (DQ aa (Z.mg 1 0) (by have q1:EsD aa:=‹_›; first | exact q1 | exact (JN (EO ‹_› AB) q1 ‹_›).1 | exact (JN (EO ‹_› AB) q1 ‹_›).2.1)) Z fun cO cP cQ cR cS cT cU cV cW cX cY cZ c7 c8 w Z=>?_
 have bI:=Z.mf 0 ((Ay aa).1.store.idx.names)
 have bJ:=Z.mf 1 (((Ay aa).1.store.idx).AY)
 have bK:=Z.mf 2 ((Ay aa).1.store.parts)
 have bL:=Z.mf 3 ((Ay aa).1.store.mem)
 have bM:=Z.mf 4 ((Ay aa).1.disk.files)
 have bN:=Z.mf 5 ((Ay aa).1.disk.list)
 have bO:=Z.mf 6 ((Ay aa).1.disk.names)
 refine .r 2 ?_
 cases ai:(Ay aa).2
 ·refine .r 1<|RG.Np Z fun da w Z=>RG.Ss 0 Z fun w Z=>.r 1<|.d<|.s<|.g<|.r 1<|RG.CT (us:=[.bool ((Ay aa).2)]) (DR aa (Z.mg 1 7) (by have q1:EsD aa:=‹_›; first | exact q1 | exact q1.take _)) Z fun db de df dh dj dm dp dq dt du dv dw dx dy w Z=>?_
  rw [ai]
  refine .r 3<|RG.Np Z fun dz w Z=>RG.Ss 0 Z fun w Z=>.r 1<|.d<|.s<|.s<|.g<|.r 2<|RG.eqv (v:=.bool false) (v':=.bool (false != false)) AA AD<|.r 1<|RG.Ln 1 Z<|RG.Ln 0 Z<|RG.C0 (Ct ((Ay aa).1) ((Ay aa).1) (Z.a 7) (Z.a 8) (Z.a 9) (Z.a 10) (Z.a 11) (Z.a 12) (Z.a 13) (Z.a 0) (Z.a 1) (Z.a 2) (Z.a 3) (Z.a 4) (Z.a 5) (Z.a 6)) Z fun w Z=>?_
  rw [show ((((Ay aa).1)==((Ay aa).1)))=true from beq_self_eq_true _]
  refine .r 6<|.d<|.ct<|.s<|.g<|.r 2<|RG.eqv (v:=.bool true) (v':=.bool (false==false)) AA AD<|.r 1<|RG.Ln 1 Z<|RG.Ln 0 Z<|RG.C0 (Ct ((Ay aa).1) ((Ay aa).1) (Z.a 7) (Z.a 8) (Z.a 9) (Z.a 10) (Z.a 11) (Z.a 12) (Z.a 13) (Z.a 0) (Z.a 1) (Z.a 2) (Z.a 3) (Z.a 4) (Z.a 5) (Z.a 6)) Z fun w Z=>?_
  rw [show ((((Ay aa).1)==((Ay aa).1)))=true from beq_self_eq_true _]
  exact .r 2<|.d<|T.rt func14 results14 (.bool true) ⟨(AG AF),Z.xt⟩
 refine .r 1<|RG.Np Z fun dA w Z=>RG.Ss 0 Z fun w Z=>.r 1<|.d<|.s<|.g<|.r 1<|RG.CT (us:=[.bool ((Ay aa).2)]) (DR aa (Z.mg 1 7) (by have q1:EsD aa:=‹_›; first | exact q1 | exact q1.take _)) Z fun dB dC dD dE dF dG dH dI dJ dK dL dM dN dO w Z=>?_
 rw [ai]
 refine .r 3<|RG.Np Z fun dP w Z=>RG.Ss 0 Z fun w Z=>.r 1<|.d<|.s<|.s<|.g<|.r 2<|RG.eqv (v:=.bool false) (v':=.bool (true != true)) AA AD<|.r 1<|RG.Ln 1 Z<|RG.Ln 0 Z<|RG.C0 (Ct ((Ay aa).1) ((Ay aa).1) (Z.a 7) (Z.a 8) (Z.a 9) (Z.a 10) (Z.a 11) (Z.a 12) (Z.a 13) (Z.a 0) (Z.a 1) (Z.a 2) (Z.a 3) (Z.a 4) (Z.a 5) (Z.a 6)) Z fun w Z=>?_
 rw [show ((((Ay aa).1)==((Ay aa).1)))=true from beq_self_eq_true _]
 refine .r 6<|.d<|.cf<|.sk<|.s<|.g<|RG.N0 Evt 1 Z fun aY w Z=>.r 1<|.d<|.s<|.g<|RG.N0 Evt 1 Z fun aZ w Z=>.r 1<|.d<|.s<|.s<|.g<|.r 1<|.d<|.b 0<|T.Lp (([]:List Evt),aY,(0:Nat),([]:List Evt),aZ,(0:Nat),(0:Nat)) (fun (k,r_k,c_k,k1,r_k1,c_k1,k2)=>([(3,.slice aW aa.length aX),(8,vS r_k k.length c_k),(9,vS r_k1 k1.length c_k1),(10,vI (k2:Int))],[(0,.own 1 r_k1 58 c_k1 k1),(1,.own 1 r_k 58 c_k k)],[],aa.length - k2,(k2≤aa.length)∧((aa.drop k2).foldl nvS (k,k1)=nvP aa)∧(k.length≤20)∧(k1.length≤2 * k2))) [] Z ⟨AB,AF,(by (simp)),(by (simp))⟩ ?_
 rintro ⟨k,r_k,c_k,k1,r_k1,c_k1,k2⟩ dQ w Z ⟨bP,bQ,bR,bS⟩ ac
 have bT:=Z.mo 1 k
 have bU:=Z.mo 0 k1
 refine .s<|.s<|.g<|.r 3<|.bp ((k2:Int)< (aa.length:Int)) (fun aD=>?_) (fun aD=>?_)
 ·refine .d<|.ct<|.sk<|.s<|.b 1<|.s<|.g<|.r 2<|gx (h:=(by first | omega | (have q1:EsD aa:=‹_›; have q2:=Vh (pv q1 ‹_›).1; omega) | (have q1:EsD aa:=‹_›; exact Wq q1 ‹_› ‹_›))) aa k2 fun E ah=>?_
  have bV:=Be ah; have aU:=AV ah
  refine RG.Ix 14 ah Z<|Z.el 14 ah fun dR dS Z=>?_
  have bW:=Z.mf 1 E.name
  refine RG.Lg 0 0 Z<|RG.Np Z fun dT w Z=>RG.Ss 0 Z fun w Z=>.d<|.s<|.g<|.r 1<|RG.Ss 0 Z fun w Z=>.d<|.s<|.s<|.g<|.r 1<|RG.Lb 0 Z<|.eq E.kind 1 (fun aE=>?_) (fun aE=>?_)
  ·refine .r 3<|.bp ((k.length:Int)< 20) (fun aF=>?_) (fun aF=>?_)
   ·refine .r 1<|.d<|.ct<|.s<|.g<|.r 1<|RG.Ln 0 Z<|RG.Nb 1 Z fun dU w Z=>RG.Ap (hs:=by first | exact (by have q1:EsD aa:=‹_›; have q2:=(pv q1 ‹_›).2.2; omega) | (simp only [List.nil_append,List.length_nil,List.length_append,List.length_cons] <;> exact (by have q1:EsD aa:=‹_›; have q2:=(pv q1 ‹_›).2.2; omega)) | (simp <;> omega)) 2 0 k (⟨E.kind,E.at_,9,E.name,(⟨E.row.t,E.row.v⟩:Row)⟩:Evt) [1] Z fun aj ak w Z=>?_
    have ba:=Z.mo 2 (k++[(⟨E.kind,E.at_,9,E.name,(⟨E.row.t,E.row.v⟩:Row)⟩:Evt)])
    refine .r 1<|.d<|.g<|.r 1<|RG.Ln 0 Z<|RG.Nb 1 Z fun bX w Z=>RG.Ap (hs:=by first | exact (by have q1:EsD aa:=‹_›; have q2:=(pv q1 ‹_›).2.2; omega) | (simp only [List.nil_append,List.length_nil,List.length_append,List.length_cons] <;> exact (by have q1:EsD aa:=‹_›; have q2:=(pv q1 ‹_›).2.2; omega)) | (simp <;> omega)) 1 0 k1 (⟨E.kind,E.at_,9,E.name,(⟨E.row.t,E.row.v⟩:Row)⟩:Evt) [1] Z fun aG aH w Z=>?_
    have bd:=Z.mo 1 (k1++[(⟨E.kind,E.at_,9,E.name,(⟨E.row.t,E.row.v⟩:Row)⟩:Evt)])
    refine .r 1<|.d<|.s<|.g<|.r 1<|RG.Lb 0 Z<|.eq E.kind 2 (fun al=>?_) (fun al=>?_)
    ·refine .r 5<|.d<|.ct<|.g<|.r 1<|RG.Ln 0 Z<|RG.Nb 1 Z fun bY w Z=>RG.Ap (hs:=by first | exact (by have q1:EsD aa:=‹_›; have q2:=(pv q1 ‹_›).2.2; omega) | (simp only [List.nil_append,List.length_nil,List.length_append,List.length_cons] <;> exact (by have q1:EsD aa:=‹_›; have q2:=(pv q1 ‹_›).2.2; omega)) | (simp <;> omega)) 1 0 (k1++[(⟨E.kind,E.at_,9,E.name,(⟨E.row.t,E.row.v⟩:Row)⟩:Evt)]) (⟨E.kind,E.at_,9,E.name,(⟨E.row.t,E.row.v⟩:Row)⟩:Evt) [1] Z fun aI aJ w Z=>?_
     have bg:=Z.mo 1 ((k1++[(⟨E.kind,E.at_,9,E.name,(⟨E.row.t,E.row.v⟩:Row)⟩:Evt)])++[(⟨E.kind,E.at_,9,E.name,(⟨E.row.t,E.row.v⟩:Row)⟩:Evt)])
     exact .r 1<|.d<|.ib 1<|.g<|.r 1<|.it ((k2:Int)+1)<|.r 1<|.d<|ac ((k++[(⟨E.kind,E.at_,9,E.name,(⟨E.row.t,E.row.v⟩:Row)⟩:Evt)]),aj,ak,((k1++[(⟨E.kind,E.at_,9,E.name,(⟨E.row.t,E.row.v⟩:Row)⟩:Evt)])++[(⟨E.kind,E.at_,9,E.name,(⟨E.row.t,E.row.v⟩:Row)⟩:Evt)]),aI,aJ,k2+1) _ _ AA (Z.to 1 [] 2) ⟨AB,(by first | exact Mn ‹_› ‹_› ‹_› ‹_› | exact Mo ‹_› ‹_› AB AB | exact Mp ‹_› ‹_› AB AB | (exfalso; omega)),(by first | omega | (simp; omega)),(by first | omega | (simp; omega))⟩ (by first | omega | (simp only []; omega))
    refine .r 2<|RG.Lb 0 Z<|.eq E.kind 3 (fun am=>?_) (fun am=>.r 1<|.d<|.cf<|.sk<|.ib 1<|.g<|.r 1<|.it ((k2:Int)+1)<|.r 1<|.d<|ac ((k++[(⟨E.kind,E.at_,9,E.name,(⟨E.row.t,E.row.v⟩:Row)⟩:Evt)]),aj,ak,(k1++[(⟨E.kind,E.at_,9,E.name,(⟨E.row.t,E.row.v⟩:Row)⟩:Evt)]),aG,aH,k2+1) _ _ AA (Z.to 1 [] 2) ⟨AB,(by first | exact Mn ‹_› ‹_› ‹_› ‹_› | exact Mo ‹_› ‹_› AB AB | exact Mp ‹_› ‹_› AB AB | (exfalso; omega)),(by first | omega | (simp; omega)),(by first | omega | (simp; omega))⟩ (by first | omega | (simp only []; omega)))
    refine .r 1<|.d<|.ct<|.g<|.r 1<|RG.Ln 0 Z<|RG.Nb 1 Z fun bZ w Z=>RG.Ap (hs:=by first | exact (by have q1:EsD aa:=‹_›; have q2:=(pv q1 ‹_›).2.2; omega) | (simp only [List.nil_append,List.length_nil,List.length_append,List.length_cons] <;> exact (by have q1:EsD aa:=‹_›; have q2:=(pv q1 ‹_›).2.2; omega)) | (simp <;> omega)) 1 0 (k1++[(⟨E.kind,E.at_,9,E.name,(⟨E.row.t,E.row.v⟩:Row)⟩:Evt)]) (⟨E.kind,E.at_,9,E.name,(⟨E.row.t,E.row.v⟩:Row)⟩:Evt) [1] Z fun aK aL w Z=>?_
    have bh:=Z.mo 1 ((k1++[(⟨E.kind,E.at_,9,E.name,(⟨E.row.t,E.row.v⟩:Row)⟩:Evt)])++[(⟨E.kind,E.at_,9,E.name,(⟨E.row.t,E.row.v⟩:Row)⟩:Evt)])
    exact .r 1<|.d<|.ib 1<|.g<|.r 1<|.it ((k2:Int)+1)<|.r 1<|.d<|ac ((k++[(⟨E.kind,E.at_,9,E.name,(⟨E.row.t,E.row.v⟩:Row)⟩:Evt)]),aj,ak,((k1++[(⟨E.kind,E.at_,9,E.name,(⟨E.row.t,E.row.v⟩:Row)⟩:Evt)])++[(⟨E.kind,E.at_,9,E.name,(⟨E.row.t,E.row.v⟩:Row)⟩:Evt)]),aK,aL,k2+1) _ _ AA (Z.to 1 [] 2) ⟨AB,(by first | exact Mn ‹_› ‹_› ‹_› ‹_› | exact Mo ‹_› ‹_› AB AB | exact Mp ‹_› ‹_› AB AB | (exfalso; omega)),(by first | omega | (simp; omega)),(by first | omega | (simp; omega))⟩ (by first | omega | (simp only []; omega))
   refine .r 1<|.d<|.cf<|.sk<|.s<|.g<|.r 1<|RG.Lb 0 Z<|.eq E.kind 2 (fun ao=>?_) (fun ao=>?_)
   ·refine .r 5<|.d<|.ct<|.g<|.r 1<|RG.Ln 0 Z<|RG.Nb 1 Z fun b0 w Z=>RG.Ap (hs:=by first | exact (by have q1:EsD aa:=‹_›; have q2:=(pv q1 ‹_›).2.2; omega) | (simp only [List.nil_append,List.length_nil,List.length_append,List.length_cons] <;> exact (by have q1:EsD aa:=‹_›; have q2:=(pv q1 ‹_›).2.2; omega)) | (simp <;> omega)) 1 0 k1 (⟨E.kind,E.at_,9,E.name,(⟨E.row.t,E.row.v⟩:Row)⟩:Evt) [1] Z fun aM aN w Z=>?_
    have bi:=Z.mo 1 (k1++[(⟨E.kind,E.at_,9,E.name,(⟨E.row.t,E.row.v⟩:Row)⟩:Evt)])
    exact .r 1<|.d<|.ib 1<|.g<|.r 1<|.it ((k2:Int)+1)<|.r 1<|.d<|ac (k,r_k,c_k,(k1++[(⟨E.kind,E.at_,9,E.name,(⟨E.row.t,E.row.v⟩:Row)⟩:Evt)]),aM,aN,k2+1) _ _ AA (Z.to 1 [] 2) ⟨AB,(by first | exact Mn ‹_› ‹_› ‹_› ‹_› | exact Mo ‹_› ‹_› AB AB | exact Mp ‹_› ‹_› AB AB | (exfalso; omega)),(by first | omega | (simp; omega)),(by first | omega | (simp; omega))⟩ (by first | omega | (simp only []; omega))
   refine .r 2<|RG.Lb 0 Z<|.eq E.kind 3 (fun aq=>?_) (fun aq=>.r 1<|.d<|.cf<|.sk<|.ib 1<|.g<|.r 1<|.it ((k2:Int)+1)<|.r 1<|.d<|ac (k,r_k,c_k,k1,r_k1,c_k1,k2+1) _ _ AA (Z.to 1 [] 2) ⟨AB,(by first | exact Mn ‹_› ‹_› ‹_› ‹_› | exact Mo ‹_› ‹_› AB AB | exact Mp ‹_› ‹_› AB AB | (exfalso; omega)),(by first | omega | (simp; omega)),(by first | omega | (simp; omega))⟩ (by first | omega | (simp only []; omega)))
   refine .r 1<|.d<|.ct<|.g<|.r 1<|RG.Ln 0 Z<|RG.Nb 1 Z fun b6 w Z=>RG.Ap (hs:=by first | exact (by have q1:EsD aa:=‹_›; have q2:=(pv q1 ‹_›).2.2; omega) | (simp only [List.nil_append,List.length_nil,List.length_append,List.length_cons] <;> exact (by have q1:EsD aa:=‹_›; have q2:=(pv q1 ‹_›).2.2; omega)) | (simp <;> omega)) 1 0 k1 (⟨E.kind,E.at_,9,E.name,(⟨E.row.t,E.row.v⟩:Row)⟩:Evt) [1] Z fun aO aP w Z=>?_
   have bj:=Z.mo 1 (k1++[(⟨E.kind,E.at_,9,E.name,(⟨E.row.t,E.row.v⟩:Row)⟩:Evt)])
   exact .r 1<|.d<|.ib 1<|.g<|.r 1<|.it ((k2:Int)+1)<|.r 1<|.d<|ac (k,r_k,c_k,(k1++[(⟨E.kind,E.at_,9,E.name,(⟨E.row.t,E.row.v⟩:Row)⟩:Evt)]),aO,aP,k2+1) _ _ AA (Z.to 1 [] 2) ⟨AB,(by first | exact Mn ‹_› ‹_› ‹_› ‹_› | exact Mo ‹_› ‹_› AB AB | exact Mp ‹_› ‹_› AB AB | (exfalso; omega)),(by first | omega | (simp; omega)),(by first | omega | (simp; omega))⟩ (by first | omega | (simp only []; omega))
  refine .r 5<|.d<|.cf<|.sk<|.s<|.g<|.r 1<|RG.Lb 0 Z<|.eq E.kind 2 (fun ar=>?_) (fun ar=>?_)
  ·refine .r 5<|.d<|.ct<|.g<|.r 1<|RG.Ln 0 Z<|RG.Nb 1 Z fun b7 w Z=>RG.Ap (hs:=by first | exact (by have q1:EsD aa:=‹_›; have q2:=(pv q1 ‹_›).2.2; omega) | (simp only [List.nil_append,List.length_nil,List.length_append,List.length_cons] <;> exact (by have q1:EsD aa:=‹_›; have q2:=(pv q1 ‹_›).2.2; omega)) | (simp <;> omega)) 1 0 k1 (⟨E.kind,E.at_,9,E.name,(⟨E.row.t,E.row.v⟩:Row)⟩:Evt) [1] Z fun aQ aR w Z=>?_
   have bk:=Z.mo 1 (k1++[(⟨E.kind,E.at_,9,E.name,(⟨E.row.t,E.row.v⟩:Row)⟩:Evt)])
   exact .r 1<|.d<|.ib 1<|.g<|.r 1<|.it ((k2:Int)+1)<|.r 1<|.d<|ac (k,r_k,c_k,(k1++[(⟨E.kind,E.at_,9,E.name,(⟨E.row.t,E.row.v⟩:Row)⟩:Evt)]),aQ,aR,k2+1) _ _ AA (Z.to 1 [] 2) ⟨AB,(by first | exact Mn ‹_› ‹_› ‹_› ‹_› | exact Mo ‹_› ‹_› AB AB | exact Mp ‹_› ‹_› AB AB | (exfalso; omega)),(by first | omega | (simp; omega)),(by first | omega | (simp; omega))⟩ (by first | omega | (simp only []; omega))
  refine .r 2<|RG.Lb 0 Z<|.eq E.kind 3 (fun ax=>?_) (fun ax=>.r 1<|.d<|.cf<|.sk<|.ib 1<|.g<|.r 1<|.it ((k2:Int)+1)<|.r 1<|.d<|ac (k,r_k,c_k,k1,r_k1,c_k1,k2+1) _ _ AA (Z.to 1 [] 2) ⟨AB,(by first | exact Mn ‹_› ‹_› ‹_› ‹_› | exact Mo ‹_› ‹_› AB AB | exact Mp ‹_› ‹_› AB AB | (exfalso; omega)),(by first | omega | (simp; omega)),(by first | omega | (simp; omega))⟩ (by first | omega | (simp only []; omega)))
  refine .r 1<|.d<|.ct<|.g<|.r 1<|RG.Ln 0 Z<|RG.Nb 1 Z fun b8 w Z=>RG.Ap (hs:=by first | exact (by have q1:EsD aa:=‹_›; have q2:=(pv q1 ‹_›).2.2; omega) | (simp only [List.nil_append,List.length_nil,List.length_append,List.length_cons] <;> exact (by have q1:EsD aa:=‹_›; have q2:=(pv q1 ‹_›).2.2; omega)) | (simp <;> omega)) 1 0 k1 (⟨E.kind,E.at_,9,E.name,(⟨E.row.t,E.row.v⟩:Row)⟩:Evt) [1] Z fun aS aT w Z=>?_
  have bm:=Z.mo 1 (k1++[(⟨E.kind,E.at_,9,E.name,(⟨E.row.t,E.row.v⟩:Row)⟩:Evt)])
  exact .r 1<|.d<|.ib 1<|.g<|.r 1<|.it ((k2:Int)+1)<|.r 1<|.d<|ac (k,r_k,c_k,(k1++[(⟨E.kind,E.at_,9,E.name,(⟨E.row.t,E.row.v⟩:Row)⟩:Evt)]),aS,aT,k2+1) _ _ AA (Z.to 1 [] 2) ⟨AB,(by first | exact Mn ‹_› ‹_› ‹_› ‹_› | exact Mo ‹_› ‹_› AB AB | exact Mp ‹_› ‹_› AB AB | (exfalso; omega)),(by first | omega | (simp; omega)),(by first | omega | (simp; omega))⟩ (by first | omega | (simp only []; omega))
 refine .d<|.cf<|.x 0 rfl<|.s<|.g<|.r 1 ?_
 have Z:=Z.sl 0
 refine RG.CT (us:=[.bool ((Ay k1).2)]) (DQ k1 (Z.mg 1 0) (by have q1:EsD aa:=‹_›; first | exact q1 | exact (JN (EO ‹_› AB) q1 ‹_›).1 | exact (JN (EO ‹_› AB) q1 ‹_›).2.1)) Z fun b9 cd ce cg ci cj ck cm co cp cq cr cu cw w Z=>?_
 have bn:=Z.mf 0 ((Ay k1).1.store.idx.names)
 have bo:=Z.mf 1 (((Ay k1).1.store.idx).AY)
 have bq:=Z.mf 2 ((Ay k1).1.store.parts)
 have br:=Z.mf 3 ((Ay k1).1.store.mem)
 have bt:=Z.mf 4 ((Ay k1).1.disk.files)
 have bu:=Z.mf 5 ((Ay k1).1.disk.list)
 have bv:=Z.mf 6 ((Ay k1).1.disk.names)
 have ay:((Ay k1).2)=true:=(by have q1:EsD aa:=‹_›; exact (JN (EO ‹_› AB) q1 ‹_›).2.2.1)
 rw [ay]
 refine .r 3<|RG.Np Z fun cx w Z=>RG.Ss 0 Z fun w Z=>.r 1<|.d<|.s<|.g<|.r 1 ?_
 have Z:=Z.sl 1
 refine RG.CT (us:=[.bool ((Ay k).2)]) (DQ k (Z.mg 1 0) (by have q1:EsD aa:=‹_›; first | exact q1 | exact (JN (EO ‹_› AB) q1 ‹_›).1 | exact (JN (EO ‹_› AB) q1 ‹_›).2.1)) Z fun cy cz cA cB cC cD cE cF cG cH cI cJ cK cL w Z=>?_
 have bw:=Z.mf 0 ((Ay k).1.store.idx.names)
 have bz:=Z.mf 1 (((Ay k).1.store.idx).AY)
 have bA:=Z.mf 2 ((Ay k).1.store.parts)
 have bB:=Z.mf 3 ((Ay k).1.store.mem)
 have bC:=Z.mf 4 ((Ay k).1.disk.files)
 have bD:=Z.mf 5 ((Ay k).1.disk.list)
 have bE:=Z.mf 6 ((Ay k).1.disk.names)
 have az:((Ay k).2)=true:=(by have q1:EsD aa:=‹_›; exact (JN (EO ‹_› AB) q1 ‹_›).2.2.2.1)
 rw [az]
 refine .r 3<|RG.Np Z fun cM w Z=>RG.Ss 0 Z fun w Z=>.r 1<|.d<|.s<|.g<|.r 6<|RG.Ln 1 Z<|.r 1<|RG.Ln 0 Z<|RG.C0 (Cj ((Ay k1).1.store) ((Ay k).1.store) (Z.a 8) (Z.a 9) (Z.a 10) (Z.a 11) (Z.a 0) (Z.a 1) (Z.a 2) (Z.a 3) (by have q1:EsD aa:=‹_›; exact WV.sd (pv (JN (EO ‹_› AB) q1 ‹_›).2.1 (JN (EO ‹_› AB) q1 ‹_›).2.2.1).1) (by have q1:EsD aa:=‹_›; exact WV.sd (pv (JN (EO ‹_› AB) q1 ‹_›).1 (JN (EO ‹_› AB) q1 ‹_›).2.2.2.1).1)) Z fun w Z=>?_
 have aA:(Bd ((Ay k1).1.store) [] 0 99==Bd ((Ay k).1.store) [] 0 99)=true:=(by have q1:EsD aa:=‹_›; exact (JN (EO ‹_› AB) q1 ‹_›).2.2.2.2)
 rw [aA]
 exact .r 2<|.d<|T.rt func14 results14 (.bool true) ⟨(AG AF),Z.xt⟩
end Go.Proofs.YtggnnidleedpaaaGreat
