/- The laws on plays: once more, and without falls; plain laws. -/
import Derived.Test.YtckdhcbbgmiccaaGreatWxzMod30k2
open Go.Proofs.Tryz
set_option linter.unusedVariables false
set_option linter.unusedSimpArgs false
namespace Go.Proofs.YtckdhcbbgmiccaaGreat
section
variable {w:Wld}
def nvP (es:List Evt):List Evt × List Evt:=es.foldl nvS ([],[])
theorem Ua {es:List Evt}(h:EsD es) (h2:(BR es).2=true):NV (nvP es).1 (nvP es).2∧(nvP es).2.length≤50:=by
 obtain ⟨_,_,hl⟩:=pv h h2
 exact NV.foldl es ([],[]) NV.nil h (by simpa using hl)
theorem YZ {es:List Evt}(h:EsD es) (h2:(BR es).2=true):(BR (nvP es).2).2=true∧(BR (nvP es).1).2=true∧(By (BR (nvP es).2).1.store [] 0 99==By (BR (nvP es).1).1.store [] 0 99)=true:=by
 obtain ⟨q,hl⟩:=Ua h h2
 have:=q.la
 rw [Iv (es:=(nvP es).2) AB,Iv (es:=(nvP es).1) AB]
 refine ⟨rfl,rfl,beq_iff_eq.2 ?_⟩
 have ha:=WV.R5 q.ea
 have hb:=WV.R5 q.eb
 exact JT q.ix (ha.k.trans hb.k.symm) (fun _ id a b=>q.rw id a (by have:=ha.sd.nm.len; omega)) _ _
theorem N3 {es A B:List Evt}(e:(A,B)=nvP es) (h:EsD es) (h2:(BR es).2=true):EsD A∧EsD B∧(BR B).2=true∧(BR A).2=true∧(By (BR B).1.store [] 0 99==By (BR A).1.store [] 0 99)=true:=by
 have q:=(Ua h h2).1
 have o:=YZ h h2
 rw [← e] at q o
 exact ⟨q.ea,q.eb,o⟩
theorem nv0 {es:List Evt}{i:Nat}{p:List Evt × List Evt}{e:Evt}(h:(es.drop i).foldl nvS p=nvP es) (hd:es[i]? = some e):(es.drop (i+1)).foldl nvS (nvS p e)=nvP es:=by
 rw [Bp hd,List.foldl_cons] at h
 exact h
theorem Yv {es A B:List Evt}{e:Evt}{i:Nat}(h:(es.drop i).foldl nvS (A,B)=nvP es) (hd:es[i]? = some e) (k:e.kind=1) (hl:(A.length:Int)< 20):(es.drop (i+1)).foldl nvS (A++[c9 e],B++[c9 e])=nvP es:=by
 have q:=nv0 h hd
 have u:nvS (A,B) e=(A++[c9 e],B++[c9 e]):=by unfold nvS; rw [if_pos ⟨k,hl⟩]
 rwa [u] at q
theorem V8 {es A B:List Evt}{e:Evt}{i:Nat}(h:(es.drop i).foldl nvS (A,B)=nvP es) (hd:es[i]? = some e) (k:¬ (e.kind=1∧(A.length:Int)< 20)) (k2:e.kind=2∨e.kind=3):(es.drop (i+1)).foldl nvS (A,B++[c9 e])=nvP es:=by
 have q:=nv0 h hd
 have u:nvS (A,B) e=(A,B++[c9 e]):=by unfold nvS; rw [if_neg k,if_pos k2]
 rwa [u] at q
theorem Ya {es A B:List Evt}{e:Evt}{i:Nat}(h:(es.drop i).foldl nvS (A,B)=nvP es) (hd:es[i]? = some e) (k:¬ (e.kind=1∧(A.length:Int)< 20)) (k2:¬ (e.kind=2∨e.kind=3)):(es.drop (i+1)).foldl nvS (A,B)=nvP es:=by
 have q:=nv0 h hd
 have u:nvS (A,B) e=(A,B):=by unfold nvS; rw [if_neg k,if_neg k2]
 rwa [u] at q
theorem G1 {es A B:List Evt}{i:Nat}(h:(es.drop i).foldl nvS (A,B)=nvP es) (hi:es.length≤i):(A,B)=nvP es:=by
 rw [List.drop_of_length_le hi] at h
 exact h
end
end Go.Proofs.YtckdhcbbgmiccaaGreat
namespace Go.Proofs.YtckdhcbbgmiccaaGreat
set_option maxRecDepth 100000
set_option maxHeartbeats 4000000
variable {w:World} {F:Nat→Prop} {a1:Option Addr} {n1 c1:Nat}
theorem IN (code:List UInt8) (h1:RepS w F a1 n1 c1 code)  : Calls Tryz.prog 3 [.slice a1 n1 c1].toArray w (Aj fun rv w'=>rv=.bool (true)∧Ext w w'):=by
 cases h1.len
 refine goT func3 ?_
 have Z:=(St.i0 F w).p h1
 refine .s<|.g<|.r 1<|.d<|.s<|.s<|.g<|.r 2<|.bp ((code.length:Int) > 1048576) (fun aB=>.d<|.ct<|.s<|.g<|.r 1<|.d<|T.rt func3 results3 (.bool true) ⟨(AG AF),Z.xt⟩) fun aB=>.d<|.cf<|.sk<|.s<|.g<|.r 1<|RG.cl (E7 code (Z.mg 1 0)) ?_
 rintro cN w ⟨⟨aa,aV,bG⟩,aC⟩
 refine RG.vL Z aV aC ?_
 intro aW aX Z
 have bH:=Z.mf 0 aa
 refine .r 1<|.d<|.s<|.g<|.r 1<|RG.CT (us:=[.bool ((BR aa).2)]) (De aa (Z.mg 1 0) (by have q1:EsD aa:=‹_›; exact q1)) Z fun cO cP cQ cR cS cT cU cV cW cX cY cZ c7 c8 w Z=>.r 2 ?_
 cases ai:(BR aa).2
 ·refine .r 1<|RG.Np Z fun da w Z=>RG.Ss 0 Z fun w Z=>.r 1<|.d<|.s<|.g<|.r 1<|RG.CT (us:=[.bool ((BR aa).2)]) (Df aa (Z.mg 1 7) (by have q1:EsD aa:=‹_›; exact q1)) Z fun db de df dh dj dm dp dq dt du dv dw dx dy w Z=>?_
  rw [ai]
  refine .r 3<|RG.Np Z fun dz w Z=>RG.Ss 0 Z fun w Z=>.r 1<|.d<|.s<|.s<|.g<|.r 2<|RG.eqv (v:=.bool false) (v':=.bool (false != false)) AA AD<|.r 1<|RG.Ln 1 Z<|RG.Ln 0 Z<|RG.C0 (Aw ((BR aa).1) ((BR aa).1) (Z.a 7) (Z.a 8) (Z.a 9) (Z.a 10) (Z.a 11) (Z.a 12) (Z.a 13) (Z.a 0) (Z.a 1) (Z.a 2) (Z.a 3) (Z.a 4) (Z.a 5) (Z.a 6)) Z fun w Z=>?_
  rw [show ((((BR aa).1)==((BR aa).1)))=true from beq_self_eq_true _]
  refine .r 6<|.d<|.ct<|.s<|.g<|.r 2<|RG.eqv (v:=.bool true) (v':=.bool (false==false)) AA AD<|.r 1<|RG.Ln 1 Z<|RG.Ln 0 Z<|RG.C0 (Aw ((BR aa).1) ((BR aa).1) (Z.a 7) (Z.a 8) (Z.a 9) (Z.a 10) (Z.a 11) (Z.a 12) (Z.a 13) (Z.a 0) (Z.a 1) (Z.a 2) (Z.a 3) (Z.a 4) (Z.a 5) (Z.a 6)) Z fun w Z=>?_
  rw [show ((((BR aa).1)==((BR aa).1)))=true from beq_self_eq_true _]
  exact .r 2<|.d<|T.rt func3 results3 (.bool true) ⟨(AG AF),Z.xt⟩
 refine .r 1<|RG.Np Z fun dA w Z=>RG.Ss 0 Z fun w Z=>.r 1<|.d<|.s<|.g<|.r 1<|RG.CT (us:=[.bool ((BR aa).2)]) (Df aa (Z.mg 1 7) (by have q1:EsD aa:=‹_›; exact q1)) Z fun dB dC dD dE dF dG dH dI dJ dK dL dM dN dO w Z=>?_
 rw [ai]
 refine .r 3<|RG.Np Z fun dP w Z=>RG.Ss 0 Z fun w Z=>.r 1<|.d<|.s<|.s<|.g<|.r 2<|RG.eqv (v:=.bool false) (v':=.bool (true != true)) AA AD<|.r 1<|RG.Ln 1 Z<|RG.Ln 0 Z<|RG.C0 (Aw ((BR aa).1) ((BR aa).1) (Z.a 7) (Z.a 8) (Z.a 9) (Z.a 10) (Z.a 11) (Z.a 12) (Z.a 13) (Z.a 0) (Z.a 1) (Z.a 2) (Z.a 3) (Z.a 4) (Z.a 5) (Z.a 6)) Z fun w Z=>?_
 rw [show ((((BR aa).1)==((BR aa).1)))=true from beq_self_eq_true _]
 refine .r 6<|.d<|.cf<|.sk<|.s<|.g<|RG.N0 Evt 1 Z fun aY w Z=>.r 1<|.d<|.s<|.g<|RG.N0 Evt 1 Z fun aZ w Z=>.r 1<|.d<|.s<|.s<|.g<|.r 1<|.d<|.b 0<|T.Lp (([]:List Evt),aY,(0:Nat),([]:List Evt),aZ,(0:Nat),(0:Nat)) (fun (k,r_k,c_k,k1,r_k1,c_k1,k2)=>([(3,.slice aW aa.length aX),(8,vS r_k k.length c_k),(9,vS r_k1 k1.length c_k1),(10,vI (k2:Int))],[(0,.own 1 r_k1 46 c_k1 k1),(1,.own 1 r_k 46 c_k k)],[],aa.length - k2,(k2≤aa.length)∧((aa.drop k2).foldl nvS (k,k1)=nvP aa)∧(k.length≤20)∧(k1.length≤2 * k2))) [] Z ⟨AB,AF,(by (simp)),(by (simp))⟩ ?_
 rintro ⟨k,r_k,c_k,k1,r_k1,c_k1,k2⟩ dQ w Z ⟨bP,bQ,bR,bS⟩ ac
 have bU:=Z.mo 0 k1
 refine .s<|.s<|.g<|.r 3<|.bp ((k2:Int)< (aa.length:Int)) (fun aD=>?_) (fun aD=>?_)
 ·refine .d<|.ct<|.sk<|.s<|.b 1<|.s<|.g<|.r 2<|gx (h:=AB) aa k2 fun E ah=>RG.Ix 14 ah Z<|Z.el 14 ah fun dR dS Z=>RG.Lg 0 0 Z<|RG.Np Z fun dT w Z=>RG.Ss 0 Z fun w Z=>.d<|.s<|.g<|.r 1<|RG.Ss 0 Z fun w Z=>.d<|.s<|.s<|.g<|.r 1<|RG.Lb 0 Z<|.eq E.kind 1 (fun aE=>?_) (fun aE=>?_)
  ·refine .r 3<|.bp ((k.length:Int)< 20) (fun aF=>?_) (fun aF=>?_)
   ·refine .r 1<|.d<|.ct<|.s<|.g<|.r 1<|RG.Ln 0 Z<|RG.Nb 1 Z fun dU w Z=>RG.Ap (hs:=by exact (by have q1:EsD aa:=‹_›; omega)) 2 0 k (⟨E.kind,E.at_,9,E.name,(⟨E.row.t,E.row.v⟩:Row)⟩:Evt) [1] Z fun aj ak w Z=>.r 1<|.d<|.g<|.r 1<|RG.Ln 0 Z<|RG.Nb 1 Z fun bX w Z=>RG.Ap (hs:=by exact (by have q1:EsD aa:=‹_›; have q2:=(pv q1 ‹_›).2.2; omega)) 1 0 k1 (⟨E.kind,E.at_,9,E.name,(⟨E.row.t,E.row.v⟩:Row)⟩:Evt) [1] Z fun aG aH w Z=>.r 1<|.d<|.s<|.g<|.r 1<|RG.Lb 0 Z<|.eq E.kind 2 (fun al=>?_) (fun al=>?_)
    ·exact .r 5<|.d<|.ct<|.g<|.r 1<|RG.Ln 0 Z<|RG.Nb 1 Z fun bY w Z=>RG.Ap (hs:=by exact (by have q1:EsD aa:=‹_›; omega)) 1 0 (k1++[(⟨E.kind,E.at_,9,E.name,(⟨E.row.t,E.row.v⟩:Row)⟩:Evt)]) (⟨E.kind,E.at_,9,E.name,(⟨E.row.t,E.row.v⟩:Row)⟩:Evt) [1] Z fun aI aJ w Z=>.r 1<|.d<|.ib 1<|.g<|.r 1<|.it ((k2:Int)+1)<|.r 1<|.d<|ac ((k++[(⟨E.kind,E.at_,9,E.name,(⟨E.row.t,E.row.v⟩:Row)⟩:Evt)]),aj,ak,((k1++[(⟨E.kind,E.at_,9,E.name,(⟨E.row.t,E.row.v⟩:Row)⟩:Evt)])++[(⟨E.kind,E.at_,9,E.name,(⟨E.row.t,E.row.v⟩:Row)⟩:Evt)]),aI,aJ,k2+1) _ _ AA (Z.to 1 [] 2) ⟨AB,(by (exfalso; omega)),AB,AB⟩ AB
    refine .r 2<|RG.Lb 0 Z<|.eq E.kind 3 (fun am=>?_) (fun am=>.r 1<|.d<|.cf<|.sk<|.ib 1<|.g<|.r 1<|.it ((k2:Int)+1)<|.r 1<|.d<|ac ((k++[(⟨E.kind,E.at_,9,E.name,(⟨E.row.t,E.row.v⟩:Row)⟩:Evt)]),aj,ak,(k1++[(⟨E.kind,E.at_,9,E.name,(⟨E.row.t,E.row.v⟩:Row)⟩:Evt)]),aG,aH,k2+1) _ _ AA (Z.to 1 [] 2) ⟨AB,(by exact Yv ‹_› ‹_› ‹_› ‹_›),(by (simp; omega)),(by (simp; omega))⟩ (by (simp only []; omega)))
    exact .r 1<|.d<|.ct<|.g<|.r 1<|RG.Ln 0 Z<|RG.Nb 1 Z fun bZ w Z=>RG.Ap (hs:=by exact (by have q1:EsD aa:=‹_›; omega)) 1 0 (k1++[(⟨E.kind,E.at_,9,E.name,(⟨E.row.t,E.row.v⟩:Row)⟩:Evt)]) (⟨E.kind,E.at_,9,E.name,(⟨E.row.t,E.row.v⟩:Row)⟩:Evt) [1] Z fun aK aL w Z=>.r 1<|.d<|.ib 1<|.g<|.r 1<|.it ((k2:Int)+1)<|.r 1<|.d<|ac ((k++[(⟨E.kind,E.at_,9,E.name,(⟨E.row.t,E.row.v⟩:Row)⟩:Evt)]),aj,ak,((k1++[(⟨E.kind,E.at_,9,E.name,(⟨E.row.t,E.row.v⟩:Row)⟩:Evt)])++[(⟨E.kind,E.at_,9,E.name,(⟨E.row.t,E.row.v⟩:Row)⟩:Evt)]),aK,aL,k2+1) _ _ AA (Z.to 1 [] 2) ⟨AB,(by (exfalso; omega)),AB,AB⟩ AB
   refine .r 1<|.d<|.cf<|.sk<|.s<|.g<|.r 1<|RG.Lb 0 Z<|.eq E.kind 2 (fun ao=>?_) (fun ao=>?_)
   ·exact .r 5<|.d<|.ct<|.g<|.r 1<|RG.Ln 0 Z<|RG.Nb 1 Z fun b0 w Z=>RG.Ap (hs:=by exact (by have q1:EsD aa:=‹_›; omega)) 1 0 k1 (⟨E.kind,E.at_,9,E.name,(⟨E.row.t,E.row.v⟩:Row)⟩:Evt) [1] Z fun aM aN w Z=>.r 1<|.d<|.ib 1<|.g<|.r 1<|.it ((k2:Int)+1)<|.r 1<|.d<|ac (k,r_k,c_k,(k1++[(⟨E.kind,E.at_,9,E.name,(⟨E.row.t,E.row.v⟩:Row)⟩:Evt)]),aM,aN,k2+1) _ _ AA (Z.to 1 [] 2) ⟨AB,(by exact V8 ‹_› ‹_› AB AB),AB,AB⟩ AB
   refine .r 2<|RG.Lb 0 Z<|.eq E.kind 3 (fun aq=>?_) (fun aq=>.r 1<|.d<|.cf<|.sk<|.ib 1<|.g<|.r 1<|.it ((k2:Int)+1)<|.r 1<|.d<|ac (k,r_k,c_k,k1,r_k1,c_k1,k2+1) _ _ AA (Z.to 1 [] 2) ⟨AB,(by exact Ya ‹_› ‹_› AB AB),AB,AB⟩ (by (simp only []; omega)))
   exact .r 1<|.d<|.ct<|.g<|.r 1<|RG.Ln 0 Z<|RG.Nb 1 Z fun b6 w Z=>RG.Ap (hs:=by exact (by have q1:EsD aa:=‹_›; omega)) 1 0 k1 (⟨E.kind,E.at_,9,E.name,(⟨E.row.t,E.row.v⟩:Row)⟩:Evt) [1] Z fun aO aP w Z=>.r 1<|.d<|.ib 1<|.g<|.r 1<|.it ((k2:Int)+1)<|.r 1<|.d<|ac (k,r_k,c_k,(k1++[(⟨E.kind,E.at_,9,E.name,(⟨E.row.t,E.row.v⟩:Row)⟩:Evt)]),aO,aP,k2+1) _ _ AA (Z.to 1 [] 2) ⟨AB,(by exact V8 ‹_› ‹_› AB AB),AB,AB⟩ AB
  refine .r 5<|.d<|.cf<|.sk<|.s<|.g<|.r 1<|RG.Lb 0 Z<|.eq E.kind 2 (fun ar=>?_) (fun ar=>?_)
  ·exact .r 5<|.d<|.ct<|.g<|.r 1<|RG.Ln 0 Z<|RG.Nb 1 Z fun b7 w Z=>RG.Ap (hs:=by exact (by have q1:EsD aa:=‹_›; have q2:=(pv q1 ‹_›).2.2; omega)) 1 0 k1 (⟨E.kind,E.at_,9,E.name,(⟨E.row.t,E.row.v⟩:Row)⟩:Evt) [1] Z fun aQ aR w Z=>.r 1<|.d<|.ib 1<|.g<|.r 1<|.it ((k2:Int)+1)<|.r 1<|.d<|ac (k,r_k,c_k,(k1++[(⟨E.kind,E.at_,9,E.name,(⟨E.row.t,E.row.v⟩:Row)⟩:Evt)]),aQ,aR,k2+1) _ _ AA (Z.to 1 [] 2) ⟨AB,(by exact V8 ‹_› ‹_› AB AB),AB,(by (simp; omega))⟩ (by (simp only []; omega))
  refine .r 2<|RG.Lb 0 Z<|.eq E.kind 3 (fun ax=>?_) (fun ax=>.r 1<|.d<|.cf<|.sk<|.ib 1<|.g<|.r 1<|.it ((k2:Int)+1)<|.r 1<|.d<|ac (k,r_k,c_k,k1,r_k1,c_k1,k2+1) _ _ AA (Z.to 1 [] 2) ⟨AB,(by exact Ya ‹_› ‹_› AB AB),AB,AB⟩ (by (simp only []; omega)))
  exact .r 1<|.d<|.ct<|.g<|.r 1<|RG.Ln 0 Z<|RG.Nb 1 Z fun b8 w Z=>RG.Ap (hs:=by exact (by have q1:EsD aa:=‹_›; have q2:=(pv q1 ‹_›).2.2; omega)) 1 0 k1 (⟨E.kind,E.at_,9,E.name,(⟨E.row.t,E.row.v⟩:Row)⟩:Evt) [1] Z fun aS aT w Z=>.r 1<|.d<|.ib 1<|.g<|.r 1<|.it ((k2:Int)+1)<|.r 1<|.d<|ac (k,r_k,c_k,(k1++[(⟨E.kind,E.at_,9,E.name,(⟨E.row.t,E.row.v⟩:Row)⟩:Evt)]),aS,aT,k2+1) _ _ AA (Z.to 1 [] 2) ⟨AB,(by exact V8 ‹_› ‹_› AB AB),AB,(by (simp; omega))⟩ (by (simp only []; omega))
 refine .d<|.cf<|.x 0 rfl<|.s<|.g<|.r 1 ?_
 have Z:=Z.sl 0
 refine RG.CT (us:=[.bool ((BR k1).2)]) (De k1 (Z.mg 1 0) (by have q1:EsD aa:=‹_›; exact (N3 (G1 ‹_› AB) q1 ‹_›).2.1)) Z fun b9 cd ce cg ci cj ck cm co cp cq cr cu cw w Z=>?_
 have ay:((BR k1).2)=true:=(by have q1:EsD aa:=‹_›; exact (N3 (G1 ‹_› AB) q1 ‹_›).2.2.1)
 rw [ay]
 refine .r 3<|RG.Np Z fun cx w Z=>RG.Ss 0 Z fun w Z=>.r 1<|.d<|.s<|.g<|.r 1 ?_
 have Z:=Z.sl 1
 refine RG.CT (us:=[.bool ((BR k).2)]) (De k (Z.mg 1 0) (by have q1:EsD aa:=‹_›; exact (N3 (G1 ‹_› AB) q1 ‹_›).1)) Z fun cy cz cA cB cC cD cE cF cG cH cI cJ cK cL w Z=>?_
 have az:((BR k).2)=true:=(by have q1:EsD aa:=‹_›; exact (N3 (G1 ‹_› AB) q1 ‹_›).2.2.2.1)
 rw [az]
 refine .r 3<|RG.Np Z fun cM w Z=>RG.Ss 0 Z fun w Z=>.r 1<|.d<|.s<|.g<|.r 6<|RG.Ln 1 Z<|.r 1<|RG.Ln 0 Z<|RG.C0 (Dv ((BR k1).1.store) ((BR k).1.store) (Z.a 8) (Z.a 9) (Z.a 10) (Z.a 11) (Z.a 0) (Z.a 1) (Z.a 2) (Z.a 3) (by have q1:EsD aa:=‹_›; exact WV.sd (pv (N3 (G1 ‹_› AB) q1 ‹_›).2.1 (N3 (G1 ‹_› AB) q1 ‹_›).2.2.1).1) (by have q1:EsD aa:=‹_›; exact WV.sd (pv (N3 (G1 ‹_› AB) q1 ‹_›).1 (N3 (G1 ‹_› AB) q1 ‹_›).2.2.2.1).1)) Z fun w Z=>?_
 have aA:(By ((BR k1).1.store) [] 0 99==By ((BR k).1.store) [] 0 99)=true:=(by have q1:EsD aa:=‹_›; exact (N3 (G1 ‹_› AB) q1 ‹_›).2.2.2.2)
 rw [aA]
 exact .r 2<|.d<|T.rt func3 results3 (.bool true) ⟨(AG AF),Z.xt⟩
end Go.Proofs.YtckdhcbbgmiccaaGreat
