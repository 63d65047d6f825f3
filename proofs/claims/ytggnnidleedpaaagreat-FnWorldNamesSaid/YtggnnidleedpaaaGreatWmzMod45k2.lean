/- Merged to one part all is told as it was: plain laws. -/
import Derived.Test.YtggnnidleedpaaaGreatWmzMod40k2
import Derived.Test.YtggnnidleedpaaaGreatWmzW70
open Go.Proofs.Tryz
set_option linter.unusedVariables false
set_option linter.unusedSimpArgs false
namespace Go.Proofs.YtggnnidleedpaaaGreat
theorem MI.same {s y z:Sto}{i:Nat}(hy:MI s y i) (hz:MI s z i) (hi:6≤i){p q:Prt}(hp:y.parts[0]? = some p) (hq:z.parts[0]? = some q) (hf:(p==q)=false):False:=by
 have l1:=hy.one hi
 have l2:=hz.one hi
 have e1:y.parts=[p]:=by
  match hh:y.parts,l1 with
  | [x],_=>rw [hh] at hp; simp at hp; rw [hp]
 have e2:z.parts=[q]:=by
  match hh:z.parts,l2 with
  | [x],_=>rw [hh] at hq; simp at hq; rw [hq]
 have kp:=(StoK.of hy.sd hy.ok).part p (by rw [e1]; simp)
 have kq:=(StoK.of hz.sd hz.ok).part q (by rw [e2]; simp)
 have key:p=q:=MF kp.2 kq.2 (fun id=>by
  by_cases hid:1≤id∧id≤6
  ·have h1:=hy.rows id hid.1 hid.2
   have h2:=hz.rows id hid.1 hid.2
   rw [e1] at h1
   rw [e2] at h2
   simp only [List.foldl_cons,List.foldl_nil] at h1 h2
   unfold CK at h1 h2
   rw [Ja (kp.1.of id)] at h1
   rw [Ja (kq.1.of id)] at h2
   rw [h1,h2]
  ·have g:∀ p:Prt,Az p=true→partOf p id=[]:=fun p hp=>by
    unfold Az at hp
    simp only [AW,decide_eq_true_eq] at hp
    have key:∀ (is:List Int) (bs:List (List Row)) (o:Option Int),CA o is bs=true→Bm id is bs=[]:=by
     intro is
     induction is with
     | nil=>intro bs o _; unfold Bm; rfl
     | cons i is ih =>
       intro bs o hg
       cases bs with
       | nil=>unfold Bm; rfl
       | cons b bs =>
         simp only [CA,AW] at hg
         have h5:=CF hg.1.1.1.1
         unfold Bm
         rw [if_neg (by simp; omega)]
         exact ih bs _ hg.2
    exact key _ _ _ hp.2
   rw [g p kp.2,g q kq.2])
 rw [key] at hf
 simp at hf
end Go.Proofs.YtggnnidleedpaaaGreat
namespace Go.Proofs.YtggnnidleedpaaaGreat
section
variable {w:Wld}
theorem UI (h:WV w){i:Nat}{a b:List Tag}(ha:w.disk.names[i]? = some a) (hb:w.store.idx.names[i]? = some b):(a==b)=true:=by
 have hi:=(List.getElem?_eq_some_iff.1 ha).1
 rw [h.m,List.getElem?_take,if_pos hi,hb] at ha
 cases ha
 exact beq_self_eq_true _
theorem TW (h:WV w):w.disk.names.length≤w.store.idx.names.length:=by
 have:=congrArg List.length h.m
 rw [List.length_take] at this
 omega
theorem Qj (h:WV w){e:Evt}(he:NmD e.name):∃ l,(doW w e).disk.names=w.disk.names++l:=by
 have same:∃ l,w.disk.names=w.disk.names++l:=⟨[],by simp⟩
 have pre:∃ l,w.store.idx.names=w.disk.names++l:=⟨w.store.idx.names.drop w.disk.names.length,by
  have:=List.take_append_drop w.disk.names.length w.store.idx.names
  rw [← h.m] at this
  exact this.symm⟩
 by_cases k1:e.kind=1
 ·cases hn:BC e.name with
  | false=>rw [K7 k1 hn]; exact same
  | true=>rw [Lj k1 hn]; exact same
 ·by_cases k2:e.kind=2
  ·rw [KJ k2]
   by_cases hs:((BD w.disk w.store).length:Int)=0∨e.cut< 0
   ·rw [D9 hs]; exact same
   ·have q:=h.fl (fun e0=>hs (.inl (by rw [e0]; rfl)))
    have ht:∃ l,(toD w.disk (BD w.disk w.store) e.cut).names=w.disk.names++l:=by
     have o:=(q.to e.cut).2
     split at o
     ·have:(toD w.disk (BD w.disk w.store) e.cut).names=w.disk.names:=congrArg (fun s=>s.idx.names) o
      rw [this]; exact same
     ·have:(toD w.disk (BD w.disk w.store) e.cut).names=w.store.idx.names:=congrArg (fun s=>s.idx.names) o
      rw [this]; exact pre
    by_cases hc:e.cut< (BD w.disk w.store).length
    ·rw [Eb (fun e0=>hs (.inl e0)) (fun e0=>hs (.inr e0)) hc]
     exact ht
    ·rw [Ec (fun e0=>hs (.inl e0)) (fun e0=>hs (.inr e0)) hc]
     exact ht
  ·by_cases k3:e.kind=3
   ·rw [KK k3]
    by_cases hs:((BF w.disk e.at_).length:Int)=0∨e.cut< 0
    ·rw [D9 hs]; exact same
    ·obtain ⟨x,y,q,i0,e3,_⟩:=h.mg (i:=e.at_) (fun e0=>hs (.inl (by rw [e0]; rfl)))
     have ht:∃ l,(toD w.disk (BF w.disk e.at_) e.cut).names=w.disk.names++l:=by
      rw [e3]
      have o:=(q.to e.cut).2
      have:(toD w.disk (BF w.disk e.at_.toNat) e.cut).names=w.disk.names:=by
       split at o
       ·exact congrArg (fun s=>s.idx.names) o
       ·exact congrArg (fun s=>s.idx.names) o
      rw [this]; exact same
     by_cases hc:e.cut< (BF w.disk e.at_).length
     ·rw [Eb (fun e0=>hs (.inl e0)) (fun e0=>hs (.inr e0)) hc]
      exact ht
     ·rw [Ec (fun e0=>hs (.inl e0)) (fun e0=>hs (.inr e0)) hc]
      exact ht
   ·by_cases k4:e.kind=4
    ·rw [Na k4]; exact same
    ·rw [Nc k1 k2 k3 k4]; exact same
theorem MR:∀ (es:List Evt) (w:Wld),WV w→EsD es→∃ l,(es.foldl doW w).disk.names=w.disk.names++l:=by
 intro es
 induction es with
 | nil=>intro w _ _; exact ⟨[],by simp⟩
 | cons e es ih =>
   intro w h he
   obtain ⟨l1,h1⟩:=Qj h (he e AD).1
   obtain ⟨l2,h2⟩:=ih _ (h.do (he e AD).1) (fun x hx=>he x (by simp [hx]))
   exact ⟨l1++l2,by rw [List.foldl_cons,h2,h1,List.append_assoc]⟩
end
theorem Qk {es:List Evt}{k:Nat}(h:EsD es) (h2:(Ac es).2=true):∃ l,(Ac es).1.disk.names=(Ac ((es.take k).drop 0)).1.disk.names++l:=by
 obtain ⟨_,e1,hl⟩:=pv h h2
 have e2:(Ac ((es.take k).drop 0)).1=Gg (es.take k):=by
  rw [ID (by rw [List.length_drop,List.length_take]; omega)]
  rfl
 rw [e1,e2]
 have e3:Gg es=(es.drop k).foldl doW (Gg (es.take k)):=by
  unfold Gg
  rw [← List.foldl_append,List.take_append_drop]
 rw [e3]
 exact MR _ _ (WV.UB (fun e he=>h e (List.mem_of_mem_take he))) (fun e he=>h e (List.mem_of_mem_drop he))
theorem Ua {es:List Evt}{k i:Nat}(h:EsD es) (h2:(Ac es).2=true){a b:List Tag}(ha:(Ac ((es.take k).drop 0)).1.disk.names[i]? = some a) (hb:(Ac es).1.disk.names[i]? = some b):(a==b)=true:=by
 obtain ⟨l,e⟩:=Qk (k:=k) h h2
 have hi:=(List.getElem?_eq_some_iff.1 ha).1
 rw [e,List.getElem?_append_left hi,ha] at hb
 cases hb
 exact beq_self_eq_true _
theorem Ub {es:List Evt}{k i:Nat}(h:EsD es) (h2:(Ac es).2=true) (hi:i< (Ac ((es.take k).drop 0)).1.disk.names.length):i< (Ac es).1.disk.names.length:=by
 obtain ⟨l,e⟩:=Qk (k:=k) h h2
 rw [e,List.length_append]
 omega
end Go.Proofs.YtggnnidleedpaaaGreat
namespace Go.Proofs.YtggnnidleedpaaaGreat
set_option maxRecDepth 100000
set_option maxHeartbeats 4000000
variable {w:World} {F:Nat→Prop} {a1 a2:Option Addr} {n1 c1 n2 c2:Nat}
theorem GW (code:List UInt8) (more:List UInt8) (h1:RepS w F a1 n1 c1 code) (h2:RepS w F a2 n2 c2 more)  : Calls Tryz.prog 3 [.slice a1 n1 c1,.slice a2 n2 c2].toArray w (BB fun rv w'=>rv=.bool (true)∧Ext w w'):=by
 refine goT func3 ?_
 obtain ⟨rfl,fL,h1⟩:=h1.tp
 obtain ⟨rfl,fM,h2⟩:=h2.tp
 refine .s<|.g<|.r 1<|.d<|.s<|.s<|.g<|.r 2<|.bp ((code.length:Int) > 1048576) (fun du=>.r 5<|.d<|.ct<|.s<|.g<|.r 1<|.d<|.rt func3 results3 (.bool true) ⟨(AG AF),(Chg.refl _ _)⟩) fun du=>.r 3<|.bp ((more.length:Int) > 1048576) (fun dv=>.r 1<|.d<|.ct<|.s<|.g<|.r 1<|.d<|.rt func3 results3 (.bool true) ⟨(AG AF),(Chg.refl _ _)⟩) fun dv=>.r 1<|.d<|.cf<|.sk<|.s<|.g<|.r 1<|.cl (C7 code h1 (w:=w) (F:=nin (fo F w.heap.size) [])) ?_
 rintro hO cr ⟨⟨C,⟨e7,e8,rfl,ab⟩,fN⟩,ce⟩
 have cg:∀ q_∈([]:List Nat),q_< w.heap.size:=all_nil
 have dw:Gb w.heap.size w.heap.size:=(Nat.le_refl _)
 have E:=ce
 replace ab:=RepS.Af (M:=[]) ab cg dw
 have fO:=ab.max
 refine .r 1<|.d<|.s<|.g<|.r 1<|.cl (DB C ab (by have q1:EsD C:=‹_›; exact q1) (w:=cr) (F:=nin (fo F w.heap.size) [])) ?_
 rintro hQ hV ⟨⟨hW,rfl,⟨_,rfl,⟨dx,ia,dy,dz,ic,dA,dB,ie,dC,dD,ig,dE,dF,ii,dG,dH,ij,dI,dJ,ik,dK,rfl,ac,ag,ah,ai,aj,ak,aa⟩⟩⟩,ci⟩
 have aJ:∀ q_∈([]:List Nat),q_< cr.heap.size:=all_nil
 have aR:Gb w.heap.size cr.heap.size:=E.size
 replace ⟨ab,E⟩:=(se [] ci).g2 ab E
 replace ac:=RepS.Af (M:=[]) ac aJ aR
 have fP:=ac.max
 replace ag:=RepS.Af (M:=[]) ag aJ aR
 have fQ:=ag.max
 replace ah:=RepS.Af (M:=[]) ah aJ aR
 have fR:=ah.max
 replace ai:=RepS.Af (M:=[]) ai aJ aR
 have fS:=ai.max
 replace aj:=RepS.Af (M:=[]) aj aJ aR
 have fT:=aj.max
 replace ak:=RepS.Af (M:=[]) ak aJ aR
 have fU:=ak.max
 replace aa:=RepS.Af (M:=[]) aa aJ aR
 have fV:=aa.max
 have dL:=ac.len
 subst dL
 have dM:=ag.len
 subst dM
 have dN:=ah.len
 subst dN
 have dO:=ai.len
 subst dO
 have dP:=aj.len
 subst dP
 have dQ:=ak.len
 subst dQ
 have dR:=aa.len
 subst dR
 refine .r 2 ?_
 cases fW:(Ac C).2
 ·refine .r 1<|.np 38 [AH,AH,AH,AH,AH,AH,AH,vI 0] fun au il bE cj dS dT=>?_
  have fX:=E.cn bE
  replace ⟨ab,ac,ag,ah,ai,aj,ak,aa,E⟩:=(sn [] cj bE).g9 ab ac ag ah ai aj ak aa E
  refine .sc [.slice dx ((Ac C).1.store.idx.names.length) dy,.slice dz ((((Ac C).1.store.idx).AY).length) dA,.slice dB ((Ac C).1.store.parts.length) dC,.slice dD ((Ac C).1.store.mem.length) dE,.slice dF ((Ac C).1.disk.files.length) dG,.slice dH ((Ac C).1.disk.list.length) dI,.slice dJ ((Ac C).1.disk.names.length) dK,vI ((Ac C).1.disk.next)] dS fun dU ck ar dV=>?_
  replace ⟨ab,ac,ag,ah,ai,aj,ak,aa,E⟩:=(so [au] ck).g9 ab ac ag ah ai aj ak aa E
  refine .r 1<|.d<|.s<|.g<|.r 1<|.cl (CU C ab (by have q1:EsD C:=‹_›; exact q1) (w:=dU) (F:=nin (fo F w.heap.size) [au])) ?_
  rintro im io ⟨⟨fY,rfl,⟨_,rfl,⟨fa,fZ,dW,dX,f0,dY,dZ,f5,d0,d3,f6,d4,d5,f7,d6,d7,f8,d8,d9,f9,ec,rfl,av,aw,ax,ay,az,aA,aB⟩⟩⟩,cm⟩
  have aC:=al1 ar.lt
  have aG:Gb w.heap.size dU.heap.size:=E.size
  replace ⟨ab,ac,ag,ah,ai,aj,ak,aa,ar,E⟩:=(se [au] cm).g10 ab ac ag ah ai aj ak aa ar E
  replace av:=RepS.Af (M:=[au]) av aC aG
  replace aw:=RepS.Af (M:=[au]) aw aC aG
  replace ax:=RepS.Af (M:=[au]) ax aC aG
  replace ay:=RepS.Af (M:=[au]) ay aC aG
  replace az:=RepS.Af (M:=[au]) az aC aG
  replace aA:=RepS.Af (M:=[au]) aA aC aG
  replace aB:=RepS.Af (M:=[au]) aB aC aG
  have cu:=av.len
  subst cu
  have cw:=aw.len
  subst cw
  have cx:=ax.len
  subst cx
  have cy:=ay.len
  subst cy
  have cz:=az.len
  subst cz
  have cA:=aA.len
  subst cA
  have cB:=aB.len
  subst cB
  refine .r 3<|.np 38 [AH,AH,AH,AH,AH,AH,AH,vI 0] fun aX ga aS bg cC cD=>?_
  have fb:=AX aS ar.lt
  have fc:=E.cn aS
  replace ⟨ab,ac,ag,ah,ai,aj,ak,aa,ar,av,aw,ax⟩:=(sn [au] bg aS).g12 ab ac ag ah ai aj ak aa ar av aw ax
  replace ⟨ay,az,aA,aB,E⟩:=(sn [au] bg aS).g5 ay az aA aB E
  refine .sc [.slice fa ((Ac C).1.store.idx.names.length) dW,.slice dX ((((Ac C).1.store.idx).AY).length) dY,.slice dZ ((Ac C).1.store.parts.length) d0,.slice d3 ((Ac C).1.store.mem.length) d4,.slice d5 ((Ac C).1.disk.files.length) d6,.slice d7 ((Ac C).1.disk.list.length) d8,.slice d9 ((Ac C).1.disk.names.length) ec,vI ((Ac C).1.disk.next)] cC fun ed bh aV cE=>?_
  replace ⟨ab,ac,ag,ah,ai,aj,ak,aa,ar,av,aw,ax⟩:=(so [aX,au] bh).g12 ab ac ag ah ai aj ak aa ar av aw ax
  replace ⟨ay,az,aA,aB,E⟩:=(so [aX,au] bh).g5 ay az aA aB E
  refine .r 1<|.d<|.s<|.s<|.g<|.r 2<|RG.eqv (v:=.bool ((Ac C).2)) (v':=.bool (false != ((Ac C).2))) AA AD ?_
  cases fd:(Ac C).2
  ·refine .r 1<|.ln ar<|.ln aV<|.cl (CH ((Ac C).1) ((Ac C).1) ac.ta ag.ta ah.ta ai.ta aj.ta ak.ta aa.ta av.ta aw.ta ax.ta ay.ta az.ta aA.ta aB.ta (w:=ed) (F:=all)) ?_
   rintro gb ee ⟨rfl,bi⟩
   replace ⟨ab,ac,ag,ah,ai,aj,ak,aa,ar,av,aw,ax⟩:=(se [aX,au] bi).g12 ab ac ag ah ai aj ak aa ar av aw ax
   replace ⟨ay,az,aA,aB,aV,E⟩:=(se [aX,au] bi).g6 ay az aA aB aV E
   rw [show ((((Ac C).1)==((Ac C).1)))=true from beq_self_eq_true _]
   refine .r 6<|.d<|.ct<|.s<|.g<|.r 2<|RG.eqv (v:=.bool true) (v':=.bool (false==false)) AA AD<|.r 1<|.ln ar<|.ln aV<|.cl (CH ((Ac C).1) ((Ac C).1) ac.ta ag.ta ah.ta ai.ta aj.ta ak.ta aa.ta av.ta aw.ta ax.ta ay.ta az.ta aA.ta aB.ta (w:=ee) (F:=all)) ?_
   rintro gf gh ⟨rfl,bF⟩
   replace ⟨ab,ac,ag,ah,ai,aj,ak,aa,E⟩:=(se [aX,au] bF).g9 ab ac ag ah ai aj ak aa E
   rw [show ((((Ac C).1)==((Ac C).1)))=true from beq_self_eq_true _]
   exact .r 2<|.d<|.rt func3 results3 (.bool true) ⟨(AG AF),E⟩
  exact .r 10<|.d<|.ct<|.s<|.g<|.r 2<|RG.eqv (v:=.bool false) (v':=.bool (false==true)) AA AD<|.r 6<|.d<|.rt func3 results3 (.bool false) ⟨(AG (by exfalso; (simp_all; done))),E⟩
 refine .r 1<|.np 38 [AH,AH,AH,AH,AH,AH,AH,vI 0] fun W gi bk bG cF cG=>?_
 have fe:=E.cn bk
 replace ⟨ab,ac,ag,ah,ai,aj,ak,aa,E⟩:=(sn [] bG bk).g9 ab ac ag ah ai aj ak aa E
 refine .sc [.slice dx ((Ac C).1.store.idx.names.length) dy,.slice dz ((((Ac C).1.store.idx).AY).length) dA,.slice dB ((Ac C).1.store.parts.length) dC,.slice dD ((Ac C).1.store.mem.length) dE,.slice dF ((Ac C).1.disk.files.length) dG,.slice dH ((Ac C).1.disk.list.length) dI,.slice dJ ((Ac C).1.disk.names.length) dK,vI ((Ac C).1.disk.next)] cF fun co bH J cH=>?_
 replace ⟨ab,ac,ag,ah,ai,aj,ak,aa,E⟩:=(so [W] bH).g9 ab ac ag ah ai aj ak aa E
 refine .r 1<|.d<|.s<|.g<|.r 1<|.cl (CU C ab (by have q1:EsD C:=‹_›; exact q1) (w:=co) (F:=nin (fo F w.heap.size) [W])) ?_
 rintro gj gk ⟨⟨gl,rfl,⟨_,rfl,⟨ef,gm,eg,eh,gn,ej,ek,gp,en,et,gq,ey,ez,gr,eA,eB,gs,eC,eD,gt,eE,rfl,aK,aL,aM,aN,aO,aP,aQ⟩⟩⟩,bI⟩
 have aD:=al1 J.lt
 have aH:Gb w.heap.size co.heap.size:=E.size
 replace ⟨ab,ac,ag,ah,ai,aj,ak,aa,J,E⟩:=(se [W] bI).g10 ab ac ag ah ai aj ak aa J E
 replace aK:=RepS.Af (M:=[W]) aK aD aH
 replace aL:=RepS.Af (M:=[W]) aL aD aH
 replace aM:=RepS.Af (M:=[W]) aM aD aH
 replace aN:=RepS.Af (M:=[W]) aN aD aH
 replace aO:=RepS.Af (M:=[W]) aO aD aH
 replace aP:=RepS.Af (M:=[W]) aP aD aH
 replace aQ:=RepS.Af (M:=[W]) aQ aD aH
 have cI:=aK.len
 subst cI
 have cJ:=aL.len
 subst cJ
 have cK:=aM.len
 subst cK
 have cL:=aN.len
 subst cL
 have cM:=aO.len
 subst cM
 have cN:=aP.len
 subst cN
 have cO:=aQ.len
 subst cO
 refine .r 3<|.np 38 [AH,AH,AH,AH,AH,AH,AH,vI 0] fun ae gu aT bm cP cQ=>?_
 have ff:=AX aT J.lt
 have fg:=E.cn aT
 replace ⟨ab,ac,ag,ah,ai,aj,ak,aa,J,aK,aL,aM⟩:=(sn [W] bm aT).g12 ab ac ag ah ai aj ak aa J aK aL aM
 replace ⟨aN,aO,aP,aQ,E⟩:=(sn [W] bm aT).g5 aN aO aP aQ E
 refine .sc [.slice ef ((Ac C).1.store.idx.names.length) eg,.slice eh ((((Ac C).1.store.idx).AY).length) ej,.slice ek ((Ac C).1.store.parts.length) en,.slice et ((Ac C).1.store.mem.length) ey,.slice ez ((Ac C).1.disk.files.length) eA,.slice eB ((Ac C).1.disk.list.length) eC,.slice eD ((Ac C).1.disk.names.length) eE,vI ((Ac C).1.disk.next)] cP fun eF bn al cR=>?_
 replace ⟨ab,ac,ag,ah,ai,aj,ak,aa,J,aK,aL,aM⟩:=(so [ae,W] bn).g12 ab ac ag ah ai aj ak aa J aK aL aM
 replace ⟨aN,aO,aP,aQ,E⟩:=(so [ae,W] bn).g5 aN aO aP aQ E
 refine .r 1<|.d<|.s<|.s<|.g<|.r 2<|RG.eqv (v:=.bool (!((Ac C).2))) (v':=.bool (true != ((Ac C).2))) AA AD ?_
 cases fh:(Ac C).2
 ·exact .r 10<|.d<|.ct<|.s<|.g<|.r 2<|RG.eqv (v:=.bool false) (v':=.bool (true==false)) AA AD<|.r 6<|.d<|.rt func3 results3 (.bool false) ⟨(AG (by exfalso; (simp_all; done))),E⟩
 refine .r 1<|.ln J<|.ln al<|.cl (CH ((Ac C).1) ((Ac C).1) ac.ta ag.ta ah.ta ai.ta aj.ta ak.ta aa.ta aK.ta aL.ta aM.ta aN.ta aO.ta aP.ta aQ.ta (w:=eF) (F:=all)) ?_
 rintro gv cp ⟨rfl,bJ⟩
 replace ⟨ab,ac,aa,J,al,E⟩:=(se [ae,W] bJ).g6 ab ac aa J al E
 rw [show ((((Ac C).1)==((Ac C).1)))=true from beq_self_eq_true _]
 refine .r 6<|.d<|.cf<|.sk<|.s<|.s<|.g<|.r 1<|.d<|.b 0<|T.loop (X:=Nat) 0 (fun k=>[(1,.slice a2 more.length c2),(5,.slice e7 C.length e8),(6,.pointer (some ⟨W,0,none⟩)),(10,vI (k:Int))]) (fun k aY=>Chg (ins []) cp aY∧(k≤(Ac C).1.disk.names.length)) (fun k=>(Ac C).1.disk.names.length - k) AA ⟨AA,AA,AA,AA,trivial⟩ ⟨Chg.refl _ _,AB⟩ ?_
 rintro k gw aY ⟨aq,fi⟩ bC
 have bK:Mv [ae,W] [ae,W] cp aY:=Mv.inl aq all_nil (all_cons (.inl AI) (all_cons (.inl AJ) all_nil))
 replace ⟨ab,ac,aa,J,al,E⟩:=(sp bK aq).g6 ab ac aa J al E
 refine .s<|.s<|.g<|.r 3<|.lb J<|.r 1<|.bp ((k:Int)< (((Ac C).1.disk.names.length):Int)) (fun cS=>?_) (fun cS=>?_)
 ·refine .d<|.ct<|.sk<|.s<|.b 1<|.s<|.gd nil 13 fun gy bL=>?_
  replace ⟨ab,ac,aa,J,al,E,aq⟩:=(se [ae,W] bL).g7 ab ac aa J al E aq
  refine .r [0,1]<|.lb 2 J id<|.r [3] ?_
  have bM:k< (Ac C).1.disk.names.length:=AB
  refine GA.idx (i:=4) k (len:=(Ac C).1.disk.names.length) (z:=(k:Int)) (sz:=1) AA AB bM (aa.addr (Nat.zero_lt_of_lt bM)) ?_
  obtain ⟨bN,bo⟩:∃ y,((Ac C).1.disk.names)[k]? = some y:=⟨_,AU AB⟩
  obtain ⟨_,⟨gz,gA,gC,rfl,aZ⟩,cT⟩:=aa.elem k bN bo
  have cU:=aZ.len
  subst cU
  refine .lh 5 0 cT id<|.r [6,7,8]<|.lb 9 J id<|.r [10] ?_
  have bO:k< (Ac C).1.store.idx.names.length:=(by (have q1:EsD C:=‹_›; have q2:=TW (pv q1 ‹_›).1; omega))
  refine GA.idx (i:=11) k (len:=(Ac C).1.store.idx.names.length) (z:=(k:Int)) (sz:=1) AA AB bO (ac.addr (Nat.zero_lt_of_lt bO)) ?_
  obtain ⟨bP,bq⟩:∃ y,((Ac C).1.store.idx.names)[k]? = some y:=⟨_,AU AB⟩
  obtain ⟨_,⟨gD,gE,gF,rfl,ba⟩,cV⟩:=ac.elem k bP bq
  have cW:=ba.len
  subst cW
  refine .lh 12 0 cV id<|.d fun eI bQ=>?_
  replace ⟨ab,aa,J,al,aZ,ba,E,aq⟩:=(se [ae,W] bQ).g8 ab aa J al aZ ba E aq
  refine .cl (D5 bN bP aZ.ta ba.ta (w:=eI) (F:=all)) ?_
  rintro gG gH ⟨rfl,bR⟩
  replace ⟨ab,aa,J,al,E,aq⟩:=(se [ae,W] bR).g6 ab aa J al E aq
  have cX:(bN==bP)=true:=(by have q1:EsD C:=‹_›; exact UI (pv q1 ‹_›).1 ‹_› ‹_›)
  rw [cX]
  exact .r 1<|.d<|.cf<|.sk<|.ib 1<|.g<|.r 1<|.it ((k:Int)+1)<|.r 1<|.d<|bC (k+1) _ _ ⟨AA,AA,AA,AA,trivial⟩ ⟨aq,AB⟩ AB
 refine .d<|.cf<|.x 0 rfl<|.s<|.g<|.r 5<|RG.int ((C.length:Int)+1) AA (by have q1:EsD C:=‹_›; have q2:=(pv q1 ‹_›).2.2; omega)<|RG.rem (t:=3) (k:=.i64) (a:=(more.length:Int)) (b:=(C.length:Int)+1) AA AB<|RG.sub (t:=23) (lo:=none) (hi:=some (vI (Int.tmod (more.length:Int) ((C.length:Int)+1)))) ab 0 (((Int.tmod (more.length:Int) ((C.length:Int)+1))).toNat) AA AA (.inl ⟨rfl,rfl⟩) (.inr ⟨_,_,rfl,by have q3:=Int.tmod_nonneg (a:=(more.length:Int)) ((C.length:Int)+1) AB; omega⟩) (by have q3:=Int.tmod_nonneg (a:=(more.length:Int)) ((C.length:Int)+1) AB; omega) (by have q3:=Int.tmod_nonneg (a:=(more.length:Int)) ((C.length:Int)+1) AB; have q4:=Int.tmod_lt_of_pos (more.length:Int) (b:=(C.length:Int)+1) AB; omega) fun gJ gK bS=>?_
 refine .cl (DB ((C.take (((Int.tmod (more.length:Int) ((C.length:Int)+1))).toNat)).drop 0) bS (by have q1:EsD C:=‹_›; exact q1.take _) (w:=aY) (F:=nin (fo F w.heap.size) [ae,W])) ?_
 rintro gL gM ⟨⟨gN,rfl,⟨_,rfl,⟨eJ,gO,eK,eL,gP,eM,eN,gQ,eO,eP,gR,eQ,eR,gS,eS,eT,gT,eU,eV,gU,eW,rfl,bu,bv,bw,bz,bA,bB,am⟩⟩⟩,bT⟩
 have aE:=al2 al.lt J.lt
 have aI:Gb w.heap.size aY.heap.size:=E.size
 replace ⟨aa,J,E⟩:=(se [ae,W] bT).g3 aa J E
 replace bu:=RepS.Af (M:=[ae,W]) bu aE aI
 have fu:=bu.max
 replace bv:=RepS.Af (M:=[ae,W]) bv aE aI
 have fv:=bv.max
 replace bw:=RepS.Af (M:=[ae,W]) bw aE aI
 have fw:=bw.max
 replace bz:=RepS.Af (M:=[ae,W]) bz aE aI
 have fA:=bz.max
 replace bA:=RepS.Af (M:=[ae,W]) bA aE aI
 have fB:=bA.max
 replace bB:=RepS.Af (M:=[ae,W]) bB aE aI
 have fC:=bB.max
 replace am:=RepS.Af (M:=[ae,W]) am aE aI
 have fD:=am.max
 have cY:=bu.len
 subst cY
 have cZ:=bv.len
 subst cZ
 have c7:=bw.len
 subst c7
 have c8:=bz.len
 subst c8
 have c9:=bA.len
 subst c9
 have da:=bB.len
 subst da
 have db:=am.len
 subst db
 refine .r 3<|.np 38 [AH,AH,AH,AH,AH,AH,AH,vI 0] fun aU gV aW bU de df=>?_
 have fE:=AX aW J.lt
 have fF:=E.cn aW
 replace ⟨aa,J,am,E⟩:=(sn [ae,W] bU aW).g4 aa J am E
 refine .sc [.slice eJ ((((((Ac ((C.take (((Int.tmod (more.length:Int) ((C.length:Int)+1))).toNat)).drop 0)).1).store).idx).names).length) eK,.slice eL ((((((Ac ((C.take (((Int.tmod (more.length:Int) ((C.length:Int)+1))).toNat)).drop 0)).1).store).idx).AY).length) eM,.slice eN (((((Ac ((C.take (((Int.tmod (more.length:Int) ((C.length:Int)+1))).toNat)).drop 0)).1).store).parts).length) eO,.slice eP (((((Ac ((C.take (((Int.tmod (more.length:Int) ((C.length:Int)+1))).toNat)).drop 0)).1).store).mem).length) eQ,.slice eR (((((Ac ((C.take (((Int.tmod (more.length:Int) ((C.length:Int)+1))).toNat)).drop 0)).1).disk).files).length) eS,.slice eT (((((Ac ((C.take (((Int.tmod (more.length:Int) ((C.length:Int)+1))).toNat)).drop 0)).1).disk).list).length) eU,.slice eV (((((Ac ((C.take (((Int.tmod (more.length:Int) ((C.length:Int)+1))).toNat)).drop 0)).1).disk).names).length) eW,vI ((((Ac ((C.take (((Int.tmod (more.length:Int) ((C.length:Int)+1))).toNat)).drop 0)).1).disk).next)] de fun cq bV aF dg=>?_
 replace ⟨aa,J,am,E⟩:=(so [aU,ae,W] bV).g4 aa J am E
 refine .r 1<|.d<|.s<|.s<|.g<|.r 1<|.d<|.b 2<|T.loop (X:=Nat) 0 (fun k=>[(6,.pointer (some ⟨W,0,none⟩)),(11,.pointer (some ⟨aU,0,none⟩)),(13,vI (k:Int))]) (fun k bW=>Chg (ins []) cq bW∧(k≤9223372036854775807)) (fun k=>9223372036854775807 - k) AA ⟨AA,AA,AA,trivial⟩ ⟨Chg.refl _ _,AB⟩ ?_
 rintro k gW bW ⟨ao,fG⟩ bD
 have bX:Mv [aU,ae,W] [aU,ae,W] cq bW:=Mv.inl ao all_nil (all_cons (.inl AI) (all_cons (.inl AJ) (all_cons (.inl AK) all_nil)))
 replace ⟨aa,J,am,aF,E⟩:=(sp bX ao).g5 aa J am aF E
 refine .s<|.s<|.g<|.r 3<|.lb aF<|.r 1<|.bp ((k:Int)< ((((((Ac ((C.take (((Int.tmod (more.length:Int) ((C.length:Int)+1))).toNat)).drop 0)).1).disk).names).length):Int)) (fun dh=>?_) (fun dh=>.d<|.cf<|.x 2 rfl<|.s<|.g<|.r 1<|.d<|.rt func3 results3 (.bool true) ⟨(AG AF),E⟩)
 refine .d<|.ct<|.sk<|.s<|.b 3<|.s<|.gd nil 19 fun gX bY=>?_
 replace ⟨aa,J,am,aF,E,ao⟩:=(se [aU,ae,W] bY).g6 aa J am aF E ao
 refine .r [0,1,2]<|.lb 3 J id<|.r [4]<|GA.Ey (i:=5) ((k:Int)≥(((Ac C).1.disk.names.length):Int)) AA (fun dj=>?_) (fun dj=>?_)
 ·refine .r [6]<|GA.skip AA fun gY bZ=>?_
  replace ⟨aa,J,am,aF,E,ao⟩:=(se [aU,ae,W] bZ).g6 aa J am aF E ao
  exact .r 3<|.d<|.ct<|.s<|.g<|.r 1<|.d<|.rt func3 results3 (.bool false) ⟨(AG (by exfalso; have q1:EsD C:=‹_›; (have q2:=Ub (k:=((Int.tmod (more.length:Int) ((C.length:Int)+1))).toNat) (i:=k) q1 ‹_› AB; omega))),E⟩
 refine .r [6,7,8]<|.lb 9 aF id<|.r [10] ?_
 have b0:k< ((((Ac ((C.take (((Int.tmod (more.length:Int) ((C.length:Int)+1))).toNat)).drop 0)).1).disk).names).length:=AB
 refine GA.idx (i:=11) k (len:=((((Ac ((C.take (((Int.tmod (more.length:Int) ((C.length:Int)+1))).toNat)).drop 0)).1).disk).names).length) (z:=(k:Int)) (sz:=1) AA AB b0 (am.addr (Nat.zero_lt_of_lt b0)) ?_
 obtain ⟨b6,br⟩:∃ y,((((Ac ((C.take (((Int.tmod (more.length:Int) ((C.length:Int)+1))).toNat)).drop 0)).1).disk).names)[k]? = some y:=⟨_,AU AB⟩
 obtain ⟨_,⟨gZ,g0,hC,rfl,bc⟩,dm⟩:=am.elem k b6 br
 have dp:=bc.len
 subst dp
 refine .lh 12 0 dm id<|.r [13,14]<|.lb 15 J id<|.r [16] ?_
 have b7:k< (Ac C).1.disk.names.length:=AB
 refine GA.idx (i:=17) k (len:=(Ac C).1.disk.names.length) (z:=(k:Int)) (sz:=1) AA AB b7 (aa.addr (Nat.zero_lt_of_lt b7)) ?_
 obtain ⟨b8,bt⟩:∃ y,((Ac C).1.disk.names)[k]? = some y:=⟨_,AU AB⟩
 obtain ⟨_,⟨hD,hE,hH,rfl,bd⟩,dq⟩:=aa.elem k b8 bt
 have dr:=bd.len
 subst dr
 refine .lh 18 0 dq id<|.d fun eZ b9=>?_
 replace ⟨bc,bd,E,ao⟩:=(se [aU,ae,W] b9).g4 bc bd E ao
 refine .cl (D5 b6 b8 bc.ta bd.ta (w:=eZ) (F:=all)) ?_
 rintro hJ hN ⟨rfl,cd⟩
 replace ⟨E,ao⟩:=(se [] cd).g2 E ao
 have dt:(b6==b8)=true:=(by have q1:EsD C:=‹_›; exact Ua q1 ‹_› ‹_› ‹_›)
 rw [dt]
 exact .r 2<|.d<|.cf<|.sk<|.ib 3<|.g<|.r 1<|.it ((k:Int)+1)<|.r 1<|.d<|bD (k+1) _ _ ⟨AA,AA,AA,trivial⟩ ⟨ao,AB⟩ AB
end Go.Proofs.YtggnnidleedpaaaGreat
