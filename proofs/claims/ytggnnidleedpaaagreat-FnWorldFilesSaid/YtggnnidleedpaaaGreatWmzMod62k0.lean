/- Files that do not count are taken out: plain laws. -/
import Derived.Test.YtggnnidleedpaaaGreatWmzW70
open Go.Proofs.Tryz
set_option linter.unusedVariables false
set_option linter.unusedSimpArgs false
namespace Go.Proofs.YtggnnidleedpaaaGreat
theorem TQ {l:List Int}{n x:Int}{i:Nat}(h:(l.drop i).contains n=l.contains n) (hd:l.drop i=x::l.drop (i+1)) (hx:x≠n):(l.drop (i+1)).contains n=l.contains n:=by
 rw [hd,List.contains_cons,beq_eq_false_iff_ne.2 (fun e=>hx e.symm),Bool.false_or] at h
 exact h
theorem T6 {l:List Int}{n x:Int}{i:Nat}(h:(l.drop i).contains n=l.contains n) (hd:l.drop i=x::l.drop (i+1)) (hx:x=n):true=l.contains n:=by
 rw [← h,hd,hx]
 simp
theorem T7 {l:List Int}{n:Int}{i:Nat}(h:(l.drop i).contains n=l.contains n) (hi:l.length≤i):false=l.contains n:=by
 rw [← h,Ab hi]
 rfl
end Go.Proofs.YtggnnidleedpaaaGreat
namespace Go.Proofs.YtggnnidleedpaaaGreat
theorem DskV.QX {d:Dsk}(h:DskV d):(BM d).files.length=d.list.length:=by
 have h1:((BM d).files.map Fil.num).Nodup:=by
  unfold List.Nodup
  rw [List.pairwise_map]
  exact (h.asc.sublist List.filter_sublist).imp (fun hab=>by omega)
 have h2:∀ n∈(BM d).files.map Fil.num,n∈d.list:=fun n hn=>by
  obtain ⟨f,hf,rfl⟩:=List.mem_map.1 hn
  have:=(List.mem_filter.1 hf).2
  simpa using this
 have h3:∀ n∈d.list,n∈(BM d).files.map Fil.num:=fun n hn=>by
  obtain ⟨f,hf,rfl⟩:=h.at_ n hn
  exact List.mem_map.2 ⟨f,List.mem_filter.2 ⟨hf,by simpa using hn⟩,rfl⟩
 have a:=Hw _ _ h1 h2
 have b:=Hw _ _ h.nd h3
 rw [List.length_map] at a b
 omega
end Go.Proofs.YtggnnidleedpaaaGreat
namespace Go.Proofs.YtggnnidleedpaaaGreat
set_option maxRecDepth 100000
set_option maxHeartbeats 4000000
variable {w:World} {F:Nat→Prop} {a1:Option Addr} {n1 c1:Nat}
theorem Jm (list:List Int) (n:Int) (h1:RepS w F a1 n1 c1 list)  : Calls Tryz.prog 20 [.slice a1 n1 c1,.int .i64 n].toArray w (BB fun rv w'=>rv=.bool ((list.contains n))∧Ext w w'):=by
 refine goT func20 ?_
 obtain ⟨rfl,aj,h1⟩:=h1.tp
 refine .s<|.g<|.r 1<|.d<|.s<|.s<|.g<|.r 1<|.d<|.b 0<|T.loop (X:=Nat) 0 (fun i=>[(0,.slice a1 list.length c1),(1,vI n),(5,vI (i:Int))]) (fun i W=>Chg (ins []) w W∧(i≤list.length)∧((list.drop i).contains n=list.contains n)) (fun i=>list.length - i) AA ⟨AA,AA,AA,trivial⟩ ⟨Chg.refl _ _,AB,AF⟩ ?_
 rintro i ao W ⟨C,ak,al⟩ E
 have aa:Mv [] [] w W:=Mv.inl C all_nil all_nil
 replace h1:=(sp aa C).g1 h1
 have ab:Chg nil w W:=Chg.Cr (Chg.refl nil w) C all_nil
 refine .s<|.s<|.g<|.r 3<|.bp ((i:Int)< (list.length:Int)) (fun ac=>?_) (fun ac=>.d<|.cf<|.x 0 rfl<|.s<|.g<|.r 1<|.d<|.rt func20 results20 (.bool false) ⟨(AG (by exact T7 ‹_› AB)),ab⟩)
 refine .d<|.ct<|.sk<|.s<|.b 1<|.s<|.g<|.r 2 ?_
 have ae:i< list.length:=AB
 refine .ix i 1 h1 ae ?_
 obtain ⟨af,J⟩:∃ y,list[i]? = some y:=⟨_,AU AB⟩
 have am:=Ai J
 obtain ⟨_,rfl,ag⟩:=h1.elem i af J
 exact .lh 0 ag<|.r 1<|.eq af n (fun ah=>.d<|.ct<|.s<|.g<|.r 1<|.d<|.rt func20 results20 (.bool true) ⟨(AG (by exact T6 ‹_› ‹_› ‹_›)),ab⟩) fun ah=>.d<|.cf<|.sk<|.ib 1<|.g<|.r 1<|.it ((i:Int)+1)<|.r 1<|.d<|E (i+1) _ _ ⟨AA,AA,AA,trivial⟩ ⟨C,AB,(by exact TQ ‹_› ‹_› ‹_›)⟩ AB
end Go.Proofs.YtggnnidleedpaaaGreat
namespace Go.Proofs.YtggnnidleedpaaaGreat
section
variable {w:Wld}
theorem UG (h:WV w){i:Nat}{f:Fil}(hf:w.disk.files[i]? = some f):w.disk.list.contains f.num=true:=List.contains_iff_mem.2 (h.tf f (AV hf))
theorem UH (h:WV w){i:Nat}{f:Fil}(hf:w.disk.files[i]? = some f):¬ f.num≥w.disk.next:=by
 have:=h.v.file f (AV hf)
 omega
theorem SS (h:WV w):(w.disk.files.length:Int)=w.disk.list.length∧(w.disk.list.length:Int)=w.store.parts.length:=by
 have h1:=h.v.QX
 have e:(BM w.disk).files=w.disk.files:=by
  unfold BM
  rw [List.filter_eq_self]
  exact fun f hf=>List.contains_iff_mem.2 (h.tf f hf)
 rw [e] at h1
 refine ⟨by omega,?_⟩
 rw [h.p,List.length_map]
end
end Go.Proofs.YtggnnidleedpaaaGreat
namespace Go.Proofs.YtggnnidleedpaaaGreat
set_option maxRecDepth 100000
set_option maxHeartbeats 4000000
variable {w:World} {F:Nat→Prop} {a1:Option Addr} {n1 c1:Nat}
theorem GU (code:List UInt8) (h1:RepS w F a1 n1 c1 code)  : Calls Tryz.prog 4 [.slice a1 n1 c1].toArray w (BB fun rv w'=>rv=.bool (true)∧Ext w w'):=by
 refine goT func4 ?_
 obtain ⟨rfl,dO,h1⟩:=h1.tp
 refine .s<|.g<|.r 1<|.d<|.s<|.s<|.g<|.r 2<|.bp ((code.length:Int) > 1048576) (fun cm=>.d<|.ct<|.s<|.g<|.r 1<|.d<|.rt func4 results4 (.bool true) ⟨(AG AF),(Chg.refl _ _)⟩) fun cm=>.d<|.cf<|.sk<|.s<|.g<|.r 1<|.cl (C7 code h1 (w:=w) (F:=nin (fo F w.heap.size) [])) ?_
 rintro eN bF ⟨⟨C,⟨eO,eP,rfl,ai⟩,dP⟩,bt⟩
 have bu:∀ q_∈([]:List Nat),q_< w.heap.size:=all_nil
 have co:Gb w.heap.size w.heap.size:=(Nat.le_refl _)
 have E:=bt
 replace ai:=RepS.Af (M:=[]) ai bu co
 refine .r 1<|.d<|.s<|.g<|.r 1<|.cl (DB C ai (by have q1:EsD C:=‹_›; exact q1) (w:=bF) (F:=nin (fo F w.heap.size) [])) ?_
 rintro eQ eR ⟨⟨eS,rfl,⟨_,rfl,⟨cp,eT,cq,cr,eU,cu,cw,eV,cx,cy,eW,cz,cA,eX,cB,cC,eY,cD,cE,eZ,cF,rfl,ab,ac,ae,af,W,aa,ag⟩⟩⟩,bv⟩
 have aB:∀ q_∈([]:List Nat),q_< bF.heap.size:=all_nil
 have aJ:Gb w.heap.size bF.heap.size:=E.size
 replace ⟨ai,E⟩:=(se [] bv).g2 ai E
 replace ab:=RepS.Af (M:=[]) ab aB aJ
 have dR:=ab.max
 replace ac:=RepS.Af (M:=[]) ac aB aJ
 have dS:=ac.max
 replace ae:=RepS.Af (M:=[]) ae aB aJ
 have dT:=ae.max
 replace af:=RepS.Af (M:=[]) af aB aJ
 have dU:=af.max
 replace W:=RepS.Af (M:=[]) W aB aJ
 have dV:=W.max
 replace aa:=RepS.Af (M:=[]) aa aB aJ
 have dW:=aa.max
 replace ag:=RepS.Af (M:=[]) ag aB aJ
 have dX:=ag.max
 have cG:=ab.len
 subst cG
 have cH:=ac.len
 subst cH
 have cI:=ae.len
 subst cI
 have cJ:=af.len
 subst cJ
 have cK:=W.len
 subst cK
 have cL:=aa.len
 subst cL
 have cM:=ag.len
 subst cM
 refine .r 2 ?_
 cases dY:(Ac C).2
 ·refine .r 1<|.np 38 [AH,AH,AH,AH,AH,AH,AH,vI 0] fun al e7 aZ bw cN cO=>?_
  have dZ:=E.cn aZ
  replace ⟨ai,ab,ac,ae,af,W,aa,ag,E⟩:=(sn [] bw aZ).g9 ai ab ac ae af W aa ag E
  refine .sc [.slice cp ((Ac C).1.store.idx.names.length) cq,.slice cr ((((Ac C).1.store.idx).AY).length) cu,.slice cw ((Ac C).1.store.parts.length) cx,.slice cy ((Ac C).1.store.mem.length) cz,.slice cA ((Ac C).1.disk.files.length) cB,.slice cC ((Ac C).1.disk.list.length) cD,.slice cE ((Ac C).1.disk.names.length) cF,vI ((Ac C).1.disk.next)] cN fun cP bz ak cQ=>?_
  replace ⟨ai,ab,ac,ae,af,W,aa,ag,E⟩:=(so [al] bz).g9 ai ab ac ae af W aa ag E
  refine .r 1<|.d<|.s<|.g<|.r 1<|.cl (CU C ai (by have q1:EsD C:=‹_›; exact q1) (w:=cP) (F:=nin (fo F w.heap.size) [al])) ?_
  rintro e8 fa ⟨⟨d0,rfl,⟨_,rfl,⟨dB,fb,dC,cR,d3,cS,cT,d4,cU,cV,d5,cW,cX,d6,cY,cZ,d7,c7,c8,d8,c9,rfl,aK,am,ao,aq,ar,au,av⟩⟩⟩,bA⟩
  have aw:=al1 ak.lt
  have ay:Gb w.heap.size cP.heap.size:=E.size
  replace ⟨ai,ab,ac,ae,af,W,aa,ag,ak,E⟩:=(se [al] bA).g10 ai ab ac ae af W aa ag ak E
  replace aK:=RepS.Af (M:=[al]) aK aw ay
  replace am:=RepS.Af (M:=[al]) am aw ay
  replace ao:=RepS.Af (M:=[al]) ao aw ay
  replace aq:=RepS.Af (M:=[al]) aq aw ay
  replace ar:=RepS.Af (M:=[al]) ar aw ay
  replace au:=RepS.Af (M:=[al]) au aw ay
  replace av:=RepS.Af (M:=[al]) av aw ay
  have bG:=aK.len
  subst bG
  have bH:=am.len
  subst bH
  have bI:=ao.len
  subst bI
  have bJ:=aq.len
  subst bJ
  have bK:=ar.len
  subst bK
  have bL:=au.len
  subst bL
  have bM:=av.len
  subst bM
  refine .r 3<|.np 38 [AH,AH,AH,AH,AH,AH,AH,vI 0] fun aP d9 aL aQ bN bO=>?_
  have dD:=AX aL ak.lt
  have dE:=E.cn aL
  replace ⟨ai,ab,ac,ae,af,W,aa,ag,ak,aK,am,ao⟩:=(sn [al] aQ aL).g12 ai ab ac ae af W aa ag ak aK am ao
  replace ⟨aq,ar,au,av,E⟩:=(sn [al] aQ aL).g5 aq ar au av E
  refine .sc [.slice dB ((Ac C).1.store.idx.names.length) dC,.slice cR ((((Ac C).1.store.idx).AY).length) cS,.slice cT ((Ac C).1.store.parts.length) cU,.slice cV ((Ac C).1.store.mem.length) cW,.slice cX ((Ac C).1.disk.files.length) cY,.slice cZ ((Ac C).1.disk.list.length) c7,.slice c8 ((Ac C).1.disk.names.length) c9,vI ((Ac C).1.disk.next)] bN fun da aR aO bP=>?_
  replace ⟨ai,ab,ac,ae,af,W,aa,ag,ak,aK,am,ao⟩:=(so [aP,al] aR).g12 ai ab ac ae af W aa ag ak aK am ao
  replace ⟨aq,ar,au,av,E⟩:=(so [aP,al] aR).g5 aq ar au av E
  refine .r 1<|.d<|.s<|.s<|.g<|.r 2<|RG.eqv (v:=.bool ((Ac C).2)) (v':=.bool (false != ((Ac C).2))) AA AD ?_
  cases dF:(Ac C).2
  ·refine .r 1<|.ln ak<|.ln aO<|.cl (CH ((Ac C).1) ((Ac C).1) ab.ta ac.ta ae.ta af.ta W.ta aa.ta ag.ta aK.ta am.ta ao.ta aq.ta ar.ta au.ta av.ta (w:=da) (F:=all)) ?_
   rintro ec db ⟨rfl,aS⟩
   replace ⟨ai,ab,ac,ae,af,W,aa,ag,ak,aK,am,ao⟩:=(se [aP,al] aS).g12 ai ab ac ae af W aa ag ak aK am ao
   replace ⟨aq,ar,au,av,aO,E⟩:=(se [aP,al] aS).g6 aq ar au av aO E
   rw [show ((((Ac C).1)==((Ac C).1)))=true from beq_self_eq_true _]
   refine .r 6<|.d<|.ct<|.s<|.g<|.r 2<|RG.eqv (v:=.bool true) (v':=.bool (false==false)) AA AD<|.r 1<|.ln ak<|.ln aO<|.cl (CH ((Ac C).1) ((Ac C).1) ab.ta ac.ta ae.ta af.ta W.ta aa.ta ag.ta aK.ta am.ta ao.ta aq.ta ar.ta au.ta av.ta (w:=db) (F:=all)) ?_
   rintro ed ee ⟨rfl,ba⟩
   replace ⟨ai,ab,ac,ae,af,W,aa,ag,E⟩:=(se [aP,al] ba).g9 ai ab ac ae af W aa ag E
   rw [show ((((Ac C).1)==((Ac C).1)))=true from beq_self_eq_true _]
   exact .r 2<|.d<|.rt func4 results4 (.bool true) ⟨(AG AF),E⟩
  exact .r 10<|.d<|.ct<|.s<|.g<|.r 2<|RG.eqv (v:=.bool false) (v':=.bool (false==true)) AA AD<|.r 6<|.d<|.rt func4 results4 (.bool false) ⟨(AG (by exfalso; (simp_all; done))),E⟩
 refine .r 1<|.np 38 [AH,AH,AH,AH,AH,AH,AH,vI 0] fun ah ef aT bc bQ bR=>?_
 have dG:=E.cn aT
 replace ⟨ai,ab,ac,ae,af,W,aa,ag,E⟩:=(sn [] bc aT).g9 ai ab ac ae af W aa ag E
 refine .sc [.slice cp ((Ac C).1.store.idx.names.length) cq,.slice cr ((((Ac C).1.store.idx).AY).length) cu,.slice cw ((Ac C).1.store.parts.length) cx,.slice cy ((Ac C).1.store.mem.length) cz,.slice cA ((Ac C).1.disk.files.length) cB,.slice cC ((Ac C).1.disk.list.length) cD,.slice cE ((Ac C).1.disk.names.length) cF,vI ((Ac C).1.disk.next)] bQ fun bB bd J bS=>?_
 replace ⟨ai,ab,ac,ae,af,W,aa,ag,E⟩:=(so [ah] bd).g9 ai ab ac ae af W aa ag E
 refine .r 1<|.d<|.s<|.g<|.r 1<|.cl (CU C ai (by have q1:EsD C:=‹_›; exact q1) (w:=bB) (F:=nin (fo F w.heap.size) [ah])) ?_
 rintro eg eh ⟨⟨ej,rfl,⟨_,rfl,⟨de,ek,df,dg,en,dh,dj,et,dm,dp,ey,dq,dr,ez,dt,du,eA,dv,dw,eB,dx,rfl,aC,aD,aE,aF,aG,aH,aI⟩⟩⟩,bg⟩
 have ax:=al1 J.lt
 have az:Gb w.heap.size bB.heap.size:=E.size
 replace ⟨ab,ac,ae,af,W,aa,ag,J,E⟩:=(se [ah] bg).g9 ab ac ae af W aa ag J E
 replace aC:=RepS.Af (M:=[ah]) aC ax az
 replace aD:=RepS.Af (M:=[ah]) aD ax az
 replace aE:=RepS.Af (M:=[ah]) aE ax az
 replace aF:=RepS.Af (M:=[ah]) aF ax az
 replace aG:=RepS.Af (M:=[ah]) aG ax az
 replace aH:=RepS.Af (M:=[ah]) aH ax az
 replace aI:=RepS.Af (M:=[ah]) aI ax az
 have bT:=aC.len
 subst bT
 have bU:=aD.len
 subst bU
 have bV:=aE.len
 subst bV
 have bW:=aF.len
 subst bW
 have bX:=aG.len
 subst bX
 have bY:=aH.len
 subst bY
 have bZ:=aI.len
 subst bZ
 refine .r 3<|.np 38 [AH,AH,AH,AH,AH,AH,AH,vI 0] fun aN eC aM aU b0 b6=>?_
 have dH:=AX aM J.lt
 have dI:=E.cn aM
 replace ⟨ab,ac,ae,af,W,aa,ag,J,aC,aD,aE,aF⟩:=(sn [ah] aU aM).g12 ab ac ae af W aa ag J aC aD aE aF
 replace ⟨aG,aH,aI,E⟩:=(sn [ah] aU aM).g4 aG aH aI E
 refine .sc [.slice de ((Ac C).1.store.idx.names.length) df,.slice dg ((((Ac C).1.store.idx).AY).length) dh,.slice dj ((Ac C).1.store.parts.length) dm,.slice dp ((Ac C).1.store.mem.length) dq,.slice dr ((Ac C).1.disk.files.length) dt,.slice du ((Ac C).1.disk.list.length) dv,.slice dw ((Ac C).1.disk.names.length) dx,vI ((Ac C).1.disk.next)] b0 fun dy aV b7 b8=>?_
 replace ⟨ab,ac,ae,af,W,aa,ag,J,aC,aD,aE,aF⟩:=(so [aN,ah] aV).g12 ab ac ae af W aa ag J aC aD aE aF
 replace ⟨aG,aH,aI,E⟩:=(so [aN,ah] aV).g4 aG aH aI E
 refine .r 1<|.d<|.s<|.s<|.g<|.r 2<|RG.eqv (v:=.bool (!((Ac C).2))) (v':=.bool (true != ((Ac C).2))) AA AD ?_
 cases dJ:(Ac C).2
 ·exact .r 10<|.d<|.ct<|.s<|.g<|.r 2<|RG.eqv (v:=.bool false) (v':=.bool (true==false)) AA AD<|.r 6<|.d<|.rt func4 results4 (.bool false) ⟨(AG (by exfalso; (simp_all; done))),E⟩
 refine .r 1<|.ln J<|.ln b7<|.cl (CH ((Ac C).1) ((Ac C).1) ab.ta ac.ta ae.ta af.ta W.ta aa.ta ag.ta aC.ta aD.ta aE.ta aF.ta aG.ta aH.ta aI.ta (w:=dy) (F:=all)) ?_
 rintro eD bC ⟨rfl,bh⟩
 replace ⟨W,aa,J,E⟩:=(se [aN,ah] bh).g4 W aa J E
 rw [show ((((Ac C).1)==((Ac C).1)))=true from beq_self_eq_true _]
 refine .r 6<|.d<|.cf<|.sk<|.s<|.s<|.g<|.r 1<|.d<|.b 0<|T.loop (X:=Nat) 0 (fun k=>[(4,.pointer (some ⟨ah,0,none⟩)),(8,vI (k:Int))]) (fun k bi=>Chg (ins []) bC bi∧(k≤(Ac C).1.disk.files.length)) (fun k=>(Ac C).1.disk.files.length - k) AA ⟨AA,AA,trivial⟩ ⟨Chg.refl _ _,AB⟩ ?_
 rintro k eE bi ⟨aA,dK⟩ aY
 have bj:Mv [aN,ah] [aN,ah] bC bi:=Mv.inl aA all_nil (all_cons (.inl AI) (all_cons (.inl AJ) all_nil))
 replace ⟨W,aa,J,E⟩:=(sp bj aA).g4 W aa J E
 refine .s<|.s<|.g<|.r 3<|.lb J<|.r 1<|.bp ((k:Int)< (((Ac C).1.disk.files.length):Int)) (fun b9=>?_) (fun b9=>.d<|.cf<|.x 0 rfl<|.s<|.g<|.r 2<|.lb J<|.r 3<|.lb J<|.r 1<|.eq (((Ac C).1.disk.files.length):Int) (((Ac C).1.disk.list.length):Int) (fun cd=>.r 3<|.lb J<|.r 3<|.lb J<|.r 4<|.d<|.rt func4 results4 (.bool ((((Ac C).1.disk.list.length):Int)==(((Ac C).1.store.parts.length):Int))) ⟨(AG (by (have q1:EsD C:=‹_›; have q2:=SS (pv q1 ‹_›).1; rw [beq_iff_eq]; omega))),E⟩) fun cd=>.r 12<|.d<|.rt func4 results4 (.bool false) ⟨(AG (by exfalso; have q1:EsD C:=‹_›; (have q2:=SS (pv q1 ‹_›).1; omega))),E⟩)
 refine .d<|.ct<|.sk<|.s<|.b 1<|.s<|.gd nil 23 fun eF bk=>?_
 replace ⟨W,aa,J,E,aA⟩:=(se [aN,ah] bk).g5 W aa J E aA
 refine .r [0,1]<|.lb 2 J id<|.r [3,4]<|.lb 5 J id<|.r [6] ?_
 have bm:k< (Ac C).1.disk.files.length:=AB
 refine GA.idx (i:=7) k (len:=(Ac C).1.disk.files.length) (z:=(k:Int)) (sz:=3) AA AB bm (W.addr (Nat.zero_lt_of_lt bm))<|.r [8] ?_
 obtain ⟨aX,aW⟩:∃ y,((Ac C).1.disk.files)[k]? = some y:=⟨_,AU AB⟩
 obtain ⟨_,⟨eG,eH,eI,eJ,eK,eL,rfl,bD,bE⟩,bn⟩:=W.elem k aX aW
 have ce:=bD.len
 subst ce
 have cg:=bE.len
 subst cg
 refine .lh 9 0 bn id<|GA.Dt (i:=10) AA (fun dA ci=>Jm ((Ac C).1.disk.list) aX.num (aa.ta.ext ci) (w:=dA) (F:=all)) ?_
 have cj:((Ac C).1.disk.list.contains aX.num)=true:=(by have q1:EsD C:=‹_›; exact UG (pv q1 ‹_›).1 ‹_›)
 rw [cj]
 refine .r [11,12,13,14]<|.lb 15 J id<|.r [16] ?_
 have bo:k< (Ac C).1.disk.files.length:=AB
 refine GA.idx (i:=17) k (len:=(Ac C).1.disk.files.length) (z:=(k:Int)) (sz:=3) AA AB bo (W.addr (Nat.zero_lt_of_lt bo))<|.r [18]<|.lh 19 0 bn id<|.r [20,21]<|.lb 22 J id<|.d fun eM bq=>?_
 replace ⟨J,E,aA⟩:=(se [] bq).g3 J E aA
 exact .bp (aX.num≥(Ac C).1.disk.next) (fun ck=>.r 1<|.d<|.ct<|.s<|.g<|.r 1<|.d<|.rt func4 results4 (.bool false) ⟨(AG (by exfalso; have q1:EsD C:=‹_›; exact UH (pv q1 ‹_›).1 ‹_› ‹_›)),E⟩) fun ck=>.r 1<|.d<|.cf<|.sk<|.ib 1<|.g<|.r 1<|.it ((k:Int)+1)<|.r 1<|.d<|aY (k+1) _ _ ⟨AA,AA,trivial⟩ ⟨aA,AB⟩ AB
end Go.Proofs.YtggnnidleedpaaaGreat
