/- walks; pruned haves; hints pruned; squeezed -/
import Derived.Test.YtggnnidleedpaaaGreatWmzW70
open Go.Proofs.Tryz
set_option linter.unusedVariables false
set_option linter.unusedSimpArgs false
namespace Go.Proofs.YtggnnidleedpaaaGreat
set_option maxRecDepth 100000
set_option maxHeartbeats 4000000
variable {w:World} {F:Nat→Prop} {a1 a2 a3 a4 a5 a6 a7:Option Addr} {n1 c1 n2 c2 n3 c3 n4 c4 n5 c5 n6 c6 n7 c7:Nat}
theorem Jl (w_:Wld) (h1:RepS w F a1 n1 c1 w_.store.idx.names) (h2:RepS w F a2 n2 c2 w_.store.idx.AY) (h3:RepS w F a3 n3 c3 w_.store.parts) (h4:RepS w F a4 n4 c4 w_.store.mem) (h5:RepS w F a5 n5 c5 w_.disk.files) (h6:RepS w F a6 n6 c6 w_.disk.list) (h7:RepS w F a7 n7 c7 w_.disk.names) (p0:SG w_.store) (p1:DD w_.disk):Calls Tryz.prog 22 [.agg #[.slice a1 n1 c1,.slice a2 n2 c2,.slice a3 n3 c3,.slice a4 n4 c4,.slice a5 n5 c5,.slice a6 n6 c6,.slice a7 n7 c7,.int .i64 w_.disk.next]].toArray w (BB fun rv w'=>rv=.bool (CW w_.disk w_.store)∧Ext w w'):=by
 refine goT func22 ?_
 obtain ⟨rfl,ae,h1⟩:=h1.tp
 obtain ⟨rfl,af,h2⟩:=h2.tp
 obtain ⟨rfl,ag,h3⟩:=h3.tp
 obtain ⟨rfl,ah,h4⟩:=h4.tp
 obtain ⟨rfl,ai,h5⟩:=h5.tp
 obtain ⟨rfl,aj,h6⟩:=h6.tp
 obtain ⟨rfl,ak,h7⟩:=h7.tp
 refine .s<|.g<|.np 38 [.slice a1 w_.store.idx.names.length c1,.slice a2 w_.store.idx.AY.length c2,.slice a3 w_.store.parts.length c3,.slice a4 w_.store.mem.length c4,.slice a5 w_.disk.files.length c5,.slice a6 w_.disk.list.length c6,.slice a7 w_.disk.names.length c7,vI w_.disk.next] fun al ac J C W ab=>?_
 replace ⟨h1,h2,h3,h4,h5,h6,h7⟩:=(sn [] C J).g7 h1 h2 h3 h4 h5 h6 h7
 have E:=C
 refine .r 1<|.d<|.s<|.g<|.r 1<|.ln W<|.r 1<|.ln W<|.cl (F5 w_.store w_.disk h1.ta h2.ta h3.ta h4.ta h5.ta h6.ta h7.ta p0 p1 (w:=ac) (F:=all)) ?_
 rintro am ao ⟨rfl,aa⟩
 replace E:=(se [] aa).g1 E
 exact .r 1<|.d<|.rt func22 results22 (.bool (CW w_.disk w_.store)) ⟨(AG AF),E⟩
end Go.Proofs.YtggnnidleedpaaaGreat
namespace Go.Proofs.YtggnnidleedpaaaGreat
section
variable {w:Wld}
def MQ (p:Prt):Int:=if Az p then ((p.blocks.map List.length).sum:Nat) else -1
theorem R2 {p:Prt}(h:Az p=false):(-1:Int)=MQ p:=by unfold MQ; rw [if_neg (by simp [h])]
theorem Qh {bs:List (List Row)}{k:Nat}{b:List Row}{n:Int}(h:n=((bs.take k).map List.length).sum) (hb:bs[k]? = some b):n+(b.length:Int)=(((bs.take (k+1)).map List.length).sum:Nat):=by
 rw [List.take_add_one,hb,h]
 simp
theorem Qi {p:Prt}{k:Nat}{n:Int}(ho:Az p=true) (h:n=((p.blocks.take k).map List.length).sum) (hk:p.blocks.length≤k):n=MQ p:=by
 unfold MQ
 rw [if_pos ho,h,List.take_of_length_le hk]
theorem TU (bs:List (List Row)):∀ b∈bs,b.length≤(bs.map List.length).sum:=by
 induction bs with
 | nil=>intro b hb; cases hb
 | cons x xs ih =>
   intro b hb
   rw [List.map_cons,List.sum_cons]
   rcases List.mem_cons.1 hb with rfl | hb
   ·omega
   ·have:=ih b hb; omega
theorem TV (h:WV w){i:Nat}{p:Prt}(hp:w.store.parts[i]? = some p):¬ MQ p< 1:=by
 have hi:=(EB.1 h.k).2.2.1 p (AV hp)
 obtain ⟨id,_,_,_,hpos⟩:=Jf hi
 unfold MQ
 rw [if_pos (Dz hi)]
 rcases GG id p.ids p.blocks with h1 | h1
 ·unfold partOf at hpos; rw [h1] at hpos; simp at hpos
 ·have:=TU p.blocks _ h1
  unfold partOf at hpos
  omega
theorem LP (h:WV w):w.store.parts.length≤6∧w.store.mem.length≤20∧w.store.idx.names.length≤6:=⟨(EB.1 h.k).1,(EB.1 h.k).2.1,h.wd.wi.sto.nm.len⟩
end
end Go.Proofs.YtggnnidleedpaaaGreat
namespace Go.Proofs.YtggnnidleedpaaaGreat
set_option maxRecDepth 100000
set_option maxHeartbeats 4000000
variable {w:World} {F:Nat→Prop} {a1 a2:Option Addr} {n1 c1 n2 c2:Nat}
theorem Iq (p:Prt) (h1:RepS w F a1 n1 c1 p.ids) (h2:RepS w F a2 n2 c2 p.blocks) (p0:Ck p):Calls Tryz.prog 21 [.agg #[.slice a1 n1 c1,.slice a2 n2 c2]].toArray w (BB fun rv w'=>rv=.int .i64 (MQ p)∧Ext w w'):=by
 refine goT func21 ?_
 obtain ⟨rfl,aw,h1⟩:=h1.tp
 obtain ⟨rfl,ax,h2⟩:=h2.tp
 refine .s<|.g<|.np 48 [.slice a1 p.ids.length c1,.slice a2 p.blocks.length c2] fun ag av ac J E aj=>?_
 replace ⟨h1,h2⟩:=(sn [] J ac).g2 h1 h2
 have C:=J
 refine .r 1<|.d<|.s<|.s<|.g<|.ln E<|.cl (Cf p h1.ta h2.ta (w:=av) (F:=all)) ?_
 rintro aG ak ⟨rfl,ae⟩
 replace ⟨h2,E,C⟩:=(se [ag] ae).g3 h2 E C
 cases ay:(Az p)
 ·exact .r 1<|.d<|.ct<|.s<|.g<|.r 1<|.d<|.rt func21 results21 (vI (-1)) ⟨(congrArg (Value.int .i64) (by exact R2 ‹_›)),C⟩
 refine .r 1<|.d<|.cf<|.sk<|.s<|.g<|.r 1<|.d<|.s<|.s<|.g<|.r 1<|.lb E<|.r 2<|.d<|.b 0<|T.loop (X:=Int × Nat) (0,0) (fun (n,k)=>[(3,vI n),(10,.slice a2 p.blocks.length c2),(11,vI (p.blocks.length:Int)),(12,vI (k:Int))]) (fun (n,k) ah=>Chg (ins []) ak ah∧(k≤p.blocks.length)∧(n=((p.blocks.take k).map List.length).sum)∧(0≤n)∧(n≤1000 * k)) (fun (n,k)=>p.blocks.length - k) AA ⟨AA,AA,AA,AA,trivial⟩ ⟨Chg.refl _ _,AB,AF,AB,AB⟩ ?_
 rintro ⟨n,k⟩ aH ah ⟨W,az,aA,aB,aC⟩ aa
 have af:Mv [ag] [ag] ak ah:=Mv.inl W all_nil (all_cons (.inl AI) all_nil)
 replace ⟨h2,C⟩:=(sp af W).g2 h2 C
 refine .s<|.g<|.bp ((k:Int)< (p.blocks.length:Int)) (fun al=>?_) (fun al=>.d<|.s<|.cf<|.x 0 rfl<|.s<|.g<|.r 2<|.d<|.rt func21 results21 (vI n) ⟨(congrArg (Value.int .i64) (by exact Qi ‹_› ‹_› AB)),C⟩)
 refine .d<|.s<|.ct<|.sk<|.s<|.b 1<|.s<|.g ?_
 have am:k< p.blocks.length:=AB
 refine .ix k 1 h2 am ?_
 obtain ⟨ai,ab⟩:∃ y,p.blocks[k]? = some y:=⟨_,AU AB⟩
 have au:=AV ab
 obtain ⟨_,⟨aI,aJ,aK,rfl,ao⟩,aq⟩:=h2.elem k ai ab
 have ar:=ao.len
 subst ar
 have aE:=ao.max
 exact .lh 0 aq<|.r 1<|.d<|.g<|.r 3<|RG.int (n+(ai.length:Int)) AA (by have q1:=p0.2.2 _ ‹_›; have q2:=p0.2.1; omega)<|.r 1<|.d<|.ib 1<|.g<|RG.int ((k:Int)+1) AA (by have q1:=p0.2.2 _ ‹_›; have q2:=p0.2.1; omega)<|.r 1<|.d<|aa (n+(ai.length:Int),k+1) _ _ ⟨AA,AA,AA,AA,trivial⟩ ⟨W,AB,(by exact Qh ‹_› ‹_›),AB,(by have q1:=p0.2.2 _ ‹_›; omega)⟩ (by (simp only []; omega))
theorem GV (code:List UInt8) (h1:RepS w F a1 n1 c1 code)  : Calls Tryz.prog 5 [.slice a1 n1 c1].toArray w (BB fun rv w'=>rv=.bool (true)∧Ext w w'):=by
 refine goT func5 ?_
 obtain ⟨rfl,dN,h1⟩:=h1.tp
 refine .s<|.g<|.r 1<|.d<|.s<|.s<|.g<|.r 2<|.bp ((code.length:Int) > 1048576) (fun cm=>.d<|.ct<|.s<|.g<|.r 1<|.d<|.rt func5 results5 (.bool true) ⟨(AG AF),(Chg.refl _ _)⟩) fun cm=>.d<|.cf<|.sk<|.s<|.g<|.r 1<|.cl (C7 code h1 (w:=w) (F:=nin (fo F w.heap.size) [])) ?_
 rintro eO bD ⟨⟨C,⟨eP,eQ,rfl,ai⟩,dO⟩,br⟩
 have bt:∀ q_∈([]:List Nat),q_< w.heap.size:=all_nil
 have co:Gb w.heap.size w.heap.size:=(Nat.le_refl _)
 have E:=br
 replace ai:=RepS.Af (M:=[]) ai bt co
 refine .r 1<|.d<|.s<|.g<|.r 1<|.cl (DB C ai (by have q1:EsD C:=‹_›; exact q1) (w:=bD) (F:=nin (fo F w.heap.size) [])) ?_
 rintro eR eS ⟨⟨eT,rfl,⟨_,rfl,⟨cp,eU,cq,cr,eV,cu,cw,eW,cx,cy,eX,cz,cA,eY,cB,cC,eZ,cD,cE,e7,cF,rfl,aa,ab,W,ac,ae,af,ag⟩⟩⟩,bu⟩
 have aA:∀ q_∈([]:List Nat),q_< bD.heap.size:=all_nil
 have aI:Gb w.heap.size bD.heap.size:=E.size
 replace ⟨ai,E⟩:=(se [] bu).g2 ai E
 replace aa:=RepS.Af (M:=[]) aa aA aI
 have dQ:=aa.max
 replace ab:=RepS.Af (M:=[]) ab aA aI
 have dR:=ab.max
 replace W:=RepS.Af (M:=[]) W aA aI
 have dS:=W.max
 replace ac:=RepS.Af (M:=[]) ac aA aI
 have dT:=ac.max
 replace ae:=RepS.Af (M:=[]) ae aA aI
 have dU:=ae.max
 replace af:=RepS.Af (M:=[]) af aA aI
 have dV:=af.max
 replace ag:=RepS.Af (M:=[]) ag aA aI
 have dW:=ag.max
 have cG:=aa.len
 subst cG
 have cH:=ab.len
 subst cH
 have cI:=W.len
 subst cI
 have cJ:=ac.len
 subst cJ
 have cK:=ae.len
 subst cK
 have cL:=af.len
 subst cL
 have cM:=ag.len
 subst cM
 refine .r 2 ?_
 cases dX:(Ac C).2
 ·refine .r 1<|.np 38 [AH,AH,AH,AH,AH,AH,AH,vI 0] fun al e8 aZ bv cN cO=>?_
  have dY:=E.cn aZ
  replace ⟨ai,aa,ab,W,ac,ae,af,ag,E⟩:=(sn [] bv aZ).g9 ai aa ab W ac ae af ag E
  refine .sc [.slice cp ((Ac C).1.store.idx.names.length) cq,.slice cr ((((Ac C).1.store.idx).AY).length) cu,.slice cw ((Ac C).1.store.parts.length) cx,.slice cy ((Ac C).1.store.mem.length) cz,.slice cA ((Ac C).1.disk.files.length) cB,.slice cC ((Ac C).1.disk.list.length) cD,.slice cE ((Ac C).1.disk.names.length) cF,vI ((Ac C).1.disk.next)] cN fun cP bw ak cQ=>?_
  replace ⟨ai,aa,ab,W,ac,ae,af,ag,E⟩:=(so [al] bw).g9 ai aa ab W ac ae af ag E
  refine .r 1<|.d<|.s<|.g<|.r 1<|.cl (CU C ai (by have q1:EsD C:=‹_›; exact q1) (w:=cP) (F:=nin (fo F w.heap.size) [al])) ?_
  rintro fa fb ⟨⟨dZ,rfl,⟨_,rfl,⟨dA,fc,dB,cR,d0,cS,cT,d3,cU,cV,d4,cW,cX,d5,cY,cZ,d6,c7,c8,d7,c9,rfl,aJ,am,ao,aq,ar,au,av⟩⟩⟩,bz⟩
  have aw:=al1 ak.lt
  have ay:Gb w.heap.size cP.heap.size:=E.size
  replace ⟨ai,aa,ab,W,ac,ae,af,ag,ak,E⟩:=(se [al] bz).g10 ai aa ab W ac ae af ag ak E
  replace aJ:=RepS.Af (M:=[al]) aJ aw ay
  replace am:=RepS.Af (M:=[al]) am aw ay
  replace ao:=RepS.Af (M:=[al]) ao aw ay
  replace aq:=RepS.Af (M:=[al]) aq aw ay
  replace ar:=RepS.Af (M:=[al]) ar aw ay
  replace au:=RepS.Af (M:=[al]) au aw ay
  replace av:=RepS.Af (M:=[al]) av aw ay
  have bE:=aJ.len
  subst bE
  have bF:=am.len
  subst bF
  have bG:=ao.len
  subst bG
  have bH:=aq.len
  subst bH
  have bI:=ar.len
  subst bI
  have bJ:=au.len
  subst bJ
  have bK:=av.len
  subst bK
  refine .r 3<|.np 38 [AH,AH,AH,AH,AH,AH,AH,vI 0] fun aP d8 aK aR bL bM=>?_
  have dC:=AX aK ak.lt
  have dD:=E.cn aK
  replace ⟨ai,aa,ab,W,ac,ae,af,ag,ak,aJ,am,ao⟩:=(sn [al] aR aK).g12 ai aa ab W ac ae af ag ak aJ am ao
  replace ⟨aq,ar,au,av,E⟩:=(sn [al] aR aK).g5 aq ar au av E
  refine .sc [.slice dA ((Ac C).1.store.idx.names.length) dB,.slice cR ((((Ac C).1.store.idx).AY).length) cS,.slice cT ((Ac C).1.store.parts.length) cU,.slice cV ((Ac C).1.store.mem.length) cW,.slice cX ((Ac C).1.disk.files.length) cY,.slice cZ ((Ac C).1.disk.list.length) c7,.slice c8 ((Ac C).1.disk.names.length) c9,vI ((Ac C).1.disk.next)] bL fun da aS aO bN=>?_
  replace ⟨ai,aa,ab,W,ac,ae,af,ag,ak,aJ,am,ao⟩:=(so [aP,al] aS).g12 ai aa ab W ac ae af ag ak aJ am ao
  replace ⟨aq,ar,au,av,E⟩:=(so [aP,al] aS).g5 aq ar au av E
  refine .r 1<|.d<|.s<|.s<|.g<|.r 2<|RG.eqv (v:=.bool ((Ac C).2)) (v':=.bool (false != ((Ac C).2))) AA AD ?_
  cases dE:(Ac C).2
  ·refine .r 1<|.ln ak<|.ln aO<|.cl (CH ((Ac C).1) ((Ac C).1) aa.ta ab.ta W.ta ac.ta ae.ta af.ta ag.ta aJ.ta am.ta ao.ta aq.ta ar.ta au.ta av.ta (w:=da) (F:=all)) ?_
   rintro d9 db ⟨rfl,aT⟩
   replace ⟨ai,aa,ab,W,ac,ae,af,ag,ak,aJ,am,ao⟩:=(se [aP,al] aT).g12 ai aa ab W ac ae af ag ak aJ am ao
   replace ⟨aq,ar,au,av,aO,E⟩:=(se [aP,al] aT).g6 aq ar au av aO E
   rw [show ((((Ac C).1)==((Ac C).1)))=true from beq_self_eq_true _]
   refine .r 6<|.d<|.ct<|.s<|.g<|.r 2<|RG.eqv (v:=.bool true) (v':=.bool (false==false)) AA AD<|.r 1<|.ln ak<|.ln aO<|.cl (CH ((Ac C).1) ((Ac C).1) aa.ta ab.ta W.ta ac.ta ae.ta af.ta ag.ta aJ.ta am.ta ao.ta aq.ta ar.ta au.ta av.ta (w:=db) (F:=all)) ?_
   rintro ec ed ⟨rfl,ba⟩
   replace ⟨ai,aa,ab,W,ac,ae,af,ag,E⟩:=(se [aP,al] ba).g9 ai aa ab W ac ae af ag E
   rw [show ((((Ac C).1)==((Ac C).1)))=true from beq_self_eq_true _]
   exact .r 2<|.d<|.rt func5 results5 (.bool true) ⟨(AG AF),E⟩
  exact .r 10<|.d<|.ct<|.s<|.g<|.r 2<|RG.eqv (v:=.bool false) (v':=.bool (false==true)) AA AD<|.r 6<|.d<|.rt func5 results5 (.bool false) ⟨(AG (by exfalso; (simp_all; done))),E⟩
 refine .r 1<|.np 38 [AH,AH,AH,AH,AH,AH,AH,vI 0] fun ah ee aU bc bO bP=>?_
 have dF:=E.cn aU
 replace ⟨ai,aa,ab,W,ac,ae,af,ag,E⟩:=(sn [] bc aU).g9 ai aa ab W ac ae af ag E
 refine .sc [.slice cp ((Ac C).1.store.idx.names.length) cq,.slice cr ((((Ac C).1.store.idx).AY).length) cu,.slice cw ((Ac C).1.store.parts.length) cx,.slice cy ((Ac C).1.store.mem.length) cz,.slice cA ((Ac C).1.disk.files.length) cB,.slice cC ((Ac C).1.disk.list.length) cD,.slice cE ((Ac C).1.disk.names.length) cF,vI ((Ac C).1.disk.next)] bO fun bB bd J bQ=>?_
 replace ⟨ai,aa,ab,W,ac,ae,af,ag,E⟩:=(so [ah] bd).g9 ai aa ab W ac ae af ag E
 refine .r 1<|.d<|.s<|.g<|.r 1<|.cl (CU C ai (by have q1:EsD C:=‹_›; exact q1) (w:=bB) (F:=nin (fo F w.heap.size) [ah])) ?_
 rintro ef eg ⟨⟨eh,rfl,⟨_,rfl,⟨de,ej,df,dg,ek,dh,dj,en,dm,dp,et,dq,dr,ey,dt,du,ez,dv,dw,eA,dx,rfl,aB,aC,aD,aE,aF,aG,aH⟩⟩⟩,bg⟩
 have ax:=al1 J.lt
 have az:Gb w.heap.size bB.heap.size:=E.size
 replace ⟨aa,ab,W,ac,ae,af,ag,J,E⟩:=(se [ah] bg).g9 aa ab W ac ae af ag J E
 replace aB:=RepS.Af (M:=[ah]) aB ax az
 replace aC:=RepS.Af (M:=[ah]) aC ax az
 replace aD:=RepS.Af (M:=[ah]) aD ax az
 replace aE:=RepS.Af (M:=[ah]) aE ax az
 replace aF:=RepS.Af (M:=[ah]) aF ax az
 replace aG:=RepS.Af (M:=[ah]) aG ax az
 replace aH:=RepS.Af (M:=[ah]) aH ax az
 have bR:=aB.len
 subst bR
 have bS:=aC.len
 subst bS
 have bT:=aD.len
 subst bT
 have bU:=aE.len
 subst bU
 have bV:=aF.len
 subst bV
 have bW:=aG.len
 subst bW
 have bX:=aH.len
 subst bX
 refine .r 3<|.np 38 [AH,AH,AH,AH,AH,AH,AH,vI 0] fun aN eB aL aV bY bZ=>?_
 have dG:=AX aL J.lt
 have dH:=E.cn aL
 replace ⟨aa,ab,W,ac,ae,af,ag,J,aB,aC,aD,aE⟩:=(sn [ah] aV aL).g12 aa ab W ac ae af ag J aB aC aD aE
 replace ⟨aF,aG,aH,E⟩:=(sn [ah] aV aL).g4 aF aG aH E
 refine .sc [.slice de ((Ac C).1.store.idx.names.length) df,.slice dg ((((Ac C).1.store.idx).AY).length) dh,.slice dj ((Ac C).1.store.parts.length) dm,.slice dp ((Ac C).1.store.mem.length) dq,.slice dr ((Ac C).1.disk.files.length) dt,.slice du ((Ac C).1.disk.list.length) dv,.slice dw ((Ac C).1.disk.names.length) dx,vI ((Ac C).1.disk.next)] bY fun dy aW b0 b6=>?_
 replace ⟨aa,ab,W,ac,ae,af,ag,J,aB,aC,aD,aE⟩:=(so [aN,ah] aW).g12 aa ab W ac ae af ag J aB aC aD aE
 replace ⟨aF,aG,aH,E⟩:=(so [aN,ah] aW).g4 aF aG aH E
 refine .r 1<|.d<|.s<|.s<|.g<|.r 2<|RG.eqv (v:=.bool (!((Ac C).2))) (v':=.bool (true != ((Ac C).2))) AA AD ?_
 cases dI:(Ac C).2
 ·exact .r 10<|.d<|.ct<|.s<|.g<|.r 2<|RG.eqv (v:=.bool false) (v':=.bool (true==false)) AA AD<|.r 6<|.d<|.rt func5 results5 (.bool false) ⟨(AG (by exfalso; (simp_all; done))),E⟩
 refine .r 1<|.ln J<|.ln b0<|.cl (CH ((Ac C).1) ((Ac C).1) aa.ta ab.ta W.ta ac.ta ae.ta af.ta ag.ta aB.ta aC.ta aD.ta aE.ta aF.ta aG.ta aH.ta (w:=dy) (F:=all)) ?_
 rintro eC bC ⟨rfl,bh⟩
 replace ⟨aa,ab,W,ac,ae,af,ag,J,E⟩:=(se [aN,ah] bh).g9 aa ab W ac ae af ag J E
 rw [show ((((Ac C).1)==((Ac C).1)))=true from beq_self_eq_true _]
 refine .r 6<|.d<|.cf<|.sk<|.s<|.s<|.g<|.r 1<|.d<|.b 0<|T.loop (X:=Nat) 0 (fun k=>[(4,.pointer (some ⟨ah,0,none⟩)),(8,vI (k:Int))]) (fun k aQ=>Chg (ins []) bC aQ∧(k≤(Ac C).1.store.parts.length)) (fun k=>(Ac C).1.store.parts.length - k) AA ⟨AA,AA,trivial⟩ ⟨Chg.refl _ _,AB⟩ ?_
 rintro k eD aQ ⟨aM,dJ⟩ aY
 have bi:Mv [aN,ah] [aN,ah] bC aQ:=Mv.inl aM all_nil (all_cons (.inl AI) (all_cons (.inl AJ) all_nil))
 replace ⟨aa,ab,W,ac,ae,af,ag,J,E⟩:=(sp bi aM).g9 aa ab W ac ae af ag J E
 refine .s<|.s<|.g<|.r 3<|.lb J<|.r 1<|.bp ((k:Int)< (((Ac C).1.store.parts.length):Int)) (fun b7=>?_) (fun b7=>?_)
 ·refine .d<|.ct<|.sk<|.s<|.b 1<|.s<|.g<|.r 2<|.lb J<|.r 1 ?_
  have bj:k< (Ac C).1.store.parts.length:=AB
  refine RG.idx k (len:=(Ac C).1.store.parts.length) (i:=(k:Int)) (sz:=2) AA AB bj (W.addr (Nat.zero_lt_of_lt bj)) ?_
  obtain ⟨bk,aX⟩:∃ y,((Ac C).1.store.parts)[k]? = some y:=⟨_,AU AB⟩
  have dz:=AV aX
  obtain ⟨_,⟨eE,eF,eG,eH,eI,eJ,rfl,bm,bn⟩,b8⟩:=W.elem k bk aX
  have b9:=bm.len
  subst b9
  have cd:=bn.len
  subst cd
  refine .lg 0 b8<|.cl (Iq bk bm.ta bn.ta (by have q1:EsD C:=‹_›; exact (WV.sd (pv q1 ‹_›).1).part _ ‹_› |>.sz) (w:=aQ) (F:=all)) ?_
  rintro eK eL ⟨rfl,bo⟩
  replace ⟨aa,ab,W,ac,ae,af,ag,J,E,aM⟩:=(se [aN,ah] bo).g10 aa ab W ac ae af ag J E aM
  exact .bp (MQ bk< 1) (fun ce=>.d<|.ct<|.s<|.g<|.r 1<|.d<|.rt func5 results5 (.bool false) ⟨(AG (by exfalso; have q1:EsD C:=‹_›; exact TV (pv q1 ‹_›).1 ‹_› ‹_›)),E⟩) fun ce=>.d<|.cf<|.sk<|.ib 1<|.g<|.r 1<|.it ((k:Int)+1)<|.r 1<|.d<|aY (k+1) _ _ ⟨AA,AA,trivial⟩ ⟨aM,AB⟩ AB
 refine .d<|.cf<|.x 0 rfl<|.s<|.g<|.r 2<|.lb J<|.r 1<|.bp ((((Ac C).1.store.parts.length):Int)≤6) (fun cg=>?_) (fun cg=>.r 20<|.d<|.rt func5 results5 (.bool false) ⟨(AG (by exfalso; have q1:EsD C:=‹_›; (have q2:=LP (pv q1 ‹_›).1; omega))),E⟩)
 refine .r 3<|.lb J<|.r 1<|.bp ((((Ac C).1.store.mem.length):Int)≤20) (fun ci=>?_) (fun ci=>.r 14<|.d<|.rt func5 results5 (.bool false) ⟨(AG (by exfalso; have q1:EsD C:=‹_›; (have q2:=LP (pv q1 ‹_›).1; omega))),E⟩)
 refine .r 5<|.lb J<|.r 1<|.bp ((((Ac C).1.store.idx.names.length):Int)≤6) (fun cj=>?_) (fun cj=>.r 6<|.d<|.rt func5 results5 (.bool false) ⟨(AG (by exfalso; have q1:EsD C:=‹_›; (have q2:=LP (pv q1 ‹_›).1; omega))),E⟩)
 refine .r 2<|.ln J<|.cl (Jl ((Ac C).1) aa.ta ab.ta W.ta ac.ta ae.ta af.ta ag.ta (by have q1:EsD C:=‹_›; exact SG.of (WV.sd (pv q1 ‹_›).1)) (by have q1:EsD C:=‹_›; exact WV.dd (pv q1 ‹_›).1) (w:=aQ) (F:=all)) ?_
 rintro eM eN ⟨rfl,bq⟩
 replace E:=(se [] bq).g1 E
 have ck:(CW (Ac C).1.disk (Ac C).1.store)=true:=(by have q1:EsD C:=‹_›; exact WV.fits (pv q1 ‹_›).1)
 rw [ck]
 exact .r 2<|.d<|.rt func5 results5 (.bool true) ⟨(AG AF),E⟩
end Go.Proofs.YtggnnidleedpaaaGreat
