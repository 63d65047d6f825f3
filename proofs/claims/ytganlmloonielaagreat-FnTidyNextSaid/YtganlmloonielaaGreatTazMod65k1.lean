/- The laws on drawn disks: plain laws. -/
import Derived.Test.YtganlmloonielaaGreatTazMod42k14
import Derived.Test.YtganlmloonielaaGreatTazMod61k2
set_option linter.unusedVariables false
set_option linter.unusedSimpArgs false
namespace Go.Proofs.YtganlmloonielaaGreat
section
variable {d:Dsk}
theorem Vx (h:Af d=true) {i:Nat} {f:Fil} (hf:d.files[i]? = some f) (hg:f.num≥d.next):False:=by
 have:=(CV.1 h).file f (AQ hf)
 omega
theorem Vy (hd:DD d) (h:Af d=true) {x:Stp} (h0:¬ ((AT (BN d) 0).length:Int)=0) (hx:(AT (BN d) 0)[0]? = some x):x.num=d.next:=by
 obtain ⟨u,w,q,e,_⟩:=MgD.of (G1 hd) h0
 rw [e,q.e] at hx
 cases hx
 exact MD h
end
end Go.Proofs.YtganlmloonielaaGreat
namespace Go.Proofs.YtganlmloonielaaGreat
set_option maxRecDepth 100000
set_option maxHeartbeats 4000000
theorem IS (code:List UInt8) {w:World} {F:Nat→Prop} {a1:Option Addr} {n1 c1:Nat} (h1:RepS w F a1 n1 c1 code)  : Calls Tryz.prog 8 [.slice a1 n1 c1].toArray w (As fun rv w'=>rv=.bool (true)∧Ext w w'):=by
 refine goT Tryz.func8 ?_
 obtain ⟨rfl,cU,h1⟩:=h1.tp
 refine .s<|.g<|.r 1<|.d<|.s<|.s<|.g<|.r 2<|.bp ((code.length:Int) > 1048576) (fun bY=>.d<|.ct<|.s<|.g<|.r 1<|.d<|.rt Tryz.func8 Tryz.results8 (.bool true) ⟨(congrArg Value.bool (by rfl)),(Chg.refl _ _)⟩) fun bY=>.d<|.cf<|.sk<|.s<|.g<|.r 1<|.cl (Ek code h1 (w:=w) (F:=nin (fo F w.heap.size) [])) ?_
 rintro ef eg ⟨⟨W,⟨_,rfl,⟨cx,eh,cy,cz,ej,cA,cB,ek,cC,rfl,O,ae,af⟩⟩,cV⟩,bh⟩
 have aF:∀ q_∈([]:List Nat),q_< w.heap.size:=all_nil
 have aJ:Gb w.heap.size w.heap.size:=(Nat.le_refl _)
 have C:=bh
 replace O:=RepS.Aa (M:=[]) O aF aJ
 have cW:=O.max
 replace ae:=RepS.Aa (M:=[]) ae aF aJ
 have cX:=ae.max
 replace af:=RepS.Aa (M:=[]) af aF aJ
 have cY:=af.max
 have bZ:=O.len
 subst bZ
 have b0:=ae.len
 subst b0
 have b6:=af.len
 subst b6
 refine .np 27 [.slice none 0 0,.slice none 0 0,.slice none 0 0,vI 0] fun ag en aK bi b7 b8=>?_
 have cZ:=C.cn aK
 replace ⟨O,ae,af,C⟩:=(sn [] bi aK).g4 O ae af C
 refine .sc [.slice cx W.files.length cy,.slice cz W.list.length cA,.slice cB W.names.length cC,vI W.next] b7 fun b9 bj E cd=>?_
 replace ⟨O,ae,af,C⟩:=(so [ag] bj).g4 O ae af C
 refine .d<|.s<|.g<|.ln E<|.cl (Dg W O.ta ae.ta af.ta (by have q1:DD W:=‹_›; with_reducible exact q1) (w:=b9) (F:=all)) ?_
 rintro et ey ⟨⟨_,rfl,⟨cD,ez,cE,cF,eA,cG,cH,eB,cI,rfl,aa,ab,ac⟩⟩,bk⟩
 have aG:=al1 E.lt
 have aL:Gb w.heap.size b9.heap.size:=C.size
 replace ⟨O,ae,af,E,C⟩:=(se [ag] bk).g5 O ae af E C
 have aa:=aa.fr aG aL
 replace aa:=aa.base (G':=fo F w.heap.size) (fun _ _ h=>.inr h)
 have c7:=aa.max
 have ab:=ab.fr aG aL
 replace ab:=ab.base (G':=fo F w.heap.size) (fun _ _ h=>.inr h)
 have c8:=ab.max
 have ac:=ac.fr aG aL
 replace ac:=ac.base (G':=fo F w.heap.size) (fun _ _ h=>.inr h)
 have c9:=ac.max
 have ce:=aa.len
 subst ce
 have cg:=ab.len
 subst cg
 have ci:=ac.len
 subst ci
 refine .np 27 [.slice none 0 0,.slice none 0 0,.slice none 0 0,vI 0] fun ah eC aH bm cj ck=>?_
 have da:=AS aH E.lt
 have db:=C.cn aH
 replace ⟨O,ae,af,E,aa,ab,ac,C⟩:=(sn [ag] bm aH).g8 O ae af E aa ab ac C
 refine .sc [.slice cD (((BN W).files).length) cE,.slice cF (((BN W).list).length) cG,.slice cH (((BN W).names).length) cI,vI ((BN W).next)] cj fun eD bn J cm=>?_
 replace ⟨O,ae,af,E,aa,ab,ac,C⟩:=(so [ah,ag] bn).g8 O ae af E aa ab ac C
 refine .d<|.s<|.s<|.gd nil 3 fun eE bo=>?_
 replace ⟨O,ae,af,E,aa,ab,ac,J,C⟩:=(se [ah,ag] bo).g9 O ae af E aa ab ac J C
 refine .ln 0 J id<|.ln 1 E id<|.go 2<|.cl (fun bD ak=>Dh W (O.ext ak) (ae.ext ak) (af.ext ak) (by have q1:DD W:=‹_›; with_reducible exact q1) (w:=bD) (F:=nin (fo F w.heap.size) [ah,ag])) ?_
 intro bD ak
 replace ⟨O,ae,af,E,aa,ab,ac,J,C⟩:=(se [ah,ag] ak).g9 O ae af E aa ab ac J C
 rintro de df ⟨⟨_,rfl,⟨dg,dh,dj,dm,dp,dq,dr,dt,du,rfl,ao,aq,ar⟩⟩,az⟩
 have ax:=al2 J.lt E.lt
 have aA:Gb w.heap.size bD.heap.size:=C.size
 have hkeep_:=az
 replace ⟨O,ae,af,E,aa,ab,ac,J,C⟩:=(se [ah,ag] az).g9 O ae af E aa ab ac J C
 refine ⟨Ext.chg hkeep_,?_⟩
 replace ao:=RepS.Aa (M:=[ah,ag]) ao ax aA
 replace aq:=RepS.Aa (M:=[ah,ag]) aq ax aA
 replace ar:=RepS.Aa (M:=[ah,ag]) ar ax aA
 have bE:=ao.len
 subst bE
 have bF:=aq.len
 subst bF
 have bG:=ar.len
 subst bG
 refine .d fun co aM=>?_
 replace ⟨O,ae,af,E,aa,ab,ac,J,ao,aq,ar,C⟩:=(se [ah,ag] aM).g12 O ae af E aa ab ac J ao aq ar C
 refine .cl (By (BN W) (BN W) aa.ta ab.ta ac.ta ao.ta aq.ta ar.ta (w:=co) (F:=all)) ?_
 rintro dv cp ⟨rfl,aN⟩
 replace ⟨O,ae,af,E,aa,ab,ac,J,C⟩:=(se [ah,ag] aN).g9 O ae af E aa ab ac J C
 rw [show (((BN W)==(BN W)))=true from beq_self_eq_true _]
 refine .r 2<|.ln E<|.cl (CF W O.ta ae.ta af.ta (by have q1:DD W:=‹_›; with_reducible exact q1) (w:=cp) (F:=all)) ?_
 rintro dw bq ⟨rfl,aO⟩
 replace ⟨O,ae,af,E,aa,ab,ac,J,C⟩:=(se [ah,ag] aO).g9 O ae af E aa ab ac J C
 cases cJ:(Af W)
 ·refine .r 2<|.d<|.ct<|.s<|.gd nil 3 fun dx aP=>?_
  replace ⟨O,ae,af,E,aa,ab,ac,J,C⟩:=(se [ah,ag] aP).g9 O ae af E aa ab ac J C
  refine .ln 0 J id<|.ln 1 E id<|.go 2<|.cl (fun aQ al=>Dh W (O.ext al) (ae.ext al) (af.ext al) (by have q1:DD W:=‹_›; with_reducible exact q1) (w:=aQ) (F:=nin (fo F w.heap.size) [ah,ag])) ?_
  intro aQ al
  replace ⟨O,E,aa,ab,ac,J,C⟩:=(se [ah,ag] al).g7 O E aa ab ac J C
  rintro dy dz ⟨⟨_,rfl,⟨dA,dB,dC,dD,dE,dF,dG,dH,dI,rfl,au,av,aw⟩⟩,aB⟩
  have ay:=al2 J.lt E.lt
  have aC:Gb w.heap.size aQ.heap.size:=C.size
  have hkeep_:=aB
  replace ⟨O,E,aa,ab,ac,J,C⟩:=(se [ah,ag] aB).g7 O E aa ab ac J C
  refine ⟨Ext.chg hkeep_,?_⟩
  replace au:=RepS.Aa (M:=[ah,ag]) au ay aC
  replace av:=RepS.Aa (M:=[ah,ag]) av ay aC
  replace aw:=RepS.Aa (M:=[ah,ag]) aw ay aC
  have bH:=au.len
  subst bH
  have bI:=av.len
  subst bI
  have bJ:=aw.len
  subst bJ
  refine .d fun cq aR=>?_
  replace ⟨O,E,aa,ab,ac,J,au,av,aw,C⟩:=(se [ah,ag] aR).g10 O E aa ab ac J au av aw C
  refine .cl (By (BN W) (BN W) aa.ta ab.ta ac.ta au.ta av.ta aw.ta (w:=cq) (F:=all)) ?_
  rintro dJ dK ⟨rfl,aS⟩
  replace ⟨O,E,aa,ab,ac,J,C⟩:=(se [ah,ag] aS).g7 O E aa ab ac J C
  rw [show (((BN W)==(BN W)))=true from beq_self_eq_true _]
  exact .r 1<|.d<|.rt Tryz.func8 Tryz.results8 (.bool true) ⟨(congrArg Value.bool (by rfl)),C⟩
 refine .r 2<|.d<|.cf<|.sk<|.s<|.g<|.ln J<|.cl (EB (BN W) 0 aa.ta ab.ta ac.ta (by have q1:DD W:=‹_›; with_reducible exact (G1 q1)) (w:=bq) (F:=all)) ?_
 rintro dL br ⟨⟨cr,cu,rfl,ai⟩,aT⟩
 have aU:=al2 J.lt E.lt
 have bK:Gb w.heap.size bq.heap.size:=C.size
 replace ⟨O,E,J,C⟩:=(se [ah,ag] aT).g4 O E J C
 have ai:=ai.fr aU bK
 replace ai:=ai.base (G':=fo F w.heap.size) (fun _ _ h=>.inr h)
 have cK:=ai.max
 refine .r 1<|.d<|.s<|.s<|.g<|.r 1<|.d<|.b 0<|T.loop (X:=Nat) 0 (fun k=>[(3,.pointer (some ⟨ag,0,none⟩)),(4,.pointer (some ⟨ah,0,none⟩)),(5,.slice cr ((AT (BN W) 0).length) cu),(6,vI (k:Int))]) (fun k aV=>Chg (ins []) br aV∧(k≤W.files.length)) (fun k=>W.files.length - k) AA ⟨AA,AA,AA,AA,trivial⟩ ⟨Chg.refl _ _,AB⟩ ?_
 rintro k dM aV ⟨aj,cL⟩ aI
 have aW:Mv [ah,ag] [ah,ag] br aV:=Mv.inl aj all_nil (all_cons (.inl AD) (all_cons (.inl AE) all_nil))
 replace ⟨O,E,J,ai,C⟩:=(sp aW aj).g5 O E J ai C
 refine .s<|.s<|.g<|.r 2<|.lb E<|.r 1<|.bp ((k:Int)< (W.files.length:Int)) (fun bL=>?_) (fun bL=>?_)
 ·refine .d<|.ct<|.sk<|.s<|.b 1<|.s<|.gd nil 8 fun dN aX=>?_
  replace ⟨O,E,J,ai,C,aj⟩:=(se [ah,ag] aX).g6 O E J ai C aj
  refine .r [0]<|.lb 1 E id<|.r [2] ?_
  have bM:k< W.files.length:=AB
  refine .ix 3 k 3 O bM<|.r [4] ?_
  obtain ⟨bt,aD⟩:∃ y,W.files[k]? = some y:=⟨_,AP AB⟩
  have cM:=AX aD; have cv:=AQ aD
  obtain ⟨_,⟨dO,dP,dQ,dR,dS,dT,rfl,bu,bv⟩,bN⟩:=O.elem k bt aD
  have bO:=bu.len
  subst bO
  have cN:=bu.max
  have bP:=bv.len
  subst bP
  have cO:=bv.max
  refine .lh 5 0 bN id<|.r [6]<|.lb 7 E id<|.d fun dU aY=>?_
  replace ⟨E,J,ai,C,aj⟩:=(se [ah,ag] aY).g5 E J ai C aj
  exact .bp (bt.num≥W.next) (fun bQ=>.d<|.ct<|.s<|.g<|.r 1<|.d<|.rt Tryz.func8 Tryz.results8 (.bool false) ⟨(congrArg Value.bool (by exfalso; exact Vx (by with_reducible assumption:Af W=true) ‹_› ‹_›)),C⟩) fun bQ=>.d<|.cf<|.sk<|.ib 1<|.g<|.r 1<|.it ((k:Int)+1)<|.r 1<|.d<|aI (k+1) _ _ ⟨AA,AA,AA,AA,trivial⟩ ⟨aj,AB⟩ AB
 refine .d<|.cf<|.x 0 rfl<|.s<|.gd nil 16 fun dV aZ=>?_
 replace ⟨E,J,ai,C⟩:=(se [ah,ag] aZ).g4 E J ai C
 refine .r [0]<|.lb 1 J id<|.r [2]<|.lb 3 E id<|GA.eqI (i:=4) (a:=(BN W).next) (b:=W.next) AA (fun bR=>?_) (fun bR=>?_)
 ·refine .r [5,6,7]<|GA.eqI (i:=8) (a:=(((AT (BN W) 0).length):Int)) (b:=0) AA (fun bS=>?_) (fun bS=>?_)
  ·refine .r [9]<|GA.skip AA fun dW ba=>?_
   replace ⟨E,ai,C⟩:=(se [ah,ag] ba).g3 E ai C
   exact .r 4<|.d<|.rt Tryz.func8 Tryz.results8 (.bool true) ⟨(congrArg Value.bool (by rfl)),C⟩
  refine .r [9,10] ?_
  have bc:0< (AT (BN W) 0).length:=AB
  refine GA.idx (i:=11) 0 (len:=(AT (BN W) 0).length) (z:=0) (sz:=6) AA AB bc (ai.addr (Nat.zero_lt_of_lt bc))<|.r [12] ?_
  obtain ⟨bw,aE⟩:∃ y,(AT (BN W) 0)[0]? = some y:=⟨_,AP AB⟩
  have cP:=AX aE; have cw:=AQ aE
  obtain ⟨_,⟨dX,dY,dZ,d0,d3,d4,d5,d6,d7,d8,d9,ec,rfl,bz,bA,bB,bC⟩,bT⟩:=ai.elem 0 bw aE
  have bU:=bz.len
  subst bU
  have cQ:=bz.max
  have bV:=bA.len
  subst bV
  have cR:=bA.max
  have bW:=bB.len
  subst bW
  have cS:=bB.max
  have bX:=bC.len
  subst bX
  have cT:=bC.max
  refine .lh 13 1 bT id<|.r [14]<|.lb 15 E id<|.d fun ed bd=>?_
  replace C:=(se [] bd).g1 C
  exact .r 4<|.d<|.rt Tryz.func8 Tryz.results8 (.bool (bw.num==W.next)) ⟨(congrArg Value.bool (by have q1:DD W:=‹_›; rw [Vy q1 (by with_reducible assumption:Af W=true) ‹_› ‹_›]; exact beq_self_eq_true _)),C⟩
 refine .r [5]<|GA.skip AA fun ee bg=>?_
 replace C:=(se [] bg).g1 C
 exact .r 4<|.d<|.rt Tryz.func8 Tryz.results8 (.bool false) ⟨(congrArg Value.bool (by exfalso; (have q2:=MD (by with_reducible assumption:Af W=true); omega))),C⟩
end Go.Proofs.YtganlmloonielaaGreat
