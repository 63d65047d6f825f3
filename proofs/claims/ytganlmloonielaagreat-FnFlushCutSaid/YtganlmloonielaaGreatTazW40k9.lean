/- walks; hints pruned; squeezed -/
import Derived.Test.YtganlmloonielaaGreatTazMod40k9
import Derived.Test.YtganlmloonielaaGreatTazMod30k18
import Derived.Test.YtganlmloonielaaGreatTazW40k10
set_option linter.unusedVariables false
set_option linter.unusedSimpArgs false
namespace Go.Proofs.YtganlmloonielaaGreat
set_option maxRecDepth 100000
set_option maxHeartbeats 4000000
theorem HV (s:Sto) {w:World} {F:Nat→Prop} {a1:Option Addr} {n1 c1:Nat} (h1:RepS w F a1 n1 c1 s.idx.names) {a2:Option Addr} {n2 c2:Nat} (h2:RepS w F a2 n2 c2 s.idx.AV) {a3:Option Addr} {n3 c3:Nat} (h3:RepS w F a3 n3 c3 s.parts) {a4:Option Addr} {n4 c4:Nat} (h4:RepS w F a4 n4 c4 s.mem) (p0:NmI s.idx.names) (p1:NsD s.idx.names) (p2:MX s):Calls Tryz.prog 58 [.agg #[.slice a1 n1 c1,.slice a2 n2 c2,.slice a3 n3 c3,.slice a4 n4 c4]].toArray w (As fun rv w'=>(∃ (a0:Option Addr) (n0 c0:Nat) (a1:Option Addr) (n1 c1:Nat) (r2 n2 c2:Nat) (r3 n3 c3:Nat),rv=.agg #[.slice a0 n0 c0,.slice a1 n1 c1,.slice (some ⟨r2,0,none⟩) n2 c2,.slice (some ⟨r3,0,none⟩) n3 c3]∧RepS w' (nin (ge w.heap.size) [r2,r3]) a0 n0 c0 ((((BO s)).idx).names)∧RepS w' (nin (ge w.heap.size) [r2,r3]) a1 n1 c1 ((((BO s)).idx).AV)∧Own w' r2 42 (nin (ge w.heap.size) [r2,r3]) n2 c2 (((BO s)).parts)∧w.heap.size≤r2∧Own w' r3 107 (nin (ge w.heap.size) [r2,r3]) n3 c3 (((BO s)).mem)∧w.heap.size≤r3∧Nb r3 r2)∧Ext w w'):=by
 refine goT Tryz.func58 ?_
 obtain ⟨rfl,dy,h1⟩:=h1.tp
 obtain ⟨rfl,dz,h2⟩:=h2.tp
 obtain ⟨rfl,dA,h3⟩:=h3.tp
 obtain ⟨rfl,dB,h4⟩:=h4.tp
 refine .s<|.g<|.np 34 [.slice a1 s.idx.names.length c1,.slice a2 s.idx.AV.length c2,.slice a3 s.parts.length c3,.slice a4 s.mem.length c4] fun ab d0 bR bk O cH=>?_
 replace ⟨h1,h3,h4⟩:=(sn [] bk bR).g3 h1 h3 h4
 have E:=bk
 refine .np 34 [.slice none 0 0,.slice none 0 0,.slice none 0 0,.slice none 0 0] fun ac aC bm bS J cI=>?_
 have dC:=E.cn bm
 replace ⟨h1,h3,h4,O,E⟩:=(sn [ab] bS bm).g5 h1 h3 h4 O E
 refine .d<|.s<|T.Du (X:=(Option Addr) × Nat × (Option Addr) × Nat × Nat × Nat × Nat × Nat) (mtb [] aC.heap.size) 10 (fun (bc,bd,bg,bh,aj,bi,bj,ao)=>[(2,.pointer (some ⟨ac,0,none⟩)),(6,.agg #[.slice bc (((idxOf s.idx.names).names).length) bd,.slice bg (((idxOf s.idx.names).AV).length) bh]),(9,vS aj bi bj),(10,vS ao 0 0),(12,.slice a4 s.mem.length c4)]) (fun (bc,bd,bg,bh,aj,bi,bj,ao) aw=>Ext aC aw∧aC.heap.size≤aj∧aC.heap.size≤ao∧Nb ao aj∧RepS aw (nin (ge w.heap.size) [aj,ao,ac,ab]) bc (((idxOf s.idx.names).names).length) bd ((idxOf s.idx.names).names:List (List Tag))∧RepS aw (nin (ge w.heap.size) [aj,ao,ac,ab]) bg (((idxOf s.idx.names).AV).length) bh ((idxOf s.idx.names).AV:List Pst)∧Own aw aj 42 (nin (ge w.heap.size) [aj,ao,ac,ab]) bi bj (s.parts:List Prt)∧Own aw ao 107 (nin (ge w.heap.size) [aj,ao,ac,ab]) 0 0 ([]:List Smp)) AA (fun dD aI=>?_) ?_
 ·replace h1:=h1.Ah
  replace h3:=h3.Ah
  replace h4:=h4.Ah
  have aJ:Gb (ab+1) aC.heap.size:=O.lt
  replace ⟨h1,h3,h4,O,J,E⟩:=(se [ac,ab] aI).g6 h1 h3 h4 O J E
  have C:=aI
  refine .r [0,1]<|.lb 2 O (Ax all_nil aJ)<|.r [4]<|.lb 5 O (Ax all_nil aJ)<|.r [8]<|.lb 9 O (Ax all_nil aJ)<|.tw 3 7 ?_ ?_
  ·refine .cl (fun bn aK=>E9 s.idx.names (h1.ta.ext aK) p0 p1 (w:=bn) (F:=all)) ?_
   intro bn aK
   replace ⟨h1,h3,h4,O,J,E,C⟩:=(se [ac,ab] aK).g7 h1 h3 h4 O J E C
   rintro dE dF ⟨⟨_,rfl,⟨bT,dG,bU,bV,dH,bW,rfl,W,aa⟩⟩,aL⟩
   have aM:=al2 J.lt O.lt
   have bo:Gb w.heap.size bn.heap.size:=E.size
   have hkeep_:=aL
   replace ⟨h1,h3,h4,O,J,E,C⟩:=(se [ac,ab] aL).g7 h1 h3 h4 O J E C
   refine ⟨Ext.chg hkeep_,?_⟩
   have W:=W.fr aM bo
   have cW:=W.max
   have aa:=aa.fr aM bo
   have cX:=aa.max
   have bZ:=W.len
   subst bZ
   have b0:=aa.len
   subst b0
   refine .tw 6 7 ?_ ?_
   ·refine .cl (fun bq aN=>D0 s.parts (h3.ta.ext aN) (by have:=p2.2.1; omega) p2.2.2.1 (w:=bq) (F:=all)) ?_
    intro bq aN
    replace ⟨h1,h3,h4,O,J,W,aa,E,C⟩:=(se [ac,ab] aN).g9 h1 h3 h4 O J W aa E C
    rintro dI dJ ⟨⟨au,cJ,cK,rfl,af,aO⟩,aP⟩
    have br:=al2 J.lt O.lt
    have b6:Gb w.heap.size bq.heap.size:=E.size
    have hkeep_:=aP
    have b7:Cov nil aC au:=BR aO C.size
    replace ⟨h1,h3,h4,O,J,W,aa,E,C⟩:=(sz [ac,ab] aP aO).g9 h1 h3 h4 O J W aa E C
    refine ⟨Ext.chg hkeep_,?_⟩
    replace af:=Own.take (s0:=w.heap.size) (M:=[ac,ab]) af br b6
    have cY:=af.len; have cZ:=af.max
    refine .go 7<|.ns 0 107 [] fun dK bt=>?_
    replace ⟨h1,h3,h4,O,J,W,aa,af,E,C⟩:=(se [au,ac,ab] bt).g10 h1 h3 h4 O J W aa af E C
    intro aB cL aD bu b8 b9
    have cd:=AS aD af.lt
    have ce:=C.cn aD
    replace ⟨h1,h3,h4,O,J,W,aa,af,E,C⟩:=(sn [au,ac,ab] bu aD).g10 h1 h3 h4 O J W aa af E C
    have aQ:Own (α:=Smp) cL aB 107 (nin (ge w.heap.size) [aB,au,ac,ab]) 0 0 []:=Own.Ag b8
    refine .d fun bX bv=>?_
    replace ⟨h1,h3,h4,O,J,W,aa,af,aQ,E,C⟩:=(se [aB,au,ac,ab] bv).g11 h1 h3 h4 O J W aa af aQ E C
    replace h1:=h1.AU
    replace h3:=h3.AU
    replace h4:=h4.AU
    have aE:Mv [aB,au,ac,ab] [au,aB,ac,ab] bX bX:=Mv.less (all_cons AE (all_cons AD (all_cons AF (all_cons AG all_nil))))
    exact ⟨(bT,bU,bV,bW,au,cJ,cK,aB),⟨AA,AA,AA,AA,AA,trivial⟩,⟨C,(Ac b7),(Ac ce),cd,(RepS.mv W aE),(RepS.mv aa aE),(Own.mv af aE (Chg.refl nil _) (fun h=>h)),(Own.mv aQ aE (Chg.refl nil _) (fun h=>h))⟩⟩
   refine .ns 0 107 [] fun dL bw=>?_
   replace ⟨h1,h3,h4,O,J,W,aa,E,C⟩:=(se [ac,ab] bw).g9 h1 h3 h4 O J W aa E C
   intro ax cM aR bz cg ci
   have cj:=C.cn aR
   replace ⟨h1,h3,h4,O,J,W,aa,E,C⟩:=(sn [ac,ab] bz aR).g9 h1 h3 h4 O J W aa E C
   have ag:Own (α:=Smp) cM ax 107 (nin (ge w.heap.size) [ax,ac,ab]) 0 0 []:=Own.Ag cg
   refine .go 6<|.cl (fun bA aS=>D0 s.parts (h3.ta.ext aS) (by have:=p2.2.1; omega) p2.2.2.1 (w:=bA) (F:=all)) ?_
   intro bA aS
   replace ⟨h1,h3,h4,O,J,W,aa,ag,E,C⟩:=(se [ax,ac,ab] aS).g10 h1 h3 h4 O J W aa ag E C
   rintro dM dN ⟨⟨bB,cN,cO,rfl,ak,aF⟩,aT⟩
   have bC:=al3 ag.lt J.lt O.lt
   have ck:Gb w.heap.size bA.heap.size:=E.size
   have hkeep_:=aT
   have cm:=Ab aF ag.lt
   have co:Cov nil aC bB:=BR aF C.size
   replace ⟨h1,h3,h4,O,J,W,aa,ag,E,C⟩:=(sz [ax,ac,ab] aT aF).g10 h1 h3 h4 O J W aa ag E C
   refine ⟨Ext.chg hkeep_,?_⟩
   replace ak:=Own.take (s0:=w.heap.size) (M:=[ax,ac,ab]) ak bC ck
   have c7:=ak.len; have c8:=ak.max
   refine .d fun dO bD=>?_
   replace ⟨h1,h3,h4,O,J,W,aa,ag,ak,E,C⟩:=(se [bB,ax,ac,ab] bD).g11 h1 h3 h4 O J W aa ag ak E C
   replace h1:=h1.AU
   replace h3:=h3.AU
   replace h4:=h4.AU
   exact ⟨(bT,bU,bV,bW,bB,cN,cO,ax),⟨AA,AA,AA,AA,AA,trivial⟩,⟨C,(Ac co),(Ac cj),(Nb.symm cm),W,aa,ak,ag⟩⟩
  refine .ns 0 107 [] fun dP bE=>?_
  replace ⟨h1,h3,h4,O,J,E,C⟩:=(se [ac,ab] bE).g7 h1 h3 h4 O J E C
  intro aq cP aU bF cp cq
  have cr:=C.cn aU
  replace ⟨h1,h3,h4,O,J,E,C⟩:=(sn [ac,ab] bF aU).g7 h1 h3 h4 O J E C
  have ae:Own (α:=Smp) cP aq 107 (nin (ge w.heap.size) [aq,ac,ab]) 0 0 []:=Own.Ag cp
  refine .go 3<|.cl (fun bG aV=>E9 s.idx.names (h1.ta.ext aV) p0 p1 (w:=bG) (F:=all)) ?_
  intro bG aV
  replace ⟨h3,h4,O,J,ae,E,C⟩:=(se [aq,ac,ab] aV).g7 h3 h4 O J ae E C
  rintro dQ dR ⟨⟨_,rfl,⟨cQ,dS,cR,cS,dT,cT,rfl,ah,ai⟩⟩,aW⟩
  have aX:=al3 ae.lt J.lt O.lt
  have bH:Gb w.heap.size bG.heap.size:=E.size
  have hkeep_:=aW
  replace ⟨h3,h4,O,J,ae,E,C⟩:=(se [aq,ac,ab] aW).g7 h3 h4 O J ae E C
  refine ⟨Ext.chg hkeep_,?_⟩
  have ah:=ah.fr aX bH
  have c9:=ah.max
  have ai:=ai.fr aX bH
  have da:=ai.max
  have cu:=ah.len
  subst cu
  have cv:=ai.len
  subst cv
  refine .go 6<|.cl (fun bI aY=>D0 s.parts (h3.ta.ext aY) (by have:=p2.2.1; omega) p2.2.2.1 (w:=bI) (F:=all)) ?_
  intro bI aY
  replace ⟨h4,O,J,ae,ah,ai,E,C⟩:=(se [aq,ac,ab] aY).g8 h4 O J ae ah ai E C
  rintro dU dV ⟨⟨bJ,cU,cV,rfl,al,aG⟩,aZ⟩
  have bK:=al3 ae.lt J.lt O.lt
  have cw:Gb w.heap.size bI.heap.size:=E.size
  have hkeep_:=aZ
  have cx:=Ab aG ae.lt
  have cy:Cov nil aC bJ:=BR aG C.size
  replace ⟨h4,J,ae,ah,ai,E,C⟩:=(sz [aq,ac,ab] aZ aG).g7 h4 J ae ah ai E C
  refine ⟨Ext.chg hkeep_,?_⟩
  replace al:=Own.take (s0:=w.heap.size) (M:=[aq,ac,ab]) al bK cw
  have db:=al.len; have de:=al.max
  refine .d fun dW bL=>?_
  replace ⟨h4,J,ae,ah,ai,al,E,C⟩:=(se [bJ,aq,ac,ab] bL).g8 h4 J ae ah ai al E C
  replace h4:=h4.AU
  exact ⟨(cQ,cR,cS,cT,bJ,cU,cV,aq),⟨AA,AA,AA,AA,AA,trivial⟩,⟨C,(Ac cy),(Ac cr),(Nb.symm cx),ah,ai,al,ae⟩⟩
 rintro ⟨bc,bd,bg,bh,aj,bi,bj,ao⟩ dX aw ⟨ba,aH,ay,cz,az,aA,av,bM⟩
 have df:=Ab aH J.lt
 have cA:=Bd aH E.size
 have cB:=Ab ay J.lt
 have cC:=Bd ay E.size
 have dg:Cov nil w ao:=BR ay E.size
 have bN:Mv [ac,ab] [aj,ao,ac,ab] aC aw:=Mv.cons (Mv.cons (Mv.ext ba) ay) aH
 replace ⟨h4,J,E⟩:=(sp bN ba).g3 h4 J E
 have dh:=az.len; have dj:=az.max
 have dm:=aA.len; have dp:=aA.max
 have dq:=av.len; have dr:=av.max
 have dt:=bM.len; have du:=bM.max
 refine RG.Ay (T:=32) (ty:=32) Fc bM h4 AA AA (fun b h e=>h.2 (e▸AE)) (by have:=p2.2.2.2; omega) fun bO bY dY am ar bP=>?_
 have dv:=Ae ar cB J.lt
 have cD:=Ae ar cz av.lt
 have cE:=Bt ar cC E.size
 replace ⟨J,az,aA,av,E⟩:=(sa [aj,ao,ac,ab] bP ar).g5 J az aA av E
 replace am:=am.rn ao
 have dw:=am.len; have dx:=am.max
 refine .r 1<|.sc [.slice bc (((idxOf s.idx.names).names).length) bd,.slice bg (((idxOf s.idx.names).AV).length) bh,vS aj bi bj,vS bO (0+s.mem.length) bY] J fun dZ bQ cF cG=>?_
 replace ⟨az,aA,av,am,E⟩:=(so [aj,bO,ac,ab] bQ).g5 az aA av am E
 exact .d<|.rb Tryz.func58 Tryz.results58 cF ⟨⟨bc,((idxOf s.idx.names).names).length,bd,bg,((idxOf s.idx.names).AV).length,bh,aj,bi,bj,bO,(0+s.mem.length),bY,rfl,((RepS.BI az (all_cons AD (all_cons AE all_nil))).eqx (by rfl)),((RepS.BI aA (all_cons AD (all_cons AE all_nil))).eqx (by rfl)),((Own.BI av (all_cons AD (all_cons AE all_nil))).eqx (by rfl)),cA,((Own.BI am (all_cons AD (all_cons AE all_nil))).eqx (by rfl)),cE,cD⟩,E⟩
theorem IA (s:Sto) {w:World} {F:Nat→Prop} {a1:Option Addr} {n1 c1:Nat} (h1:RepS w F a1 n1 c1 s.idx.names) {a2:Option Addr} {n2 c2:Nat} (h2:RepS w F a2 n2 c2 s.idx.AV) {a3:Option Addr} {n3 c3:Nat} (h3:RepS w F a3 n3 c3 s.parts) {a4:Option Addr} {n4 c4:Nat} (h4:RepS w F a4 n4 c4 s.mem) (p0:SD s):Calls Tryz.prog 19 [.agg #[.slice a1 n1 c1,.slice a2 n2 c2,.slice a3 n3 c3,.slice a4 n4 c4]].toArray w (As fun rv w'=>(∃ v0,rv=.tuple #[v0,.bool ((CR s).2)]∧VS (fo F w.heap.size) w' ((CR s).1:Sto) v0)∧Ext w w'):=by
 refine goT Tryz.func19 ?_
 obtain ⟨rfl,cX,h1⟩:=h1.tp
 obtain ⟨rfl,cY,h2⟩:=h2.tp
 obtain ⟨rfl,cZ,h3⟩:=h3.tp
 obtain ⟨rfl,c7,h4⟩:=h4.tp
 refine .s<|.g<|.np 34 [.slice a1 s.idx.names.length c1,.slice a2 s.idx.AV.length c2,.slice a3 s.parts.length c3,.slice a4 s.mem.length c4] fun ae dE bo aI E cm=>?_
 replace ⟨h1,h2,h3,h4⟩:=(sn [] aI bo).g4 h1 h2 h3 h4
 have C:=aI
 refine .np 34 [.slice none 0 0,.slice none 0 0,.slice none 0 0,.slice none 0 0] fun af cI aF bq O co=>?_
 have c8:=AS aF E.lt
 have c9:=C.cn aF
 replace ⟨h1,h2,h3,h4,E,C⟩:=(sn [ae] bq aF).g6 h1 h2 h3 h4 E C
 refine .r 1<|.d<|.s<|.s<|.g<|.ln E<|.cl (Gc s h1.ta h2.ta h3.ta h4.ta p0 (w:=cI) (F:=all)) ?_
 rintro dF bG ⟨rfl,br⟩
 replace ⟨h1,h2,h3,h4,E,O,C⟩:=(se [af,ae] br).g7 h1 h2 h3 h4 E O C
 cases da:(Ak s)
 ·refine .r 1<|.d<|.ct<|.s<|.g<|.r 1<|.sc [.slice none 0 0,.slice none 0 0,.slice none 0 0,.slice none 0 0] O fun dG bt cp cq=>?_
  replace ⟨h1,h2,h3,h4,E,C⟩:=(so [af,ae] bt).g6 h1 h2 h3 h4 E C
  exact .r 1<|.d<|.r2 Tryz.func19 Tryz.results19 (.bx cp) (.t (.bool false)) ⟨⟨_,(CS rfl (congrArg Value.bool (by rw [Iy ‹_›]))),(VS.of (y:=(⟨(⟨([]:List (List Tag)),([]:List Pst)⟩:Idx),([]:List Prt),([]:List Smp)⟩:Sto)) ⟨_,rfl,⟨_,_,_,_,_,_,_,_,_,_,_,_,rfl,(RepS.Ag _ _ none 0 (by decide)),(RepS.Ag _ _ none 0 (by decide)),(RepS.Ag _ _ none 0 (by decide)),(RepS.Ag _ _ none 0 (by decide))⟩⟩ (by rw [Iy ‹_›]))⟩,C⟩
 refine .r 1<|.d<|.cf<|.sk<|.s<|.g<|.ln E<|.cl (HV s h1.ta h2.ta h3.ta h4.ta p0.nm p0.nd p0.sz (w:=bG) (F:=all)) ?_
 rintro dH aJ ⟨⟨bj,dI,bk,bm,dJ,bn,ah,aK,bH,ag,bI,bJ,rfl,W,aa,ac,ay,J,aA,cr⟩,aL⟩
 have aB:=al2 O.lt E.lt
 have aG:Gb w.heap.size bG.heap.size:=C.size
 have bu:=Ab ay E.lt
 have cu:=Ab ay O.lt
 have aM:=Bd ay C.size
 have db:Cov nil w ah:=BR ay C.size
 have cv:=Ab aA E.lt
 have de:=Ab aA O.lt
 have bv:=Bd aA C.size
 have bw:Mv [af,ae] [ah,ag,af,ae] bG aJ:=Mv.cons (Mv.cons (Mv.ext aL) aA) ay
 replace ⟨h1,h2,h3,h4,E,O,C⟩:=(sp bw aL).g7 h1 h2 h3 h4 E O C
 replace W:RepS aJ (nin (ge w.heap.size) [ah,ag,af,ae]) _ _ _ _:=RepS.BC (s0:=w.heap.size) (M:=[af,ae]) W aB aG
 replace W:=W.base (G':=fo F w.heap.size) (fun _ _ h=>.inr h)
 have df:=W.max
 replace aa:RepS aJ (nin (ge w.heap.size) [ah,ag,af,ae]) _ _ _ _:=RepS.BC (s0:=w.heap.size) (M:=[af,ae]) aa aB aG
 replace aa:=aa.base (G':=fo F w.heap.size) (fun _ _ h=>.inr h)
 have dg:=aa.max
 replace ac:Own aJ ah 42 (nin (ge w.heap.size) [ah,ag,af,ae]) _ _ _:=Own.BC (s0:=w.heap.size) (M:=[af,ae]) ac aB aG
 replace ac:=ac.base (G':=fo F w.heap.size) (fun _ _ h=>.inr h)
 have dh:=ac.max
 have dj:=ac.len
 replace J:Own aJ ag 107 (nin (ge w.heap.size) [ah,ag,af,ae]) _ _ _:=Own.BC (s0:=w.heap.size) (M:=[af,ae]) J aB aG
 replace J:=J.base (G':=fo F w.heap.size) (fun _ _ h=>.inr h)
 have dm:=J.max
 have dp:=J.len
 have cw:=W.len
 subst cw
 have cx:=aa.len
 subst cx
 refine .np 34 [.slice none 0 0,.slice none 0 0,.slice none 0 0,.slice none 0 0] fun aj dK ax bz cy cz=>?_
 have dq:=AS ax E.lt
 have dr:=AS ax O.lt
 have bA:=AS ax ac.lt
 have bK:=AS ax J.lt
 have cJ:=C.cn ax
 replace ⟨h1,h2,h3,h4,E,O,W,aa,ac,J,C⟩:=(sn [ah,ag,af,ae] bz ax).g11 h1 h2 h3 h4 E O W aa ac J C
 refine .sc [.slice bj (((((BO s)).idx).names).length) bk,.slice bm (((((BO s)).idx).AV).length) bn,vS ah aK bH,vS ag bI bJ] cy fun aN aO ab bL=>?_
 replace ⟨h1,h2,h3,h4,E,O,W,aa,ac,J,C⟩:=(so [aj,ah,ag,af,ae] aO).g11 h1 h2 h3 h4 E O W aa ac J C
 refine .d<|.s<|.s<|.g<|.r 1<|.lb E<|.r 1<|.eq (s.mem.length:Int) 0 (fun bM=>?_) (fun bM=>?_)
 ·refine .r 6<|.d<|.ct<|.s<|.g<|.ln ab<|.sc [.slice bj (((((BO s)).idx).names).length) bk,.slice bm (((((BO s)).idx).AV).length) bn,vS ah aK bH,vS ag bI bJ] O fun bB aP bN bO=>?_
  replace ⟨h1,h2,h3,h4,E,W,aa,ac,J,ab,C⟩:=(so [aj,ah,ag,af,ae] aP).g11 h1 h2 h3 h4 E W aa ac J ab C
  refine .r 1<|.d ?_
  have aQ:=ac.sl (.inr aM)
  replace ⟨h1,h2,h3,h4,W,aa,J⟩:=(sd bB [aj,ah,ag,af,ae] ah).g7 h1 h2 h3 h4 W aa J
  have cA:=J.sl (.inr bv)
  replace ⟨h1,h2,h3,h4,W,aa,aQ⟩:=(sd bB [aj,ag,af,ae] ag).g7 h1 h2 h3 h4 W aa aQ
  exact .r2 Tryz.func19 Tryz.results19 (.bx bN) (.t (.bool false)) ⟨⟨_,(CS rfl (congrArg Value.bool (by rw [Ge p0 ‹_› (.inl ‹_›)]))),(VS.of (y:=(⟨(⟨(((BO s)).idx).names,(((BO s)).idx).AV⟩:Idx),((BO s)).parts,((BO s)).mem⟩:Sto)) ⟨_,rfl,⟨_,_,_,_,_,_,_,_,_,_,_,_,rfl,W.w1,aa.w1,aQ.w1,cA.w1⟩⟩ (by rw [Ge p0 ‹_› (.inl ‹_›)]))⟩,C⟩
 refine .r 2<|.lb E<|.r 1<|.eq (s.parts.length:Int) 6 (fun bP=>?_) (fun bP=>?_)
 ·refine .r 1<|.d<|.ct<|.s<|.g<|.ln ab<|.sc [.slice bj (((((BO s)).idx).names).length) bk,.slice bm (((((BO s)).idx).AV).length) bn,vS ah aK bH,vS ag bI bJ] O fun bC aR bQ bR=>?_
  replace ⟨h1,h2,h3,h4,E,W,aa,ac,J,ab,C⟩:=(so [aj,ah,ag,af,ae] aR).g11 h1 h2 h3 h4 E W aa ac J ab C
  refine .r 1<|.d ?_
  have aS:=ac.sl (.inr aM)
  replace ⟨h1,h2,h3,h4,W,aa,J⟩:=(sd bC [aj,ah,ag,af,ae] ah).g7 h1 h2 h3 h4 W aa J
  have cB:=J.sl (.inr bv)
  replace ⟨h1,h2,h3,h4,W,aa,aS⟩:=(sd bC [aj,ag,af,ae] ag).g7 h1 h2 h3 h4 W aa aS
  exact .r2 Tryz.func19 Tryz.results19 (.bx bQ) (.t (.bool false)) ⟨⟨_,(CS rfl (congrArg Value.bool (by rw [Ge p0 ‹_› (.inr ‹_›)]))),(VS.of (y:=(⟨(⟨(((BO s)).idx).names,(((BO s)).idx).AV⟩:Idx),((BO s)).parts,((BO s)).mem⟩:Sto)) ⟨_,rfl,⟨_,_,_,_,_,_,_,_,_,_,_,_,rfl,W.w1,aa.w1,aS.w1,cB.w1⟩⟩ (by rw [Ge p0 ‹_› (.inr ‹_›)]))⟩,C⟩
 refine .r 1<|.d<|.cf<|.sk<|.s ?_
 replace h1:=h1.Ah
 replace h2:=h2.Ah
 replace h3:=h3.Ah
 replace h4:=h4.Ah
 replace W:=W.Ah
 replace aa:=aa.Ah
 have bS:Gb (ae+1) aN.heap.size:=E.lt
 have bT:Gb (aj+1) aN.heap.size:=ab.lt
 refine .gd (mtb [ah,ag] aN.heap.size) 5 fun dt aT=>?_
 replace ⟨h1,h2,h3,h4,E,O,W,aa,ac,J,ab,C⟩:=(se [aj,ah,ag,af,ae] aT).g12 h1 h2 h3 h4 E O W aa ac J ab C
 refine .r [0]<|.lb 1 ab (Ax (all_cons bA (all_cons bK all_nil)) bT)<|.ln 2 E (Ax (all_cons (Nb.symm bu) (all_cons (Nb.symm cv) all_nil)) bS)<|.go 3<|.cl (fun aU aw=>CE s (h1.ta.ext aw) (h2.ta.ext aw) (h3.ta.ext aw) (h4.ta.ext aw) (StoK.of p0 ‹_›).row (StoK.of p0 ‹_›).Ja.Hs (by have:=p0.nm2; omega) (w:=aU) (F:=all)) ?_
 intro aU aw
 replace ⟨E,O,W,aa,ac,J,ab,C⟩:=(se [aj,ah,ag,af,ae] aw).g8 E O W aa ac J ab C
 rintro du dv ⟨⟨_,rfl,⟨cC,dw,cD,cE,dx,cF,rfl,ak,al⟩⟩,aC⟩
 have aD:=al5 ab.lt ac.lt J.lt O.lt E.lt
 have aV:Gb w.heap.size aU.heap.size:=C.size
 have hkeep_:=aC
 replace ⟨E,O,W,aa,ac,J,ab,C⟩:=(se [aj,ah,ag,af,ae] aC).g8 E O W aa ac J ab C
 refine ⟨Ext.chg hkeep_,?_⟩
 have ak:=ak.fr aD aV
 replace ak:=ak.base (G':=fo F w.heap.size) (fun _ _ h=>.inr h)
 have cK:=ak.max
 have al:=al.fr aD aV
 replace al:=al.base (G':=fo F w.heap.size) (fun _ _ h=>.inr h)
 have cL:=al.max
 have bU:=ak.len
 subst bU
 have bV:=al.len
 subst bV
 refine .go 4<|.ns 1 42 [.slice cC (((BK s.mem).ids).length) cD,.slice cE (((BK s.mem).blocks).length) cF] fun dy aW=>?_
 replace ⟨E,O,W,aa,ac,J,ab,ak,al,C⟩:=(se [aj,ah,ag,af,ae] aW).g10 E O W aa ac J ab ak al C
 intro bD dz aq aX aE bW
 have bX:=AS aq E.lt
 have bY:=AS aq O.lt
 have aY:=AS aq ac.lt
 have bZ:=AS aq J.lt
 have b0:=AS aq ab.lt
 have b6:=Ad aq C.size
 replace ⟨E,O,W,aa,ac,J,ab,ak,al,C⟩:=(se [aj,ah,ag,af,ae] aX).g10 E O W aa ac J ab ak al C
 refine .d fun dA aZ=>?_
 replace ⟨E,O,W,aa,ac,J,ab,ak,al,aE,C⟩:=(se [aj,ah,ag,af,ae] aZ).g11 E O W aa ac J ab ak al aE C
 replace W:=W.AU
 replace aa:=aa.AU
 have aH:nin (fo F w.heap.size) [aj,ah,ag,af,ae] bD∧bD≠ah:=BG (.inr b6) (all_cons b0 (all_cons aY (all_cons bZ (all_cons bY (all_cons bX all_nil))))) aY
 refine RG.Ap (T:=31) (ty:=31) (y:=(BK s.mem)) ac aE AA AA ⟨_,_,_,_,_,_,rfl,ak.oi,al.oi⟩ aH (by have q1:=p0.np; have q2:(BO s).parts.length=s.parts.length:=rfl; omega) fun au bE dB ai am ba=>?_
 have cM:=Ae am bu E.lt
 have cN:=Ae am cu O.lt
 have cO:=Ae am (Nb.symm cr) J.lt
 have cP:=Ae am (Nb.symm bA) ab.lt
 have b7:=Bt am aM C.size
 replace ⟨E,O,W,aa,J,ab,C⟩:=(sa [aj,ah,ag,af,ae] ba am).g7 E O W aa J ab C
 replace ai:=ai.rn ah
 have cQ:=ai.len; have cR:=ai.max
 refine .r 1<|.ss 2 (vS au (aK+1) bE) ab fun dC bc az b8=>?_
 replace ⟨E,O,W,aa,ai,J,C⟩:=(so [aj,au,ag,af,ae] bc).g7 E O W aa ai J C
 refine .d<|.s<|.g<|.ns 0 107 [] fun av cG ao bd b9 cd=>?_
 have cS:=AS ao E.lt
 have cT:=AS ao O.lt
 have cU:=AS ao ai.lt
 have cV:=AS ao J.lt
 have cW:=AS ao az.lt
 have ce:=Ad ao C.size
 replace ⟨O,W,aa,ai,az,C⟩:=(sn [aj,au,ag,af,ae] bd ao).g6 O W aa ai az C
 have ar:Own (α:=Smp) cG av 107 (nin (fo F w.heap.size) [av,aj,au,ag,af,ae]) 0 0 []:=Own.Ag b9
 refine .r 1<|.ss 3 (vS av 0 0) az fun dD bg cg ci=>?_
 replace ⟨O,W,aa,ai,ar,C⟩:=(so [av,aj,au,ag,af,ae] bg).g6 O W aa ai ar C
 refine .d<|.s<|.g<|.ln cg<|.sc [.slice bj (((((BO s)).idx).names).length) bk,.slice bm (((((BO s)).idx).AV).length) bn,vS au (aK+1) bE,vS av 0 0] O fun bF bh cj ck=>?_
 replace ⟨W,aa,ai,ar,C⟩:=(so [av,aj,au,ag,af,ae] bh).g5 W aa ai ar C
 refine .r 1<|.d ?_
 have bi:=ai.sl (.inr b7)
 replace ⟨W,aa,ar⟩:=(sd bF [av,aj,au,ag,af,ae] au).g3 W aa ar
 have cH:=ar.sl (.inr ce)
 replace ⟨W,aa,bi⟩:=(sd bF [av,aj,ag,af,ae] av).g3 W aa bi
 exact .r2 Tryz.func19 Tryz.results19 (.bx cj) (.t (.bool true)) ⟨⟨_,(CS rfl (congrArg Value.bool (by rw [H7 p0 ‹_› ‹_› ‹_›]))),(VS.of (y:=(⟨(⟨(((BO s)).idx).names,(((BO s)).idx).AV⟩:Idx),(((BO s)).parts++[(BK s.mem)]),[]⟩:Sto)) ⟨_,rfl,⟨_,_,_,_,_,_,_,_,_,_,_,_,rfl,W.w1,aa.w1,bi.w1,cH.w1⟩⟩ (by rw [H7 p0 ‹_› ‹_› ‹_›]))⟩,C⟩
end Go.Proofs.YtganlmloonielaaGreat
namespace Go.Proofs.YtganlmloonielaaGreat
theorem I2 {s:Sto} (h:SD s) (h1:(CR s).2=true):(CR s).1=DB s∧Ak s=true∧s.mem≠[]∧s.parts.length< 6:=by
 cases hk:Ak s with
 | false=>rw [Iy hk] at h1; cases h1
 | true =>
   by_cases hc:(s.mem.length:Int)=0∨(s.parts.length:Int)=6
   ·rw [Ge h hk hc] at h1; cases h1
   ·have h6:=L5 hk
    rw [H7 h hk AB AB]
    refine ⟨?_,rfl,fun e=>?_,by omega⟩
    ·show (⟨(BO s).idx,(BO s).parts++[BK s.mem],[]⟩:Sto)=DB s
     rw [h.copy]
     rfl
    ·rw [e] at hc; simp at hc
theorem RU {s:Sto} (h:SD s) (h1:(CR s).2=true):SD (CR s).1:=by
 obtain ⟨e,hk,_,h4⟩:=I2 h h1
 rw [e]
 refine ⟨h.idx,h.nm,h.nd,by simp [DB]; omega,fun p hp=>?_,by simp [DB],fun m hm=>by simp [DB] at hm⟩
 rcases List.mem_append.1 hp with hp | hp
 ·exact h.part p hp
 ·simp at hp
  subst hp
  exact PrtI.mem (StoK.of h hk).row
theorem N2 {s:Sto} (h:SD s) (h1:(CR s).2=true):DQ (CR s).1 [] 0 99=DQ s [] 0 99∧Ak (CR s).1=true:=by
 obtain ⟨e,hk,h3,h4⟩:=I2 h h1
 have h5:=KS h hk h3 h4
 rw [e]
 exact ⟨Ka (x:=DB s) (s:=s) rfl (hk.trans h5.symm) (fun _ id a b=>KR (StoK.of h hk) a (by have:=h.nm.len; omega)) _ _,h5⟩
end Go.Proofs.YtganlmloonielaaGreat
namespace Go.Proofs.YtganlmloonielaaGreat
set_option maxRecDepth 100000
set_option maxHeartbeats 4000000
theorem GK (code:List UInt8) {w:World} {F:Nat→Prop} {a1:Option Addr} {n1 c1:Nat} (h1:RepS w F a1 n1 c1 code)  : Calls Tryz.prog 15 [.slice a1 n1 c1].toArray w (As fun rv w'=>(∃ (d:Dsk) (s:Sto),(∃ v0 v1,rv=.tuple #[v0,v1]∧VS (fo F w.heap.size) w' (d:Dsk) v0∧VS (fo F w.heap.size) w' (s:Sto) v1)∧(DD d∧SD s))∧Ext w w'):=by
 refine goT Tryz.func15 ?_
 obtain ⟨rfl,jY,h1⟩:=h1.tp
 refine .s<|.g<|.np 27 [.slice none 0 0,.slice none 0 0,.slice none 0 0,vI 0] fun af lP df dg al fS=>?_
 have jZ:Cov nil w af:=Bc df (Nat.le_refl _)
 replace h1:=(sn [] dg df).g1 h1
 have ag:=dg
 refine .np 34 [.slice none 0 0,.slice none 0 0,.slice none 0 0,.slice none 0 0] fun aj fT cW dP ak fU=>?_
 have j0:=AS cW al.lt
 have j1:=ag.cn cW
 replace ⟨h1,al,ag⟩:=(sn [af] dP cW).g3 h1 al ag
 refine .d<|.s<|.g<|.r 1<|.cl (DX code h1 (w:=fT) (F:=nin (fo F w.heap.size) [aj,af])) ?_
 rintro lQ ec ⟨⟨hE,ah,hH,hJ,rfl,cX,dh,ai⟩,dQ⟩
 have dR:=al2 ak.lt al.lt
 have fV:Gb w.heap.size fT.heap.size:=ag.size
 have j2:=Ab cX al.lt
 have j3:=Ab cX ak.lt
 have j4:Cov nil w ah:=BR cX ag.size
 replace ⟨al,ak,ag⟩:=(se [] dQ).g3 al ak ag
 replace ai:=RepS.KC (b:=ah) (M:=[aj,af]) ai dR fV
 refine .r 1<|.d<|.s<|.g<|.r 1<|.cl (CL dh (ai.BB AD) AB (w:=ec) (F:=all)) ?_
 rintro lR cu ⟨⟨aK,⟨fW,lS,fX,fY,lT,fZ,f0,lU,f5,aM,f6,f7,f8,lV,f9,ga,lW,gb,gf,lX,gh,rfl,bD,bE,bF,aP,bG,bH,bI,bJ⟩,j5⟩,hN,j6,bK,dj⟩
 have bw:=al3 dh.lt ak.lt al.lt
 have bL:Gb w.heap.size ec.heap.size:=ag.size
 have gi:=Ab bG al.lt
 have gj:=Ab bG ak.lt
 have gk:=Ab bG dh.lt
 have gl:=Bd bG ag.size
 have j7:Cov nil w aM:=BR bG ag.size
 have dS:Mv [ah,aj,af] [aM,ah,aj,af] ec cu:=Mv.cons (Mv.on dj AD) bG
 replace ⟨al,ak,ai,ag⟩:=(sp dS dj).g4 al ak ai ag
 replace bD:RepS cu (nin (ge w.heap.size) [aM,ah,aj,af]) _ _ _ _:=RepS.BC (s0:=w.heap.size) (M:=[ah,aj,af]) bD bw bL
 replace bD:=bD.base (G':=fo F w.heap.size) (fun _ _ h=>.inr h)
 have j8:=bD.max
 replace bE:RepS cu (nin (ge w.heap.size) [aM,ah,aj,af]) _ _ _ _:=RepS.BC (s0:=w.heap.size) (M:=[ah,aj,af]) bE bw bL
 replace bE:=bE.base (G':=fo F w.heap.size) (fun _ _ h=>.inr h)
 have j9:=bE.max
 replace bF:RepS cu (nin (ge w.heap.size) [aM,ah,aj,af]) _ _ _ _:=RepS.BC (s0:=w.heap.size) (M:=[ah,aj,af]) bF bw bL
 replace bF:=bF.base (G':=fo F w.heap.size) (fun _ _ h=>.inr h)
 have ka:=bF.max
 replace aP:Own cu aM 107 (nin (ge w.heap.size) [aM,ah,aj,af]) _ _ _:=Own.BC (s0:=w.heap.size) (M:=[ah,aj,af]) aP bw bL
 replace aP:=aP.base (G':=fo F w.heap.size) (fun _ _ h=>.inr h)
 have hO:=aP.max
 have hQ:=aP.len
 replace bH:RepS cu (nin (ge w.heap.size) [aM,ah,aj,af]) _ _ _ _:=RepS.BC (s0:=w.heap.size) (M:=[ah,aj,af]) bH bw bL
 replace bH:=bH.base (G':=fo F w.heap.size) (fun _ _ h=>.inr h)
 have hV:=bH.max
 replace bI:RepS cu (nin (ge w.heap.size) [aM,ah,aj,af]) _ _ _ _:=RepS.BC (s0:=w.heap.size) (M:=[ah,aj,af]) bI bw bL
 replace bI:=bI.base (G':=fo F w.heap.size) (fun _ _ h=>.inr h)
 have hW:=bI.max
 replace bJ:RepS cu (nin (ge w.heap.size) [aM,ah,aj,af]) _ _ _ _:=RepS.BC (s0:=w.heap.size) (M:=[ah,aj,af]) bJ bw bL
 replace bJ:=bJ.base (G':=fo F w.heap.size) (fun _ _ h=>.inr h)
 have ia:=bJ.max
 have ed:=bD.len
 subst ed
 have ee:=bE.len
 subst ee
 have ef:=bF.len
 subst ef
 have eg:=bH.len
 subst eg
 have eh:=bI.len
 subst eh
 have ej:=bJ.len
 subst ej
 refine .np 70 [.slice none 0 0,.slice none 0 0,.slice none 0 0,.slice none 0 0,.slice none 0 0,.slice none 0 0,.slice none 0 0,vI 0] fun ab kb bj dm ek en=>?_
 have aN:=AS bj al.lt
 have ic:=AS bj ak.lt
 have cz:=AS bj bK.lt
 have et:=AS bj aP.lt
 have ie:=ag.cn bj
 replace ⟨al,ak,ai,bK,bD,bE,bF,aP,bH,bI,bJ,ag⟩:=(sn [aM,ah,aj,af] dm bj).g12 al ak ai bK bD bE bF aP bH bI bJ ag
 refine .sc [.slice fW aK.store.idx.names.length fX,.slice fY aK.store.idx.AV.length fZ,.slice f0 aK.store.parts.length f5,vS aM f6 f7,.slice f8 aK.disk.files.length f9,.slice ga aK.disk.list.length gb,.slice gf aK.disk.names.length gh,vI aK.disk.next] ek fun bX dp dq ey=>?_
 replace ⟨al,ak,ai,bK,bD,bE,bF,aP,bH,bI,bJ,ag⟩:=(so [ab,aM,ah,aj,af] dp).g12 al ak ai bK bD bE bF aP bH bI bJ ag
 refine .d<|.s<|.s<|.g<|.r 1<|.d<|.b 0<|T.loop (X:=Nat × Nat × (List (List Tag)) × (Option Addr) × Nat × Nat × (List Pst) × (Option Addr) × Nat × Nat × (List Prt) × (Option Addr) × Nat × Nat × (List Smp) × Nat × Nat × Nat × (List Fil) × (Option Addr) × Nat × Nat × (List Int) × (Option Addr) × Nat × Nat × (List (List Tag)) × (Option Addr) × Nat × Nat × Int) (0,hN,(aK.store.idx.names:List (List Tag)),fW,aK.store.idx.names.length,fX,(aK.store.idx.AV:List Pst),fY,aK.store.idx.AV.length,fZ,(aK.store.parts:List Prt),f0,aK.store.parts.length,f5,(aK.store.mem:List Smp),aM,f6,f7,(aK.disk.files:List Fil),f8,aK.disk.files.length,f9,(aK.disk.list:List Int),ga,aK.disk.list.length,gb,(aK.disk.names:List (List Tag)),gf,aK.disk.names.length,gh,aK.disk.next) (fun (i,p_,cv,a_w_0,n_w_0,c_w_0,cw,a_w_1,n_w_1,c_w_1,cx,a_w_2,n_w_2,c_w_2,cy,r_w_3,n_w_3,c_w_3,bM,a_w_4,n_w_4,c_w_4,bN,a_w_5,n_w_5,c_w_5,bO,a_w_6,n_w_6,c_w_6,aH)=>[(2,.pointer (some ⟨af,0,none⟩)),(3,.pointer (some ⟨aj,0,none⟩)),(4,.pointer (some ⟨ah,0,none⟩)),(5,.pointer (some ⟨ab,0,none⟩)),(6,vI (i:Int))]) (fun (i,p_,cv,a_w_0,n_w_0,c_w_0,cw,a_w_1,n_w_1,c_w_1,cx,a_w_2,n_w_2,c_w_2,cy,r_w_3,n_w_3,c_w_3,bM,a_w_4,n_w_4,c_w_4,bN,a_w_5,n_w_5,c_w_5,bO,a_w_6,n_w_6,c_w_6,aH) aI=>Chg (ins [ah,aM,ab]) bX aI∧Own aI r_w_3 107 (nin (fo F w.heap.size) [ab,r_w_3,ah,aj,af]) n_w_3 c_w_3 cy∧OrB r_w_3 aM bX.heap.size∧RepS aI (nin (fo F w.heap.size) [ab,r_w_3,ah,aj,af]) a_w_0 n_w_0 c_w_0 cv∧RepS aI (nin (fo F w.heap.size) [ab,r_w_3,ah,aj,af]) a_w_1 n_w_1 c_w_1 cw∧RepS aI (nin (fo F w.heap.size) [ab,r_w_3,ah,aj,af]) a_w_2 n_w_2 c_w_2 cx∧RepS aI (nin (fo F w.heap.size) [ab,r_w_3,ah,aj,af]) a_w_4 n_w_4 c_w_4 bM∧RepS aI (nin (fo F w.heap.size) [ab,r_w_3,ah,aj,af]) a_w_5 n_w_5 c_w_5 bN∧RepS aI (nin (fo F w.heap.size) [ab,r_w_3,ah,aj,af]) a_w_6 n_w_6 c_w_6 bO∧Box aI ah 122 [.slice hH hE.length hJ,vI (p_:Int)]∧Box aI ab 70 [.slice a_w_0 n_w_0 c_w_0,.slice a_w_1 n_w_1 c_w_1,.slice a_w_2 n_w_2 c_w_2,vS r_w_3 n_w_3 c_w_3,.slice a_w_4 n_w_4 c_w_4,.slice a_w_5 n_w_5 c_w_5,.slice a_w_6 n_w_6 c_w_6,vI aH]∧(i≤3)∧(p_≤3200+3200 * i)∧(SD ⟨⟨cv,cw⟩,cx,cy⟩)∧(DD ⟨bM,bN,bO,aH⟩)) (fun (i,p_,cv,a_w_0,n_w_0,c_w_0,cw,a_w_1,n_w_1,c_w_1,cx,a_w_2,n_w_2,c_w_2,cy,r_w_3,n_w_3,c_w_3,bM,a_w_4,n_w_4,c_w_4,bN,a_w_5,n_w_5,c_w_5,bO,a_w_6,n_w_6,c_w_6,aH)=>3 - i) AA ⟨AA,AA,AA,AA,AA,trivial⟩ ⟨Chg.refl _ _,aP,BJ,bD,bE,bF,bH,bI,bJ,bK,dq,AB,AB,(by (have q1:WG _:=‹_›; exact q1.1)),(by (have q1:WG _:=‹_›; exact q1.2))⟩ ?_
 rintro ⟨i,p_,cv,a_w_0,n_w_0,c_w_0,cw,a_w_1,n_w_1,c_w_1,cx,a_w_2,n_w_2,c_w_2,cy,r_w_3,n_w_3,c_w_3,bM,a_w_4,n_w_4,c_w_4,bN,a_w_5,n_w_5,c_w_5,bO,a_w_6,n_w_6,c_w_6,aH⟩ kd aI ⟨aL,ac,bv,O,W,aa,C,E,J,cA,ae,ig,ii,ij,ik⟩ de
 have il:=Aw bv gi al.lt
 have im:=Aw bv gj ak.lt
 have io:=Aw bv gk bK.lt
 have aO:=Aw bv (Nb.symm et) dq.lt
 have cB:=Bv bv gl ag.size
 have ip:Cov (ins [ah,aM,ab]) bX ah:=⟨.inl AD⟩
 have iq:Cov (ins [ah,aM,ab]) bX ab:=⟨.inl AF⟩
 have dr:Mv [ab,aM,ah,aj,af] [ab,r_w_3,ah,aj,af] bX aI:=Mv.inl aL (all_cons AF (all_cons AE (all_cons AD all_nil))) (all_cons (.inl AD) (all_cons (BV bv AE) (all_cons (.inl AF) (all_cons (.inl AG) (all_cons (.inl AH) all_nil)))))
 replace ⟨al,ak,ai,ag⟩:=(sp dr aL).g4 al ak ai ag
 have ir:=ac.len; have iu:=ac.max
 have iw:=O.len; have iy:=O.max
 have iz:=W.len; have iA:=W.max
 have iB:=aa.len; have iC:=aa.max
 have iD:=C.len; have iE:=C.max
 have iF:=E.len; have iG:=E.max
 have iH:=J.len; have iI:=J.max
 refine .s<|.s<|.g<|.r 1<|.bp ((i:Int)< 3) (fun ez=>?_) (fun ez=>?_)
 ·refine .r 3<|.lb ae<|.r 1<|.eq (n_w_3:Int) 0 (fun eA=>?_) (fun eA=>?_)
  ·refine .r 3<|.cl (AZ 8 cA (ai.BB AF) AB (w:=aI) (F:=all)) ?_
   rintro ke cY ⟨⟨gm,rfl,iJ⟩,kf,iK,cC,cD⟩
   replace ⟨al,ak,ai,ac,ae,O,W,aa,C,E,J,ag⟩:=(so [ab,r_w_3,ah,aj,af] cD).g12 al ak ai ac ae O W aa C E J ag
   replace aL:=(so [ab,r_w_3,ah,aj,af] cD).g1 aL
   refine .bp (gm > 0) (fun eB=>?_) (fun eB=>?_)
   ·refine .r 1<|.d<|.ct<|.sk<|.s<|.b 1<|.g<|.r 1<|.cl (CL cC (ai.BB AF) AB (w:=cY) (F:=all)) ?_
    rintro kg bz ⟨⟨am,⟨dT,kh,dU,dV,ki,dW,dX,kj,dY,aG,dZ,d0,d3,kk,d4,d5,kl,d6,d7,km,d8,rfl,aQ,aR,aS,aJ,cg,aT,aU,aV⟩,iL⟩,gn,iM,cE,ci⟩
    have aW:=al5 ae.lt ac.lt cC.lt ak.lt al.lt
    have bk:Gb w.heap.size cY.heap.size:=ag.size
    have iN:=Ab cg ae.lt
    have eC:OrB aG aM bX.heap.size:=Or.inr (Bd cg aL.size)
    have cF:Mv [ab,r_w_3,ah,aj,af] [aG,ab,r_w_3,ah,aj,af] cY bz:=Mv.cons (Mv.on ci AF) cg
    replace ⟨al,ak,ai,ac,ae,O,W,aa,C,E,J,ag⟩:=(sp cF ci).g12 al ak ai ac ae O W aa C E J ag
    replace aL:=(sp cF ci).g1 aL
    replace aQ:RepS bz (nin (ge w.heap.size) [aG,ab,r_w_3,ah,aj,af]) _ _ _ _:=RepS.BC (s0:=w.heap.size) (M:=[ab,r_w_3,ah,aj,af]) aQ aW bk
    replace aQ:=aQ.base (G':=fo F w.heap.size) (fun _ _ h=>.inr h)
    have iO:=aQ.max
    replace aR:RepS bz (nin (ge w.heap.size) [aG,ab,r_w_3,ah,aj,af]) _ _ _ _:=RepS.BC (s0:=w.heap.size) (M:=[ab,r_w_3,ah,aj,af]) aR aW bk
    replace aR:=aR.base (G':=fo F w.heap.size) (fun _ _ h=>.inr h)
    have iP:=aR.max
    replace aS:RepS bz (nin (ge w.heap.size) [aG,ab,r_w_3,ah,aj,af]) _ _ _ _:=RepS.BC (s0:=w.heap.size) (M:=[ab,r_w_3,ah,aj,af]) aS aW bk
    replace aS:=aS.base (G':=fo F w.heap.size) (fun _ _ h=>.inr h)
    have iQ:=aS.max
    replace aJ:Own bz aG 107 (nin (ge w.heap.size) [aG,ab,r_w_3,ah,aj,af]) _ _ _:=Own.BC (s0:=w.heap.size) (M:=[ab,r_w_3,ah,aj,af]) aJ aW bk
    replace aJ:=aJ.base (G':=fo F w.heap.size) (fun _ _ h=>.inr h)
    have iR:=aJ.max
    have iS:=aJ.len
    replace aT:RepS bz (nin (ge w.heap.size) [aG,ab,r_w_3,ah,aj,af]) _ _ _ _:=RepS.BC (s0:=w.heap.size) (M:=[ab,r_w_3,ah,aj,af]) aT aW bk
    replace aT:=aT.base (G':=fo F w.heap.size) (fun _ _ h=>.inr h)
    have iT:=aT.max
    replace aU:RepS bz (nin (ge w.heap.size) [aG,ab,r_w_3,ah,aj,af]) _ _ _ _:=RepS.BC (s0:=w.heap.size) (M:=[ab,r_w_3,ah,aj,af]) aU aW bk
    replace aU:=aU.base (G':=fo F w.heap.size) (fun _ _ h=>.inr h)
    have iU:=aU.max
    replace aV:RepS bz (nin (ge w.heap.size) [aG,ab,r_w_3,ah,aj,af]) _ _ _ _:=RepS.BC (s0:=w.heap.size) (M:=[ab,r_w_3,ah,aj,af]) aV aW bk
    replace aV:=aV.base (G':=fo F w.heap.size) (fun _ _ h=>.inr h)
    have iV:=aV.max
    have eD:=aQ.len
    subst eD
    have eE:=aR.len
    subst eE
    have eF:=aS.len
    subst eF
    have eG:=aT.len
    subst eG
    have eH:=aU.len
    subst eH
    have eI:=aV.len
    subst eI
    refine .sc [.slice dT am.store.idx.names.length dU,.slice dV am.store.idx.AV.length dW,.slice dX am.store.parts.length dY,vS aG dZ d0,.slice d3 am.disk.files.length d4,.slice d5 am.disk.list.length d6,.slice d7 am.disk.names.length d8,vI am.disk.next] ae fun d9 cG eJ eK=>?_
    replace ⟨al,ak,ai,cE,ac,O,W,aa,C,E,J,aQ⟩:=(so [aG,ab,r_w_3,ah,aj,af] cG).g12 al ak ai cE ac O W aa C E J aQ
    replace ⟨aR,aS,aJ,aT,aU,aV,ag,aL⟩:=(so [aG,ab,r_w_3,ah,aj,af] cG).g8 aR aS aJ aT aU aV ag aL
    refine .d<|.ib 1<|.g<|.r 1<|.it ((i:Int)+1)<|.r 1<|.d ?_
    have dt:Mv [aG,ab,r_w_3,ah,aj,af] [ab,aG,ah,aj,af] d9 d9:=Mv.less (all_cons AE (all_cons AD (all_cons AG (all_cons AH (all_cons AI all_nil)))))
    replace ⟨ai,ac,O,W,aa,C,E,J,aQ,aR,aS,aJ⟩:=(sp dt (Chg.refl nil _)).g12 ai ac O W aa C E J aQ aR aS aJ
    replace ⟨aT,aU,aV⟩:=(sp dt (Chg.refl nil _)).g3 aT aU aV
    exact de (i+1,gn,am.store.idx.names,dT,am.store.idx.names.length,dU,am.store.idx.AV,dV,am.store.idx.AV.length,dW,am.store.parts,dX,am.store.parts.length,dY,am.store.mem,aG,dZ,d0,am.disk.files,d3,am.disk.files.length,d4,am.disk.list,d5,am.disk.list.length,d6,am.disk.names,d7,am.disk.names.length,d8,am.disk.next) _ _ ⟨AA,AA,AA,AA,AA,trivial⟩ ⟨aL,aJ,eC,aQ,aR,aS,aT,aU,aV,cE,eJ,AB,AB,(by (have q1:WG _:=‹_›; exact q1.1)),(by (have q1:WG _:=‹_›; exact q1.2))⟩ (by (simp only []; omega))
   refine .r 1<|.d<|.cf<|.x 0 rfl<|.s<|.s<|.g<|.r 1<|.cl (AZ 12 cC (ai.BB AF) AB (w:=cY) (F:=all)) ?_
   rintro ko bg ⟨⟨gp,rfl,iW⟩,kr,iX,bm,du⟩
   replace ⟨al,ak,ai,ac,ae,O,W,aa,C,E,J,ag⟩:=(so [ab,r_w_3,ah,aj,af] du).g12 al ak ai ac ae O W aa C E J ag
   refine .eq gp 0 (fun eL=>?_) (fun eL=>?_)
   ·refine .d<|.ct<|.s ?_
    replace ai:=ai.Ah
    replace O:=O.Ah
    replace W:=W.Ah
    replace aa:=aa.Ah
    replace C:=C.Ah
    replace E:=E.Ah
    replace J:=J.Ah
    have eM:Cov (mtb [r_w_3,af,ah] bg.heap.size) bg af:=⟨.inl (.inl AE)⟩
    have eN:Cov (mtb [r_w_3,af,ah] bg.heap.size) bg ah:=⟨.inl (.inl AF)⟩
    have eO:Gb (ab+1) bg.heap.size:=ae.lt
    refine .gd (mtb [r_w_3,af,ah] bg.heap.size) 6 fun ks cH=>?_
    replace ⟨al,ak,ai,bm,ac,ae,O,W,aa,C,E,J⟩:=(se [ab,r_w_3,ah,aj,af] cH).g12 al ak ai bm ac ae O W aa C E J
    replace ag:=(se [ab,r_w_3,ah,aj,af] cH).g1 ag
    refine .r [0]<|.ln 1 ae (Ax (all_cons (Nb.symm aO) (all_cons aN (all_cons cz all_nil))) eO)<|.r [2]<|.go 3<|.cl (fun cZ bP=>CL (bm.ext bP) ((ai.BB AF).ext bP) AB (w:=cZ) (F:=all)) ?_
    intro cZ bP
    replace ⟨al,ak,ai,bm,ac,ae,O,W,aa,C,E,J⟩:=(se [ab,r_w_3,ah,aj,af] bP).g12 al ak ai bm ac ae O W aa C E J
    replace ag:=(se [ab,r_w_3,ah,aj,af] bP).g1 ag
    rintro kt bA ⟨⟨c7,⟨gq,ku,gr,gs,kv,gt,gu,kw,gv,au,gw,gx,kx,ky,kz,kA,kB,kC,kD,kE,kF,rfl,ax,ay,az,ao,aX,bY,bZ,b0⟩,iY⟩,kG,iZ,ja,cj⟩
    have aY:=al5 ae.lt ac.lt bm.lt ak.lt al.lt
    have bn:Gb w.heap.size cZ.heap.size:=ag.size
    have hkeep_:=cj
    have jb:=Ab aX al.lt
    have jc:=Ab aX ak.lt
    have jd:=Ab aX bm.lt
    have je:=Ab aX ac.lt
    have jf:=Ab aX ae.lt
    have eP:=Bd aX ag.size
    have dv:Mv [ab,r_w_3,ah,aj,af] [au,ab,r_w_3,ah,aj,af] cZ bA:=Mv.cons (Mv.on cj AF) aX
    replace ⟨al,ak,ai,ac,ae,O,W,aa,C,E,J,ag⟩:=(sp dv cj).g12 al ak ai ac ae O W aa C E J ag
    refine ⟨Chg.toS hkeep_ (Cov.toS eN),?_⟩
    replace ax:RepS bA (nin (ge w.heap.size) [au,ab,r_w_3,ah,aj,af]) _ _ _ _:=RepS.BC (s0:=w.heap.size) (M:=[ab,r_w_3,ah,aj,af]) ax aY bn
    replace ax:=ax.base (G':=fo F w.heap.size) (fun _ _ h=>.inr h)
    have jg:=ax.max
    replace ay:RepS bA (nin (ge w.heap.size) [au,ab,r_w_3,ah,aj,af]) _ _ _ _:=RepS.BC (s0:=w.heap.size) (M:=[ab,r_w_3,ah,aj,af]) ay aY bn
    replace ay:=ay.base (G':=fo F w.heap.size) (fun _ _ h=>.inr h)
    have jh:=ay.max
    replace az:RepS bA (nin (ge w.heap.size) [au,ab,r_w_3,ah,aj,af]) _ _ _ _:=RepS.BC (s0:=w.heap.size) (M:=[ab,r_w_3,ah,aj,af]) az aY bn
    replace az:=az.base (G':=fo F w.heap.size) (fun _ _ h=>.inr h)
    have ji:=az.max
    replace ao:Own bA au 107 (nin (ge w.heap.size) [au,ab,r_w_3,ah,aj,af]) _ _ _:=Own.BC (s0:=w.heap.size) (M:=[ab,r_w_3,ah,aj,af]) ao aY bn
    replace ao:=ao.base (G':=fo F w.heap.size) (fun _ _ h=>.inr h)
    have jj:=ao.max
    have jk:=ao.len
    replace bY:RepS bA (nin (ge w.heap.size) [au,ab,r_w_3,ah,aj,af]) _ _ _ _:=RepS.BC (s0:=w.heap.size) (M:=[ab,r_w_3,ah,aj,af]) bY aY bn
    replace bY:=bY.base (G':=fo F w.heap.size) (fun _ _ h=>.inr h)
    have jl:=bY.max
    replace bZ:RepS bA (nin (ge w.heap.size) [au,ab,r_w_3,ah,aj,af]) _ _ _ _:=RepS.BC (s0:=w.heap.size) (M:=[ab,r_w_3,ah,aj,af]) bZ aY bn
    replace bZ:=bZ.base (G':=fo F w.heap.size) (fun _ _ h=>.inr h)
    have jm:=bZ.max
    replace b0:RepS bA (nin (ge w.heap.size) [au,ab,r_w_3,ah,aj,af]) _ _ _ _:=RepS.BC (s0:=w.heap.size) (M:=[ab,r_w_3,ah,aj,af]) b0 aY bn
    replace b0:=b0.base (G':=fo F w.heap.size) (fun _ _ h=>.inr h)
    have jn:=b0.max
    have eQ:=ax.len
    subst eQ
    have eR:=ay.len
    subst eR
    have eS:=az.len
    subst eS
    have eT:=bY.len
    subst eT
    have eU:=bZ.len
    subst eU
    have eV:=b0.len
    subst eV
    refine .r [4]<|.go 5<|GE.CK (t':=27) (o:=0) (v:=.agg #[.slice a_w_4 n_w_4 c_w_4,.slice a_w_5 n_w_5 c_w_5,.slice a_w_6 n_w_6 c_w_6,vI aH]) [.slice a_w_4 n_w_4 c_w_4,.slice a_w_5 n_w_5 c_w_5,.slice a_w_6 n_w_6 c_w_6,vI aH] al AA AA AA fun kH cI=>?_
    replace ⟨al,ak,ai,ac,ae,O,W,aa,C,E,J,ax⟩:=(se [au,ab,r_w_3,ah,aj,af] cI).g12 al ak ai ac ae O W aa C E J ax
    replace ⟨ay,az,ao,ag⟩:=(se [au,ab,r_w_3,ah,aj,af] cI).g4 ay az ao ag
    intro kI ck bQ eW
    have hkeep_:=Chg.toS ck (Cov.toS eM)
    replace ⟨ak,ai,ac,ae,O,W,aa,C,E,J,ax,ay⟩:=(so [au,ab,r_w_3,ah,aj,af] ck).g12 ak ai ac ae O W aa C E J ax ay
    replace ⟨az,ao,ag⟩:=(so [au,ab,r_w_3,ah,aj,af] ck).g3 az ao ag
    refine ⟨hkeep_,?_⟩
    refine .d fun kJ cJ=>?_
    replace ⟨bQ,ak,ai,ac,ae,O,W,aa,C,E,J,ax⟩:=(se [au,ab,r_w_3,ah,aj,af] cJ).g12 bQ ak ai ac ae O W aa C E J ax
    replace ⟨ay,az,ao,ag⟩:=(se [au,ab,r_w_3,ah,aj,af] cJ).g4 ay az ao ag
    replace ai:=ai.AU
    replace O:=O.AU
    replace W:=W.AU
    replace aa:=aa.AU
    replace C:=C.AU
    replace E:=E.AU
    replace J:=J.AU
    refine .sc [.slice gq c7.store.idx.names.length gr,.slice gs c7.store.idx.AV.length gt,.slice gu c7.store.parts.length gv,vS au gw gx] ak fun gy cK eX eY=>?_
    replace ⟨bQ,ai,ac,ae,O,W,aa,C,E,J,ax,ay⟩:=(so [au,ab,r_w_3,ah,aj,af] cK).g12 bQ ai ac ae O W aa C E J ax ay
    replace ⟨az,ao,ag⟩:=(so [au,ab,r_w_3,ah,aj,af] cK).g3 az ao ag
    refine .d ?_
    have gz:=ao.sl (.inr eP)
    replace ⟨ai,ac,O,W,aa,C,E,J,ax,ay,az⟩:=(sd gy [au,ab,r_w_3,ah,aj,af] au).g11 ai ac O W aa C E J ax ay az
    exact .r2 Tryz.func15 Tryz.results15 (.bx bQ) (.bx eX) ⟨⟨((⟨bM,bN,bO,aH⟩:Dsk):Dsk),(c7.store:Sto),⟨_,_,(CS rfl rfl),⟨_,rfl,⟨_,_,_,_,_,_,_,_,_,rfl,C.w1,E.w1,J.w1⟩⟩,⟨_,rfl,⟨_,_,_,_,_,_,_,_,_,_,_,_,rfl,ax.w1,ay.w1,az.w1,gz.w1⟩⟩⟩,(by exact ⟨by assumption,by (have q1:WG _:=‹_›; exact q1.1)⟩)⟩,ag⟩
   refine .d<|.cf<|.sk<|.s ?_
   replace ai:=ai.Ah
   replace O:=O.Ah
   replace W:=W.Ah
   replace aa:=aa.Ah
   replace C:=C.Ah
   replace E:=E.Ah
   replace J:=J.Ah
   have eZ:Cov (mtb [r_w_3,af] bg.heap.size) bg af:=⟨.inl (.inl AE)⟩
   have dw:Gb (ab+1) bg.heap.size:=ae.lt
   refine .gd (mtb [r_w_3,af] bg.heap.size) 5 fun kK dx=>?_
   replace ⟨al,ak,ai,ac,ae,O,W,aa,C,E,J,ag⟩:=(se [ab,r_w_3,ah,aj,af] dx).g12 al ak ai ac ae O W aa C E J ag
   refine .r [0]<|.ln 1 ae (Ax (all_cons (Nb.symm aO) (all_cons aN all_nil)) dw)<|.r [2]<|.ln 3 ae (Ax (all_cons (Nb.symm aO) (all_cons aN all_nil)) dw)<|.go 4<|GE.CK (t':=27) (o:=0) (v:=.agg #[.slice a_w_4 n_w_4 c_w_4,.slice a_w_5 n_w_5 c_w_5,.slice a_w_6 n_w_6 c_w_6,vI aH]) [.slice a_w_4 n_w_4 c_w_4,.slice a_w_5 n_w_5 c_w_5,.slice a_w_6 n_w_6 c_w_6,vI aH] al AA AA AA fun kL dy=>?_
   replace ⟨al,ak,ai,ac,ae,O,W,aa,C,E,J,ag⟩:=(se [ab,r_w_3,ah,aj,af] dy).g12 al ak ai ac ae O W aa C E J ag
   intro kM cL bR e7
   have hkeep_:=Chg.toS cL (Cov.toS eZ)
   replace ⟨ak,ai,ac,ae,O,W,aa,C,E,J,ag⟩:=(so [ab,r_w_3,ah,aj,af] cL).g11 ak ai ac ae O W aa C E J ag
   refine ⟨hkeep_,?_⟩
   refine .d fun kN dz=>?_
   replace ⟨bR,ak,ai,ac,ae,O,W,aa,C,E,J,ag⟩:=(se [ab,r_w_3,ah,aj,af] dz).g12 bR ak ai ac ae O W aa C E J ag
   replace ai:=ai.AU
   replace O:=O.AU
   replace W:=W.AU
   replace aa:=aa.AU
   replace C:=C.AU
   replace E:=E.AU
   replace J:=J.AU
   refine .sc [.slice a_w_0 n_w_0 c_w_0,.slice a_w_1 n_w_1 c_w_1,.slice a_w_2 n_w_2 c_w_2,vS r_w_3 n_w_3 c_w_3] ak fun gA dA e8 fa=>?_
   replace ⟨bR,ai,ac,ae,O,W,aa,C,E,J,ag⟩:=(so [ab,r_w_3,ah,aj,af] dA).g11 bR ai ac ae O W aa C E J ag
   refine .d ?_
   have gC:=ac.sl (.inr cB)
   replace ⟨ai,O,W,aa,C,E,J⟩:=(sd gA [ab,r_w_3,ah,aj,af] r_w_3).g7 ai O W aa C E J
   exact .r2 Tryz.func15 Tryz.results15 (.bx bR) (.bx e8) ⟨⟨((⟨bM,bN,bO,aH⟩:Dsk):Dsk),((⟨(⟨cv,cw⟩:Idx),cx,cy⟩:Sto):Sto),⟨_,_,(CS rfl rfl),⟨_,rfl,⟨_,_,_,_,_,_,_,_,_,rfl,C.w1,E.w1,J.w1⟩⟩,⟨_,rfl,⟨_,_,_,_,_,_,_,_,_,_,_,_,rfl,O.w1,W.w1,aa.w1,gC.w1⟩⟩⟩,(by exact ⟨by assumption,by assumption⟩)⟩,ag⟩
  refine .r 6<|.d<|.cf<|.x 0 rfl<|.s<|.s<|.g<|.r 1<|.cl (AZ 12 cA (ai.BB AF) AB (w:=aI) (F:=all)) ?_
  rintro kO bh ⟨⟨gD,rfl,jo⟩,kP,jp,bo,dB⟩
  replace ⟨al,ak,ai,ac,ae,O,W,aa,C,E,J,ag⟩:=(so [ab,r_w_3,ah,aj,af] dB).g12 al ak ai ac ae O W aa C E J ag
  refine .eq gD 0 (fun fb=>?_) (fun fb=>?_)
  ·refine .d<|.ct<|.s ?_
   replace ai:=ai.Ah
   replace O:=O.Ah
   replace W:=W.Ah
   replace aa:=aa.Ah
   replace C:=C.Ah
   replace E:=E.Ah
   replace J:=J.Ah
   have fc:Cov (mtb [r_w_3,af,ah] bh.heap.size) bh af:=⟨.inl (.inl AE)⟩
   have fd:Cov (mtb [r_w_3,af,ah] bh.heap.size) bh ah:=⟨.inl (.inl AF)⟩
   have fe:Gb (ab+1) bh.heap.size:=ae.lt
   refine .gd (mtb [r_w_3,af,ah] bh.heap.size) 6 fun kQ cM=>?_
   replace ⟨al,ak,ai,bo,ac,ae,O,W,aa,C,E,J⟩:=(se [ab,r_w_3,ah,aj,af] cM).g12 al ak ai bo ac ae O W aa C E J
   replace ag:=(se [ab,r_w_3,ah,aj,af] cM).g1 ag
   refine .r [0]<|.ln 1 ae (Ax (all_cons (Nb.symm aO) (all_cons aN (all_cons cz all_nil))) fe)<|.r [2]<|.go 3<|.cl (fun c8 bS=>CL (bo.ext bS) ((ai.BB AF).ext bS) AB (w:=c8) (F:=all)) ?_
   intro c8 bS
   replace ⟨al,ak,ai,bo,ac,ae,O,W,aa,C,E,J⟩:=(se [ab,r_w_3,ah,aj,af] bS).g12 al ak ai bo ac ae O W aa C E J
   replace ag:=(se [ab,r_w_3,ah,aj,af] bS).g1 ag
   rintro kR bB ⟨⟨c9,⟨gE,kS,gF,gG,kT,gH,gI,kU,gJ,av,gK,gL,kV,kW,kX,kY,kZ,k5,k6,k7,k8,rfl,aA,aB,aC,aq,aZ,b6,b7,b8⟩,jq⟩,k9,jr,js,cm⟩
   have ba:=al5 ae.lt ac.lt bo.lt ak.lt al.lt
   have bq:Gb w.heap.size c8.heap.size:=ag.size
   have hkeep_:=cm
   have jt:=Ab aZ al.lt
   have ju:=Ab aZ ak.lt
   have jv:=Ab aZ bo.lt
   have jw:=Ab aZ ac.lt
   have jx:=Ab aZ ae.lt
   have ff:=Bd aZ ag.size
   have dC:Mv [ab,r_w_3,ah,aj,af] [av,ab,r_w_3,ah,aj,af] c8 bB:=Mv.cons (Mv.on cm AF) aZ
   replace ⟨al,ak,ai,ac,ae,O,W,aa,C,E,J,ag⟩:=(sp dC cm).g12 al ak ai ac ae O W aa C E J ag
   refine ⟨Chg.toS hkeep_ (Cov.toS fd),?_⟩
   replace aA:RepS bB (nin (ge w.heap.size) [av,ab,r_w_3,ah,aj,af]) _ _ _ _:=RepS.BC (s0:=w.heap.size) (M:=[ab,r_w_3,ah,aj,af]) aA ba bq
   replace aA:=aA.base (G':=fo F w.heap.size) (fun _ _ h=>.inr h)
   have jy:=aA.max
   replace aB:RepS bB (nin (ge w.heap.size) [av,ab,r_w_3,ah,aj,af]) _ _ _ _:=RepS.BC (s0:=w.heap.size) (M:=[ab,r_w_3,ah,aj,af]) aB ba bq
   replace aB:=aB.base (G':=fo F w.heap.size) (fun _ _ h=>.inr h)
   have jz:=aB.max
   replace aC:RepS bB (nin (ge w.heap.size) [av,ab,r_w_3,ah,aj,af]) _ _ _ _:=RepS.BC (s0:=w.heap.size) (M:=[ab,r_w_3,ah,aj,af]) aC ba bq
   replace aC:=aC.base (G':=fo F w.heap.size) (fun _ _ h=>.inr h)
   have jA:=aC.max
   replace aq:Own bB av 107 (nin (ge w.heap.size) [av,ab,r_w_3,ah,aj,af]) _ _ _:=Own.BC (s0:=w.heap.size) (M:=[ab,r_w_3,ah,aj,af]) aq ba bq
   replace aq:=aq.base (G':=fo F w.heap.size) (fun _ _ h=>.inr h)
   have jB:=aq.max
   have jC:=aq.len
   replace b6:RepS bB (nin (ge w.heap.size) [av,ab,r_w_3,ah,aj,af]) _ _ _ _:=RepS.BC (s0:=w.heap.size) (M:=[ab,r_w_3,ah,aj,af]) b6 ba bq
   replace b6:=b6.base (G':=fo F w.heap.size) (fun _ _ h=>.inr h)
   have jD:=b6.max
   replace b7:RepS bB (nin (ge w.heap.size) [av,ab,r_w_3,ah,aj,af]) _ _ _ _:=RepS.BC (s0:=w.heap.size) (M:=[ab,r_w_3,ah,aj,af]) b7 ba bq
   replace b7:=b7.base (G':=fo F w.heap.size) (fun _ _ h=>.inr h)
   have jE:=b7.max
   replace b8:RepS bB (nin (ge w.heap.size) [av,ab,r_w_3,ah,aj,af]) _ _ _ _:=RepS.BC (s0:=w.heap.size) (M:=[ab,r_w_3,ah,aj,af]) b8 ba bq
   replace b8:=b8.base (G':=fo F w.heap.size) (fun _ _ h=>.inr h)
   have jF:=b8.max
   have fg:=aA.len
   subst fg
   have fh:=aB.len
   subst fh
   have fi:=aC.len
   subst fi
   have fj:=b6.len
   subst fj
   have fk:=b7.len
   subst fk
   have fm:=b8.len
   subst fm
   refine .r [4]<|.go 5<|GE.CK (t':=27) (o:=0) (v:=.agg #[.slice a_w_4 n_w_4 c_w_4,.slice a_w_5 n_w_5 c_w_5,.slice a_w_6 n_w_6 c_w_6,vI aH]) [.slice a_w_4 n_w_4 c_w_4,.slice a_w_5 n_w_5 c_w_5,.slice a_w_6 n_w_6 c_w_6,vI aH] al AA AA AA fun lc cN=>?_
   replace ⟨al,ak,ai,ac,ae,O,W,aa,C,E,J,aA⟩:=(se [av,ab,r_w_3,ah,aj,af] cN).g12 al ak ai ac ae O W aa C E J aA
   replace ⟨aB,aC,aq,ag⟩:=(se [av,ab,r_w_3,ah,aj,af] cN).g4 aB aC aq ag
   intro ld co bT fp
   have hkeep_:=Chg.toS co (Cov.toS fc)
   replace ⟨ak,ai,ac,ae,O,W,aa,C,E,J,aA,aB⟩:=(so [av,ab,r_w_3,ah,aj,af] co).g12 ak ai ac ae O W aa C E J aA aB
   replace ⟨aC,aq,ag⟩:=(so [av,ab,r_w_3,ah,aj,af] co).g3 aC aq ag
   refine ⟨hkeep_,?_⟩
   refine .d fun lf cO=>?_
   replace ⟨bT,ak,ai,ac,ae,O,W,aa,C,E,J,aA⟩:=(se [av,ab,r_w_3,ah,aj,af] cO).g12 bT ak ai ac ae O W aa C E J aA
   replace ⟨aB,aC,aq,ag⟩:=(se [av,ab,r_w_3,ah,aj,af] cO).g4 aB aC aq ag
   replace ai:=ai.AU
   replace O:=O.AU
   replace W:=W.AU
   replace aa:=aa.AU
   replace C:=C.AU
   replace E:=E.AU
   replace J:=J.AU
   refine .sc [.slice gE c9.store.idx.names.length gF,.slice gG c9.store.idx.AV.length gH,.slice gI c9.store.parts.length gJ,vS av gK gL] ak fun gM cP fq ft=>?_
   replace ⟨bT,ai,ac,ae,O,W,aa,C,E,J,aA,aB⟩:=(so [av,ab,r_w_3,ah,aj,af] cP).g12 bT ai ac ae O W aa C E J aA aB
   replace ⟨aC,aq,ag⟩:=(so [av,ab,r_w_3,ah,aj,af] cP).g3 aC aq ag
   refine .d ?_
   have gN:=aq.sl (.inr ff)
   replace ⟨ai,ac,O,W,aa,C,E,J,aA,aB,aC⟩:=(sd gM [av,ab,r_w_3,ah,aj,af] av).g11 ai ac O W aa C E J aA aB aC
   exact .r2 Tryz.func15 Tryz.results15 (.bx bT) (.bx fq) ⟨⟨((⟨bM,bN,bO,aH⟩:Dsk):Dsk),(c9.store:Sto),⟨_,_,(CS rfl rfl),⟨_,rfl,⟨_,_,_,_,_,_,_,_,_,rfl,C.w1,E.w1,J.w1⟩⟩,⟨_,rfl,⟨_,_,_,_,_,_,_,_,_,_,_,_,rfl,aA.w1,aB.w1,aC.w1,gN.w1⟩⟩⟩,(by exact ⟨by assumption,by (have q1:WG _:=‹_›; exact q1.1)⟩)⟩,ag⟩
  refine .d<|.cf<|.sk<|.s ?_
  replace ai:=ai.Ah
  replace O:=O.Ah
  replace W:=W.Ah
  replace aa:=aa.Ah
  replace C:=C.Ah
  replace E:=E.Ah
  replace J:=J.Ah
  have fu:Cov (mtb [r_w_3,af] bh.heap.size) bh af:=⟨.inl (.inl AE)⟩
  have dD:Gb (ab+1) bh.heap.size:=ae.lt
  refine .gd (mtb [r_w_3,af] bh.heap.size) 5 fun li dE=>?_
  replace ⟨al,ak,ai,ac,ae,O,W,aa,C,E,J,ag⟩:=(se [ab,r_w_3,ah,aj,af] dE).g12 al ak ai ac ae O W aa C E J ag
  refine .r [0]<|.ln 1 ae (Ax (all_cons (Nb.symm aO) (all_cons aN all_nil)) dD)<|.r [2]<|.ln 3 ae (Ax (all_cons (Nb.symm aO) (all_cons aN all_nil)) dD)<|.go 4<|GE.CK (t':=27) (o:=0) (v:=.agg #[.slice a_w_4 n_w_4 c_w_4,.slice a_w_5 n_w_5 c_w_5,.slice a_w_6 n_w_6 c_w_6,vI aH]) [.slice a_w_4 n_w_4 c_w_4,.slice a_w_5 n_w_5 c_w_5,.slice a_w_6 n_w_6 c_w_6,vI aH] al AA AA AA fun lj dF=>?_
  replace ⟨al,ak,ai,ac,ae,O,W,aa,C,E,J,ag⟩:=(se [ab,r_w_3,ah,aj,af] dF).g12 al ak ai ac ae O W aa C E J ag
  intro lk cQ bU fv
  have hkeep_:=Chg.toS cQ (Cov.toS fu)
  replace ⟨ak,ai,ac,ae,O,W,aa,C,E,J,ag⟩:=(so [ab,r_w_3,ah,aj,af] cQ).g11 ak ai ac ae O W aa C E J ag
  refine ⟨hkeep_,?_⟩
  refine .d fun ll dG=>?_
  replace ⟨bU,ak,ai,ac,ae,O,W,aa,C,E,J,ag⟩:=(se [ab,r_w_3,ah,aj,af] dG).g12 bU ak ai ac ae O W aa C E J ag
  replace ai:=ai.AU
  replace O:=O.AU
  replace W:=W.AU
  replace aa:=aa.AU
  replace C:=C.AU
  replace E:=E.AU
  replace J:=J.AU
  refine .sc [.slice a_w_0 n_w_0 c_w_0,.slice a_w_1 n_w_1 c_w_1,.slice a_w_2 n_w_2 c_w_2,vS r_w_3 n_w_3 c_w_3] ak fun gO dH fw fz=>?_
  replace ⟨bU,ai,ac,ae,O,W,aa,C,E,J,ag⟩:=(so [ab,r_w_3,ah,aj,af] dH).g11 bU ai ac ae O W aa C E J ag
  refine .d ?_
  have gP:=ac.sl (.inr cB)
  replace ⟨ai,O,W,aa,C,E,J⟩:=(sd gO [ab,r_w_3,ah,aj,af] r_w_3).g7 ai O W aa C E J
  exact .r2 Tryz.func15 Tryz.results15 (.bx bU) (.bx fw) ⟨⟨((⟨bM,bN,bO,aH⟩:Dsk):Dsk),((⟨(⟨cv,cw⟩:Idx),cx,cy⟩:Sto):Sto),⟨_,_,(CS rfl rfl),⟨_,rfl,⟨_,_,_,_,_,_,_,_,_,rfl,C.w1,E.w1,J.w1⟩⟩,⟨_,rfl,⟨_,_,_,_,_,_,_,_,_,_,_,_,rfl,O.w1,W.w1,aa.w1,gP.w1⟩⟩⟩,(by exact ⟨by assumption,by assumption⟩)⟩,ag⟩
 refine .r 12<|.d<|.cf<|.x 0 rfl<|.s<|.s<|.g<|.r 1<|.cl (AZ 12 cA (ai.BB AF) AB (w:=aI) (F:=all)) ?_
 rintro lm bi ⟨⟨gQ,rfl,jG⟩,lp,jH,br,dI⟩
 replace ⟨al,ak,ai,ac,ae,O,W,aa,C,E,J,ag⟩:=(so [ab,r_w_3,ah,aj,af] dI).g12 al ak ai ac ae O W aa C E J ag
 refine .eq gQ 0 (fun fA=>?_) (fun fA=>?_)
 ·refine .d<|.ct<|.s ?_
  replace ai:=ai.Ah
  replace O:=O.Ah
  replace W:=W.Ah
  replace aa:=aa.Ah
  replace C:=C.Ah
  replace E:=E.Ah
  replace J:=J.Ah
  have fB:Cov (mtb [r_w_3,af,ah] bi.heap.size) bi af:=⟨.inl (.inl AE)⟩
  have fC:Cov (mtb [r_w_3,af,ah] bi.heap.size) bi ah:=⟨.inl (.inl AF)⟩
  have fD:Gb (ab+1) bi.heap.size:=ae.lt
  refine .gd (mtb [r_w_3,af,ah] bi.heap.size) 6 fun lq cR=>?_
  replace ⟨al,ak,ai,br,ac,ae,O,W,aa,C,E,J⟩:=(se [ab,r_w_3,ah,aj,af] cR).g12 al ak ai br ac ae O W aa C E J
  replace ag:=(se [ab,r_w_3,ah,aj,af] cR).g1 ag
  refine .r [0]<|.ln 1 ae (Ax (all_cons (Nb.symm aO) (all_cons aN (all_cons cz all_nil))) fD)<|.r [2]<|.go 3<|.cl (fun da cp=>CL (br.ext cp) ((ai.BB AF).ext cp) AB (w:=da) (F:=all)) ?_
  intro da cp
  replace ⟨al,ak,br,ac,ae,O,W,aa,C,E,J,ag⟩:=(se [ab,r_w_3,ah,aj,af] cp).g12 al ak br ac ae O W aa C E J ag
  rintro ls bC ⟨⟨db,⟨gR,lu,gS,gT,lv,gU,gV,lw,gW,aw,gX,gY,ly,lz,lA,lB,lC,lD,lE,lF,lG,rfl,aD,aE,aF,ar,bc,b9,cd,ce⟩,jI⟩,lH,jJ,jK,cq⟩
  have bd:=al5 ae.lt ac.lt br.lt ak.lt al.lt
  have bt:Gb w.heap.size da.heap.size:=ag.size
  have hkeep_:=cq
  have jL:=Ab bc al.lt
  have jM:=Ab bc ak.lt
  have jN:=Ab bc br.lt
  have jO:=Ab bc ac.lt
  have jP:=Ab bc ae.lt
  have fE:=Bd bc ag.size
  have dJ:Mv [ab,r_w_3,ah,aj,af] [aw,ab,r_w_3,ah,aj,af] da bC:=Mv.cons (Mv.on cq AF) bc
  replace ⟨al,ak,ac,ae,O,W,aa,C,E,J,ag⟩:=(sp dJ cq).g11 al ak ac ae O W aa C E J ag
  refine ⟨Chg.toS hkeep_ (Cov.toS fC),?_⟩
  replace aD:RepS bC (nin (ge w.heap.size) [aw,ab,r_w_3,ah,aj,af]) _ _ _ _:=RepS.BC (s0:=w.heap.size) (M:=[ab,r_w_3,ah,aj,af]) aD bd bt
  replace aD:=aD.base (G':=fo F w.heap.size) (fun _ _ h=>.inr h)
  have jQ:=aD.max
  replace aE:RepS bC (nin (ge w.heap.size) [aw,ab,r_w_3,ah,aj,af]) _ _ _ _:=RepS.BC (s0:=w.heap.size) (M:=[ab,r_w_3,ah,aj,af]) aE bd bt
  replace aE:=aE.base (G':=fo F w.heap.size) (fun _ _ h=>.inr h)
  have jR:=aE.max
  replace aF:RepS bC (nin (ge w.heap.size) [aw,ab,r_w_3,ah,aj,af]) _ _ _ _:=RepS.BC (s0:=w.heap.size) (M:=[ab,r_w_3,ah,aj,af]) aF bd bt
  replace aF:=aF.base (G':=fo F w.heap.size) (fun _ _ h=>.inr h)
  have jS:=aF.max
  replace ar:Own bC aw 107 (nin (ge w.heap.size) [aw,ab,r_w_3,ah,aj,af]) _ _ _:=Own.BC (s0:=w.heap.size) (M:=[ab,r_w_3,ah,aj,af]) ar bd bt
  replace ar:=ar.base (G':=fo F w.heap.size) (fun _ _ h=>.inr h)
  have jT:=ar.max
  have jU:=ar.len
  replace b9:RepS bC (nin (ge w.heap.size) [aw,ab,r_w_3,ah,aj,af]) _ _ _ _:=RepS.BC (s0:=w.heap.size) (M:=[ab,r_w_3,ah,aj,af]) b9 bd bt
  replace b9:=b9.base (G':=fo F w.heap.size) (fun _ _ h=>.inr h)
  have jV:=b9.max
  replace cd:RepS bC (nin (ge w.heap.size) [aw,ab,r_w_3,ah,aj,af]) _ _ _ _:=RepS.BC (s0:=w.heap.size) (M:=[ab,r_w_3,ah,aj,af]) cd bd bt
  replace cd:=cd.base (G':=fo F w.heap.size) (fun _ _ h=>.inr h)
  have jW:=cd.max
  replace ce:RepS bC (nin (ge w.heap.size) [aw,ab,r_w_3,ah,aj,af]) _ _ _ _:=RepS.BC (s0:=w.heap.size) (M:=[ab,r_w_3,ah,aj,af]) ce bd bt
  replace ce:=ce.base (G':=fo F w.heap.size) (fun _ _ h=>.inr h)
  have jX:=ce.max
  have fF:=aD.len
  subst fF
  have fG:=aE.len
  subst fG
  have fH:=aF.len
  subst fH
  have fI:=b9.len
  subst fI
  have fJ:=cd.len
  subst fJ
  have fK:=ce.len
  subst fK
  refine .r [4]<|.go 5<|GE.CK (t':=27) (o:=0) (v:=.agg #[.slice a_w_4 n_w_4 c_w_4,.slice a_w_5 n_w_5 c_w_5,.slice a_w_6 n_w_6 c_w_6,vI aH]) [.slice a_w_4 n_w_4 c_w_4,.slice a_w_5 n_w_5 c_w_5,.slice a_w_6 n_w_6 c_w_6,vI aH] al AA AA AA fun lI cS=>?_
  replace ⟨al,ak,ac,ae,O,W,aa,C,E,J,aD,aE⟩:=(se [aw,ab,r_w_3,ah,aj,af] cS).g12 al ak ac ae O W aa C E J aD aE
  replace ⟨aF,ar,ag⟩:=(se [aw,ab,r_w_3,ah,aj,af] cS).g3 aF ar ag
  intro lJ cr bV fL
  have hkeep_:=Chg.toS cr (Cov.toS fB)
  replace ⟨ak,ac,ae,O,W,aa,C,E,J,aD,aE,aF⟩:=(so [aw,ab,r_w_3,ah,aj,af] cr).g12 ak ac ae O W aa C E J aD aE aF
  replace ⟨ar,ag⟩:=(so [aw,ab,r_w_3,ah,aj,af] cr).g2 ar ag
  refine ⟨hkeep_,?_⟩
  refine .d fun lK cT=>?_
  replace ⟨bV,ak,ac,ae,O,W,aa,C,E,J,aD,aE⟩:=(se [aw,ab,r_w_3,ah,aj,af] cT).g12 bV ak ac ae O W aa C E J aD aE
  replace ⟨aF,ar,ag⟩:=(se [aw,ab,r_w_3,ah,aj,af] cT).g3 aF ar ag
  replace O:=O.AU
  replace W:=W.AU
  replace aa:=aa.AU
  replace C:=C.AU
  replace E:=E.AU
  replace J:=J.AU
  refine .sc [.slice gR db.store.idx.names.length gS,.slice gT db.store.idx.AV.length gU,.slice gV db.store.parts.length gW,vS aw gX gY] ak fun gZ cU fM fN=>?_
  replace ⟨bV,ac,ae,O,W,aa,C,E,J,aD,aE,aF⟩:=(so [aw,ab,r_w_3,ah,aj,af] cU).g12 bV ac ae O W aa C E J aD aE aF
  replace ⟨ar,ag⟩:=(so [aw,ab,r_w_3,ah,aj,af] cU).g2 ar ag
  refine .d ?_
  have g0:=ar.sl (.inr fE)
  replace ⟨ac,O,W,aa,C,E,J,aD,aE,aF⟩:=(sd gZ [aw,ab,r_w_3,ah,aj,af] aw).g10 ac O W aa C E J aD aE aF
  exact .r2 Tryz.func15 Tryz.results15 (.bx bV) (.bx fM) ⟨⟨((⟨bM,bN,bO,aH⟩:Dsk):Dsk),(db.store:Sto),⟨_,_,(CS rfl rfl),⟨_,rfl,⟨_,_,_,_,_,_,_,_,_,rfl,C.w1,E.w1,J.w1⟩⟩,⟨_,rfl,⟨_,_,_,_,_,_,_,_,_,_,_,_,rfl,aD.w1,aE.w1,aF.w1,g0.w1⟩⟩⟩,(by exact ⟨by assumption,by (have q1:WG _:=‹_›; exact q1.1)⟩)⟩,ag⟩
 refine .d<|.cf<|.sk<|.s ?_
 replace O:=O.Ah
 replace W:=W.Ah
 replace aa:=aa.Ah
 replace C:=C.Ah
 replace E:=E.Ah
 replace J:=J.Ah
 have fO:Cov (mtb [r_w_3,af] bi.heap.size) bi af:=⟨.inl (.inl AE)⟩
 have dK:Gb (ab+1) bi.heap.size:=ae.lt
 refine .gd (mtb [r_w_3,af] bi.heap.size) 5 fun lL dL=>?_
 replace ⟨al,ak,ac,ae,O,W,aa,C,E,J,ag⟩:=(se [ab,r_w_3,ah,aj,af] dL).g11 al ak ac ae O W aa C E J ag
 refine .r [0]<|.ln 1 ae (Ax (all_cons (Nb.symm aO) (all_cons aN all_nil)) dK)<|.r [2]<|.ln 3 ae (Ax (all_cons (Nb.symm aO) (all_cons aN all_nil)) dK)<|.go 4<|GE.CK (t':=27) (o:=0) (v:=.agg #[.slice a_w_4 n_w_4 c_w_4,.slice a_w_5 n_w_5 c_w_5,.slice a_w_6 n_w_6 c_w_6,vI aH]) [.slice a_w_4 n_w_4 c_w_4,.slice a_w_5 n_w_5 c_w_5,.slice a_w_6 n_w_6 c_w_6,vI aH] al AA AA AA fun lM dM=>?_
 replace ⟨ak,ac,O,W,aa,C,E,J,ag⟩:=(se [ab,r_w_3,ah,aj,af] dM).g9 ak ac O W aa C E J ag
 intro lN cV bW fP
 have hkeep_:=Chg.toS cV (Cov.toS fO)
 replace ⟨ak,ac,O,W,aa,C,E,J,ag⟩:=(so [ab,r_w_3,ah,aj,af] cV).g9 ak ac O W aa C E J ag
 refine ⟨hkeep_,?_⟩
 refine .d fun lO dN=>?_
 replace ⟨bW,ak,ac,O,W,aa,C,E,J,ag⟩:=(se [ab,r_w_3,ah,aj,af] dN).g10 bW ak ac O W aa C E J ag
 replace O:=O.AU
 replace W:=W.AU
 replace aa:=aa.AU
 replace C:=C.AU
 replace E:=E.AU
 replace J:=J.AU
 refine .sc [.slice a_w_0 n_w_0 c_w_0,.slice a_w_1 n_w_1 c_w_1,.slice a_w_2 n_w_2 c_w_2,vS r_w_3 n_w_3 c_w_3] ak fun hC dO fQ fR=>?_
 replace ⟨bW,ac,O,W,aa,C,E,J,ag⟩:=(so [ab,r_w_3,ah,aj,af] dO).g9 bW ac O W aa C E J ag
 refine .d ?_
 have hD:=ac.sl (.inr cB)
 replace ⟨O,W,aa,C,E,J⟩:=(sd hC [ab,r_w_3,ah,aj,af] r_w_3).g6 O W aa C E J
 exact .r2 Tryz.func15 Tryz.results15 (.bx bW) (.bx fQ) ⟨⟨((⟨bM,bN,bO,aH⟩:Dsk):Dsk),((⟨(⟨cv,cw⟩:Idx),cx,cy⟩:Sto):Sto),⟨_,_,(CS rfl rfl),⟨_,rfl,⟨_,_,_,_,_,_,_,_,_,rfl,C.w1,E.w1,J.w1⟩⟩,⟨_,rfl,⟨_,_,_,_,_,_,_,_,_,_,_,_,rfl,O.w1,W.w1,aa.w1,hD.w1⟩⟩⟩,(by exact ⟨by assumption,by assumption⟩)⟩,ag⟩
end Go.Proofs.YtganlmloonielaaGreat
namespace Go.Proofs.YtganlmloonielaaGreat
theorem PC {d:Dsk} {s:Sto} (hs:SD s) (h:¬ ((BA d s).length:Int)=0) {c:Int} (hc:0≤c):BP d (BA d s) c=toD d (BZ d s) c∧Af (BP d (BA d s) c)=true:=by
 obtain ⟨q,e⟩:=FlD.of hs h
 have o:=CV.2 (q.to c).1
 rw [e,MB (CV.2 q.v) hc o]
 exact ⟨rfl,o⟩
theorem Vz {d:Dsk} {s:Sto} (hs:SD s) (h:¬ ((BA d s).length:Int)=0) {c:Int} (hc:0≤c) (h2:c< 2):(Aq (BP d (BA d s) c)==Aq d)=true:=by
 obtain ⟨q,e⟩:=FlD.of hs h
 obtain ⟨e1,o⟩:=PC hs h hc
 rw [D7 o,e1,(q.to c).2,if_pos h2,D7 (CV.2 q.v)]
 exact beq_self_eq_true _
theorem SE {d:Dsk} {s:Sto} (hs:SD s) (h:¬ ((BA d s).length:Int)=0) {c:Int} (hc:0≤c) (h2:¬ c< 2):Aq (BP d (BA d s) c)=DB s∧(CR s).2=true∧(CR s).1=DB s:=by
 obtain ⟨q,e⟩:=FlD.of hs h
 obtain ⟨e1,o⟩:=PC hs h hc
 have hl:s.parts.length< 6:=by rw [q.p,List.length_map]; exact q.l
 have hm:=q.m
 rw [← List.length_pos_iff] at hm
 have f1:=H7 hs q.k AB AB
 have f2:(CR s).2=true:=by rw [f1]
 exact ⟨by rw [D7 o,e1,(q.to c).2,if_neg h2],f2,(I2 hs f2).1⟩
theorem V0 {d:Dsk} {s:Sto} (hs:SD s) (h:¬ ((BA d s).length:Int)=0) {c:Int} (hc:0≤c) (h2:¬ c< 2):(Aq (BP d (BA d s) c)==(CR s).1)=true:=by
 obtain ⟨e1,_,e2⟩:=SE hs h hc h2
 rw [e1,e2]
 exact beq_self_eq_true _
theorem V1 {d:Dsk} {s:Sto} (hs:SD s) (h:¬ ((BA d s).length:Int)=0) {c:Int} (hc:0≤c) (h2:¬ c< 2):SD (Aq (BP d (BA d s) c)):=by
 obtain ⟨e1,f,e2⟩:=SE hs h hc h2
 rw [e1,← e2]
 exact RU hs f
theorem Ti {d:Dsk} {s:Sto} (hs:SD s) (h:¬ ((BA d s).length:Int)=0) {c:Int} (hc:0≤c) (h2:¬ c< 2):(DQ (Aq (BP d (BA d s) c)) [] 0 99==DQ s [] 0 99)=true:=by
 obtain ⟨e1,f,e2⟩:=SE hs h hc h2
 rw [e1,← e2,(N2 hs f).1]
 exact beq_self_eq_true _
end Go.Proofs.YtganlmloonielaaGreat
namespace Go.Proofs.YtganlmloonielaaGreat
set_option maxRecDepth 100000
set_option maxHeartbeats 4000000
theorem IU (code:List UInt8) (more:List UInt8) {w:World} {F:Nat→Prop} {a1:Option Addr} {n1 c1:Nat} (h1:RepS w F a1 n1 c1 code) {a2:Option Addr} {n2 c2:Nat} (h2:RepS w F a2 n2 c2 more)  : Calls Tryz.prog 10 [.slice a1 n1 c1,.slice a2 n2 c2].toArray w (As fun rv w'=>rv=.bool (true)∧Ext w w'):=by
 refine goT Tryz.func10 ?_
 obtain ⟨rfl,eL,h1⟩:=h1.tp
 obtain ⟨rfl,eM,h2⟩:=h2.tp
 refine .s<|.g<|.r 1<|.d<|.s<|.s<|.g<|.r 2<|.bp ((code.length:Int) > 1048576) (fun c9=>.r 5<|.d<|.ct<|.s<|.g<|.r 1<|.d<|.rt Tryz.func10 Tryz.results10 (.bool true) ⟨(congrArg Value.bool (by rfl)),(Chg.refl _ _)⟩) fun c9=>.r 3<|.bp ((more.length:Int) > 1048576) (fun da=>.r 1<|.d<|.ct<|.s<|.g<|.r 1<|.d<|.rt Tryz.func10 Tryz.results10 (.bool true) ⟨(congrArg Value.bool (by rfl)),(Chg.refl _ _)⟩) fun da=>.r 1<|.d<|.cf<|.sk<|.s<|.g<|.r 1<|.cl (GK code h1 (w:=w) (F:=nin (fo F w.heap.size) [])) ?_
 rintro gN gO ⟨⟨O,aa,⟨gP,gQ,rfl,⟨_,rfl,⟨dQ,gR,dR,dS,gS,dT,dU,gT,dV,rfl,am,ao,aq⟩⟩,⟨_,rfl,⟨dW,gU,dX,dY,gV,dZ,d0,gW,d3,d4,gX,d5,rfl,af,ag,ah,ai⟩⟩⟩,eN⟩,b8⟩
 have aK:∀ q_∈([]:List Nat),q_< w.heap.size:=all_nil
 have aL:Gb w.heap.size w.heap.size:=(Nat.le_refl _)
 have C:=b8
 replace am:=RepS.Aa (M:=[]) am aK aL
 have eO:=am.max
 replace ao:=RepS.Aa (M:=[]) ao aK aL
 have eP:=ao.max
 replace aq:=RepS.Aa (M:=[]) aq aK aL
 have eQ:=aq.max
 replace af:=RepS.Aa (M:=[]) af aK aL
 have eR:=af.max
 replace ag:=RepS.Aa (M:=[]) ag aK aL
 have eS:=ag.max
 replace ah:=RepS.Aa (M:=[]) ah aK aL
 have eT:=ah.max
 replace ai:=RepS.Aa (M:=[]) ai aK aL
 have eU:=ai.max
 have db:=am.len
 subst db
 have de:=ao.len
 subst de
 have df:=aq.len
 subst df
 have dg:=af.len
 subst dg
 have dh:=ag.len
 subst dh
 have dj:=ah.len
 subst dj
 have dm:=ai.len
 subst dm
 refine .r 3<|.np 27 [.slice none 0 0,.slice none 0 0,.slice none 0 0,vI 0] fun ac gY bL b9 bI dp=>?_
 have eV:=C.cn bL
 replace ⟨am,ao,aq,af,ag,ah,ai,C⟩:=(sn [] b9 bL).g8 am ao aq af ag ah ai C
 refine .np 34 [.slice none 0 0,.slice none 0 0,.slice none 0 0,.slice none 0 0] fun ae gZ bJ cd bM dq=>?_
 have eW:=AS bJ bI.lt
 have eX:=C.cn bJ
 replace ⟨am,ao,aq,af,ag,ah,ai,bI,C⟩:=(sn [ac] cd bJ).g9 am ao aq af ag ah ai bI C
 refine .sc [.slice dQ O.files.length dR,.slice dS O.list.length dT,.slice dU O.names.length dV,vI O.next] bI fun g0 ce E dr=>?_
 replace ⟨am,ao,aq,af,ag,ah,ai,bM,C⟩:=(so [ae,ac] ce).g9 am ao aq af ag ah ai bM C
 refine .sc [.slice dW aa.idx.names.length dX,.slice dY aa.idx.AV.length dZ,.slice d0 aa.parts.length d3,.slice d4 aa.mem.length d5] bM fun dt cg J du=>?_
 replace ⟨am,ao,aq,af,ag,ah,ai,E,C⟩:=(so [ae,ac] cg).g9 am ao aq af ag ah ai E C
 refine .d<|.s<|.g<|.ln E<|.ln J<|.cl (FO O aa am.ta ao.ta aq.ta af.ta ag.ta ah.ta ai.ta (by have q1:DD O∧SD aa:=‹_›; with_reducible exact q1.1) (by have q1:DD O∧SD aa:=‹_›; exact SG.of q1.2) (w:=dt) (F:=all)) ?_
 rintro eY ci ⟨⟨eZ,e7,rfl,av⟩,bN⟩
 have bO:=al2 J.lt E.lt
 have cm:Gb w.heap.size dt.heap.size:=C.size
 replace ⟨am,ao,aq,af,ag,ah,ai,E,J,C⟩:=(se [ae,ac] bN).g10 am ao aq af ag ah ai E J C
 have av:=av.fr bO cm
 replace av:=av.base (G':=fo F w.heap.size) (fun _ _ h=>.inr h)
 have d6:=av.max
 refine .r 1<|.d<|.s<|.s<|.g<|.r 1<|.ln E<|.ln J<|.cl (C2 O aa am.ta ao.ta aq.ta af.ta ag.ta ah.ta ai.ta (by have q1:DD O∧SD aa:=‹_›; with_reducible exact q1.1) (by have q1:DD O∧SD aa:=‹_›; with_reducible exact q1.2) (w:=ci) (F:=all)) ?_
 rintro e8 dv ⟨⟨fa,fb,rfl,bh⟩,bP⟩
 have bQ:=al2 J.lt E.lt
 have co:Gb w.heap.size ci.heap.size:=C.size
 replace ⟨am,ao,aq,af,ag,ah,ai,E,J,av,C⟩:=(se [ae,ac] bP).g11 am ao aq af ag ah ai E J av C
 have bh:=bh.fr bQ co
 replace bh:=bh.base (G':=fo F w.heap.size) (fun _ _ h=>.inr h)
 refine .cl (Ct (BA O aa) (BA O aa) av.ta bh.ta (w:=dv) (F:=all)) ?_
 rintro fc bK ⟨rfl,bR⟩
 replace ⟨am,ao,aq,af,ag,ah,ai,E,J,av,C⟩:=(se [ae,ac] bR).g11 am ao aq af ag ah ai E J av C
 rw [show (((BA O aa)==(BA O aa)))=true from beq_self_eq_true _]
 refine .r 4<|.eq (((BA O aa).length):Int) 0 (fun cp=>?_) (fun cp=>?_)
 ·refine .r 1<|.d<|.ct<|.s<|.g<|.r 1<|.ln E<|.ln J<|.cl (C2 O aa am.ta ao.ta aq.ta af.ta ag.ta ah.ta ai.ta (by have q1:DD O∧SD aa:=‹_›; with_reducible exact q1.1) (by have q1:DD O∧SD aa:=‹_›; with_reducible exact q1.2) (w:=bK) (F:=all)) ?_
  rintro fd dw ⟨⟨fe,ff,rfl,bi⟩,bS⟩
  have bT:=al2 J.lt E.lt
  have cq:Gb w.heap.size bK.heap.size:=C.size
  replace ⟨am,ao,aq,af,ag,ah,ai,E,J,av,C⟩:=(se [ae,ac] bS).g11 am ao aq af ag ah ai E J av C
  have bi:=bi.fr bT cq
  replace bi:=bi.base (G':=fo F w.heap.size) (fun _ _ h=>.inr h)
  refine .cl (Ct (BA O aa) (BA O aa) av.ta bi.ta (w:=dw) (F:=all)) ?_
  rintro fg fh ⟨rfl,bU⟩
  replace ⟨am,ao,aq,af,ag,ah,ai,E,J,av,C⟩:=(se [ae,ac] bU).g11 am ao aq af ag ah ai E J av C
  rw [show (((BA O aa)==(BA O aa)))=true from beq_self_eq_true _]
  exact .r 1<|.d<|.rt Tryz.func10 Tryz.results10 (.bool true) ⟨(congrArg Value.bool (by rfl)),C⟩
 refine .r 1<|.d<|.cf<|.sk<|.s<|.g<|.r 4<|.d<|.s<|.g<|.ln E<|.r 2<|.cl (Cl O (BA O aa) (Int.tmod (more.length:Int) 3) am ao aq av (by have q1:DD O∧SD aa:=‹_›; with_reducible exact q1.1) (by have q1:DD O∧SD aa:=‹_›; exact fun _=>(Cu q1.1 q1.2).1) (w:=bK) (F:=nin (fo F w.heap.size) [ae,ac])) ?_
 rintro fi fj ⟨⟨_,rfl,⟨dx,fk,dy,dz,fm,dA,dB,fp,dC,rfl,aj,ak,al⟩⟩,bV⟩
 have aW:=al2 J.lt E.lt
 have bu:Gb w.heap.size bK.heap.size:=C.size
 replace ⟨am,ao,aq,af,ag,ah,ai,E,J,C⟩:=(se [ae,ac] bV).g10 am ao aq af ag ah ai E J C
 replace aj:=RepS.Aa (M:=[ae,ac]) aj aW bu
 have d7:=aj.max
 replace ak:=RepS.Aa (M:=[ae,ac]) ak aW bu
 have d8:=ak.max
 replace al:=RepS.Aa (M:=[ae,ac]) al aW bu
 have d9:=al.max
 have cr:=aj.len
 subst cr
 have cu:=ak.len
 subst cu
 have cv:=al.len
 subst cv
 refine .np 27 [.slice none 0 0,.slice none 0 0,.slice none 0 0,vI 0] fun W fq aH bv cw cx=>?_
 have ec:=AS aH E.lt
 have ed:=AS aH J.lt
 have ee:=C.cn aH
 replace ⟨am,ao,aq,af,ag,ah,ai,E,J,aj,ak,al⟩:=(sn [ae,ac] bv aH).g12 am ao aq af ag ah ai E J aj ak al
 replace C:=(sn [ae,ac] bv aH).g1 C
 refine .sc [.slice dx (((BP O (BA O aa) (Int.tmod (more.length:Int) 3)).files).length) dy,.slice dz (((BP O (BA O aa) (Int.tmod (more.length:Int) 3)).list).length) dA,.slice dB (((BP O (BA O aa) (Int.tmod (more.length:Int) 3)).names).length) dC,vI ((BP O (BA O aa) (Int.tmod (more.length:Int) 3)).next)] cw fun cj bw ab cy=>?_
 replace ⟨am,ao,aq,af,ag,ah,ai,E,J,aj,ak,al⟩:=(so [W,ae,ac] bw).g12 am ao aq af ag ah ai E J aj ak al
 replace C:=(so [W,ae,ac] bw).g1 C
 refine .d<|.s<|.s<|.g<|.r 1<|.bp (Int.tmod (more.length:Int) 3< 2) (fun cz=>?_) (fun cz=>?_)
 ·refine .d<|.ct<|.s<|.gd nil 6 fun ft bz=>?_
  replace ⟨am,ao,aq,af,ag,ah,ai,E,J,aj,ak,al⟩:=(se [W,ae,ac] bz).g12 am ao aq af ag ah ai E J aj ak al
  replace ⟨ab,C⟩:=(se [W,ae,ac] bz).g2 ab C
  refine .ln 0 ab id<|GA.Bz (i:=1) AA (fun dD bA=>Bs (BP O (BA O aa) (Int.tmod (more.length:Int) 3)) (aj.ta.ext bA) (ak.ta.ext bA) (al.ta.ext bA) (by have q1:DD O∧SD aa:=‹_›; with_reducible exact (ER q1.1 (fun _=>(Cu q1.1 q1.2).1))) (w:=dD) (F:=all)) ?_
  have cA:(Af (BP O (BA O aa) (Int.tmod (more.length:Int) 3)))=true:=(by have q1:DD O∧SD aa:=‹_›; exact (PC q1.2 (by with_reducible assumption:¬ ((BA O aa).length:Int)=0) (Int.tmod_nonneg _ AB)).2)
  rw [cA]
  refine .r [2]<|.ln 3 ab id<|.ln 5 E id<|.go 4<|.cl (fun bW aI=>Bn (BP O (BA O aa) (Int.tmod (more.length:Int) 3)) (aj.ext aI) (ak.ext aI) (al.ext aI) (by have q1:DD O∧SD aa:=‹_›; with_reducible exact (ER q1.1 (fun _=>(Cu q1.1 q1.2).1))) (w:=bW) (F:=nin (fo F w.heap.size) [W,ae,ac])) ?_
  intro bW aI
  replace ⟨am,ao,aq,af,ag,ah,ai,E,J,aj,ak,al⟩:=(se [W,ae,ac] aI).g12 am ao aq af ag ah ai E J aj ak al
  replace ⟨ab,C⟩:=(se [W,ae,ac] aI).g2 ab C
  rintro fu fv ⟨⟨_,rfl,⟨fw,fz,fA,fB,fC,fD,fE,fF,fG,fH,fI,fJ,rfl,aD,aE,aF,aG⟩⟩,aX⟩
  have aM:=al3 ab.lt J.lt E.lt
  have aY:Gb w.heap.size bW.heap.size:=C.size
  have hkeep_:=aX
  replace ⟨am,ao,aq,af,ag,ah,ai,E,J,aj,ak,al⟩:=(se [W,ae,ac] aX).g12 am ao aq af ag ah ai E J aj ak al
  replace ⟨ab,C⟩:=(se [W,ae,ac] aX).g2 ab C
  refine ⟨Ext.chg hkeep_,?_⟩
  replace aD:=RepS.Aa (M:=[W,ae,ac]) aD aM aY
  have ef:=aD.max
  replace aE:=RepS.Aa (M:=[W,ae,ac]) aE aM aY
  have eg:=aE.max
  replace aF:=RepS.Aa (M:=[W,ae,ac]) aF aM aY
  have eh:=aF.max
  replace aG:=RepS.Aa (M:=[W,ae,ac]) aG aM aY
  have ej:=aG.max
  have cB:=aD.len
  subst cB
  have cC:=aE.len
  subst cC
  have cD:=aF.len
  subst cD
  have cE:=aG.len
  subst cE
  refine .d fun ck bB=>?_
  replace ⟨am,ao,aq,af,ag,ah,ai,E,J,aj,ak,al⟩:=(se [W,ae,ac] bB).g12 am ao aq af ag ah ai E J aj ak al
  replace ⟨ab,aD,aE,aF,aG,C⟩:=(se [W,ae,ac] bB).g6 ab aD aE aF aG C
  refine .cl (Bn O am ao aq (by have q1:DD O∧SD aa:=‹_›; with_reducible exact q1.1) (w:=ck) (F:=nin (fo F w.heap.size) [W,ae,ac])) ?_
  rintro fK dE ⟨⟨_,rfl,⟨fL,fM,fN,fO,fP,fQ,fR,fS,fT,fU,fV,fW,rfl,bj,bk,bm,bn⟩⟩,bC⟩
  have aN:=al3 ab.lt J.lt E.lt
  have aZ:Gb w.heap.size ck.heap.size:=C.size
  replace ⟨af,ag,ah,ai,E,J,aj,ak,al,ab,aD,aE⟩:=(se [W,ae,ac] bC).g12 af ag ah ai E J aj ak al ab aD aE
  replace ⟨aF,aG,C⟩:=(se [W,ae,ac] bC).g3 aF aG C
  replace bj:=RepS.Aa (M:=[W,ae,ac]) bj aN aZ
  have ek:=bj.max
  replace bk:=RepS.Aa (M:=[W,ae,ac]) bk aN aZ
  have en:=bk.max
  replace bm:=RepS.Aa (M:=[W,ae,ac]) bm aN aZ
  have et:=bm.max
  replace bn:=RepS.Aa (M:=[W,ae,ac]) bn aN aZ
  have ey:=bn.max
  have cF:=bj.len
  subst cF
  have cG:=bk.len
  subst cG
  have cH:=bm.len
  subst cH
  have cI:=bn.len
  subst cI
  refine .cl (Co (Aq (BP O (BA O aa) (Int.tmod (more.length:Int) 3))) (Aq O) aD.ta aE.ta aF.ta aG.ta bj.ta bk.ta bm.ta bn.ta (w:=dE) (F:=all)) ?_
  rintro fX fY ⟨rfl,bX⟩
  replace ⟨af,ag,ah,ai,E,J,aj,ak,al,ab,C⟩:=(se [W,ae,ac] bX).g11 af ag ah ai E J aj ak al ab C
  have cJ:((Aq (BP O (BA O aa) (Int.tmod (more.length:Int) 3)))==(Aq O))=true:=(by have q1:DD O∧SD aa:=‹_›; exact Vz q1.2 (by with_reducible assumption:¬ ((BA O aa).length:Int)=0) (Int.tmod_nonneg _ AB) ‹_›)
  rw [cJ]
  exact .r 2<|.d<|.rt Tryz.func10 Tryz.results10 (.bool true) ⟨(congrArg Value.bool (by rfl)),C⟩
 refine .d<|.cf<|.sk<|.s<|.g<|.ln J<|.cl (IA aa af ag ah ai (by have q1:DD O∧SD aa:=‹_›; with_reducible exact q1.2) (w:=cj) (F:=nin (fo F w.heap.size) [W,ae,ac])) ?_
 rintro fZ f0 ⟨⟨f5,rfl,⟨_,rfl,⟨dF,f6,dG,dH,f7,dI,dJ,f8,dK,dL,f9,dM,rfl,aw,ax,ay,az⟩⟩⟩,bY⟩
 have aO:=al3 ab.lt J.lt E.lt
 have ba:Gb w.heap.size cj.heap.size:=C.size
 replace ⟨af,ag,ah,ai,E,J,aj,ak,al,ab,C⟩:=(se [W,ae,ac] bY).g11 af ag ah ai E J aj ak al ab C
 replace aw:=RepS.Aa (M:=[W,ae,ac]) aw aO ba
 have ez:=aw.max
 replace ax:=RepS.Aa (M:=[W,ae,ac]) ax aO ba
 have eA:=ax.max
 replace ay:=RepS.Aa (M:=[W,ae,ac]) ay aO ba
 have eB:=ay.max
 replace az:=RepS.Aa (M:=[W,ae,ac]) az aO ba
 have eC:=az.max
 have cK:=aw.len
 subst cK
 have cL:=ax.len
 subst cL
 have cM:=ay.len
 subst cM
 have cN:=az.len
 subst cN
 refine .r 3<|.np 34 [.slice none 0 0,.slice none 0 0,.slice none 0 0,.slice none 0 0] fun au ga aC bD cO cP=>?_
 have eD:=AS aC E.lt
 have eE:=AS aC J.lt
 have eF:=AS aC ab.lt
 have eG:=C.cn aC
 replace ⟨af,ag,ah,ai,E,J,aj,ak,al,ab,aw,ax⟩:=(sn [W,ae,ac] bD aC).g12 af ag ah ai E J aj ak al ab aw ax
 replace ⟨ay,az,C⟩:=(sn [W,ae,ac] bD aC).g3 ay az C
 refine .sc [.slice dF (((((CR aa).1).idx).names).length) dG,.slice dH (((((CR aa).1).idx).AV).length) dI,.slice dJ ((((CR aa).1).parts).length) dK,.slice dL ((((CR aa).1).mem).length) dM] cO fun gb bE aA cQ=>?_
 replace ⟨af,ag,ah,ai,E,J,aj,ak,al,ab,aw,ax⟩:=(so [au,W,ae,ac] bE).g12 af ag ah ai E J aj ak al ab aw ax
 replace ⟨ay,az,C⟩:=(so [au,W,ae,ac] bE).g3 ay az C
 refine .r 1<|.d<|.s<|.gd nil 12 fun gf bF=>?_
 replace ⟨af,ag,ah,ai,E,J,aj,ak,al,ab,aw,ax⟩:=(se [au,W,ae,ac] bF).g12 af ag ah ai E J aj ak al ab aw ax
 replace ⟨ay,az,aA,C⟩:=(se [au,W,ae,ac] bF).g4 ay az aA C
 refine .ln 0 ab id<|GA.Bz (i:=1) AA (fun dN bG=>Bs (BP O (BA O aa) (Int.tmod (more.length:Int) 3)) (aj.ta.ext bG) (ak.ta.ext bG) (al.ta.ext bG) (by have q1:DD O∧SD aa:=‹_›; with_reducible exact (ER q1.1 (fun _=>(Cu q1.1 q1.2).1))) (w:=dN) (F:=all)) ?_
 have cR:(Af (BP O (BA O aa) (Int.tmod (more.length:Int) 3)))=true:=(by have q1:DD O∧SD aa:=‹_›; exact (PC q1.2 (by with_reducible assumption:¬ ((BA O aa).length:Int)=0) (Int.tmod_nonneg _ AB)).2)
 rw [cR]
 refine .r [2]<|.ln 3 ab id<|.ln 5 aA id<|.go 4<|.cl (fun bZ aJ=>Bn (BP O (BA O aa) (Int.tmod (more.length:Int) 3)) (aj.ext aJ) (ak.ext aJ) (al.ext aJ) (by have q1:DD O∧SD aa:=‹_›; with_reducible exact (ER q1.1 (fun _=>(Cu q1.1 q1.2).1))) (w:=bZ) (F:=nin (fo F w.heap.size) [au,W,ae,ac])) ?_
 intro bZ aJ
 replace ⟨af,ag,ah,ai,E,J,aj,ak,al,ab,aw,ax⟩:=(se [au,W,ae,ac] aJ).g12 af ag ah ai E J aj ak al ab aw ax
 replace ⟨ay,az,aA,C⟩:=(se [au,W,ae,ac] aJ).g4 ay az aA C
 rintro gh gi ⟨⟨_,rfl,⟨gj,gk,gl,gm,gn,gp,gq,gr,gs,gt,gu,gv,rfl,bo,bq,br,bt⟩⟩,bc⟩
 have aP:=al4 aA.lt ab.lt J.lt E.lt
 have bd:Gb w.heap.size bZ.heap.size:=C.size
 have hkeep_:=bc
 replace ⟨af,ag,ah,ai,E,J,aj,ak,al,ab,aw,ax⟩:=(se [au,W,ae,ac] bc).g12 af ag ah ai E J aj ak al ab aw ax
 replace ⟨ay,az,aA,C⟩:=(se [au,W,ae,ac] bc).g4 ay az aA C
 refine ⟨Ext.chg hkeep_,?_⟩
 replace bo:=RepS.Aa (M:=[au,W,ae,ac]) bo aP bd
 have eH:=bo.max
 replace bq:=RepS.Aa (M:=[au,W,ae,ac]) bq aP bd
 have eI:=bq.max
 replace br:=RepS.Aa (M:=[au,W,ae,ac]) br aP bd
 have eJ:=br.max
 replace bt:=RepS.Aa (M:=[au,W,ae,ac]) bt aP bd
 have eK:=bt.max
 have cS:=bo.len
 subst cS
 have cT:=bq.len
 subst cT
 have cU:=br.len
 subst cU
 have cV:=bt.len
 subst cV
 refine GA.Bz (i:=6) AA (fun dO aB=>Co (Aq (BP O (BA O aa) (Int.tmod (more.length:Int) 3))) ((CR aa).1) (bo.ta.ext aB) (bq.ta.ext aB) (br.ta.ext aB) (bt.ta.ext aB) (aw.ta.ext aB) (ax.ta.ext aB) (ay.ta.ext aB) (az.ta.ext aB) (w:=dO) (F:=all)) ?_
 have cW:((Aq (BP O (BA O aa) (Int.tmod (more.length:Int) 3)))==((CR aa).1))=true:=(by have q1:DD O∧SD aa:=‹_›; exact V0 q1.2 (by with_reducible assumption:¬ ((BA O aa).length:Int)=0) (Int.tmod_nonneg _ AB) ‹_›)
 rw [cW]
 refine .r [7,8]<|.ln 9 ab id<|.ln 11 J id<|.go 10<|.cl (fun b0 aQ=>Bn (BP O (BA O aa) (Int.tmod (more.length:Int) 3)) (aj.ext aQ) (ak.ext aQ) (al.ext aQ) (by have q1:DD O∧SD aa:=‹_›; with_reducible exact (ER q1.1 (fun _=>(Cu q1.1 q1.2).1))) (w:=b0) (F:=nin (fo F w.heap.size) [au,W,ae,ac])) ?_
 intro b0 aQ
 replace ⟨af,ag,ah,ai,E,J,ab,aA,C⟩:=(se [au,W,ae,ac] aQ).g9 af ag ah ai E J ab aA C
 rintro gw gx ⟨⟨_,rfl,⟨gy,gz,gA,gC,gD,gE,gF,gG,gH,gI,gJ,gK,rfl,aS,aT,aU,aV⟩⟩,bH⟩
 have aR:=al4 aA.lt ab.lt J.lt E.lt
 have bg:Gb w.heap.size b0.heap.size:=C.size
 have hkeep_:=bH
 replace ⟨af,ag,ah,ai,C⟩:=(se [au,W,ae,ac] bH).g5 af ag ah ai C
 refine ⟨Ext.chg hkeep_,?_⟩
 replace aS:=RepS.Aa (M:=[au,W,ae,ac]) aS aR bg
 replace aT:=RepS.Aa (M:=[au,W,ae,ac]) aT aR bg
 replace aU:=RepS.Aa (M:=[au,W,ae,ac]) aU aR bg
 replace aV:=RepS.Aa (M:=[au,W,ae,ac]) aV aR bg
 have cX:=aS.len
 subst cX
 have cY:=aT.len
 subst cY
 have cZ:=aU.len
 subst cZ
 have c7:=aV.len
 subst c7
 refine .d fun dP b6=>?_
 replace ⟨af,ag,ah,ai,aS,aT,aU,aV,C⟩:=(se [au,W,ae,ac] b6).g9 af ag ah ai aS aT aU aV C
 refine .cl (HG (Aq (BP O (BA O aa) (Int.tmod (more.length:Int) 3))) aa aS.ta aT.ta aU.ta aV.ta af.ta ag.ta ah.ta ai.ta (by have q1:DD O∧SD aa:=‹_›; with_reducible exact (V1 q1.2 (by with_reducible assumption:¬ ((BA O aa).length:Int)=0) (Int.tmod_nonneg _ AB) ‹_›)) (by have q1:DD O∧SD aa:=‹_›; with_reducible exact q1.2) (w:=dP) (F:=all)) ?_
 rintro gL gM ⟨rfl,b7⟩
 replace C:=(se [] b7).g1 C
 have c8:(DQ (Aq (BP O (BA O aa) (Int.tmod (more.length:Int) 3))) [] 0 99==DQ aa [] 0 99)=true:=(by have q1:DD O∧SD aa:=‹_›; exact Ti q1.2 (by with_reducible assumption:¬ ((BA O aa).length:Int)=0) (Int.tmod_nonneg _ AB) ‹_›)
 rw [c8]
 exact .r 2<|.d<|.rt Tryz.func10 Tryz.results10 (.bool true) ⟨(congrArg Value.bool (by rfl)),C⟩
end Go.Proofs.YtganlmloonielaaGreat
