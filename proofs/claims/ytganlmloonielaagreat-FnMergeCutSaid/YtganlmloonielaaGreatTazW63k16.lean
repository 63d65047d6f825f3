/- walks; hints pruned; squeezed -/
import Derived.Test.YtganlmloonielaaGreatTazMod54k17
set_option linter.unusedVariables false
set_option linter.unusedSimpArgs false
namespace Go.Proofs.YtganlmloonielaaGreat
set_option maxRecDepth 100000
set_option maxHeartbeats 4000000
theorem EC  {w:World} {F:Nat→Prop} {b:Nat} {ad:Option Addr} {cd p:Nat} {D:List UInt8} (hr:Box w b 122 [.slice ad D.length cd,.int .i64 (p:Int)]) (hD:RepS w (nin all [b]) ad D.length cd D) (hp:p+3200≤1000000000)  : Calls Tryz.prog 74 [.pointer (some ⟨b,0,none⟩)].toArray w (As fun rv w'=>(∃ (y:Dsk),VS (ge w.heap.size) w' (y:Dsk) rv∧(DD y))∧∃ p':Nat,p'≤p+3200∧Box w' b 122 [.slice ad D.length cd,.int .i64 (p':Int)]∧Chg (one b) w w'):=by
 refine goT Tryz.func74 ?_
 have c9:=hD.max
 refine .s<|.g<|.np 27 [.slice none 0 0,.slice none 0 0,.slice none 0 0,vI 0] fun ae bq aQ aT E bS=>?_
 have da:=AS aQ hr.lt
 have db:Cov (one b) w ae:=Bc aQ (Nat.le_refl _)
 replace ⟨hD,hr⟩:=(sn [b] aT aQ).g2 hD hr
 have C:Chg (one b) w bq:=Chg.Cc (Chg.refl (one b) w) aT
 refine .d<|.s<|.g<|.r 1<|.cl (CL hr (hD.BB AE) AB (w:=bq) (F:=all)) ?_
 rintro d0 aK ⟨⟨ac,⟨cE,d3,cF,cG,d4,cH,cI,d5,cJ,ag,cK,cL,bT,d6,bU,bV,d7,bW,bX,d8,bY,rfl,ao,aq,ar,O,aR,W,aa,ab⟩,de⟩,d9,df,aE,aU⟩
 have au:=al2 E.lt hr.lt
 have av:Gb w.heap.size bq.heap.size:=C.size
 have dg:=Ab aR hr.lt
 have dh:=Ab aR E.lt
 have br:Mv [ae,b] [ag,ae,b] bq aK:=Mv.cons (Mv.on aU AE) aR
 replace ⟨hD,E,C⟩:=(sp br aU).g3 hD E C
 replace ao:RepS aK (nin (ge w.heap.size) [ag,ae,b]) _ _ _ _:=RepS.BC (s0:=w.heap.size) (M:=[ae,b]) ao au av
 have dj:=ao.max
 replace aq:RepS aK (nin (ge w.heap.size) [ag,ae,b]) _ _ _ _:=RepS.BC (s0:=w.heap.size) (M:=[ae,b]) aq au av
 have dm:=aq.max
 replace ar:RepS aK (nin (ge w.heap.size) [ag,ae,b]) _ _ _ _:=RepS.BC (s0:=w.heap.size) (M:=[ae,b]) ar au av
 have dp:=ar.max
 replace O:Own aK ag 107 (nin (ge w.heap.size) [ag,ae,b]) _ _ _:=Own.BC (s0:=w.heap.size) (M:=[ae,b]) O au av
 have dq:=O.max
 have dr:=O.len
 replace W:RepS aK (nin (ge w.heap.size) [ag,ae,b]) _ _ _ _:=RepS.BC (s0:=w.heap.size) (M:=[ae,b]) W au av
 have dt:=W.max
 replace aa:RepS aK (nin (ge w.heap.size) [ag,ae,b]) _ _ _ _:=RepS.BC (s0:=w.heap.size) (M:=[ae,b]) aa au av
 have du:=aa.max
 replace ab:RepS aK (nin (ge w.heap.size) [ag,ae,b]) _ _ _ _:=RepS.BC (s0:=w.heap.size) (M:=[ae,b]) ab au av
 have dv:=ab.max
 have bZ:=ao.len
 subst bZ
 have b0:=aq.len
 subst b0
 have b6:=ar.len
 subst b6
 have b7:=W.len
 subst b7
 have b8:=aa.len
 subst b8
 have b9:=ab.len
 subst b9
 refine .np 70 [.slice none 0 0,.slice none 0 0,.slice none 0 0,.slice none 0 0,.slice none 0 0,.slice none 0 0,.slice none 0 0,vI 0] fun ai ec aF bt ce cg=>?_
 have bu:=AS aF aE.lt
 have dw:=AS aF E.lt
 have dx:=AS aF O.lt
 have dy:=C.cn aF
 replace ⟨hD,aE,E,ao,aq,ar,O,W,aa,ab,C⟩:=(sn [ag,ae,b] bt aF).g11 hD aE E ao aq ar O W aa ab C
 refine .sc [.slice cE ac.store.idx.names.length cF,.slice cG ac.store.idx.AV.length cH,.slice cI ac.store.parts.length cJ,vS ag cK cL,.slice bT ac.disk.files.length bU,.slice bV ac.disk.list.length bW,.slice bX ac.disk.names.length bY,vI ac.disk.next] ce fun cM bv J ci=>?_
 replace ⟨hD,aE,E,ao,aq,ar,O,W,aa,ab,C⟩:=(so [ai,ag,ae,b] bv).g11 hD aE E ao aq ar O W aa ab C
 refine .d<|.s<|.s<|.g<|.r 1<|.cl (AZ 3 aE (hD.BB AG) AB (w:=cM) (F:=all)) ?_
 rintro dz cN ⟨⟨cj,rfl,cO⟩,ck,cP,af,aV⟩
 replace ⟨hD,E,ao,aq,ar,O,W,aa,ab,J,C⟩:=(so [ai,ag,ae,b] aV).g11 hD E ao aq ar O W aa ab J C
 refine .eq cj 0 (fun bB=>?_) (fun bB=>?_)
 ·refine .d<|.ct<|.s<|.gd nil 7 fun dA aW=>?_
  replace ⟨hD,af,E,ao,aq,ar,O,W,aa,ab,J,C⟩:=(se [ai,ag,ae,b] aW).g12 hD af E ao aq ar O W aa ab J C
  refine .r [0]<|.ln 1 J id<|.r [2]<|.ln 3 J id<|.r [4]<|.ln 5 J id<|.go 6<|.cl (fun aX aj=>C2 ac.disk ac.store (W.ta.ext aj) (aa.ta.ext aj) (ab.ta.ext aj) (ao.ta.ext aj) (aq.ta.ext aj) (ar.ta.ext aj) ((O.rep).ext aj) (by have q1:WG _:=‹_›; exact q1.2) (by have q1:WG _:=‹_›; exact q1.1) (w:=aX) (F:=all)) ?_
  intro aX aj
  replace ⟨hD,af,E,O,W,aa,ab,J,C⟩:=(se [ai,ag,ae,b] aj).g9 hD af E O W aa ab J C
  rintro dB dC ⟨⟨dD,dE,rfl,aG⟩,aL⟩
  have aY:=al4 J.lt O.lt E.lt af.lt
  have bC:Gb w.heap.size aX.heap.size:=C.size
  have hkeep_:=aL
  replace ⟨hD,af,E,O,W,aa,ab,J,C⟩:=(se [ai,ag,ae,b] aL).g9 hD af E O W aa ab J C
  refine ⟨Ext.chg hkeep_,?_⟩
  have aG:=aG.fr aY bC
  have cQ:=aG.max
  refine .d fun bw aZ=>?_
  replace ⟨hD,af,E,O,W,aa,ab,J,aG,C⟩:=(se [ai,ag,ae,b] aZ).g10 hD af E O W aa ab J aG C
  refine .cl (Cv ac.disk (BA ac.disk ac.store) 1 W.ta aa.ta ab.ta aG.ta (by have q1:WG _:=‹_›; exact q1.2) (by have q1:WG _:=‹_›; exact fun _=>by exact (Cu q1.2 q1.1).1) (w:=bw) (F:=all)) ?_
  rintro dF dG ⟨⟨_,rfl,⟨cm,dH,co,cp,dI,cq,cr,dJ,cu,rfl,aw,ax,ay⟩⟩,ba⟩
  have aH:=al4 J.lt O.lt E.lt af.lt
  have aM:Gb w.heap.size bw.heap.size:=C.size
  replace ⟨hD,af,E,O,W,aa,ab,J,C⟩:=(se [ai,ag,ae,b] ba).g9 hD af E O W aa ab J C
  have aw:=aw.fr aH aM
  have cR:=aw.max
  have ax:=ax.fr aH aM
  have cS:=ax.max
  have ay:=ay.fr aH aM
  have cT:=ay.max
  have bD:=aw.len
  subst bD
  have bE:=ax.len
  subst bE
  have bF:=ay.len
  subst bF
  refine .sc [.slice cm (((BP ac.disk (BA ac.disk ac.store) 1).files).length) co,.slice cp (((BP ac.disk (BA ac.disk ac.store) 1).list).length) cq,.slice cr (((BP ac.disk (BA ac.disk ac.store) 1).names).length) cu,vI ((BP ac.disk (BA ac.disk ac.store) 1).next)] E fun dK bc bG bH=>?_
  replace ⟨hD,af,O,W,aa,ab,J,aw,ax,ay,C⟩:=(so [ai,ag,ae,b] bc).g11 hD af O W aa ab J aw ax ay C
  exact .d<|.rb Tryz.func74 Tryz.results74 bG ⟨⟨((BP ac.disk (BA ac.disk ac.store) 1):Dsk),⟨_,rfl,⟨_,_,_,_,_,_,_,_,_,rfl,aw.w1,ax.w1,ay.w1⟩⟩,(by have q1:WG _:=‹_›; exact ER q1.2 (fun _=>by exact (Cu q1.2 q1.1).1))⟩,ck,by omega,af,C⟩
 refine .d<|.cf<|.sk<|.s<|.s<|.g<|.r 1<|.cl (AZ 3 af (hD.BB AG) AB (w:=cN) (F:=all)) ?_
 rintro dL aS ⟨⟨cv,rfl,cU⟩,cw,cV,ah,bd⟩
 replace ⟨hD,E,O,W,aa,ab,J,C⟩:=(so [ai,ag,ae,b] bd).g8 hD E O W aa ab J C
 refine .eq cv 0 (fun bI=>?_) (fun bI=>?_)
 ·refine .d<|.ct<|.s ?_
  replace hD:=hD.Ah
  replace W:=W.Ah
  replace aa:=aa.Ah
  replace ab:=ab.Ah
  have bJ:Cov (mtb [b] aS.heap.size) aS b:=⟨.inl (.inl AD)⟩
  have bg:Gb (ai+1) aS.heap.size:=J.lt
  refine .gd (mtb [b] aS.heap.size) 8 fun dM bh=>?_
  replace ⟨hD,ah,E,O,W,aa,ab,J,C⟩:=(se [ai,ag,ae,b] bh).g9 hD ah E O W aa ab J C
  refine .r [0]<|.ln 1 J (Ax (all_cons bu all_nil) bg)<|.r [2]<|.ln 3 J (Ax (all_cons bu all_nil) bg)<|.r [5]<|.go 4<|.cl (fun bi az=>CB ac.disk 0 (W.ta.ext az) (aa.ta.ext az) (ab.ta.ext az) (by have q1:WG _:=‹_›; exact q1.2) (w:=bi) (F:=all)) ?_
  intro bi az
  replace ⟨hD,ah,E,O,W,aa,ab,J,C⟩:=(se [ai,ag,ae,b] az).g9 hD ah E O W aa ab J C
  rintro dN dO ⟨⟨dP,dQ,rfl,am⟩,aN⟩
  have bj:=al4 J.lt O.lt E.lt ah.lt
  have bK:Gb w.heap.size bi.heap.size:=C.size
  have hkeep_:=aN
  replace ⟨hD,ah,E,O,W,aa,ab,J,C⟩:=(se [ai,ag,ae,b] aN).g9 hD ah E O W aa ab J C
  refine ⟨Ext.chg hkeep_,?_⟩
  have am:=am.fr bj bK
  have cW:=am.max
  refine .go 6<|.cl (fun bz aI=>AZ 3 (ah.ext aI) ((hD.BB AG).ext aI) AB (w:=bz) (F:=all)) ?_
  intro bz aI
  replace ⟨hD,ah,E,O,W,aa,ab,J,am,C⟩:=(se [ai,ag,ae,b] aI).g10 hD ah E O W aa ab J am C
  rintro dR dS ⟨⟨aA,rfl,cX⟩,cx,cY,al,aO⟩
  have hkeep_:=aO
  replace ⟨hD,E,O,W,aa,ab,J,am,C⟩:=(so [ai,ag,ae,b] aO).g9 hD E O W aa ab J am C
  refine ⟨Chg.toS hkeep_ (Cov.toS bJ),?_⟩
  refine GA.int (i:=7) (1+aA) AA AB<|.d fun bA bk=>?_
  replace ⟨hD,al,E,O,W,aa,ab,J,am,C⟩:=(se [ai,ag,ae,b] bk).g10 hD al E O W aa ab J am C
  replace hD:=hD.AU
  replace W:=W.AU
  replace aa:=aa.AU
  replace ab:=ab.AU
  refine .cl (Cv ac.disk (AT ac.disk 0) (1+aA) W.ta aa.ta ab.ta am.ta (by have q1:WG _:=‹_›; exact q1.2) (by have q1:WG _:=‹_›; exact fun _=>by exact (Cb q1.2 _).1) (w:=bA) (F:=all)) ?_
  rintro dT dU ⟨⟨_,rfl,⟨cy,dV,cz,cA,dW,cB,cC,dX,cD,rfl,aB,aC,aD⟩⟩,bm⟩
  have aJ:=al4 J.lt O.lt E.lt al.lt
  have aP:Gb w.heap.size bA.heap.size:=C.size
  replace ⟨hD,al,E,W,aa,ab,J,C⟩:=(se [ai,ag,ae,b] bm).g8 hD al E W aa ab J C
  have aB:=aB.fr aJ aP
  have cZ:=aB.max
  have aC:=aC.fr aJ aP
  have c7:=aC.max
  have aD:=aD.fr aJ aP
  have c8:=aD.max
  have bL:=aB.len
  subst bL
  have bM:=aC.len
  subst bM
  have bN:=aD.len
  subst bN
  refine .sc [.slice cy (((BP ac.disk (AT ac.disk 0) (1+aA)).files).length) cz,.slice cA (((BP ac.disk (AT ac.disk 0) (1+aA)).list).length) cB,.slice cC (((BP ac.disk (AT ac.disk 0) (1+aA)).names).length) cD,vI ((BP ac.disk (AT ac.disk 0) (1+aA)).next)] E fun dY bn bO bP=>?_
  replace ⟨hD,al,W,aa,ab,J,aB,aC,aD,C⟩:=(so [ai,ag,ae,b] bn).g10 hD al W aa ab J aB aC aD C
  exact .d<|.rb Tryz.func74 Tryz.results74 bO ⟨⟨((BP ac.disk (AT ac.disk 0) (1+aA)):Dsk),⟨_,rfl,⟨_,_,_,_,_,_,_,_,_,rfl,aB.w1,aC.w1,aD.w1⟩⟩,(by have q1:WG _:=‹_›; exact ER q1.2 (fun _=>by exact (Cb q1.2 _).1))⟩,cx,by omega,al,C⟩
 refine .d<|.cf<|.sk<|.s<|.g<|.r 1<|.ln J<|.sc [.slice bT ac.disk.files.length bU,.slice bV ac.disk.list.length bW,.slice bX ac.disk.names.length bY,vI ac.disk.next] E fun dZ bo bQ bR=>?_
 replace ⟨hD,ah,W,aa,ab,C⟩:=(so [ai,ag,ae,b] bo).g6 hD ah W aa ab C
 exact .d<|.rb Tryz.func74 Tryz.results74 bQ ⟨⟨(ac.disk:Dsk),⟨_,rfl,⟨_,_,_,_,_,_,_,_,_,rfl,W.w1,aa.w1,ab.w1⟩⟩,(by have q1:WG _:=‹_›; exact q1.2)⟩,cw,by omega,ah,C⟩
end Go.Proofs.YtganlmloonielaaGreat
