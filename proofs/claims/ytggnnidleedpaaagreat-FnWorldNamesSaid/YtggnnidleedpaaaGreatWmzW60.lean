/- walks; pruned haves; hints pruned; squeezed -/
import Derived.Test.YtggnnidleedpaaaGreatWmzMod42
open Go.Proofs.Tryz
set_option linter.unusedVariables false
set_option linter.unusedSimpArgs false
namespace Go.Proofs.YtggnnidleedpaaaGreat
set_option maxRecDepth 100000
set_option maxHeartbeats 4000000
variable {w:World} {F:Nat→Prop} {a1 a2 a3 a4:Option Addr} {n1 c1 n2 c2 n3 c3 n4 c4:Nat}
theorem IB (d:Dsk) (s:Stp){bx rb0:Nat}{nb0 cb0:Nat}(hob0:Own w rb0 50 (nin F [bx,rb0]) nb0 cb0 d.files){ab1:Option Addr}{nb1 cb1:Nat}(hrb1:RepS w (nin F [bx,rb0]) ab1 nb1 cb1 d.list){ab2:Option Addr}{nb2 cb2:Nat}(hrb2:RepS w (nin F [bx,rb0]) ab2 nb2 cb2 d.names) (hbx:Box w bx 36 [.slice (some ⟨rb0,0,none⟩) nb0 cb0,.slice ab1 nb1 cb1,.slice ab2 nb2 cb2,.int .i64 d.next]) (hnb0:Nb rb0 bx) (h1:RepS w (nin F [bx,rb0]) a1 n1 c1 s.part.ids) (h2:RepS w (nin F [bx,rb0]) a2 n2 c2 s.part.blocks) (h3:RepS w (nin F [bx,rb0]) a3 n3 c3 s.list) (h4:RepS w (nin F [bx,rb0]) a4 n4 c4 s.names) (p0:d.files.length≤1000) (p1:II s) (p2:Ck s.part):Calls Tryz.prog 102 [.pointer (some ⟨bx,0,none⟩),.agg #[.int .i64 s.kind,.int .i64 s.num,.slice a1 n1 c1,.slice a2 n2 c2,.slice a3 n3 c3,.slice a4 n4 c4]].toArray w (BB fun rv w'=>(rv=.tuple #[]∧(∃ (ro0 no0 co0:Nat) (ao1:Option Addr) (no1 co1:Nat) (ao2:Option Addr) (no2 co2:Nat),Box w' bx 36 [.slice (some ⟨ro0,0,none⟩) no0 co0,.slice ao1 no1 co1,.slice ao2 no2 co2,.int .i64 (((doD d s)).next)]∧Own w' ro0 50 (nin (fo F w.heap.size) [bx,ro0]) no0 co0 (((doD d s)).files)∧OrB ro0 rb0 w.heap.size∧Nb ro0 bx∧RepS w' (nin (fo F w.heap.size) [bx,ro0]) ao1 no1 co1 (((doD d s)).list)∧RepS w' (nin (fo F w.heap.size) [bx,ro0]) ao2 no2 co2 (((doD d s)).names)))∧Chg (ins [bx,rb0]) w w'):=by
 refine goT func102 ?_
 have hcv_bx:Cov (ins [bx,rb0]) w bx:=Cov.mkI AI
 have hcv_rb0:Cov (ins [bx,rb0]) w rb0:=Cov.mkI AJ
 replace hob0:=hob0.base (G':=fo F w.heap.size) (fun _ _ h=>.inl h)
 have cK:=hob0.len
 obtain rfl:=hrb1.len
 replace hrb1:=hrb1.Ex (s:=w.heap.size)
 obtain rfl:=hrb2.len
 replace hrb2:=hrb2.Ex (s:=w.heap.size)
 obtain rfl:=h1.len
 replace h1:=h1.Ex (s:=w.heap.size)
 obtain rfl:=h2.len
 replace h2:=h2.Ex (s:=w.heap.size)
 obtain rfl:=h3.len
 replace h3:=h3.Ex (s:=w.heap.size)
 have cQ:=h3.max
 obtain rfl:=h4.len
 replace h4:=h4.Ex (s:=w.heap.size)
 have cR:=h4.max
 refine .s<|.g<|.np 137 [vI s.kind,vI s.num,.slice a1 s.part.ids.length c1,.slice a2 s.part.blocks.length c2,.slice a3 s.list.length c3,.slice a4 s.names.length c4] fun J aA ay aC E b7=>?_
 have bk:=AX ay hob0.lt
 have cS:=AX ay hbx.lt
 replace ⟨hob0,hrb1,hrb2,hbx,h1,h2,h3,h4⟩:=(sn [bx,rb0] aC ay).g8 hob0 hrb1 hrb2 hbx h1 h2 h3 h4
 have C:Chg (ins [bx,rb0]) w aA:=Chg.Cb (Chg.refl (ins [bx,rb0]) w) aC
 refine .d<|.s<|.g<|.r 1<|.lb E<|.d<|.b 0<|.s<|.g<|.eq s.kind 1 (fun b8=>?_) (fun b8=>?_)
 ·refine .r 1<|.d<|.ct<|.s ?_
  replace hrb1:=hrb1.BO
  replace hrb2:=hrb2.BO
  replace h1:=h1.BO
  replace h2:=h2.BO
  replace h3:=h3.BO
  replace h4:=h4.BO
  have bu:Cov (mtb [rb0] aA.heap.size) aA rb0:=⟨.inl (.inl AI)⟩
  have bv:Gb (bx+1) aA.heap.size:=hbx.lt
  have aD:Gb (J+1) aA.heap.size:=E.lt
  refine .gd (mtb [rb0] aA.heap.size) 13 fun cT aE=>?_
  replace ⟨hob0,hrb1,hrb2,hbx,h1,h2,h3,h4,E,C⟩:=(se [J,bx,rb0] aE).g10 hob0 hrb1 hrb2 hbx h1 h2 h3 h4 E C
  refine .r [0,1,2,3]<|.lb 4 hbx (BL (all_cons (Nb.symm hnb0) all_nil) bv)<|.r [5]<|.lb 6 E (BL (all_cons bk all_nil) aD)<|.r [7]<|.ln 8 E (BL (all_cons bk all_nil) aD)<|.go 9<|.cl (fun aF aq=>C9 s.part (h1.ta.ext aq) (h2.ta.ext aq) p2 (w:=aF) (F:=all)) ?_
  intro aF aq
  replace ⟨hob0,hrb1,hrb2,hbx,h3,h4,E,C⟩:=(se [J,bx,rb0] aq).g8 hob0 hrb1 hrb2 hbx h3 h4 E C
  rintro cU cV ⟨⟨_,rfl,⟨b9,cW,cd,ce,cX,cg,rfl,ac,ae⟩⟩,au⟩
  have av:=al3 E.lt hbx.lt hob0.lt
  have aG:Gb w.heap.size aF.heap.size:=C.size
  have hkeep_:=au
  replace ⟨hob0,hrb1,hrb2,hbx,h3,h4,E,C⟩:=(se [J,bx,rb0] au).g8 hob0 hrb1 hrb2 hbx h3 h4 E C
  refine ⟨Ext.chg hkeep_,?_⟩
  have ac:=ac.fr av aG
  replace ac:=ac.base (G':=fo F w.heap.size) (fun _ _ h=>.inr h)
  have co:=ac.max
  have ae:=ae.fr av aG
  replace ae:=ae.base (G':=fo F w.heap.size) (fun _ _ h=>.inr h)
  have cp:=ae.max
  have bw:=ac.len
  subst bw
  have bz:=ae.len
  subst bz
  refine .r [10]<|.go 11<|.ns 1 50 [vI s.num,.slice b9 s.part.ids.length cd,.slice ce s.part.blocks.length cg] fun cY aH=>?_
  replace ⟨hob0,hrb1,hrb2,hbx,h3,h4,E,ac,ae,C⟩:=(se [J,bx,rb0] aH).g10 hob0 hrb1 hrb2 hbx h3 h4 E ac ae C
  intro aI cZ ak aJ aw bA
  have aK:=AX ak hob0.lt
  have bB:=AX ak hbx.lt
  have bC:=AX ak E.lt
  have bD:=Ae ak C.size
  replace ⟨hob0,hrb1,hrb2,hbx,h3,h4,E,ac,ae,C⟩:=(se [J,bx,rb0] aJ).g10 hob0 hrb1 hrb2 hbx h3 h4 E ac ae C
  refine .go 12<|GE.append (T:=33) (ty:=33) (args:=[vS rb0 nb0 cb0,vS aI 1 1]) AA fun c7 aL=>?_
  replace ⟨hob0,hrb1,hrb2,hbx,h3,h4,E,ac,ae,aw,C⟩:=(se [J,bx,rb0] aL).g11 hob0 hrb1 hrb2 hbx h3 h4 E ac ae aw C
  have aB:nin (fo F w.heap.size) [J,bx,rb0] aI∧aI≠rb0:=BR (.inr bD) (all_cons bC (all_cons bB (all_cons aK all_nil))) aK
  obtain ⟨ar,bm,c8,aM,aa,aj,ax,bE⟩:=hob0.Ax (P:=Tryz.prog) (T:=33) (ty:=33) (y:=(⟨s.num,(⟨s.part.ids,s.part.blocks⟩:Prt)⟩:Fil)) AA aw ⟨_,_,_,_,_,_,rfl,ac.oi,ae.oi⟩ aB AB
  refine ⟨_,_,aM,Chg.toS ax (Cov.toS bu),?_⟩
  have aN:=Ag aj hnb0 hbx.lt
  have bF:=Aw aj hcv_rb0 C.size
  replace ⟨hrb1,hrb2,hbx,h3,h4,E,C⟩:=(sa [J,bx,rb0] ax aj).g7 hrb1 hrb2 hbx h3 h4 E C
  replace aa:=aa.rn rb0
  refine .d fun c9 aO=>?_
  replace ⟨aa,hrb1,hrb2,hbx,h3,h4,E,C⟩:=(se [J,bx,ar] aO).g8 aa hrb1 hrb2 hbx h3 h4 E C
  replace hrb1:=hrb1.Aa
  replace hrb2:=hrb2.Aa
  replace h3:=h3.Aa
  replace h4:=h4.Aa
  refine .r 2<|.ss 0 (vS ar (nb0+1) bm) hbx fun da aP bG bH=>?_
  replace ⟨aa,hrb1,hrb2,h3,h4,E,C⟩:=(so [J,bx,ar] aP).g7 aa hrb1 hrb2 h3 h4 E C
  refine .d<|.g<|.r 2<|.lb E<|RG.int (s.num+1) AA (by have q1:=p1.2.2.2; omega)<|.r 2<|.ss 3 (vI (s.num+1)) bG fun db aQ bI bJ=>?_
  replace ⟨aa,hrb1,hrb2,h3,h4,E,C⟩:=(so [J,bx,ar] aQ).g7 aa hrb1 hrb2 h3 h4 E C
  refine .d<|.ib 0<|T.Ez func102 results102 ?_
  rw [show (doD d s)=(⟨(d.files++[(⟨s.num,(⟨s.part.ids,s.part.blocks⟩:Prt)⟩:Fil)]),d.list,d.names,s.num+1⟩:Dsk) from by (rw [E6 ‹_›]; done)]
  exact ⟨⟨rfl,ar,(nb0+1),bm,ab1,d.list.length,cb1,ab2,d.names.length,cb2,bI,(Own.Ap aa (all_cons AJ (all_cons AK all_nil))),(H6 bF aN),aN,(RepS.Ap hrb1 (all_cons AJ (all_cons AK all_nil))),(RepS.Ap hrb2 (all_cons AJ (all_cons AK all_nil)))⟩,C⟩
 refine .r 1<|.d<|.cf<|.s<|.g<|.eq s.kind 2 (fun bK=>?_) (fun bK=>?_)
 ·refine .r 1<|.d<|.ct<|.s<|.g<|.r 1<|.ns 0 3 [] fun az ci ag aR bL bM=>?_
  have bN:=AX ag hob0.lt
  have bO:=AX ag hbx.lt
  have bP:=AX ag E.lt
  have bQ:=Ae ag C.size
  have cu:=C.cn ag
  replace ⟨hob0,hrb1,hrb2,hbx,h3,h4,E,C⟩:=(sn [J,bx,rb0] aR ag).g8 hob0 hrb1 hrb2 hbx h3 h4 E C
  have bR:Own (α:=Int) ci az 3 (nin (fo F w.heap.size) [az,J,bx,rb0]) 0 0 []:=Own.Aj bL
  refine .r 1<|.lb E<|RG.BG (T:=34) (ty:=34) BS bR h3 AA AA (fun b h e=>h.2 (e▸AI)) (by (have:=p1.1; omega)) fun ai bn de W af aS=>?_
  have cw:=Ag af bN hob0.lt
  have cx:=Ag af bO hbx.lt
  have cy:=Ag af bP E.lt
  have bS:=Bt af bQ C.size
  replace ⟨hob0,hrb1,hrb2,hbx,h4,E,C⟩:=(sa [az,J,bx,rb0] aS af).g7 hob0 hrb1 hrb2 hbx h4 E C
  replace W:=W.rn az
  refine .r 2<|.ss 1 (vS ai (0+s.list.length) bn) hbx fun bo aT al bT=>?_
  replace ⟨hob0,hrb1,hrb2,h4,E,W,C⟩:=(so [ai,J,bx,rb0] aT).g7 hob0 hrb1 hrb2 h4 E W C
  refine .d<|.g<|.r 2<|.lb E<|.cl (Ak s.names h4.ta (by have:=p1.2.1; omega) (by (intro n hn; have:=p1.2.2.1 n hn; omega)) (w:=bo) (F:=all)) ?_
  rintro df dg ⟨⟨ao,bq,br,rfl,ab,ah⟩,aU⟩
  have aV:=al4 W.lt E.lt al.lt hob0.lt
  have bU:Gb w.heap.size bo.heap.size:=C.size
  have cB:=Ah ah hob0.lt
  have cC:=Ah ah al.lt
  have cD:=Ah ah E.lt
  have cE:=Ah ah W.lt
  have bV:=Bo ah C.size
  replace ⟨hob0,hrb1,hrb2,al,E,W,C⟩:=(sz [ai,J,bx,rb0] aU ah).g7 hob0 hrb1 hrb2 al E W C
  replace ab:=Own.take (s0:=w.heap.size) (M:=[ai,J,bx,rb0]) ab aV bU
  replace ab:=ab.base (G':=fo F w.heap.size) (fun _ _ h=>.inr h)
  refine .r 2<|.ss 2 (vS ao bq br) al fun bt aW bW bX=>?_
  replace ⟨hob0,hrb1,hrb2,E,W,ab,C⟩:=(so [ao,ai,J,bx,rb0] aW).g7 hob0 hrb1 hrb2 E W ab C
  refine .d<|.ib 0 ?_
  have aX:=W.sl (.inr bS)
  replace ⟨hob0,hrb1,hrb2,ab⟩:=(sd bt [ao,ai,J,bx,rb0] ai).g4 hob0 hrb1 hrb2 ab
  have cj:=ab.sl (.inr bV)
  replace ⟨hob0,hrb1,hrb2,aX⟩:=(sd bt [ao,J,bx,rb0] ao).g4 hob0 hrb1 hrb2 aX
  refine T.Ez func102 results102 ?_
  rw [show (doD d s)=(⟨d.files,([]++s.list),s.names,d.next⟩:Dsk) from by (rw [Fs ‹_›]; rfl)]
  exact ⟨⟨rfl,rb0,nb0,cb0,(some ⟨ai,0,none⟩),(0+s.list.length),bn,(some ⟨ao,0,none⟩),bq,br,bW,(Own.Ap hob0 (all_cons AJ (all_cons AK all_nil))),(H6 hcv_rb0 hnb0),hnb0,(RepS.Ap aX (all_cons AJ (all_cons AK all_nil))),(RepS.Ap cj (all_cons AJ (all_cons AK all_nil)))⟩,C⟩
 refine .r 1<|.d<|.cf<|.s<|.g<|.eq s.kind 3 (fun bY=>?_) (fun bY=>?_)
 ·refine .r 1<|.d<|.ct<|.s<|.gd nil 5 fun dh aY=>?_
  replace ⟨hob0,hrb1,hrb2,hbx,E,C⟩:=(se [J,bx,rb0] aY).g6 hob0 hrb1 hrb2 hbx E C
  refine .r [0,1]<|.ln 2 hbx id<|.r [3]<|.lb 4 E id<|.d fun ck aZ=>?_
  replace ⟨hob0,hrb1,hrb2,hbx,E,C⟩:=(se [J,bx,rb0] aZ).g6 hob0 hrb1 hrb2 hbx E C
  refine .cl (Cn d s.num (hob0.rep) hrb1.ta hrb2.ta (w:=ck) (F:=all)) ?_
  rintro dj dm ⟨rfl,ba⟩
  replace ⟨hob0,hrb1,hrb2,hbx,E,C⟩:=(se [J,bx,rb0] ba).g6 hob0 hrb1 hrb2 hbx E C
  refine .r 1<|.d<|.s<|.gd nil 9 fun dp bc=>?_
  replace ⟨hob0,hrb1,hrb2,hbx,E,C⟩:=(se [J,bx,rb0] bc).g6 hob0 hrb1 hrb2 hbx E C
  refine .r [0]<|GA.Ey (i:=1) (Av d s.num≥0) AA (fun bZ=>?_) (fun bZ=>?_)
  ·refine .r [2,3,4,5]<|.lb 6 hbx id<|.r [7]<|.lb 8 E id<|.d fun cm bd=>?_
   replace ⟨hob0,hrb1,hrb2,hbx,C⟩:=(se [J,bx,rb0] bd).g5 hob0 hrb1 hrb2 hbx C
   refine .cl (CY d.list s.num hrb1.ta (w:=cm) (F:=all)) ?_
   rintro dq dr ⟨rfl,bg⟩
   replace ⟨hob0,hrb1,hrb2,hbx,C⟩:=(se [J,bx,rb0] bg).g5 hob0 hrb1 hrb2 hbx C
   cases cH:(d.list.contains s.num)
   ·refine .r 2<|.d<|.ct<|.g<|.r 4<|.lb hbx<|.r 2<|RG.int (Av d s.num+1) AA (by have q1:=p1.2.2.2; (have:=Ce d s.num; omega))<|.cl (IA (i:=(Av d s.num).toNat) (a:=Av d s.num) (b:=Av d s.num+1) hob0 (by have:=Ce d s.num; have:=G7 d s.num; omega) (by have:=Ce d s.num; have:=G7 d s.num; omega) (by have:=Ce d s.num; have:=G7 d s.num; omega) (by have:=Ce d s.num; have:=G7 d s.num; omega)) ?_
    rintro dt du ⟨⟨rfl,am⟩,bh⟩
    replace ⟨hrb1,hrb2,hbx,C⟩:=(so [J,bx,rb0] bh).g4 hrb1 hrb2 hbx C
    refine .r 2<|.ss 0 (vS rb0 (nb0 - 1) cb0) hbx fun dv bi b0 b6=>?_
    replace ⟨am,hrb1,hrb2,C⟩:=(so [J,bx,rb0] bi).g4 am hrb1 hrb2 C
    refine .d<|.ib 0<|T.Ez func102 results102 ?_
    rw [show (doD d s)=(⟨(d.files.take ((Av d s.num).toNat)++d.files.drop ((Av d s.num).toNat+1)),d.list,d.names,d.next⟩:Dsk) from by (rw [Ej ‹_›,Ml ‹_› ‹_›]; done)]
    exact ⟨⟨rfl,rb0,(nb0 - 1),cb0,ab1,d.list.length,cb1,ab2,d.names.length,cb2,b0,(Own.Ap am (all_cons AJ (all_cons AK all_nil))),(H6 hcv_rb0 hnb0),hnb0,(RepS.Ap hrb1 (all_cons AJ (all_cons AK all_nil))),(RepS.Ap hrb2 (all_cons AJ (all_cons AK all_nil)))⟩,C⟩
   refine .r 2<|.d<|.cf<|.sk<|.ib 0<|T.Ez func102 results102 ?_
   rw [show (doD d s)=d from by (rw [Ej ‹_›,K3 (.inr ‹_›)]; done)]
   exact ⟨⟨rfl,rb0,nb0,cb0,ab1,d.list.length,cb1,ab2,d.names.length,cb2,hbx,(Own.Ap hob0 (all_cons AJ (all_cons AK all_nil))),(H6 hcv_rb0 hnb0),hnb0,(RepS.Ap hrb1 (all_cons AJ (all_cons AK all_nil))),(RepS.Ap hrb2 (all_cons AJ (all_cons AK all_nil)))⟩,C⟩
  refine .r [2]<|GA.skip AA fun dw bj=>?_
  replace ⟨hob0,hrb1,hrb2,hbx,C⟩:=(se [J,bx,rb0] bj).g5 hob0 hrb1 hrb2 hbx C
  refine .r 3<|.d<|.cf<|.sk<|.ib 0<|T.Ez func102 results102 ?_
  rw [show (doD d s)=d from by (rw [Ej ‹_›,K3 (.inl ‹_›)]; done)]
  exact ⟨⟨rfl,rb0,nb0,cb0,ab1,d.list.length,cb1,ab2,d.names.length,cb2,hbx,(Own.Ap hob0 (all_cons AJ (all_cons AK all_nil))),(H6 hcv_rb0 hnb0),hnb0,(RepS.Ap hrb1 (all_cons AJ (all_cons AK all_nil))),(RepS.Ap hrb2 (all_cons AJ (all_cons AK all_nil)))⟩,C⟩
 refine .r 1<|.d<|.cf<|.sk<|.ib 0<|T.Ez func102 results102 ?_
 rw [show (doD d s)=d from by (rw [R8 ‹_› ‹_› ‹_›]; done)]
 exact ⟨⟨rfl,rb0,nb0,cb0,ab1,d.list.length,cb1,ab2,d.names.length,cb2,hbx,(Own.Ap hob0 (all_cons AJ (all_cons AK all_nil))),(H6 hcv_rb0 hnb0),hnb0,(RepS.Ap hrb1 (all_cons AJ (all_cons AK all_nil))),(RepS.Ap hrb2 (all_cons AJ (all_cons AK all_nil)))⟩,C⟩
theorem D2 (d:Dsk) (h1:RepS w F a1 n1 c1 d.files) (h2:RepS w F a2 n2 c2 d.list) (h3:RepS w F a3 n3 c3 d.names) (p0:d.files.length≤1000) (p1:∀ f∈d.files,Ck f.part) (p2:d.list.length≤1000) (p3:d.names.length≤1000) (p4:∀ n∈d.names,n.length≤1000):Calls Tryz.prog 42 [.agg #[.slice a1 n1 c1,.slice a2 n2 c2,.slice a3 n3 c3,.int .i64 d.next]].toArray w (BB fun rv w'=>(∃ (r0 n0 c0:Nat) (a1:Option Addr) (n1 c1:Nat) (a2:Option Addr) (n2 c2:Nat),rv=.agg #[.slice (some ⟨r0,0,none⟩) n0 c0,.slice a1 n1 c1,.slice a2 n2 c2,.int .i64 (d.next)]∧Own w' r0 50 (nin (ge w.heap.size) [r0]) n0 c0 (d.files)∧w.heap.size≤r0∧RepS w' (nin (ge w.heap.size) [r0]) a1 n1 c1 (d.list)∧RepS w' (nin (ge w.heap.size) [r0]) a2 n2 c2 (d.names))∧Ext w w'):=by
 refine goT func42 ?_
 obtain ⟨rfl,yq,h1⟩:=h1.tp
 obtain ⟨rfl,yr,h2⟩:=h2.tp
 obtain ⟨rfl,yt,h3⟩:=h3.tp
 refine .s<|.g<|.np 36 [.slice a1 d.files.length c1,.slice a2 d.list.length c2,.slice a3 d.names.length c3,vI d.next] fun ac yv sA lz aa t5=>?_
 replace ⟨h1,h2,h3⟩:=(sn [] lz sA).g3 h1 h2 h3
 have J:=lz
 refine .np 36 [AH,AH,AH,vI 0] fun ae bm lA sB W t6=>?_
 have yu:=J.cn lA
 replace ⟨h1,h2,h3,aa,J⟩:=(sn [ac] sB lA).g5 h1 h2 h3 aa J
 refine .d<|.s<|T.D3 (X:=Nat × Nat × Nat × Nat × Nat × Nat × Nat) (mtb [] bm.heap.size) 12 (fun (aG,bN,bS,li,bc,eT,eU)=>[(1,.pointer (some ⟨ac,0,none⟩)),(2,.pointer (some ⟨ae,0,none⟩)),(3,.pointer (some ⟨aG,0,none⟩)),(16,.agg #[vS bN 0 0,vS bS (0+d.list.length) li,vS bc eT eU,vI d.next])]) (fun (aG,bN,bS,li,bc,eT,eU) df=>Ext bm df∧bm.heap.size≤aG∧bm.heap.size≤bN∧bm.heap.size≤bS∧bm.heap.size≤bc∧Nb bN aG∧Nb bS aG∧Nb bS bN∧Nb bc aG∧Nb bc bN∧Nb bc bS∧Box df aG 36 [AH,AH,AH,vI 0]∧Own df bN 50 (nin (ge w.heap.size) [aG,bN,bS,bc,ae,ac]) 0 0 ([]:List Fil)∧Own df bS 3 (nin (ge w.heap.size) [aG,bN,bS,bc,ae,ac]) (0+d.list.length) li (([]++d.list):List Int)∧Own df bc 43 (nin (ge w.heap.size) [aG,bN,bS,bc,ae,ac]) eT eU (d.names:List (List Tag))) AA (fun sC ee=>?_) ?_
 ·replace h1:=h1.BO
  replace h2:=h2.BO
  replace h3:=h3.BO
  have eV:Gb (ac+1) bm.heap.size:=aa.lt
  replace ⟨h1,h2,h3,aa,W,J⟩:=(se [ae,ac] ee).g6 h1 h2 h3 aa W J
  have C:=ee
  have E:Chg (mtb [] bm.heap.size) bm sC:=Chg.Cb (Chg.refl (mtb [] bm.heap.size) bm) ee
  refine .r [2]<|.lb 3 aa (BL all_nil eV)<|.r [5]<|.lb 6 aa (BL all_nil eV)<|.r [8]<|.lb 9 aa (BL all_nil eV)<|GE.many [0,1,11] AA (all_cons ?_ (all_cons ?_ (all_cons ?_ all_nil)))
  ·refine .ns 0 50 [] fun wl ii=>?_
   replace ⟨h1,h2,h3,aa,W,J,C,E⟩:=(se [ae,ac] ii).g8 h1 h2 h3 aa W J C E
   intro al sD eW ij l8 l9
   have ef:=C.cn eW
   replace ⟨h1,h2,h3,aa,W,J,C,E⟩:=(sn [ae,ac] ij eW).g8 h1 h2 h3 aa W J C E
   have af:Own (α:=Fil) sD al 50 (nin (ge w.heap.size) [al,ae,ac]) 0 0 []:=Own.Aj l8
   refine .tw 1 11 ?_ ?_
   ·refine .ns 0 3 [] fun wm ik=>?_
    replace ⟨h1,h2,h3,aa,W,af,J,C,E⟩:=(se [al,ae,ac] ik).g9 h1 h2 h3 aa W af J C E
    intro bu sE bO il ma mb
    have t7:=AX bO aa.lt
    have t8:=AX bO W.lt
    have im:=AX bO af.lt
    have t9:=J.cn bO
    have io:=C.cn bO
    have ip:=E.cn bO
    replace ⟨h1,h2,h3,aa,W,af,J,C,E⟩:=(sn [al,ae,ac] il bO).g9 h1 h2 h3 aa W af J C E
    have bn:Own (α:=Int) sE bu 3 (nin (ge w.heap.size) [bu,al,ae,ac]) 0 0 []:=Own.Aj ma
    refine .tw 4 11 ?_ ?_
    ·refine GE.append (T:=34) (ty:=34) (args:=[vS bu 0 0,.slice a2 d.list.length c2]) AA fun wn iq=>?_
     replace ⟨h1,h2,h3,aa,W,af,bn,J,C,E⟩:=(se [bu,al,ae,ac] iq).g10 h1 h2 h3 aa W af bn J C E
     obtain ⟨aO,lB,wo,lj,aq,dC,eX,mc⟩:=Own.BG (P:=Tryz.prog) (T:=34) (ty:=34) BS bn AA h2 (fun b h e=>h.2 (e▸AI)) AB
     refine ⟨_,_,lj,Chg.toS eX (Cov.toS ip),?_⟩
     have ir:=Ag dC im af.lt
     have iu:=Aw dC io C.size
     replace ⟨h1,h2,h3,aa,W,af,J,C,E⟩:=(sa [bu,al,ae,ac] eX dC).g9 h1 h2 h3 aa W af J C E
     replace aq:=aq.rn bu
     refine .tw 7 11 ?_ ?_
     ·refine .cl (fun gR eY=>Ak d.names (h3.ta.ext eY) AB (fun n hn=>by have:=p4 n hn; omega) (w:=gR) (F:=all)) ?_
      intro gR eY
      replace ⟨h1,h2,h3,aa,W,af,aq,J,C,E⟩:=(se [aO,al,ae,ac] eY).g10 h1 h2 h3 aa W af aq J C E
      rintro wq wr ⟨⟨dg,sF,sG,rfl,bd,dD⟩,eZ⟩
      have iw:=al4 aq.lt af.lt W.lt aa.lt
      have mh:Gb w.heap.size gR.heap.size:=J.size
      have hkeep_:=eZ
      have mj:=Ah dD af.lt
      have ml:=Ah dD aq.lt
      have mp:Cov nil bm dg:=BT dD C.size
      replace ⟨h1,h2,h3,aa,W,af,aq,J,C,E⟩:=(sz [aO,al,ae,ac] eZ dD).g10 h1 h2 h3 aa W af aq J C E
      refine ⟨Ext.chg hkeep_,?_⟩
      replace bd:=Own.take (s0:=w.heap.size) (M:=[aO,al,ae,ac]) bd iw mh
      refine .r [10]<|.go 11<|.nw (fun b=>.pointer (some ⟨b,0,none⟩)) 36 [AH,AH,AH,vI 0] fun ws iy=>?_
      replace ⟨h1,h2,h3,aa,W,af,aq,bd,J,C,E⟩:=(se [dg,aO,al,ae,ac] iy).g11 h1 h2 h3 aa W af aq bd J C E
      intro e7 wt cG iz e8 mq
      have mr:=AX cG af.lt
      have mt:=AX cG aq.lt
      have mu:=AX cG bd.lt
      have mw:=C.cn cG
      replace ⟨h1,h2,h3,aa,W,af,aq,bd,J,C,E⟩:=(sn [dg,aO,al,ae,ac] iz cG).g11 h1 h2 h3 aa W af aq bd J C E
      refine .d fun lC iA=>?_
      replace ⟨h1,h2,h3,aa,W,af,aq,bd,e8,J,C,E⟩:=(se [e7,dg,aO,al,ae,ac] iA).g12 h1 h2 h3 aa W af aq bd e8 J C E
      replace h1:=h1.Aa
      replace h2:=h2.Aa
      replace h3:=h3.Aa
      have fa:Mv [e7,dg,aO,al,ae,ac] [e7,al,aO,dg,ae,ac] lC lC:=Mv.less (all_cons AI (all_cons AL (all_cons AK (all_cons AJ (all_cons AM (all_cons AN all_nil))))))
      exact ⟨(e7,al,aO,lB,dg,sF,sG),⟨AA,AA,AA,AA,trivial⟩,⟨C,(Ad mw),(Ad ef),(Ad iu),(Ad mp),(Nb.symm mr),(Nb.symm mt),ir,(Nb.symm mu),mj,ml,e8,(Own.mv af fa (Chg.refl nil _) (fun h=>h)),(Own.mv aq fa (Chg.refl nil _) (fun h=>h)),(Own.mv bd fa (Chg.refl nil _) (fun h=>h))⟩⟩
     refine .nw (fun b=>.pointer (some ⟨b,0,none⟩)) 36 [AH,AH,AH,vI 0] fun wu iB=>?_
     replace ⟨h1,h2,h3,aa,W,af,aq,J,C,E⟩:=(se [aO,al,ae,ac] iB).g10 h1 h2 h3 aa W af aq J C E
     intro dh wv dE iC bz mz
     have mA:=AX dE af.lt
     have mB:=AX dE aq.lt
     have mC:=C.cn dE
     replace ⟨h1,h2,h3,aa,W,af,aq,J,C,E⟩:=(sn [aO,al,ae,ac] iC dE).g10 h1 h2 h3 aa W af aq J C E
     refine .go 7<|.cl (fun gS fb=>Ak d.names (h3.ta.ext fb) AB (fun n hn=>by have:=p4 n hn; omega) (w:=gS) (F:=all)) ?_
     intro gS fb
     replace ⟨h1,h2,h3,aa,W,af,aq,bz,J,C,E⟩:=(se [dh,aO,al,ae,ac] fb).g11 h1 h2 h3 aa W af aq bz J C E
     rintro ww wx ⟨⟨eC,sH,sI,rfl,bX,cH⟩,fc⟩
     have iD:=al5 bz.lt aq.lt af.lt W.lt aa.lt
     have mD:Gb w.heap.size gS.heap.size:=J.size
     have hkeep_:=fc
     have mE:=Ah cH af.lt
     have mF:=Ah cH aq.lt
     have mG:=Ah cH bz.lt
     have mH:Cov nil bm eC:=BT cH C.size
     replace ⟨h1,h2,h3,aa,W,af,aq,bz,J,C,E⟩:=(sz [dh,aO,al,ae,ac] fc cH).g11 h1 h2 h3 aa W af aq bz J C E
     refine ⟨Ext.chg hkeep_,?_⟩
     replace bX:=Own.take (s0:=w.heap.size) (M:=[dh,aO,al,ae,ac]) bX iD mD
     refine .r [10]<|.d fun lD iE=>?_
     replace ⟨h1,h2,h3,aa,W,af,aq,bz,bX,J,C,E⟩:=(se [eC,dh,aO,al,ae,ac] iE).g12 h1 h2 h3 aa W af aq bz bX J C E
     replace h1:=h1.Aa
     replace h2:=h2.Aa
     replace h3:=h3.Aa
     have fd:Mv [eC,dh,aO,al,ae,ac] [dh,al,aO,eC,ae,ac] lD lD:=Mv.less (all_cons AJ (all_cons AL (all_cons AK (all_cons AI (all_cons AM (all_cons AN all_nil))))))
     exact ⟨(dh,al,aO,lB,eC,sH,sI),⟨AA,AA,AA,AA,trivial⟩,⟨C,(Ad mC),(Ad ef),(Ad iu),(Ad mH),(Nb.symm mA),(Nb.symm mB),ir,mG,mE,mF,bz,(Own.mv af fd (Chg.refl nil _) (fun h=>h)),(Own.mv aq fd (Chg.refl nil _) (fun h=>h)),(Own.mv bX fd (Chg.refl nil _) (fun h=>h))⟩⟩
    refine .nw (fun b=>.pointer (some ⟨b,0,none⟩)) 36 [AH,AH,AH,vI 0] fun wy iF=>?_
    replace ⟨h1,h2,h3,aa,W,af,bn,J,C,E⟩:=(se [bu,al,ae,ac] iF).g10 h1 h2 h3 aa W af bn J C E
    intro bY wz dF iG aQ mI
    have mJ:=AX dF af.lt
    have mK:=AX dF bn.lt
    have mL:=C.cn dF
    replace ⟨h1,h2,h3,aa,W,af,bn,J,C,E⟩:=(sn [bu,al,ae,ac] iG dF).g10 h1 h2 h3 aa W af bn J C E
    refine .go 4<|GE.append (T:=34) (ty:=34) (args:=[vS bu 0 0,.slice a2 d.list.length c2]) AA fun wA iH=>?_
    replace ⟨h1,h2,h3,aa,W,af,bn,aQ,J,C,E⟩:=(se [bY,bu,al,ae,ac] iH).g11 h1 h2 h3 aa W af bn aQ J C E
    obtain ⟨dj,sJ,wB,lk,aU,cu,fe,mM⟩:=Own.BG (P:=Tryz.prog) (T:=34) (ty:=34) BS bn AA h2 (fun b h e=>h.2 (e▸AJ)) AB
    refine ⟨_,_,lk,Chg.toS fe (Cov.toS ip),?_⟩
    have mN:=Ag cu im af.lt
    have mO:=Ag cu (Nb.symm mK) aQ.lt
    have mP:=Aw cu io C.size
    replace ⟨h1,h2,h3,aa,W,af,aQ,J,C,E⟩:=(sa [bY,bu,al,ae,ac] fe cu).g10 h1 h2 h3 aa W af aQ J C E
    replace aU:=aU.rn bu
    refine .go 7<|.cl (fun gT ff=>Ak d.names (h3.ta.ext ff) AB (fun n hn=>by have:=p4 n hn; omega) (w:=gT) (F:=all)) ?_
    intro gT ff
    replace ⟨h1,h2,h3,aa,W,af,aU,aQ,J,C,E⟩:=(se [bY,dj,al,ae,ac] ff).g11 h1 h2 h3 aa W af aU aQ J C E
    rintro wC wD ⟨⟨eD,sK,sL,rfl,bZ,cI⟩,fg⟩
    have iI:=al5 aQ.lt aU.lt af.lt W.lt aa.lt
    have mQ:Gb w.heap.size gT.heap.size:=J.size
    have hkeep_:=fg
    have mR:=Ah cI af.lt
    have mS:=Ah cI aU.lt
    have mT:=Ah cI aQ.lt
    have mU:Cov nil bm eD:=BT cI C.size
    replace ⟨h1,h2,h3,aa,W,af,aU,aQ,J,C,E⟩:=(sz [bY,dj,al,ae,ac] fg cI).g11 h1 h2 h3 aa W af aU aQ J C E
    refine ⟨Ext.chg hkeep_,?_⟩
    replace bZ:=Own.take (s0:=w.heap.size) (M:=[bY,dj,al,ae,ac]) bZ iI mQ
    refine .r [10]<|.d fun lE iJ=>?_
    replace ⟨h1,h2,h3,aa,W,af,aU,aQ,bZ,J,C,E⟩:=(se [eD,bY,dj,al,ae,ac] iJ).g12 h1 h2 h3 aa W af aU aQ bZ J C E
    replace h1:=h1.Aa
    replace h2:=h2.Aa
    replace h3:=h3.Aa
    have fh:Mv [eD,bY,dj,al,ae,ac] [bY,al,dj,eD,ae,ac] lE lE:=Mv.less (all_cons AJ (all_cons AL (all_cons AK (all_cons AI (all_cons AM (all_cons AN all_nil))))))
    exact ⟨(bY,al,dj,sJ,eD,sK,sL),⟨AA,AA,AA,AA,trivial⟩,⟨C,(Ad mL),(Ad ef),(Ad mP),(Ad mU),(Nb.symm mJ),mO,mN,mT,mR,mS,aQ,(Own.mv af fh (Chg.refl nil _) (fun h=>h)),(Own.mv aU fh (Chg.refl nil _) (fun h=>h)),(Own.mv bZ fh (Chg.refl nil _) (fun h=>h))⟩⟩
   refine .nw (fun b=>.pointer (some ⟨b,0,none⟩)) 36 [AH,AH,AH,vI 0] fun wE iK=>?_
   replace ⟨h1,h2,h3,aa,W,af,J,C,E⟩:=(se [al,ae,ac] iK).g9 h1 h2 h3 aa W af J C E
   intro bv wF eg iL aH mV
   have mW:=AX eg af.lt
   have mX:=C.cn eg
   replace ⟨h1,h2,h3,aa,W,af,J,C,E⟩:=(sn [al,ae,ac] iL eg).g9 h1 h2 h3 aa W af J C E
   refine .go 1<|.ns 0 3 [] fun wG iM=>?_
   replace ⟨h1,h2,h3,aa,W,af,aH,J,C,E⟩:=(se [bv,al,ae,ac] iM).g10 h1 h2 h3 aa W af aH J C E
   intro d3 sM bA iN mY mZ
   have uk:=AX bA aa.lt
   have ul:=AX bA W.lt
   have m0:=AX bA af.lt
   have m5:=AX bA aH.lt
   have um:=J.cn bA
   have m6:=C.cn bA
   have m7:=E.cn bA
   replace ⟨h1,h2,h3,aa,W,af,aH,J,C,E⟩:=(sn [bv,al,ae,ac] iN bA).g10 h1 h2 h3 aa W af aH J C E
   have fi:Own (α:=Int) sM d3 3 (nin (ge w.heap.size) [d3,bv,al,ae,ac]) 0 0 []:=Own.Aj mY
   refine .go 4<|GE.append (T:=34) (ty:=34) (args:=[vS d3 0 0,.slice a2 d.list.length c2]) AA fun wH iO=>?_
   replace ⟨h1,h2,h3,aa,W,af,aH,fi,J,C,E⟩:=(se [d3,bv,al,ae,ac] iO).g11 h1 h2 h3 aa W af aH fi J C E
   obtain ⟨dm,sN,wI,ll,aV,cw,fj,m8⟩:=Own.BG (P:=Tryz.prog) (T:=34) (ty:=34) BS fi AA h2 (fun b h e=>h.2 (e▸AI)) AB
   refine ⟨_,_,ll,Chg.toS fj (Cov.toS m7),?_⟩
   have m9:=Ag cw m0 af.lt
   have nc:=Ag cw m5 aH.lt
   have ng:=Aw cw m6 C.size
   replace ⟨h1,h2,h3,aa,W,af,aH,J,C,E⟩:=(sa [d3,bv,al,ae,ac] fj cw).g10 h1 h2 h3 aa W af aH J C E
   replace aV:=aV.rn d3
   refine .go 7<|.cl (fun gU fk=>Ak d.names (h3.ta.ext fk) AB (fun n hn=>by have:=p4 n hn; omega) (w:=gU) (F:=all)) ?_
   intro gU fk
   replace ⟨h1,h2,h3,aa,W,af,aH,aV,J,C,E⟩:=(se [dm,bv,al,ae,ac] fk).g11 h1 h2 h3 aa W af aH aV J C E
   rintro wJ wK ⟨⟨eE,sO,sP,rfl,b0,cJ⟩,fm⟩
   have iP:=al5 aV.lt aH.lt af.lt W.lt aa.lt
   have nh:Gb w.heap.size gU.heap.size:=J.size
   have hkeep_:=fm
   have ni:=Ah cJ af.lt
   have nj:=Ah cJ aH.lt
   have nq:=Ah cJ aV.lt
   have nt:Cov nil bm eE:=BT cJ C.size
   replace ⟨h1,h2,h3,aa,W,af,aH,aV,J,C,E⟩:=(sz [dm,bv,al,ae,ac] fm cJ).g11 h1 h2 h3 aa W af aH aV J C E
   refine ⟨Ext.chg hkeep_,?_⟩
   replace b0:=Own.take (s0:=w.heap.size) (M:=[dm,bv,al,ae,ac]) b0 iP nh
   refine .r [10]<|.d fun lF iQ=>?_
   replace ⟨h1,h2,h3,aa,W,af,aH,aV,b0,J,C,E⟩:=(se [eE,dm,bv,al,ae,ac] iQ).g12 h1 h2 h3 aa W af aH aV b0 J C E
   replace h1:=h1.Aa
   replace h2:=h2.Aa
   replace h3:=h3.Aa
   have fp:Mv [eE,dm,bv,al,ae,ac] [bv,al,dm,eE,ae,ac] lF lF:=Mv.less (all_cons AK (all_cons AL (all_cons AJ (all_cons AI (all_cons AM (all_cons AN all_nil))))))
   exact ⟨(bv,al,dm,sN,eE,sO,sP),⟨AA,AA,AA,AA,trivial⟩,⟨C,(Ad mX),(Ad ef),(Ad ng),(Ad nt),(Nb.symm mW),nc,m9,nj,ni,nq,aH,(Own.mv af fp (Chg.refl nil _) (fun h=>h)),(Own.mv aV fp (Chg.refl nil _) (fun h=>h)),(Own.mv b0 fp (Chg.refl nil _) (fun h=>h))⟩⟩
  ·refine .ns 0 3 [] fun wL iR=>?_
   replace ⟨h1,h2,h3,aa,W,J,C,E⟩:=(se [ae,ac] iR).g8 h1 h2 h3 aa W J C E
   intro aE sQ b6 iS nu nv
   have uu:=AX b6 aa.lt
   have uv:=AX b6 W.lt
   have uw:=J.cn b6
   have dG:=C.cn b6
   have dH:=E.cn b6
   replace ⟨h1,h2,h3,aa,W,J,C,E⟩:=(sn [ae,ac] iS b6).g8 h1 h2 h3 aa W J C E
   have am:Own (α:=Int) sQ aE 3 (nin (ge w.heap.size) [aE,ae,ac]) 0 0 []:=Own.Aj nu
   refine GE.many [0,4,11] AA (all_cons ?_ (all_cons ?_ (all_cons ?_ all_nil)))
   ·refine .ns 0 50 [] fun wM iT=>?_
    replace ⟨h1,h2,h3,aa,W,am,J,C,E⟩:=(se [aE,ae,ac] iT).g9 h1 h2 h3 aa W am J C E
    intro aC sR eh iU nz nA
    have iV:=AX eh am.lt
    have fq:=C.cn eh
    replace ⟨h1,h2,h3,aa,W,am,J,C,E⟩:=(sn [aE,ae,ac] iU eh).g9 h1 h2 h3 aa W am J C E
    have ah:Own (α:=Fil) sR aC 50 (nin (ge w.heap.size) [aC,aE,ae,ac]) 0 0 []:=Own.Aj nz
    refine .tw 4 11 ?_ ?_
    ·refine GE.append (T:=34) (ty:=34) (args:=[vS aE 0 0,.slice a2 d.list.length c2]) AA fun wN iW=>?_
     replace ⟨h1,h2,h3,aa,W,am,ah,J,C,E⟩:=(se [aC,aE,ae,ac] iW).g10 h1 h2 h3 aa W am ah J C E
     obtain ⟨aP,lG,wO,lm,ar,dI,ft,nB⟩:=Own.BG (P:=Tryz.prog) (T:=34) (ty:=34) BS am AA h2 (fun b h e=>h.2 (e▸AJ)) AB
     refine ⟨_,_,lm,Chg.toS ft (Cov.toS dH),?_⟩
     have iX:=Ag dI (Nb.symm iV) ah.lt
     have iY:=Aw dI dG C.size
     replace ⟨h1,h2,h3,aa,W,ah,J,C,E⟩:=(sa [aC,aE,ae,ac] ft dI).g9 h1 h2 h3 aa W ah J C E
     replace ar:=ar.rn aE
     refine .tw 7 11 ?_ ?_
     ·refine .cl (fun gV fu=>Ak d.names (h3.ta.ext fu) AB (fun n hn=>by have:=p4 n hn; omega) (w:=gV) (F:=all)) ?_
      intro gV fu
      replace ⟨h1,h2,h3,aa,W,ar,ah,J,C,E⟩:=(se [aC,aP,ae,ac] fu).g10 h1 h2 h3 aa W ar ah J C E
      rintro wP wQ ⟨⟨dp,sS,sT,rfl,bg,dJ⟩,fv⟩
      have iZ:=al4 ah.lt ar.lt W.lt aa.lt
      have nC:Gb w.heap.size gV.heap.size:=J.size
      have hkeep_:=fv
      have nD:=Ah dJ ar.lt
      have nE:=Ah dJ ah.lt
      have nF:Cov nil bm dp:=BT dJ C.size
      replace ⟨h1,h2,h3,aa,W,ar,ah,J,C,E⟩:=(sz [aC,aP,ae,ac] fv dJ).g10 h1 h2 h3 aa W ar ah J C E
      refine ⟨Ext.chg hkeep_,?_⟩
      replace bg:=Own.take (s0:=w.heap.size) (M:=[aC,aP,ae,ac]) bg iZ nC
      refine .r [10]<|.go 11<|.nw (fun b=>.pointer (some ⟨b,0,none⟩)) 36 [AH,AH,AH,vI 0] fun wR ja=>?_
      replace ⟨h1,h2,h3,aa,W,ar,ah,bg,J,C,E⟩:=(se [dp,aC,aP,ae,ac] ja).g11 h1 h2 h3 aa W ar ah bg J C E
      intro fw wS cK jb fA nG
      have nH:=AX cK ar.lt
      have nI:=AX cK ah.lt
      have nJ:=AX cK bg.lt
      have nK:=C.cn cK
      replace ⟨h1,h2,h3,aa,W,ar,ah,bg,J,C,E⟩:=(sn [dp,aC,aP,ae,ac] jb cK).g11 h1 h2 h3 aa W ar ah bg J C E
      refine .d fun lH jc=>?_
      replace ⟨h1,h2,h3,aa,W,ar,ah,bg,fA,J,C,E⟩:=(se [fw,dp,aC,aP,ae,ac] jc).g12 h1 h2 h3 aa W ar ah bg fA J C E
      replace h1:=h1.Aa
      replace h2:=h2.Aa
      replace h3:=h3.Aa
      have fB:Mv [fw,dp,aC,aP,ae,ac] [fw,aC,aP,dp,ae,ac] lH lH:=Mv.less (all_cons AI (all_cons AK (all_cons AL (all_cons AJ (all_cons AM (all_cons AN all_nil))))))
      exact ⟨(fw,aC,aP,lG,dp,sS,sT),⟨AA,AA,AA,AA,trivial⟩,⟨C,(Ad nK),(Ad fq),(Ad iY),(Ad nF),(Nb.symm nI),(Nb.symm nH),iX,(Nb.symm nJ),nE,nD,fA,(Own.mv ah fB (Chg.refl nil _) (fun h=>h)),(Own.mv ar fB (Chg.refl nil _) (fun h=>h)),(Own.mv bg fB (Chg.refl nil _) (fun h=>h))⟩⟩
     refine .nw (fun b=>.pointer (some ⟨b,0,none⟩)) 36 [AH,AH,AH,vI 0] fun wT jd=>?_
     replace ⟨h1,h2,h3,aa,W,ar,ah,J,C,E⟩:=(se [aC,aP,ae,ac] jd).g10 h1 h2 h3 aa W ar ah J C E
     intro dq wU dK je bB nL
     have nM:=AX dK ar.lt
     have nN:=AX dK ah.lt
     have nO:=C.cn dK
     replace ⟨h1,h2,h3,aa,W,ar,ah,J,C,E⟩:=(sn [aC,aP,ae,ac] je dK).g10 h1 h2 h3 aa W ar ah J C E
     refine .go 7<|.cl (fun gW fC=>Ak d.names (h3.ta.ext fC) AB (fun n hn=>by have:=p4 n hn; omega) (w:=gW) (F:=all)) ?_
     intro gW fC
     replace ⟨h1,h2,h3,aa,W,ar,ah,bB,J,C,E⟩:=(se [dq,aC,aP,ae,ac] fC).g11 h1 h2 h3 aa W ar ah bB J C E
     rintro wV wW ⟨⟨eF,sU,sV,rfl,b7,cL⟩,fD⟩
     have jf:=al5 bB.lt ah.lt ar.lt W.lt aa.lt
     have nP:Gb w.heap.size gW.heap.size:=J.size
     have hkeep_:=fD
     have nQ:=Ah cL ar.lt
     have nR:=Ah cL ah.lt
     have nT:=Ah cL bB.lt
     have nU:Cov nil bm eF:=BT cL C.size
     replace ⟨h1,h2,h3,aa,W,ar,ah,bB,J,C,E⟩:=(sz [dq,aC,aP,ae,ac] fD cL).g11 h1 h2 h3 aa W ar ah bB J C E
     refine ⟨Ext.chg hkeep_,?_⟩
     replace b7:=Own.take (s0:=w.heap.size) (M:=[dq,aC,aP,ae,ac]) b7 jf nP
     refine .r [10]<|.d fun lI jg=>?_
     replace ⟨h1,h2,h3,aa,W,ar,ah,bB,b7,J,C,E⟩:=(se [eF,dq,aC,aP,ae,ac] jg).g12 h1 h2 h3 aa W ar ah bB b7 J C E
     replace h1:=h1.Aa
     replace h2:=h2.Aa
     replace h3:=h3.Aa
     have fE:Mv [eF,dq,aC,aP,ae,ac] [dq,aC,aP,eF,ae,ac] lI lI:=Mv.less (all_cons AJ (all_cons AK (all_cons AL (all_cons AI (all_cons AM (all_cons AN all_nil))))))
     exact ⟨(dq,aC,aP,lG,eF,sU,sV),⟨AA,AA,AA,AA,trivial⟩,⟨C,(Ad nO),(Ad fq),(Ad iY),(Ad nU),(Nb.symm nN),(Nb.symm nM),iX,nT,nR,nQ,bB,(Own.mv ah fE (Chg.refl nil _) (fun h=>h)),(Own.mv ar fE (Chg.refl nil _) (fun h=>h)),(Own.mv b7 fE (Chg.refl nil _) (fun h=>h))⟩⟩
    refine .nw (fun b=>.pointer (some ⟨b,0,none⟩)) 36 [AH,AH,AH,vI 0] fun wX jh=>?_
    replace ⟨h1,h2,h3,aa,W,am,ah,J,C,E⟩:=(se [aC,aE,ae,ac] jh).g10 h1 h2 h3 aa W am ah J C E
    intro b8 wY dL ji aR nV
    have nW:=AX dL am.lt
    have nX:=AX dL ah.lt
    have nY:=C.cn dL
    replace ⟨h1,h2,h3,aa,W,am,ah,J,C,E⟩:=(sn [aC,aE,ae,ac] ji dL).g10 h1 h2 h3 aa W am ah J C E
    refine .go 4<|GE.append (T:=34) (ty:=34) (args:=[vS aE 0 0,.slice a2 d.list.length c2]) AA fun wZ jj=>?_
    replace ⟨h1,h2,h3,aa,W,am,ah,aR,J,C,E⟩:=(se [b8,aC,aE,ae,ac] jj).g11 h1 h2 h3 aa W am ah aR J C E
    obtain ⟨dr,sW,w0,lp,aW,cx,fF,nZ⟩:=Own.BG (P:=Tryz.prog) (T:=34) (ty:=34) BS am AA h2 (fun b h e=>h.2 (e▸AK)) AB
    refine ⟨_,_,lp,Chg.toS fF (Cov.toS dH),?_⟩
    have n7:=Ag cx (Nb.symm iV) ah.lt
    have n8:=Ag cx (Nb.symm nW) aR.lt
    have n9:=Aw cx dG C.size
    replace ⟨h1,h2,h3,aa,W,ah,aR,J,C,E⟩:=(sa [b8,aC,aE,ae,ac] fF cx).g10 h1 h2 h3 aa W ah aR J C E
    replace aW:=aW.rn aE
    refine .go 7<|.cl (fun gX fG=>Ak d.names (h3.ta.ext fG) AB (fun n hn=>by have:=p4 n hn; omega) (w:=gX) (F:=all)) ?_
    intro gX fG
    replace ⟨h1,h2,h3,aa,W,aW,ah,aR,J,C,E⟩:=(se [b8,aC,dr,ae,ac] fG).g11 h1 h2 h3 aa W aW ah aR J C E
    rintro w4 w5 ⟨⟨eG,sX,sY,rfl,b9,cM⟩,fH⟩
    have jk:=al5 aR.lt ah.lt aW.lt W.lt aa.lt
    have oc:Gb w.heap.size gX.heap.size:=J.size
    have hkeep_:=fH
    have od:=Ah cM aW.lt
    have oe:=Ah cM ah.lt
    have og:=Ah cM aR.lt
    have oh:Cov nil bm eG:=BT cM C.size
    replace ⟨h1,h2,h3,aa,W,aW,ah,aR,J,C,E⟩:=(sz [b8,aC,dr,ae,ac] fH cM).g11 h1 h2 h3 aa W aW ah aR J C E
    refine ⟨Ext.chg hkeep_,?_⟩
    replace b9:=Own.take (s0:=w.heap.size) (M:=[b8,aC,dr,ae,ac]) b9 jk oc
    refine .r [10]<|.d fun lJ jl=>?_
    replace ⟨h1,h2,h3,aa,W,aW,ah,aR,b9,J,C,E⟩:=(se [eG,b8,aC,dr,ae,ac] jl).g12 h1 h2 h3 aa W aW ah aR b9 J C E
    replace h1:=h1.Aa
    replace h2:=h2.Aa
    replace h3:=h3.Aa
    have fI:Mv [eG,b8,aC,dr,ae,ac] [b8,aC,dr,eG,ae,ac] lJ lJ:=Mv.less (all_cons AJ (all_cons AK (all_cons AL (all_cons AI (all_cons AM (all_cons AN all_nil))))))
    exact ⟨(b8,aC,dr,sW,eG,sX,sY),⟨AA,AA,AA,AA,trivial⟩,⟨C,(Ad nY),(Ad fq),(Ad n9),(Ad oh),(Nb.symm nX),n8,n7,og,oe,od,aR,(Own.mv ah fI (Chg.refl nil _) (fun h=>h)),(Own.mv aW fI (Chg.refl nil _) (fun h=>h)),(Own.mv b9 fI (Chg.refl nil _) (fun h=>h))⟩⟩
   ·refine GE.append (T:=34) (ty:=34) (args:=[vS aE 0 0,.slice a2 d.list.length c2]) AA fun w6 jm=>?_
    replace ⟨h1,h2,h3,aa,W,am,J,C,E⟩:=(se [aE,ae,ac] jm).g9 h1 h2 h3 aa W am J C E
    obtain ⟨aj,d4,w7,lq,ab,eH,fJ,ol⟩:=Own.BG (P:=Tryz.prog) (T:=34) (ty:=34) BS am AA h2 (fun b h e=>h.2 (e▸AI)) AB
    refine ⟨_,_,lq,Chg.toS fJ (Cov.toS dH),?_⟩
    have cN:=Aw eH dG C.size
    replace ⟨h1,h2,h3,aa,W,J,C,E⟩:=(sa [aE,ae,ac] fJ eH).g8 h1 h2 h3 aa W J C E
    replace ab:=ab.rn aE
    refine GE.many [0,7,11] AA (all_cons ?_ (all_cons ?_ (all_cons ?_ all_nil)))
    ·refine .ns 0 50 [] fun w8 jn=>?_
     replace ⟨h1,h2,h3,aa,W,ab,J,C,E⟩:=(se [aj,ae,ac] jn).g9 h1 h2 h3 aa W ab J C E
     intro aJ sZ ej jo om oo
     have jp:=AX ej ab.lt
     have jq:=C.cn ej
     replace ⟨h1,h2,h3,aa,W,ab,J,C,E⟩:=(sn [aj,ae,ac] jo ej).g9 h1 h2 h3 aa W ab J C E
     have az:Own (α:=Fil) sZ aJ 50 (nin (ge w.heap.size) [aJ,aj,ae,ac]) 0 0 []:=Own.Aj om
     refine .tw 7 11 ?_ ?_
     ·refine .cl (fun gY fK=>Ak d.names (h3.ta.ext fK) AB (fun n hn=>by have:=p4 n hn; omega) (w:=gY) (F:=all)) ?_
      intro gY fK
      replace ⟨h1,h2,h3,aa,W,ab,az,J,C,E⟩:=(se [aJ,aj,ae,ac] fK).g10 h1 h2 h3 aa W ab az J C E
      rintro w9 xa ⟨⟨dt,s2,s3,rfl,bh,dM⟩,fL⟩
      have jr:=al4 az.lt ab.lt W.lt aa.lt
      have oq:Gb w.heap.size gY.heap.size:=J.size
      have hkeep_:=fL
      have ou:=Ah dM ab.lt
      have ov:=Ah dM az.lt
      have oz:Cov nil bm dt:=BT dM C.size
      replace ⟨h1,h2,h3,aa,W,ab,az,J,C,E⟩:=(sz [aJ,aj,ae,ac] fL dM).g10 h1 h2 h3 aa W ab az J C E
      refine ⟨Ext.chg hkeep_,?_⟩
      replace bh:=Own.take (s0:=w.heap.size) (M:=[aJ,aj,ae,ac]) bh jr oq
      refine .r [10]<|.go 11<|.nw (fun b=>.pointer (some ⟨b,0,none⟩)) 36 [AH,AH,AH,vI 0] fun xb js=>?_
      replace ⟨h1,h2,h3,aa,W,ab,az,bh,J,C,E⟩:=(se [dt,aJ,aj,ae,ac] js).g11 h1 h2 h3 aa W ab az bh J C E
      intro fM xc cO jt fN oA
      have oB:=AX cO ab.lt
      have oC:=AX cO az.lt
      have oD:=AX cO bh.lt
      have oE:=C.cn cO
      replace ⟨h1,h2,h3,aa,W,ab,az,bh,J,C,E⟩:=(sn [dt,aJ,aj,ae,ac] jt cO).g11 h1 h2 h3 aa W ab az bh J C E
      refine .d fun lK ju=>?_
      replace ⟨h1,h2,h3,aa,W,ab,az,bh,fN,J,C,E⟩:=(se [fM,dt,aJ,aj,ae,ac] ju).g12 h1 h2 h3 aa W ab az bh fN J C E
      replace h1:=h1.Aa
      replace h2:=h2.Aa
      replace h3:=h3.Aa
      have fO:Mv [fM,dt,aJ,aj,ae,ac] [fM,aJ,aj,dt,ae,ac] lK lK:=Mv.less (all_cons AI (all_cons AK (all_cons AL (all_cons AJ (all_cons AM (all_cons AN all_nil))))))
      exact ⟨(fM,aJ,aj,d4,dt,s2,s3),⟨AA,AA,AA,AA,trivial⟩,⟨C,(Ad oE),(Ad jq),(Ad cN),(Ad oz),(Nb.symm oC),(Nb.symm oB),(Nb.symm jp),(Nb.symm oD),ov,ou,fN,(Own.mv az fO (Chg.refl nil _) (fun h=>h)),(Own.mv ab fO (Chg.refl nil _) (fun h=>h)),(Own.mv bh fO (Chg.refl nil _) (fun h=>h))⟩⟩
     refine .nw (fun b=>.pointer (some ⟨b,0,none⟩)) 36 [AH,AH,AH,vI 0] fun xd jv=>?_
     replace ⟨h1,h2,h3,aa,W,ab,az,J,C,E⟩:=(se [aJ,aj,ae,ac] jv).g10 h1 h2 h3 aa W ab az J C E
     intro du xe dN jw bC oF
     have oG:=AX dN ab.lt
     have oH:=AX dN az.lt
     have oI:=C.cn dN
     replace ⟨h1,h2,h3,aa,W,ab,az,J,C,E⟩:=(sn [aJ,aj,ae,ac] jw dN).g10 h1 h2 h3 aa W ab az J C E
     refine .go 7<|.cl (fun gZ fP=>Ak d.names (h3.ta.ext fP) AB (fun n hn=>by have:=p4 n hn; omega) (w:=gZ) (F:=all)) ?_
     intro gZ fP
     replace ⟨h1,h2,h3,aa,W,ab,az,bC,J,C,E⟩:=(se [du,aJ,aj,ae,ac] fP).g11 h1 h2 h3 aa W ab az bC J C E
     rintro xf xg ⟨⟨eI,s4,s5,rfl,cd,cP⟩,fQ⟩
     have jx:=al5 bC.lt az.lt ab.lt W.lt aa.lt
     have oJ:Gb w.heap.size gZ.heap.size:=J.size
     have hkeep_:=fQ
     have oK:=Ah cP ab.lt
     have oL:=Ah cP az.lt
     have oM:=Ah cP bC.lt
     have oN:Cov nil bm eI:=BT cP C.size
     replace ⟨h1,h2,h3,aa,W,ab,az,bC,J,C,E⟩:=(sz [du,aJ,aj,ae,ac] fQ cP).g11 h1 h2 h3 aa W ab az bC J C E
     refine ⟨Ext.chg hkeep_,?_⟩
     replace cd:=Own.take (s0:=w.heap.size) (M:=[du,aJ,aj,ae,ac]) cd jx oJ
     refine .r [10]<|.d fun lL jy=>?_
     replace ⟨h1,h2,h3,aa,W,ab,az,bC,cd,J,C,E⟩:=(se [eI,du,aJ,aj,ae,ac] jy).g12 h1 h2 h3 aa W ab az bC cd J C E
     replace h1:=h1.Aa
     replace h2:=h2.Aa
     replace h3:=h3.Aa
     have fR:Mv [eI,du,aJ,aj,ae,ac] [du,aJ,aj,eI,ae,ac] lL lL:=Mv.less (all_cons AJ (all_cons AK (all_cons AL (all_cons AI (all_cons AM (all_cons AN all_nil))))))
     exact ⟨(du,aJ,aj,d4,eI,s4,s5),⟨AA,AA,AA,AA,trivial⟩,⟨C,(Ad oI),(Ad jq),(Ad cN),(Ad oN),(Nb.symm oH),(Nb.symm oG),(Nb.symm jp),oM,oL,oK,bC,(Own.mv az fR (Chg.refl nil _) (fun h=>h)),(Own.mv ab fR (Chg.refl nil _) (fun h=>h)),(Own.mv cd fR (Chg.refl nil _) (fun h=>h))⟩⟩
    ·refine .cl (fun g0 fS=>Ak d.names (h3.ta.ext fS) AB (fun n hn=>by have:=p4 n hn; omega) (w:=g0) (F:=all)) ?_
     intro g0 fS
     replace ⟨h1,h2,h3,aa,W,ab,J,C,E⟩:=(se [aj,ae,ac] fS).g9 h1 h2 h3 aa W ab J C E
     rintro xh xi ⟨⟨aN,lM,lN,rfl,ax,ek⟩,fT⟩
     have jz:=al3 ab.lt W.lt aa.lt
     have oO:Gb w.heap.size g0.heap.size:=J.size
     have hkeep_:=fT
     have jA:=Ah ek ab.lt
     have jB:Cov nil bm aN:=BT ek C.size
     replace ⟨h1,h2,h3,aa,W,ab,J,C,E⟩:=(sz [aj,ae,ac] fT ek).g9 h1 h2 h3 aa W ab J C E
     refine ⟨Ext.chg hkeep_,?_⟩
     replace ax:=Own.take (s0:=w.heap.size) (M:=[aj,ae,ac]) ax jz oO
     refine .tw 0 11 ?_ ?_
     ·refine .ns 0 50 [] fun xj jC=>?_
      replace ⟨h1,h2,h3,aa,W,ab,ax,J,C,E⟩:=(se [aN,aj,ae,ac] jC).g10 h1 h2 h3 aa W ab ax J C E
      intro cy s6 dO jD oP oQ
      have oR:=AX dO ab.lt
      have oS:=AX dO ax.lt
      have oT:=C.cn dO
      replace ⟨h1,h2,h3,aa,W,ab,ax,J,C,E⟩:=(sn [aN,aj,ae,ac] jD dO).g10 h1 h2 h3 aa W ab ax J C E
      have bP:Own (α:=Fil) s6 cy 50 (nin (ge w.heap.size) [cy,aN,aj,ae,ac]) 0 0 []:=Own.Aj oP
      refine .r [10]<|.go 11<|.nw (fun b=>.pointer (some ⟨b,0,none⟩)) 36 [AH,AH,AH,vI 0] fun xk jE=>?_
      replace ⟨h1,h2,h3,aa,W,ab,ax,bP,J,C,E⟩:=(se [cy,aN,aj,ae,ac] jE).g11 h1 h2 h3 aa W ab ax bP J C E
      intro fU xl cQ jF fV oU
      have oV:=AX cQ ab.lt
      have oW:=AX cQ ax.lt
      have oX:=AX cQ bP.lt
      have oY:=C.cn cQ
      replace ⟨h1,h2,h3,aa,W,ab,ax,bP,J,C,E⟩:=(sn [cy,aN,aj,ae,ac] jF cQ).g11 h1 h2 h3 aa W ab ax bP J C E
      refine .d fun lO jG=>?_
      replace ⟨h1,h2,h3,aa,W,ab,ax,bP,fV,J,C,E⟩:=(se [fU,cy,aN,aj,ae,ac] jG).g12 h1 h2 h3 aa W ab ax bP fV J C E
      replace h1:=h1.Aa
      replace h2:=h2.Aa
      replace h3:=h3.Aa
      have fW:Mv [fU,cy,aN,aj,ae,ac] [fU,cy,aj,aN,ae,ac] lO lO:=Mv.less (all_cons AI (all_cons AJ (all_cons AL (all_cons AK (all_cons AM (all_cons AN all_nil))))))
      exact ⟨(fU,cy,aj,d4,aN,lM,lN),⟨AA,AA,AA,AA,trivial⟩,⟨C,(Ad oY),(Ad oT),(Ad cN),(Ad jB),(Nb.symm oX),(Nb.symm oV),(Nb.symm oR),(Nb.symm oW),(Nb.symm oS),jA,fV,(Own.mv bP fW (Chg.refl nil _) (fun h=>h)),(Own.mv ab fW (Chg.refl nil _) (fun h=>h)),(Own.mv ax fW (Chg.refl nil _) (fun h=>h))⟩⟩
     refine .nw (fun b=>.pointer (some ⟨b,0,none⟩)) 36 [AH,AH,AH,vI 0] fun xm jH=>?_
     replace ⟨h1,h2,h3,aa,W,ab,ax,J,C,E⟩:=(se [aN,aj,ae,ac] jH).g10 h1 h2 h3 aa W ab ax J C E
     intro dv xn dP jI bQ oZ
     have o0:=AX dP ab.lt
     have o5:=AX dP ax.lt
     have o6:=C.cn dP
     replace ⟨h1,h2,h3,aa,W,ab,ax,J,C,E⟩:=(sn [aN,aj,ae,ac] jI dP).g10 h1 h2 h3 aa W ab ax J C E
     refine .go 0<|.ns 0 50 [] fun xo jJ=>?_
     replace ⟨h1,h2,h3,aa,W,ab,ax,bQ,J,C,E⟩:=(se [dv,aN,aj,ae,ac] jJ).g11 h1 h2 h3 aa W ab ax bQ J C E
     intro d5 s7 cR jK o7 o8
     have o9:=AX cR ab.lt
     have pa:=AX cR ax.lt
     have pb:=AX cR bQ.lt
     have pc:=C.cn cR
     replace ⟨h1,h2,h3,aa,W,ab,ax,bQ,J,C,E⟩:=(sn [dv,aN,aj,ae,ac] jK cR).g11 h1 h2 h3 aa W ab ax bQ J C E
     have fX:Own (α:=Fil) s7 d5 50 (nin (ge w.heap.size) [d5,dv,aN,aj,ae,ac]) 0 0 []:=Own.Aj o7
     refine .r [10]<|.d fun lP jL=>?_
     replace ⟨h1,h2,h3,aa,W,ab,ax,bQ,fX,J,C,E⟩:=(se [d5,dv,aN,aj,ae,ac] jL).g12 h1 h2 h3 aa W ab ax bQ fX J C E
     replace h1:=h1.Aa
     replace h2:=h2.Aa
     replace h3:=h3.Aa
     have fY:Mv [d5,dv,aN,aj,ae,ac] [dv,d5,aj,aN,ae,ac] lP lP:=Mv.less (all_cons AJ (all_cons AI (all_cons AL (all_cons AK (all_cons AM (all_cons AN all_nil))))))
     exact ⟨(dv,d5,aj,d4,aN,lM,lN),⟨AA,AA,AA,AA,trivial⟩,⟨C,(Ad o6),(Ad pc),(Ad cN),(Ad jB),pb,(Nb.symm o0),(Nb.symm o9),(Nb.symm o5),(Nb.symm pa),jA,bQ,(Own.mv fX fY (Chg.refl nil _) (fun h=>h)),(Own.mv ab fY (Chg.refl nil _) (fun h=>h)),(Own.mv ax fY (Chg.refl nil _) (fun h=>h))⟩⟩
    refine .nw (fun b=>.pointer (some ⟨b,0,none⟩)) 36 [AH,AH,AH,vI 0] fun xp jM=>?_
    replace ⟨h1,h2,h3,aa,W,ab,J,C,E⟩:=(se [aj,ae,ac] jM).g9 h1 h2 h3 aa W ab J C E
    intro aK xq en jN aA pd
    have jO:=AX en ab.lt
    have jP:=C.cn en
    replace ⟨h1,h2,h3,aa,W,ab,J,C,E⟩:=(sn [aj,ae,ac] jN en).g9 h1 h2 h3 aa W ab J C E
    refine .tw 0 7 ?_ ?_
    ·refine .ns 0 50 [] fun xr jQ=>?_
     replace ⟨h1,h2,h3,aa,W,ab,aA,J,C,E⟩:=(se [aK,aj,ae,ac] jQ).g10 h1 h2 h3 aa W ab aA J C E
     intro ce s8 dQ jR pe pf
     have pg:=AX dQ ab.lt
     have ph:=AX dQ aA.lt
     have pi:=C.cn dQ
     replace ⟨h1,h2,h3,aa,W,ab,aA,J,C,E⟩:=(sn [aK,aj,ae,ac] jR dQ).g10 h1 h2 h3 aa W ab aA J C E
     have bD:Own (α:=Fil) s8 ce 50 (nin (ge w.heap.size) [ce,aK,aj,ae,ac]) 0 0 []:=Own.Aj pe
     refine .go 7<|.cl (fun hC fZ=>Ak d.names (h3.ta.ext fZ) AB (fun n hn=>by have:=p4 n hn; omega) (w:=hC) (F:=all)) ?_
     intro hC fZ
     replace ⟨h1,h2,h3,aa,W,ab,aA,bD,J,C,E⟩:=(se [ce,aK,aj,ae,ac] fZ).g11 h1 h2 h3 aa W ab aA bD J C E
     rintro xt xu ⟨⟨eJ,s9,tb,rfl,cg,cS⟩,f0⟩
     have jS:=al5 bD.lt aA.lt ab.lt W.lt aa.lt
     have pj:Gb w.heap.size hC.heap.size:=J.size
     have hkeep_:=f0
     have pk:=Ah cS ab.lt
     have pl:=Ah cS aA.lt
     have pm:=Ah cS bD.lt
     have pn:Cov nil bm eJ:=BT cS C.size
     replace ⟨h1,h2,h3,aa,W,ab,aA,bD,J,C,E⟩:=(sz [ce,aK,aj,ae,ac] f0 cS).g11 h1 h2 h3 aa W ab aA bD J C E
     refine ⟨Ext.chg hkeep_,?_⟩
     replace cg:=Own.take (s0:=w.heap.size) (M:=[ce,aK,aj,ae,ac]) cg jS pj
     refine .r [10]<|.d fun lQ jT=>?_
     replace ⟨h1,h2,h3,aa,W,ab,aA,bD,cg,J,C,E⟩:=(se [eJ,ce,aK,aj,ae,ac] jT).g12 h1 h2 h3 aa W ab aA bD cg J C E
     replace h1:=h1.Aa
     replace h2:=h2.Aa
     replace h3:=h3.Aa
     have f5:Mv [eJ,ce,aK,aj,ae,ac] [aK,ce,aj,eJ,ae,ac] lQ lQ:=Mv.less (all_cons AK (all_cons AJ (all_cons AL (all_cons AI (all_cons AM (all_cons AN all_nil))))))
     exact ⟨(aK,ce,aj,d4,eJ,s9,tb),⟨AA,AA,AA,AA,trivial⟩,⟨C,(Ad jP),(Ad pi),(Ad cN),(Ad pn),ph,(Nb.symm jO),(Nb.symm pg),pl,pm,pk,aA,(Own.mv bD f5 (Chg.refl nil _) (fun h=>h)),(Own.mv ab f5 (Chg.refl nil _) (fun h=>h)),(Own.mv cg f5 (Chg.refl nil _) (fun h=>h))⟩⟩
    refine .cl (fun hD f6=>Ak d.names (h3.ta.ext f6) AB (fun n hn=>by have:=p4 n hn; omega) (w:=hD) (F:=all)) ?_
    intro hD f6
    replace ⟨h1,h2,h3,aa,W,ab,aA,J,C,E⟩:=(se [aK,aj,ae,ac] f6).g10 h1 h2 h3 aa W ab aA J C E
    rintro xv xw ⟨⟨cz,tc,td,rfl,bi,dR⟩,f7⟩
    have jU:=al4 aA.lt ab.lt W.lt aa.lt
    have po:Gb w.heap.size hD.heap.size:=J.size
    have hkeep_:=f7
    have pp:=Ah dR ab.lt
    have pq:=Ah dR aA.lt
    have pr:Cov nil bm cz:=BT dR C.size
    replace ⟨h1,h2,h3,aa,W,ab,aA,J,C,E⟩:=(sz [aK,aj,ae,ac] f7 dR).g10 h1 h2 h3 aa W ab aA J C E
    refine ⟨Ext.chg hkeep_,?_⟩
    replace bi:=Own.take (s0:=w.heap.size) (M:=[aK,aj,ae,ac]) bi jU po
    refine .go 0<|.ns 0 50 [] fun xx jV=>?_
    replace ⟨h1,h2,h3,aa,W,ab,aA,bi,J,C,E⟩:=(se [cz,aK,aj,ae,ac] jV).g11 h1 h2 h3 aa W ab aA bi J C E
    intro d6 te cT jW pu pw
    have pz:=AX cT ab.lt
    have pA:=AX cT aA.lt
    have pB:=AX cT bi.lt
    have pC:=C.cn cT
    replace ⟨h1,h2,h3,aa,W,ab,aA,bi,J,C,E⟩:=(sn [cz,aK,aj,ae,ac] jW cT).g11 h1 h2 h3 aa W ab aA bi J C E
    have f8:Own (α:=Fil) te d6 50 (nin (ge w.heap.size) [d6,cz,aK,aj,ae,ac]) 0 0 []:=Own.Aj pu
    refine .r [10]<|.d fun lR jX=>?_
    replace ⟨h1,h2,h3,aa,W,ab,aA,bi,f8,J,C,E⟩:=(se [d6,cz,aK,aj,ae,ac] jX).g12 h1 h2 h3 aa W ab aA bi f8 J C E
    replace h1:=h1.Aa
    replace h2:=h2.Aa
    replace h3:=h3.Aa
    have f9:Mv [d6,cz,aK,aj,ae,ac] [aK,d6,aj,cz,ae,ac] lR lR:=Mv.less (all_cons AK (all_cons AI (all_cons AL (all_cons AJ (all_cons AM (all_cons AN all_nil))))))
    exact ⟨(aK,d6,aj,d4,cz,tc,td),⟨AA,AA,AA,AA,trivial⟩,⟨C,(Ad jP),(Ad pC),(Ad cN),(Ad pr),pA,(Nb.symm jO),(Nb.symm pz),pq,(Nb.symm pB),pp,aA,(Own.mv f8 f9 (Chg.refl nil _) (fun h=>h)),(Own.mv ab f9 (Chg.refl nil _) (fun h=>h)),(Own.mv bi f9 (Chg.refl nil _) (fun h=>h))⟩⟩
   refine .nw (fun b=>.pointer (some ⟨b,0,none⟩)) 36 [AH,AH,AH,vI 0] fun xy jY=>?_
   replace ⟨h1,h2,h3,aa,W,am,J,C,E⟩:=(se [aE,ae,ac] jY).g9 h1 h2 h3 aa W am J C E
   intro aB xz et jZ ai pD
   have j0:=AX et am.lt
   have ga:=C.cn et
   replace ⟨h1,h2,h3,aa,W,am,J,C,E⟩:=(sn [aE,ae,ac] jZ et).g9 h1 h2 h3 aa W am J C E
   refine .tw 0 4 ?_ ?_
   ·refine .ns 0 50 [] fun xA j1=>?_
    replace ⟨h1,h2,h3,aa,W,am,ai,J,C,E⟩:=(se [aB,aE,ae,ac] j1).g10 h1 h2 h3 aa W am ai J C E
    intro bJ ti dS j2 pE pF
    have pG:=AX dS am.lt
    have pH:=AX dS ai.lt
    have pI:=C.cn dS
    replace ⟨h1,h2,h3,aa,W,am,ai,J,C,E⟩:=(sn [aB,aE,ae,ac] j2 dS).g10 h1 h2 h3 aa W am ai J C E
    have aS:Own (α:=Fil) ti bJ 50 (nin (ge w.heap.size) [bJ,aB,aE,ae,ac]) 0 0 []:=Own.Aj pE
    refine .go 4<|GE.append (T:=34) (ty:=34) (args:=[vS aE 0 0,.slice a2 d.list.length c2]) AA fun xB j3=>?_
    replace ⟨h1,h2,h3,aa,W,am,ai,aS,J,C,E⟩:=(se [bJ,aB,aE,ae,ac] j3).g11 h1 h2 h3 aa W am ai aS J C E
    obtain ⟨dw,tj,xC,ls,aX,cA,gb,pJ⟩:=Own.BG (P:=Tryz.prog) (T:=34) (ty:=34) BS am AA h2 (fun b h e=>h.2 (e▸AK)) AB
    refine ⟨_,_,ls,Chg.toS gb (Cov.toS dH),?_⟩
    have pK:=Ag cA (Nb.symm j0) ai.lt
    have pL:=Ag cA (Nb.symm pG) aS.lt
    have pM:=Aw cA dG C.size
    replace ⟨h1,h2,h3,aa,W,ai,aS,J,C,E⟩:=(sa [bJ,aB,aE,ae,ac] gb cA).g10 h1 h2 h3 aa W ai aS J C E
    replace aX:=aX.rn aE
    refine .go 7<|.cl (fun hE gf=>Ak d.names (h3.ta.ext gf) AB (fun n hn=>by have:=p4 n hn; omega) (w:=hE) (F:=all)) ?_
    intro hE gf
    replace ⟨h1,h2,h3,aa,W,aX,ai,aS,J,C,E⟩:=(se [bJ,aB,dw,ae,ac] gf).g11 h1 h2 h3 aa W aX ai aS J C E
    rintro xD xE ⟨⟨eK,tk,tm,rfl,ci,cU⟩,gh⟩
    have j4:=al5 aS.lt ai.lt aX.lt W.lt aa.lt
    have pN:Gb w.heap.size hE.heap.size:=J.size
    have hkeep_:=gh
    have pO:=Ah cU aX.lt
    have pP:=Ah cU ai.lt
    have pQ:=Ah cU aS.lt
    have pR:Cov nil bm eK:=BT cU C.size
    replace ⟨h1,h2,h3,aa,W,aX,ai,aS,J,C,E⟩:=(sz [bJ,aB,dw,ae,ac] gh cU).g11 h1 h2 h3 aa W aX ai aS J C E
    refine ⟨Ext.chg hkeep_,?_⟩
    replace ci:=Own.take (s0:=w.heap.size) (M:=[bJ,aB,dw,ae,ac]) ci j4 pN
    refine .r [10]<|.d fun lS j5=>?_
    replace ⟨h1,h2,h3,aa,W,aX,ai,aS,ci,J,C,E⟩:=(se [eK,bJ,aB,dw,ae,ac] j5).g12 h1 h2 h3 aa W aX ai aS ci J C E
    replace h1:=h1.Aa
    replace h2:=h2.Aa
    replace h3:=h3.Aa
    have gi:Mv [eK,bJ,aB,dw,ae,ac] [aB,bJ,dw,eK,ae,ac] lS lS:=Mv.less (all_cons AK (all_cons AJ (all_cons AL (all_cons AI (all_cons AM (all_cons AN all_nil))))))
    exact ⟨(aB,bJ,dw,tj,eK,tk,tm),⟨AA,AA,AA,AA,trivial⟩,⟨C,(Ad ga),(Ad pI),(Ad pM),(Ad pR),pH,pK,pL,pP,pQ,pO,ai,(Own.mv aS gi (Chg.refl nil _) (fun h=>h)),(Own.mv aX gi (Chg.refl nil _) (fun h=>h)),(Own.mv ci gi (Chg.refl nil _) (fun h=>h))⟩⟩
   refine GE.append (T:=34) (ty:=34) (args:=[vS aE 0 0,.slice a2 d.list.length c2]) AA fun xF j6=>?_
   replace ⟨h1,h2,h3,aa,W,am,ai,J,C,E⟩:=(se [aB,aE,ae,ac] j6).g10 h1 h2 h3 aa W am ai J C E
   obtain ⟨aL,lT,xG,lu,au,dT,gj,pS⟩:=Own.BG (P:=Tryz.prog) (T:=34) (ty:=34) BS am AA h2 (fun b h e=>h.2 (e▸AJ)) AB
   refine ⟨_,_,lu,Chg.toS gj (Cov.toS dH),?_⟩
   have j7:=Ag dT (Nb.symm j0) ai.lt
   have j8:=Aw dT dG C.size
   replace ⟨h1,h2,h3,aa,W,ai,J,C,E⟩:=(sa [aB,aE,ae,ac] gj dT).g9 h1 h2 h3 aa W ai J C E
   replace au:=au.rn aE
   refine .tw 0 7 ?_ ?_
   ·refine .ns 0 50 [] fun xH j9=>?_
    replace ⟨h1,h2,h3,aa,W,au,ai,J,C,E⟩:=(se [aB,aL,ae,ac] j9).g10 h1 h2 h3 aa W au ai J C E
    intro cj tq dU ka pT pU
    have pV:=AX dU au.lt
    have pW:=AX dU ai.lt
    have pX:=C.cn dU
    replace ⟨h1,h2,h3,aa,W,au,ai,J,C,E⟩:=(sn [aB,aL,ae,ac] ka dU).g10 h1 h2 h3 aa W au ai J C E
    have bE:Own (α:=Fil) tq cj 50 (nin (ge w.heap.size) [cj,aB,aL,ae,ac]) 0 0 []:=Own.Aj pT
    refine .go 7<|.cl (fun hH gk=>Ak d.names (h3.ta.ext gk) AB (fun n hn=>by have:=p4 n hn; omega) (w:=hH) (F:=all)) ?_
    intro hH gk
    replace ⟨h1,h2,h3,aa,W,au,ai,bE,J,C,E⟩:=(se [cj,aB,aL,ae,ac] gk).g11 h1 h2 h3 aa W au ai bE J C E
    rintro xI xJ ⟨⟨eL,tr,tt,rfl,ck,cV⟩,gl⟩
    have kb:=al5 bE.lt ai.lt au.lt W.lt aa.lt
    have pY:Gb w.heap.size hH.heap.size:=J.size
    have hkeep_:=gl
    have pZ:=Ah cV au.lt
    have p5:=Ah cV ai.lt
    have p6:=Ah cV bE.lt
    have p7:Cov nil bm eL:=BT cV C.size
    replace ⟨h1,h2,h3,aa,W,au,ai,bE,J,C,E⟩:=(sz [cj,aB,aL,ae,ac] gl cV).g11 h1 h2 h3 aa W au ai bE J C E
    refine ⟨Ext.chg hkeep_,?_⟩
    replace ck:=Own.take (s0:=w.heap.size) (M:=[cj,aB,aL,ae,ac]) ck kb pY
    refine .r [10]<|.d fun lU kd=>?_
    replace ⟨h1,h2,h3,aa,W,au,ai,bE,ck,J,C,E⟩:=(se [eL,cj,aB,aL,ae,ac] kd).g12 h1 h2 h3 aa W au ai bE ck J C E
    replace h1:=h1.Aa
    replace h2:=h2.Aa
    replace h3:=h3.Aa
    have gm:Mv [eL,cj,aB,aL,ae,ac] [aB,cj,aL,eL,ae,ac] lU lU:=Mv.less (all_cons AK (all_cons AJ (all_cons AL (all_cons AI (all_cons AM (all_cons AN all_nil))))))
    exact ⟨(aB,cj,aL,lT,eL,tr,tt),⟨AA,AA,AA,AA,trivial⟩,⟨C,(Ad ga),(Ad pX),(Ad j8),(Ad p7),pW,j7,(Nb.symm pV),p5,p6,pZ,ai,(Own.mv bE gm (Chg.refl nil _) (fun h=>h)),(Own.mv au gm (Chg.refl nil _) (fun h=>h)),(Own.mv ck gm (Chg.refl nil _) (fun h=>h))⟩⟩
   refine .cl (fun hJ gn=>Ak d.names (h3.ta.ext gn) AB (fun n hn=>by have:=p4 n hn; omega) (w:=hJ) (F:=all)) ?_
   intro hJ gn
   replace ⟨h1,h2,h3,aa,W,au,ai,J,C,E⟩:=(se [aB,aL,ae,ac] gn).g10 h1 h2 h3 aa W au ai J C E
   rintro xK xL ⟨⟨cB,tu,tv,rfl,bj,dV⟩,gp⟩
   have ke:=al4 ai.lt au.lt W.lt aa.lt
   have p8:Gb w.heap.size hJ.heap.size:=J.size
   have hkeep_:=gp
   have p9:=Ah dV au.lt
   have qa:=Ah dV ai.lt
   have qb:Cov nil bm cB:=BT dV C.size
   replace ⟨h1,h2,h3,aa,W,au,ai,J,C,E⟩:=(sz [aB,aL,ae,ac] gp dV).g10 h1 h2 h3 aa W au ai J C E
   refine ⟨Ext.chg hkeep_,?_⟩
   replace bj:=Own.take (s0:=w.heap.size) (M:=[aB,aL,ae,ac]) bj ke p8
   refine .go 0<|.ns 0 50 [] fun xM kf=>?_
   replace ⟨h1,h2,h3,aa,W,au,ai,bj,J,C,E⟩:=(se [cB,aB,aL,ae,ac] kf).g11 h1 h2 h3 aa W au ai bj J C E
   intro d7 tx cW kg qc qd
   have qe:=AX cW au.lt
   have qf:=AX cW ai.lt
   have qg:=AX cW bj.lt
   have qh:=C.cn cW
   replace ⟨h1,h2,h3,aa,W,au,ai,bj,J,C,E⟩:=(sn [cB,aB,aL,ae,ac] kg cW).g11 h1 h2 h3 aa W au ai bj J C E
   have gq:Own (α:=Fil) tx d7 50 (nin (ge w.heap.size) [d7,cB,aB,aL,ae,ac]) 0 0 []:=Own.Aj qc
   refine .r [10]<|.d fun lV kh=>?_
   replace ⟨h1,h2,h3,aa,W,au,ai,bj,gq,J,C,E⟩:=(se [d7,cB,aB,aL,ae,ac] kh).g12 h1 h2 h3 aa W au ai bj gq J C E
   replace h1:=h1.Aa
   replace h2:=h2.Aa
   replace h3:=h3.Aa
   have gr:Mv [d7,cB,aB,aL,ae,ac] [aB,d7,aL,cB,ae,ac] lV lV:=Mv.less (all_cons AK (all_cons AI (all_cons AL (all_cons AJ (all_cons AM (all_cons AN all_nil))))))
   exact ⟨(aB,d7,aL,lT,cB,tu,tv),⟨AA,AA,AA,AA,trivial⟩,⟨C,(Ad ga),(Ad qh),(Ad j8),(Ad qb),qf,j7,(Nb.symm qe),qa,(Nb.symm qg),p9,ai,(Own.mv gq gr (Chg.refl nil _) (fun h=>h)),(Own.mv au gr (Chg.refl nil _) (fun h=>h)),(Own.mv bj gr (Chg.refl nil _) (fun h=>h))⟩⟩
  refine .nw (fun b=>.pointer (some ⟨b,0,none⟩)) 36 [AH,AH,AH,vI 0] fun xN ki=>?_
  replace ⟨h1,h2,h3,aa,W,J,C,E⟩:=(se [ae,ac] ki).g8 h1 h2 h3 aa W J C E
  intro ak xO gs kj ag qi
  have ey:=C.cn gs
  replace ⟨h1,h2,h3,aa,W,J,C,E⟩:=(sn [ae,ac] kj gs).g8 h1 h2 h3 aa W J C E
  refine .tw 0 1 ?_ ?_
  ·refine .ns 0 50 [] fun xP kk=>?_
   replace ⟨h1,h2,h3,aa,W,ag,J,C,E⟩:=(se [ak,ae,ac] kk).g9 h1 h2 h3 aa W ag J C E
   intro bo tz ez kl qj qk
   have ql:=AX ez ag.lt
   have qm:=C.cn ez
   replace ⟨h1,h2,h3,aa,W,ag,J,C,E⟩:=(sn [ak,ae,ac] kl ez).g9 h1 h2 h3 aa W ag J C E
   have aI:Own (α:=Fil) tz bo 50 (nin (ge w.heap.size) [bo,ak,ae,ac]) 0 0 []:=Own.Aj qj
   refine .go 1<|.ns 0 3 [] fun xQ km=>?_
   replace ⟨h1,h2,h3,aa,W,ag,aI,J,C,E⟩:=(se [bo,ak,ae,ac] km).g10 h1 h2 h3 aa W ag aI J C E
   intro d8 tA bF ko qn qo
   have u3:=AX bF aa.lt
   have u4:=AX bF W.lt
   have qp:=AX bF ag.lt
   have qq:=AX bF aI.lt
   have u5:=J.cn bF
   have qr:=C.cn bF
   have qs:=E.cn bF
   replace ⟨h1,h2,h3,aa,W,ag,aI,J,C,E⟩:=(sn [bo,ak,ae,ac] ko bF).g10 h1 h2 h3 aa W ag aI J C E
   have gt:Own (α:=Int) tA d8 3 (nin (ge w.heap.size) [d8,bo,ak,ae,ac]) 0 0 []:=Own.Aj qn
   refine .go 4<|GE.append (T:=34) (ty:=34) (args:=[vS d8 0 0,.slice a2 d.list.length c2]) AA fun xR kr=>?_
   replace ⟨h1,h2,h3,aa,W,ag,aI,gt,J,C,E⟩:=(se [d8,bo,ak,ae,ac] kr).g11 h1 h2 h3 aa W ag aI gt J C E
   obtain ⟨dx,tB,xS,lv,aY,cC,gu,qt⟩:=Own.BG (P:=Tryz.prog) (T:=34) (ty:=34) BS gt AA h2 (fun b h e=>h.2 (e▸AI)) AB
   refine ⟨_,_,lv,Chg.toS gu (Cov.toS qs),?_⟩
   have qu:=Ag cC qp ag.lt
   have qv:=Ag cC qq aI.lt
   have qw:=Aw cC qr C.size
   replace ⟨h1,h2,h3,aa,W,ag,aI,J,C,E⟩:=(sa [d8,bo,ak,ae,ac] gu cC).g10 h1 h2 h3 aa W ag aI J C E
   replace aY:=aY.rn d8
   refine .go 7<|.cl (fun hN gv=>Ak d.names (h3.ta.ext gv) AB (fun n hn=>by have:=p4 n hn; omega) (w:=hN) (F:=all)) ?_
   intro hN gv
   replace ⟨h1,h2,h3,aa,W,ag,aI,aY,J,C,E⟩:=(se [dx,bo,ak,ae,ac] gv).g11 h1 h2 h3 aa W ag aI aY J C E
   rintro xT xU ⟨⟨eM,tC,tD,rfl,cm,cX⟩,gw⟩
   have ks:=al5 aY.lt aI.lt ag.lt W.lt aa.lt
   have qx:Gb w.heap.size hN.heap.size:=J.size
   have hkeep_:=gw
   have qy:=Ah cX ag.lt
   have qz:=Ah cX aI.lt
   have qA:=Ah cX aY.lt
   have qB:Cov nil bm eM:=BT cX C.size
   replace ⟨h1,h2,h3,aa,W,ag,aI,aY,J,C,E⟩:=(sz [dx,bo,ak,ae,ac] gw cX).g11 h1 h2 h3 aa W ag aI aY J C E
   refine ⟨Ext.chg hkeep_,?_⟩
   replace cm:=Own.take (s0:=w.heap.size) (M:=[dx,bo,ak,ae,ac]) cm ks qx
   refine .r [10]<|.d fun lW kt=>?_
   replace ⟨h1,h2,h3,aa,W,ag,aI,aY,cm,J,C,E⟩:=(se [eM,dx,bo,ak,ae,ac] kt).g12 h1 h2 h3 aa W ag aI aY cm J C E
   replace h1:=h1.Aa
   replace h2:=h2.Aa
   replace h3:=h3.Aa
   have gy:Mv [eM,dx,bo,ak,ae,ac] [ak,bo,dx,eM,ae,ac] lW lW:=Mv.less (all_cons AL (all_cons AK (all_cons AJ (all_cons AI (all_cons AM (all_cons AN all_nil))))))
   exact ⟨(ak,bo,dx,tB,eM,tC,tD),⟨AA,AA,AA,AA,trivial⟩,⟨C,(Ad ey),(Ad qm),(Ad qw),(Ad qB),ql,qu,qv,qy,qz,qA,ag,(Own.mv aI gy (Chg.refl nil _) (fun h=>h)),(Own.mv aY gy (Chg.refl nil _) (fun h=>h)),(Own.mv cm gy (Chg.refl nil _) (fun h=>h))⟩⟩
  refine .ns 0 3 [] fun xV ku=>?_
  replace ⟨h1,h2,h3,aa,W,ag,J,C,E⟩:=(se [ak,ae,ac] ku).g9 h1 h2 h3 aa W ag J C E
  intro br tE bR kv qC qD
  have vc:=AX bR aa.lt
  have vd:=AX bR W.lt
  have kw:=AX bR ag.lt
  have ve:=J.cn bR
  have kx:=C.cn bR
  have ky:=E.cn bR
  replace ⟨h1,h2,h3,aa,W,ag,J,C⟩:=(sn [ak,ae,ac] kv bR).g8 h1 h2 h3 aa W ag J C
  have bq:Own (α:=Int) tE br 3 (nin (ge w.heap.size) [br,ak,ae,ac]) 0 0 []:=Own.Aj qC
  refine .tw 0 4 ?_ ?_
  ·refine .ns 0 50 [] fun xW kz=>?_
   replace ⟨h1,h2,h3,aa,W,ag,bq,J,C⟩:=(se [br,ak,ae,ac] kz).g9 h1 h2 h3 aa W ag bq J C
   intro bK tF dW kA qE qF
   have qG:=AX dW ag.lt
   have qH:=AX dW bq.lt
   have qI:=C.cn dW
   replace ⟨h1,h2,h3,aa,W,ag,bq,J,C⟩:=(sn [br,ak,ae,ac] kA dW).g9 h1 h2 h3 aa W ag bq J C
   have aT:Own (α:=Fil) tF bK 50 (nin (ge w.heap.size) [bK,br,ak,ae,ac]) 0 0 []:=Own.Aj qE
   refine .go 4<|GE.append (T:=34) (ty:=34) (args:=[vS br 0 0,.slice a2 d.list.length c2]) AA fun xX kB=>?_
   replace ⟨h1,h2,h3,aa,W,ag,bq,aT,J,C⟩:=(se [bK,br,ak,ae,ac] kB).g10 h1 h2 h3 aa W ag bq aT J C
   obtain ⟨dy,tG,xY,lw,aZ,cD,gz,qJ⟩:=Own.BG (P:=Tryz.prog) (T:=34) (ty:=34) BS bq AA h2 (fun b h e=>h.2 (e▸AJ)) AB
   refine ⟨_,_,lw,Chg.toS gz (Cov.toS ky),?_⟩
   have qK:=Ag cD kw ag.lt
   have qL:=Ag cD (Nb.symm qH) aT.lt
   have qM:=Aw cD kx C.size
   replace ⟨h1,h2,h3,aa,W,ag,aT,J,C⟩:=(sa [bK,br,ak,ae,ac] gz cD).g9 h1 h2 h3 aa W ag aT J C
   replace aZ:=aZ.rn br
   refine .go 7<|.cl (fun hO gA=>Ak d.names (h3.ta.ext gA) AB (fun n hn=>by have:=p4 n hn; omega) (w:=hO) (F:=all)) ?_
   intro hO gA
   replace ⟨h1,h2,h3,aa,W,ag,aZ,aT,J,C⟩:=(se [bK,dy,ak,ae,ac] gA).g10 h1 h2 h3 aa W ag aZ aT J C
   rintro xZ x3 ⟨⟨eN,tH,tJ,rfl,co,cY⟩,gC⟩
   have kC:=al5 aT.lt aZ.lt ag.lt W.lt aa.lt
   have qN:Gb w.heap.size hO.heap.size:=J.size
   have hkeep_:=gC
   have qO:=Ah cY ag.lt
   have qP:=Ah cY aZ.lt
   have qQ:=Ah cY aT.lt
   have qR:Cov nil bm eN:=BT cY C.size
   replace ⟨h1,h2,h3,aa,W,ag,aZ,aT,J,C⟩:=(sz [bK,dy,ak,ae,ac] gC cY).g10 h1 h2 h3 aa W ag aZ aT J C
   refine ⟨Ext.chg hkeep_,?_⟩
   replace co:=Own.take (s0:=w.heap.size) (M:=[bK,dy,ak,ae,ac]) co kC qN
   refine .r [10]<|.d fun lX kD=>?_
   replace ⟨h1,h2,h3,aa,W,ag,aZ,aT,co,J,C⟩:=(se [eN,bK,dy,ak,ae,ac] kD).g11 h1 h2 h3 aa W ag aZ aT co J C
   replace h1:=h1.Aa
   replace h2:=h2.Aa
   replace h3:=h3.Aa
   have gD:Mv [eN,bK,dy,ak,ae,ac] [ak,bK,dy,eN,ae,ac] lX lX:=Mv.less (all_cons AL (all_cons AJ (all_cons AK (all_cons AI (all_cons AM (all_cons AN all_nil))))))
   exact ⟨(ak,bK,dy,tG,eN,tH,tJ),⟨AA,AA,AA,AA,trivial⟩,⟨C,(Ad ey),(Ad qI),(Ad qM),(Ad qR),qG,qK,qL,qO,qQ,qP,ag,(Own.mv aT gD (Chg.refl nil _) (fun h=>h)),(Own.mv aZ gD (Chg.refl nil _) (fun h=>h)),(Own.mv co gD (Chg.refl nil _) (fun h=>h))⟩⟩
  refine GE.append (T:=34) (ty:=34) (args:=[vS br 0 0,.slice a2 d.list.length c2]) AA fun x4 kE=>?_
  replace ⟨h1,h2,h3,aa,W,ag,bq,J,C⟩:=(se [br,ak,ae,ac] kE).g9 h1 h2 h3 aa W ag bq J C
  obtain ⟨aM,lY,x5,ly,av,dX,gE,qS⟩:=Own.BG (P:=Tryz.prog) (T:=34) (ty:=34) BS bq AA h2 (fun b h e=>h.2 (e▸AI)) AB
  refine ⟨_,_,ly,Chg.toS gE (Cov.toS ky),?_⟩
  have kF:=Ag dX kw ag.lt
  have kG:=Aw dX kx C.size
  replace ⟨h1,h3,aa,W,ag,J,C⟩:=(sa [br,ak,ae,ac] gE dX).g7 h1 h3 aa W ag J C
  replace av:=av.rn br
  refine .tw 0 7 ?_ ?_
  ·refine .ns 0 50 [] fun x6 kH=>?_
   replace ⟨h1,h3,aa,W,ag,av,J,C⟩:=(se [aM,ak,ae,ac] kH).g8 h1 h3 aa W ag av J C
   intro cp tK dY kI qT qU
   have qV:=AX dY ag.lt
   have qW:=AX dY av.lt
   have qX:=C.cn dY
   replace ⟨h1,h3,aa,W,ag,av,J,C⟩:=(sn [aM,ak,ae,ac] kI dY).g8 h1 h3 aa W ag av J C
   have bG:Own (α:=Fil) tK cp 50 (nin (ge w.heap.size) [cp,aM,ak,ae,ac]) 0 0 []:=Own.Aj qT
   refine .go 7<|.cl (fun hQ gF=>Ak d.names (h3.ta.ext gF) AB (fun n hn=>by have:=p4 n hn; omega) (w:=hQ) (F:=all)) ?_
   intro hQ gF
   replace ⟨h1,h3,aa,W,ag,av,bG,J,C⟩:=(se [cp,aM,ak,ae,ac] gF).g9 h1 h3 aa W ag av bG J C
   rintro x7 x8 ⟨⟨eO,tL,tM,rfl,cq,cZ⟩,gG⟩
   have kJ:=al5 bG.lt av.lt ag.lt W.lt aa.lt
   have qY:Gb w.heap.size hQ.heap.size:=J.size
   have hkeep_:=gG
   have qZ:=Ah cZ ag.lt
   have q0:=Ah cZ av.lt
   have q5:=Ah cZ bG.lt
   have q6:Cov nil bm eO:=BT cZ C.size
   replace ⟨h1,h3,aa,W,ag,av,bG,J,C⟩:=(sz [cp,aM,ak,ae,ac] gG cZ).g9 h1 h3 aa W ag av bG J C
   refine ⟨Ext.chg hkeep_,?_⟩
   replace cq:=Own.take (s0:=w.heap.size) (M:=[cp,aM,ak,ae,ac]) cq kJ qY
   refine .r [10]<|.d fun lZ kK=>?_
   replace ⟨h1,h3,aa,W,ag,av,bG,cq,J,C⟩:=(se [eO,cp,aM,ak,ae,ac] kK).g10 h1 h3 aa W ag av bG cq J C
   replace h1:=h1.Aa
   replace h3:=h3.Aa
   have gH:Mv [eO,cp,aM,ak,ae,ac] [ak,cp,aM,eO,ae,ac] lZ lZ:=Mv.less (all_cons AL (all_cons AJ (all_cons AK (all_cons AI (all_cons AM (all_cons AN all_nil))))))
   exact ⟨(ak,cp,aM,lY,eO,tL,tM),⟨AA,AA,AA,AA,trivial⟩,⟨C,(Ad ey),(Ad qX),(Ad kG),(Ad q6),qV,kF,(Nb.symm qW),qZ,q5,q0,ag,(Own.mv bG gH (Chg.refl nil _) (fun h=>h)),(Own.mv av gH (Chg.refl nil _) (fun h=>h)),(Own.mv cq gH (Chg.refl nil _) (fun h=>h))⟩⟩
  refine .cl (fun hV gI=>Ak d.names (h3.ta.ext gI) AB (fun n hn=>by have:=p4 n hn; omega) (w:=hV) (F:=all)) ?_
  intro hV gI
  replace ⟨h1,aa,W,ag,av,J,C⟩:=(se [aM,ak,ae,ac] gI).g7 h1 aa W ag av J C
  rintro x9 ya ⟨⟨cE,tN,tO,rfl,bk,dZ⟩,gJ⟩
  have kL:=al4 av.lt ag.lt W.lt aa.lt
  have q7:Gb w.heap.size hV.heap.size:=J.size
  have hkeep_:=gJ
  have q8:=Ah dZ ag.lt
  have q9:=Ah dZ av.lt
  have ra:Cov nil bm cE:=BT dZ C.size
  replace ⟨h1,aa,W,ag,av,J,C⟩:=(sz [aM,ak,ae,ac] gJ dZ).g7 h1 aa W ag av J C
  refine ⟨Ext.chg hkeep_,?_⟩
  replace bk:=Own.take (s0:=w.heap.size) (M:=[aM,ak,ae,ac]) bk kL q7
  refine .go 0<|.ns 0 50 [] fun yb kM=>?_
  replace ⟨h1,aa,W,ag,av,bk,J,C⟩:=(se [cE,aM,ak,ae,ac] kM).g8 h1 aa W ag av bk J C
  intro d9 tQ c7 kN rc rd
  have re:=AX c7 ag.lt
  have rf:=AX c7 av.lt
  have rh:=AX c7 bk.lt
  have rj:=C.cn c7
  replace ⟨h1,aa,W,ag,av,bk,J,C⟩:=(sn [cE,aM,ak,ae,ac] kN c7).g8 h1 aa W ag av bk J C
  have gK:Own (α:=Fil) tQ d9 50 (nin (ge w.heap.size) [d9,cE,aM,ak,ae,ac]) 0 0 []:=Own.Aj rc
  refine .r [10]<|.d fun l0 kO=>?_
  replace ⟨h1,aa,W,ag,av,bk,gK,J,C⟩:=(se [d9,cE,aM,ak,ae,ac] kO).g9 h1 aa W ag av bk gK J C
  replace h1:=h1.Aa
  have gL:Mv [d9,cE,aM,ak,ae,ac] [ak,d9,aM,cE,ae,ac] l0 l0:=Mv.less (all_cons AL (all_cons AI (all_cons AK (all_cons AJ (all_cons AM (all_cons AN all_nil))))))
  exact ⟨(ak,d9,aM,lY,cE,tN,tO),⟨AA,AA,AA,AA,trivial⟩,⟨C,(Ad ey),(Ad rj),(Ad kG),(Ad ra),re,kF,(Nb.symm rf),q8,(Nb.symm rh),q9,ag,(Own.mv gK gL (Chg.refl nil _) (fun h=>h)),(Own.mv av gL (Chg.refl nil _) (fun h=>h)),(Own.mv bk gL (Chg.refl nil _) (fun h=>h))⟩⟩
 rintro ⟨aG,bN,bS,li,bc,eT,eU⟩ yc df ⟨gM,d0,c8,c9,da,rk,rl,rm,ro,rp,rq,tT,eP,eQ,eR⟩
 have vq:=Ah d0 aa.lt
 have vr:=Ah d0 W.lt
 have vt:Cov nil w aG:=BT d0 J.size
 have vu:=Ah c8 aa.lt
 have rr:=Ah c8 W.lt
 have ru:=Bo c8 J.size
 have rx:Cov nil w bN:=BT c8 J.size
 have ry:=Ah c9 aa.lt
 have rz:=Ah c9 W.lt
 have rA:=Bo c9 J.size
 have vv:Cov nil w bS:=BT c9 J.size
 have rB:=Ah da aa.lt
 have rC:=Ah da W.lt
 have rD:=Bo da J.size
 have vw:Cov nil w bc:=BT da J.size
 have kP:Mv [ae,ac] [aG,bN,bS,bc,ae,ac] bm df:=Mv.cons (Mv.cons (Mv.cons (Mv.cons (Mv.ext gM) da) c9) c8) d0
 replace ⟨h1,aa,W,J⟩:=(sp kP gM).g4 h1 aa W J
 have vx:=eP.len
 refine .sc [vS bN 0 0,vS bS (0+d.list.length) li,vS bc eT eU,vI d.next] tT fun dz kQ eA rE=>?_
 replace ⟨h1,aa,W,eP,eQ,eR,J⟩:=(so [aG,bN,bS,bc,ae,ac] kQ).g7 h1 aa W eP eQ eR J
 refine .d<|.s<|.s<|.g<|.r 1<|.lb aa<|.r 2<|.d<|.b 0<|T.loop (X:=Nat × (List Fil) × Nat × Nat × Nat × (List Int) × Nat × Nat × Nat × (List (List Tag)) × Nat × Nat × Nat × Int) (0,([]:List Fil),bN,0,0,(([]++d.list):List Int),bS,0+d.list.length,li,(d.names:List (List Tag)),bc,eT,eU,d.next) (fun (k,dA,r_out_0,n_out_0,c_out_0,ec,r_out_1,n_out_1,c_out_1,ed,r_out_2,n_out_2,c_out_2,cF)=>[(2,.pointer (some ⟨ae,0,none⟩)),(3,.pointer (some ⟨aG,0,none⟩)),(18,.slice a1 d.files.length c1),(19,vI (d.files.length:Int)),(20,vI (k:Int))]) (fun (k,dA,r_out_0,n_out_0,c_out_0,ec,r_out_1,n_out_1,c_out_1,ed,r_out_2,n_out_2,c_out_2,cF) dB=>Chg (ins [bN,bS,bc,aG]) dz dB∧Own dB r_out_0 50 (nin (ge w.heap.size) [aG,r_out_0,r_out_1,r_out_2,ae,ac]) n_out_0 c_out_0 dA∧OrB r_out_0 bN dz.heap.size∧Own dB r_out_1 3 (nin (ge w.heap.size) [aG,r_out_0,r_out_1,r_out_2,ae,ac]) n_out_1 c_out_1 ec∧OrB r_out_1 bS dz.heap.size∧Own dB r_out_2 43 (nin (ge w.heap.size) [aG,r_out_0,r_out_1,r_out_2,ae,ac]) n_out_2 c_out_2 ed∧OrB r_out_2 bc dz.heap.size∧Nb r_out_1 r_out_0∧Nb r_out_2 r_out_0∧Nb r_out_2 r_out_1∧Box dB aG 36 [vS r_out_0 n_out_0 c_out_0,vS r_out_1 n_out_1 c_out_1,vS r_out_2 n_out_2 c_out_2,vI cF]∧(k≤d.files.length)∧(dA.length≤k)∧(dA++d.files.drop k=d.files)∧(ec=d.list)∧(ed=d.names)∧(cF=d.next)) (fun (k,dA,r_out_0,n_out_0,c_out_0,ec,r_out_1,n_out_1,c_out_1,ed,r_out_2,n_out_2,c_out_2,cF)=>d.files.length - k) AA ⟨AA,AA,AA,AA,AA,trivial⟩ ⟨Chg.refl _ _,eP,BU,eQ,BU,eR,BU,rm,rp,rq,eA,AB,AB,AF,AF,AF,AB⟩ ?_
 rintro ⟨k,dA,r_out_0,n_out_0,c_out_0,ec,r_out_1,n_out_1,c_out_1,ed,r_out_2,n_out_2,c_out_2,cF⟩ yd dB ⟨aF,ay,cr,aw,db,ao,de,rF,rG,rH,aD,vD,vE,vF,vG,vH,vJ⟩ hW
 have vK:=Ay cr rr W.lt
 have kR:=Ay cr rk eA.lt
 have rI:=Bz cr ru J.size
 have vL:=BA cr rx J.size
 have vM:=Ay db ry aa.lt
 have vN:=Ay db rz W.lt
 have rJ:=Ay db rl eA.lt
 have rK:=Bz db rA J.size
 have vO:=Ay de rB aa.lt
 have vP:=Ay de rC W.lt
 have rL:=Ay de ro eA.lt
 have rM:=Bz de rD J.size
 have rN:Cov (ins [bN,bS,bc,aG]) dz bN:=⟨.inl AI⟩
 have vQ:Cov (ins [bN,bS,bc,aG]) dz aG:=⟨.inl AL⟩
 have vR:=BA cr rN (Nat.le_refl _)
 have kS:Mv [aG,bN,bS,bc,ae,ac] [aG,r_out_0,r_out_1,r_out_2,ae,ac] dz dB:=Mv.inl aF (all_cons AJ (all_cons AK (all_cons AL (all_cons AI all_nil)))) (all_cons (.inl AI) (all_cons (Bb cr AJ) (all_cons (Bb db AK) (all_cons (Bb de AL) (all_cons (.inl AM) (all_cons (.inl AN) all_nil))))))
 replace ⟨h1,aa,W,J⟩:=(sp kS aF).g4 h1 aa W J
 have vU:=ay.len; have vV:=ay.max
 refine .s<|.g<|.bp ((k:Int)< (d.files.length:Int)) (fun rO=>?_) (fun rO=>?_)
 ·refine .d<|.s<|.ct<|.sk<|.s<|.b 1<|.s<|.g ?_
  have rP:k< d.files.length:=AB
  refine .ix k 3 h1 rP ?_
  obtain ⟨bT,gN⟩:∃ y,d.files[k]? = some y:=⟨_,AU AB⟩
  have v0:=Ai gN; have t4:=AV gN
  obtain ⟨_,⟨tU,ye,tV,tW,yf,tY,rfl,bL,bM⟩,rQ⟩:=h1.elem k bT gN
  have rR:=bL.len
  subst rR
  have rT:=bM.len
  subst rT
  refine .lg 0 rQ<|.np 50 [vI 0,AH,AH] fun bw yg bt kT rU rV=>?_
  have v7:=AX bt aa.lt
  have v8:=AX bt W.lt
  have v9:=AX bt aD.lt
  have kU:=AX bt ay.lt
  have kV:=AX bt aw.lt
  have kW:=AX bt ao.lt
  have we:=J.cn bt
  have wf:=aF.cn bt
  replace ⟨aa,W,aD,ay,aw,ao,bL,bM,J,aF⟩:=(sn [aG,r_out_0,r_out_1,r_out_2,ae,ac] kT bt).g10 aa W aD ay aw ao bL bM J aF
  refine .sc [vI bT.num,.slice tU bT.part.ids.length tV,.slice tW bT.part.blocks.length tY] rU fun ia kX ba rW=>?_
  replace ⟨aa,W,aD,ay,aw,ao,bL,bM,J,aF⟩:=(so [bw,aG,r_out_0,r_out_1,r_out_2,ae,ac] kX).g10 aa W aD ay aw ao bL bM J aF
  refine .d ?_
  replace bL:=bL.BO
  replace bM:=bM.BO
  have rX:Gb (aG+1) ia.heap.size:=aD.lt
  have kY:Gb (bw+1) ia.heap.size:=ba.lt
  refine .gd (mtb [r_out_0,r_out_1,r_out_2] ia.heap.size) 9 fun yh kZ=>?_
  replace ⟨aa,W,aD,ay,aw,ao,bL,bM,ba,J,aF⟩:=(se [bw,aG,r_out_0,r_out_1,r_out_2,ae,ac] kZ).g11 aa W aD ay aw ao bL bM ba J aF
  refine .r [0]<|.lb 1 aD (BL (all_cons (Nb.symm kR) (all_cons (Nb.symm rJ) (all_cons (Nb.symm rL) all_nil))) rX)<|.r [2]<|.lb 3 ba (BL (all_cons kU (all_cons kV (all_cons kW all_nil))) kY)<|.r [4]<|.ln 5 ba (BL (all_cons kU (all_cons kV (all_cons kW all_nil))) kY)<|.go 6<|.cl (fun ic eB=>C9 bT.part (bL.ta.ext eB) (bM.ta.ext eB) (p1 _ ‹_›) (w:=ic) (F:=all)) ?_
  intro ic eB
  replace ⟨aa,W,aD,ay,aw,ao,ba,J,aF⟩:=(se [bw,aG,r_out_0,r_out_1,r_out_2,ae,ac] eB).g9 aa W aD ay aw ao ba J aF
  rintro yi yj ⟨⟨_,rfl,⟨tZ,yk,t0,t1,yl,t2,rfl,bU,bV⟩⟩,gO⟩
  have gP:=al7 ba.lt aD.lt ay.lt aw.lt ao.lt W.lt aa.lt
  have k5:Gb w.heap.size ic.heap.size:=J.size
  have hkeep_:=gO
  replace ⟨aa,W,aD,ay,aw,ao,ba,J,aF⟩:=(se [bw,aG,r_out_0,r_out_1,r_out_2,ae,ac] gO).g9 aa W aD ay aw ao ba J aF
  refine ⟨Ext.chg hkeep_,?_⟩
  have bU:=bU.fr gP k5
  have bV:=bV.fr gP k5
  have rY:=bU.len
  subst rY
  have rZ:=bV.len
  subst rZ
  refine .r [7]<|.go 8<|.ns 1 50 [vI bT.num,.slice tZ bT.part.ids.length t0,.slice t1 bT.part.blocks.length t2] fun ym k6=>?_
  replace ⟨aa,W,aD,ay,aw,ao,ba,bU,bV,J,aF⟩:=(se [bw,aG,r_out_0,r_out_1,r_out_2,ae,ac] k6).g11 aa W aD ay aw ao ba bU bV J aF
  intro l3 yn bH k7 gQ r5
  have r6:=AX bH aa.lt
  have r7:=AX bH W.lt
  have r8:=AX bH aD.lt
  have k8:=AX bH ay.lt
  have r9:=AX bH aw.lt
  have sf:=AX bH ao.lt
  have sh:=AX bH ba.lt
  have sj:=Ae bH J.size
  replace ⟨W,aD,ay,aw,ao,bU,bV,J,aF⟩:=(se [bw,aG,r_out_0,r_out_1,r_out_2,ae,ac] k7).g9 W aD ay aw ao bU bV J aF
  refine .d fun yo k9=>?_
  replace ⟨W,aD,ay,aw,ao,bU,bV,gQ,J,aF⟩:=(se [bw,aG,r_out_0,r_out_1,r_out_2,ae,ac] k9).g10 W aD ay aw ao bU bV gQ J aF
  have ie:nin (ge w.heap.size) [bw,aG,r_out_0,r_out_1,r_out_2,ae,ac] l3∧l3≠r_out_0:=BR sj (all_cons sh (all_cons r8 (all_cons k8 (all_cons r9 (all_cons sf (all_cons r7 (all_cons r6 all_nil))))))) k8
  refine RG.Ax (T:=33) (ty:=33) (y:=bT) ay gQ AA AA ⟨_,_,_,_,_,_,rfl,bU.oi,bV.oi⟩ ie AB fun eS l4 yp bI bW lc=>?_
  have wh:=Ag bW kR aD.lt
  have sm:=Ag bW (Nb.symm rF) aw.lt
  have sq:=Ag bW (Nb.symm rG) ao.lt
  have sr:=CB bW cr aF.size
  replace ⟨W,aD,aw,ao,J,aF⟩:=(sa [bw,aG,r_out_0,r_out_1,r_out_2,ae,ac] lc bW).g6 W aD aw ao J aF
  replace bI:=bI.rn r_out_0
  have wj:=bI.len
  refine .r 1<|.ss 0 (vS eS (n_out_0+1) l4) aD fun l6 ld su sv=>?_
  replace ⟨W,bI,aw,ao,J,aF⟩:=(so [bw,aG,eS,r_out_1,r_out_2,ae,ac] ld).g6 W bI aw ao J aF
  refine .d<|.ib 1<|.g<|.it ((k:Int)+1)<|.r 1<|.d ?_
  have sw:Mv [bw,aG,eS,r_out_1,r_out_2,ae,ac] [aG,eS,r_out_1,r_out_2,ae,ac] l6 l6:=Mv.less (all_cons AJ (all_cons AK (all_cons AL (all_cons AM (all_cons AN (all_cons AO all_nil))))))
  replace ⟨bI,aw,ao⟩:=(sp sw (Chg.refl nil _)).g3 bI aw ao
  exact hW (k+1,(dA++[bT]),eS,n_out_0+1,l4,ec,r_out_1,n_out_1,c_out_1,ed,r_out_2,n_out_2,c_out_2,cF) _ _ ⟨AA,AA,AA,AA,AA,trivial⟩ ⟨aF,bI,sr,aw,db,ao,de,(Nb.symm sm),(Nb.symm sq),rH,su,AB,AB,(by exact TL ‹_› ‹_›),‹_›,‹_›,‹_›⟩ (by (simp only []; omega))
 refine .d<|.s<|.cf<|.x 0 rfl<|.s<|.g<|.ln aD<|.sc [vS r_out_0 n_out_0 c_out_0,vS r_out_1 n_out_1 c_out_1,vS r_out_2 n_out_2 c_out_2,vI cF] W fun l7 lf sx sy=>?_
 replace ⟨ay,aw,ao,J⟩:=(so [aG,r_out_0,r_out_1,r_out_2,ae,ac] lf).g4 ay aw ao J
 refine .d ?_
 have ig:=aw.sl rK
 replace ⟨ay,ao⟩:=(sd l7 [aG,r_out_0,r_out_1,r_out_2,ae,ac] r_out_1).g2 ay ao
 have t3:=ao.sl rM
 replace ⟨ay,ig⟩:=(sd l7 [aG,r_out_0,r_out_2,ae,ac] r_out_2).g2 ay ig
 exact .rb func42 results42 sx ⟨⟨r_out_0,n_out_0,c_out_0,(some ⟨r_out_1,0,none⟩),n_out_1,c_out_1,(some ⟨r_out_2,0,none⟩),n_out_2,c_out_2,(by rw [show cF=d.next from by assumption]),((Own.Ap ay (all_cons AJ all_nil)).eqx (by exact Rt ‹_› AB)),rI,((RepS.Ap ig (all_cons AJ all_nil)).eqx ‹_›),((RepS.Ap t3 (all_cons AJ all_nil)).eqx ‹_›)⟩,J⟩
end Go.Proofs.YtggnnidleedpaaaGreat
namespace Go.Proofs.YtggnnidleedpaaaGreat
set_option maxRecDepth 100000
set_option maxHeartbeats 4000000
variable {w:World} {F:Nat→Prop} {a1 a2 a3 a4 a5 a6:Option Addr} {n1 c1 n2 c2 n3 c3 n4 c4 n5 c5 n6 c6:Nat}
theorem J3 (a:Dsk) (b:Dsk) (h1:RepS w F a1 n1 c1 a.files) (h2:RepS w F a2 n2 c2 a.list) (h3:RepS w F a3 n3 c3 a.names) (h4:RepS w F a4 n4 c4 b.files) (h5:RepS w F a5 n5 c5 b.list) (h6:RepS w F a6 n6 c6 b.names)  : Calls Tryz.prog 38 [.agg #[.slice a1 n1 c1,.slice a2 n2 c2,.slice a3 n3 c3,.int .i64 a.next],.agg #[.slice a4 n4 c4,.slice a5 n5 c5,.slice a6 n6 c6,.int .i64 b.next]].toArray w (BB fun rv w'=>rv=.bool ((a==b))∧Ext w w'):=by
 refine goT func38 ?_
 obtain ⟨rfl,bL,h1⟩:=h1.tp
 obtain ⟨rfl,bM,h2⟩:=h2.tp
 obtain ⟨rfl,bN,h3⟩:=h3.tp
 obtain ⟨rfl,bO,h4⟩:=h4.tp
 obtain ⟨rfl,bP,h5⟩:=h5.tp
 obtain ⟨rfl,bQ,h6⟩:=h6.tp
 refine .s<|.g<|.np 36 [.slice a1 a.files.length c1,.slice a2 a.list.length c2,.slice a3 a.names.length c3,vI a.next] fun ab co aI ao E aZ=>?_
 replace ⟨h1,h2,h3,h4,h5,h6⟩:=(sn [] ao aI).g6 h1 h2 h3 h4 h5 h6
 have C:=ao
 refine .np 36 [.slice a4 b.files.length c4,.slice a5 b.list.length c5,.slice a6 b.names.length c6,vI b.next] fun ac bB aJ aK J ba=>?_
 replace ⟨h1,h2,h3,h4,h5,h6,E,C⟩:=(sn [ab] aK aJ).g8 h1 h2 h3 h4 h5 h6 E C
 refine .r 1<|.d<|.s<|.s<|.g<|.r 1<|.lb E<|.r 2<|.lb J<|.r 1<|.ne (a.files.length:Int) (b.files.length:Int) (fun bc=>.r 24<|.d<|.ct<|.s<|.g<|.r 1<|.d<|.rt func38 results38 (.bool false) ⟨(AG (by exact Gw (.inl (QQ ‹_›)))),C⟩) fun bc=>.r 2<|.lb E<|.r 1<|.lb J<|.cl (Er a.list b.list h2.ta h5.ta (w:=bB) (F:=all)) ?_
 rintro cp bd ⟨rfl,aL⟩
 replace ⟨h1,h3,h4,h6,E,J,C⟩:=(se [ac,ab] aL).g7 h1 h3 h4 h6 E J C
 cases bR:(a.list==b.list)
 ·exact .r 18<|.d<|.ct<|.s<|.g<|.r 1<|.d<|.rt func38 results38 (.bool false) ⟨(AG (by exact Gw (.inr (.inl (TO ‹_›))))),C⟩
 refine .r 4<|.lb E<|.r 2<|.lb J<|.r 1<|.ne (a.names.length:Int) (b.names.length:Int) (fun bg=>.r 8<|.d<|.ct<|.s<|.g<|.r 1<|.d<|.rt func38 results38 (.bool false) ⟨(AG (by exact Gw (.inr (.inr (.inl (QQ ‹_›)))))),C⟩) fun bg=>.r 3<|.lb E<|.r 1<|.lb J<|.ne a.next b.next (fun bh=>.r 1<|.d<|.ct<|.s<|.g<|.r 1<|.d<|.rt func38 results38 (.bool false) ⟨(AG (by exact Gw (.inr (.inr (.inr ‹_›))))),C⟩) fun bh=>.r 1<|.d<|.cf<|.sk<|.s<|.s<|.g<|.r 1<|.d<|.b 0<|T.loop (X:=Nat) 0 (fun k=>[(2,.pointer (some ⟨ab,0,none⟩)),(3,.pointer (some ⟨ac,0,none⟩)),(5,vI (k:Int))]) (fun k aq=>Chg (ins []) bd aq∧(k≤a.files.length)∧(a.files.drop k=b.files.drop k↔a.files=b.files)) (fun k=>a.files.length - k) AA ⟨AA,AA,AA,trivial⟩ ⟨Chg.refl _ _,AB,(by exact Iff.rfl)⟩ ?_
 rintro k cq aq ⟨aa,bS,bT⟩ ar
 have aM:Mv [ac,ab] [ac,ab] bd aq:=Mv.inl aa all_nil (all_cons (.inl AI) (all_cons (.inl AJ) all_nil))
 replace ⟨h1,h3,h4,h6,E,J,C⟩:=(sp aM aa).g7 h1 h3 h4 h6 E J C
 refine .s<|.s<|.g<|.r 2<|.lb E<|.r 1<|.bp ((k:Int)< (a.files.length:Int)) (fun bi=>?_) (fun bi=>?_)
 ·refine .d<|.ct<|.sk<|.s<|.b 1<|.s<|.gd nil 26 fun cr aN=>?_
  replace ⟨h1,h3,h4,h6,E,J,C,aa⟩:=(se [ac,ab] aN).g8 h1 h3 h4 h6 E J C aa
  refine .r [0]<|.lb 1 E id<|.r [2] ?_
  have bj:k< a.files.length:=AB
  refine .ix 3 k 3 h1 bj<|.r [4] ?_
  obtain ⟨aG,au⟩:∃ y,a.files[k]? = some y:=⟨_,AU AB⟩
  have bU:=Ai au
  obtain ⟨_,⟨cu,cw,cx,cy,cz,cA,rfl,ag,ah⟩,aO⟩:=h1.elem k aG au
  have bk:=ag.len
  subst bk
  have bm:=ah.len
  subst bm
  refine .lh 5 0 aO id<|.r [6]<|.lb 7 J id<|.r [8] ?_
  have bn:k< b.files.length:=AB
  refine .ix 9 k 3 h4 bn<|.r [10] ?_
  obtain ⟨aH,av⟩:∃ y,b.files[k]? = some y:=⟨_,AU AB⟩
  have bX:=Ai av
  obtain ⟨_,⟨cB,cC,cD,cE,cF,cG,rfl,ai,aj⟩,aP⟩:=h4.elem k aH av
  have bo:=ai.len
  subst bo
  have bq:=aj.len
  subst bq
  refine .lh 11 0 aP id<|GA.neI (i:=12) (a:=aG.num) (b:=aH.num) AA (fun br=>?_) (fun br=>?_)
  ·refine .r [13]<|GA.skip AA fun cH aw=>?_
   replace ⟨h1,h3,h4,h6,E,J,ag,ah,ai,aj,C,aa⟩:=(se [ac,ab] aw).g12 h1 h3 h4 h6 E J ag ah ai aj C aa
   exact .r 3<|.d<|.ct<|.s<|.g<|.r 1<|.d<|.rt func38 results38 (.bool false) ⟨(AG (by exact Gw (.inl (QP ‹_› ‹_› ‹_› (.inl ‹_›))))),C⟩
  refine .r [13,14]<|.lb 15 E id<|.r [16] ?_
  have aQ:k< a.files.length:=AB
  refine .ix 17 k 3 h1 aQ<|.r [18]<|.lg 19 1 aO id<|.r [20]<|.lb 21 J id<|.r [22] ?_
  have aR:k< b.files.length:=AB
  refine .ix 23 k 3 h4 aR<|.r [24]<|.lg 25 1 aP id<|.d fun bt ax=>?_
  replace ⟨h3,h6,E,J,ag,ah,ai,aj,C,aa⟩:=(se [ac,ab] ax).g10 h3 h6 E J ag ah ai aj C aa
  refine .cl (Gc aG.part aH.part ag.ta ah.ta ai.ta aj.ta (w:=bt) (F:=all)) ?_
  rintro b0 b6 ⟨rfl,ay⟩
  replace ⟨h3,h6,E,J,C,aa⟩:=(se [ac,ab] ay).g6 h3 h6 E J C aa
  cases bC:(aG.part==aH.part)
  ·exact .r 2<|.d<|.ct<|.s<|.g<|.r 1<|.d<|.rt func38 results38 (.bool false) ⟨(AG (by exact Gw (.inl (QP ‹_› ‹_› ‹_› (.inr ‹_›))))),C⟩
  exact .r 2<|.d<|.cf<|.sk<|.ib 1<|.g<|.r 1<|.it ((k:Int)+1)<|.r 1<|.d<|ar (k+1) _ _ ⟨AA,AA,AA,trivial⟩ ⟨aa,AB,(by exact TM ‹_› ‹_› ‹_› ‹_› ‹_›)⟩ AB
 refine .d<|.cf<|.x 0 rfl<|.s<|.s<|.g<|.r 1<|.d<|.b 2<|T.loop (X:=Nat) 0 (fun k=>[(2,.pointer (some ⟨ab,0,none⟩)),(3,.pointer (some ⟨ac,0,none⟩)),(6,vI (k:Int))]) (fun k az=>Chg (ins []) aq az∧(k≤a.names.length)∧(a.files=b.files)∧(a.names.drop k=b.names.drop k↔a.names=b.names)) (fun k=>a.names.length - k) AA ⟨AA,AA,AA,trivial⟩ ⟨Chg.refl _ _,AB,(by exact MM ‹_› AB AB),(by exact Iff.rfl)⟩ ?_
 rintro k b7 az ⟨W,bD,bE,bF⟩ am
 have aA:Mv [ac,ab] [ac,ab] aq az:=Mv.inl W all_nil (all_cons (.inl AI) (all_cons (.inl AJ) all_nil))
 replace ⟨h3,h6,E,J,C⟩:=(sp aA W).g5 h3 h6 E J C
 refine .s<|.s<|.g<|.r 2<|.lb E<|.r 1<|.bp ((k:Int)< (a.names.length:Int)) (fun aS=>?_) (fun aS=>.d<|.cf<|.x 2 rfl<|.s<|.g<|.r 1<|.d<|.rt func38 results38 (.bool true) ⟨(AG (by exact TN ‹_› ‹_› (MM ‹_› AB AB) ‹_›)),C⟩)
 refine .d<|.ct<|.sk<|.s<|.b 3<|.s<|.gd nil 10 fun b8 aB=>?_
 replace ⟨h3,h6,E,J,C,W⟩:=(se [ac,ab] aB).g6 h3 h6 E J C W
 refine .r [0]<|.lb 1 E id<|.r [2] ?_
 have aT:k< a.names.length:=AB
 refine .ix 3 k 1 h3 aT ?_
 obtain ⟨aC,ak⟩:∃ y,a.names[k]? = some y:=⟨_,AU AB⟩
 have bG:=Ai ak
 obtain ⟨_,⟨b9,cd,ce,rfl,ae⟩,aU⟩:=h3.elem k aC ak
 have aV:=ae.len
 subst aV
 refine .lh 4 0 aU id<|.r [5]<|.lb 6 J id<|.r [7] ?_
 have aW:k< b.names.length:=AB
 refine .ix 8 k 1 h6 aW ?_
 obtain ⟨aD,al⟩:∃ y,b.names[k]? = some y:=⟨_,AU AB⟩
 have bI:=Ai al
 obtain ⟨_,⟨cg,ci,cj,rfl,af⟩,aX⟩:=h6.elem k aD al
 have aY:=af.len
 subst aY
 refine .lh 9 0 aX id<|.d fun bw aE=>?_
 replace ⟨ae,af,C,W⟩:=(se [ac,ab] aE).g4 ae af C W
 refine .cl (D5 aC aD ae.ta af.ta (w:=bw) (F:=all)) ?_
 rintro ck cm ⟨rfl,aF⟩
 replace ⟨C,W⟩:=(se [] aF).g2 C W
 cases bK:(aC==aD)
 ·exact .r 1<|.d<|.ct<|.s<|.g<|.r 1<|.d<|.rt func38 results38 (.bool false) ⟨(AG (by exact Gw (.inr (.inr (.inl (T0 ‹_› ‹_› ‹_› ‹_›)))))),C⟩
 exact .r 1<|.d<|.cf<|.sk<|.ib 3<|.g<|.r 1<|.it ((k:Int)+1)<|.r 1<|.d<|am (k+1) _ _ ⟨AA,AA,AA,trivial⟩ ⟨W,AB,‹_›,(by exact Tz ‹_› ‹_› ‹_› ‹_›)⟩ AB
theorem Gf (d:Dsk) (steps:List Stp) (cut:Int) (h1:RepS w F a1 n1 c1 d.files) (h2:RepS w F a2 n2 c2 d.list) (h3:RepS w F a3 n3 c3 d.names) (h4:RepS w F a4 n4 c4 steps) (p0:DD d) (p1:BI d=true→StW d steps):Calls Tryz.prog 60 [.agg #[.slice a1 n1 c1,.slice a2 n2 c2,.slice a3 n3 c3,.int .i64 d.next],.slice a4 n4 c4,.int .i64 cut].toArray w (BB fun rv w'=>VS (fo F w.heap.size) w' (Ar d steps cut:Dsk) rv∧Ext w w'):=by
 refine goT func60 ?_
 obtain ⟨rfl,d3,h1⟩:=h1.tp
 obtain ⟨rfl,d4,h2⟩:=h2.tp
 obtain ⟨rfl,d5,h3⟩:=h3.tp
 obtain ⟨rfl,d6,h4⟩:=h4.tp
 refine .s<|.g<|.np 36 [.slice a1 d.files.length c1,.slice a2 d.list.length c2,.slice a3 d.names.length c3,vI d.next] fun aa eJ bu ba E ce=>?_
 replace ⟨h1,h2,h3,h4⟩:=(sn [] ba bu).g4 h1 h2 h3 h4
 have C:=ba
 refine .np 36 [AH,AH,AH,vI 0] fun ab df aW bv J cg=>?_
 have d7:=AX aW E.lt
 have d8:=C.cn aW
 replace ⟨h1,h2,h3,h4,E,C⟩:=(sn [aa] bv aW).g6 h1 h2 h3 h4 E C
 refine .d<|.s<|.s<|.g<|.ln E<|.cl (Cv d h1.ta h2.ta h3.ta (by exact p0) (w:=df) (F:=all)) ?_
 rintro eK ci ⟨rfl,bw⟩
 replace ⟨h1,h2,h3,h4,E,J,C⟩:=(se [ab,aa] bw).g7 h1 h2 h3 h4 E J C
 cases d9:(BI d)
 ·refine .r 5<|.d<|.ct<|.s<|.g<|.r 1<|.sc [AH,AH,AH,vI 0] J fun eL bz cj ck=>?_
  replace ⟨h1,h2,h3,h4,E,C⟩:=(so [ab,aa] bz).g6 h1 h2 h3 h4 E C
  exact .d<|.rb func60 results60 cj ⟨(VS.of (y:=(⟨([]:List Fil),([]:List Int),([]:List (List Tag)),0⟩:Dsk)) ⟨_,rfl,⟨_,_,_,_,_,_,_,_,_,rfl,(RepS.Aj _ _ none 0 AE),(RepS.Aj _ _ none 0 AE),(RepS.Aj _ _ none 0 AE)⟩⟩ (by exact QO (.inl ‹_›))),C⟩
 refine .r 3<|.bp (cut< 0) (fun cm=>?_) (fun cm=>?_)
 ·refine .r 1<|.d<|.ct<|.s<|.g<|.r 1<|.sc [AH,AH,AH,vI 0] J fun eM bA co cp=>?_
  replace ⟨h1,h2,h3,h4,E,C⟩:=(so [ab,aa] bA).g6 h1 h2 h3 h4 E C
  exact .d<|.rb func60 results60 co ⟨(VS.of (y:=(⟨([]:List Fil),([]:List Int),([]:List (List Tag)),0⟩:Dsk)) ⟨_,rfl,⟨_,_,_,_,_,_,_,_,_,rfl,(RepS.Aj _ _ none 0 AE),(RepS.Aj _ _ none 0 AE),(RepS.Aj _ _ none 0 AE)⟩⟩ (by exact QO (.inr (.inl ‹_›)))),C⟩
 refine .r 1<|.d<|.cf<|.sk<|.s<|.g<|.ln E<|.cl (D2 d h1.ta h2.ta h3.ta (by exact TF p0) (by exact TG p0) (by exact TH p0) (by exact TI p0) (by exact TJ p0) (w:=ci) (F:=all)) ?_
 rintro eN bG ⟨⟨ay,cq,cr,cu,eO,cw,cx,eP,cy,rfl,aq,aR,aE,aF⟩,bB⟩
 have aX:=al2 J.lt E.lt
 have bc:Gb w.heap.size ci.heap.size:=C.size
 have cz:=Ah aR E.lt
 have cA:=Ah aR J.lt
 have cB:Cov nil w ay:=BT aR C.size
 replace ⟨h4,E,J,C⟩:=(sz [ab,aa] bB aR).g4 h4 E J C
 replace aq:Own bG ay 50 (nin (ge w.heap.size) [ay,ab,aa]) _ _ _:=Own.Bc (s0:=w.heap.size) (M:=[ab,aa]) aq aX bc
 replace aq:=aq.base (G':=fo F w.heap.size) (fun _ _ h=>.inr h)
 have ed:=aq.len
 replace aE:RepS bG (nin (ge w.heap.size) [ay,ab,aa]) _ _ _ _:=RepS.Bc (s0:=w.heap.size) (M:=[ab,aa]) aE aX bc
 replace aE:=aE.base (G':=fo F w.heap.size) (fun _ _ h=>.inr h)
 have ee:=aE.max
 replace aF:RepS bG (nin (ge w.heap.size) [ay,ab,aa]) _ _ _ _:=RepS.Bc (s0:=w.heap.size) (M:=[ab,aa]) aF aX bc
 replace aF:=aF.base (G':=fo F w.heap.size) (fun _ _ h=>.inr h)
 have ef:=aF.max
 have cC:=aE.len
 subst cC
 have cD:=aF.len
 subst cD
 refine .np 36 [AH,AH,AH,vI 0] fun ag eQ aM bC cE cF=>?_
 have eg:=AX aM E.lt
 have eh:=AX aM J.lt
 have cG:=AX aM aq.lt
 have ej:=C.cn aM
 replace ⟨h4,E,J,aq,aE,aF,C⟩:=(sn [ay,ab,aa] bC aM).g7 h4 E J aq aE aF C
 refine .sc [vS ay cq cr,.slice cu d.list.length cw,.slice cx d.names.length cy,vI d.next] cE fun bd bD bE bH=>?_
 replace ⟨h4,E,J,aq,aE,aF,C⟩:=(so [ag,ay,ab,aa] bD).g7 h4 E J aq aE aF C
 refine .d<|.s<|.s<|.g<|.r 5<|RG.sub (t:=99) (lo:=none) (hi:=some (vI (if (steps.length:Int)< cut then (steps.length:Int) else cut))) h4 0 (((if (steps.length:Int)< cut then (steps.length:Int) else cut)).toNat) AA AA (.inl ⟨rfl,rfl⟩) (.inr ⟨_,_,rfl,by omega⟩) (by split <;> omega) (by split <;> omega) fun cH cI aN=>?_
 have dg:=aN.len; have dh:=aN.max
 refine .r 2<|.d<|.b 0<|T.loop (X:=Nat × (List Fil) × Nat × Nat × Nat × (List Int) × (Option Addr) × Nat × Nat × (List (List Tag)) × (Option Addr) × Nat × Nat × Int) (0,(d.files:List Fil),ay,cq,cr,(d.list:List Int),cu,d.list.length,cw,(d.names:List (List Tag)),cx,d.names.length,cy,d.next) (fun (k,W,r_out_0,n_out_0,c_out_0,ac,a_out_1,n_out_1,c_out_1,ae,a_out_2,n_out_2,c_out_2,af)=>[(6,.pointer (some ⟨ab,0,none⟩)),(7,.pointer (some ⟨ag,0,none⟩)),(25,.slice cH (((if (steps.length:Int)< cut then (steps.length:Int) else cut)).toNat - 0) cI),(26,vI (((((if (steps.length:Int)< cut then (steps.length:Int) else cut)).toNat - 0)):Int)),(27,vI (k:Int))]) (fun (k,W,r_out_0,n_out_0,c_out_0,ac,a_out_1,n_out_1,c_out_1,ae,a_out_2,n_out_2,c_out_2,af) aC=>Chg (ins [ay,ag]) bd aC∧Own aC r_out_0 50 (nin (fo F w.heap.size) [ag,r_out_0,ab,aa]) n_out_0 c_out_0 W∧OrB r_out_0 ay bd.heap.size∧RepS aC (nin (fo F w.heap.size) [ag,r_out_0,ab,aa]) a_out_1 n_out_1 c_out_1 ac∧RepS aC (nin (fo F w.heap.size) [ag,r_out_0,ab,aa]) a_out_2 n_out_2 c_out_2 ae∧Box aC ag 36 [vS r_out_0 n_out_0 c_out_0,.slice a_out_1 n_out_1 c_out_1,.slice a_out_2 n_out_2 c_out_2,vI af]∧(k≤((steps.take (if (steps.length:Int)< cut then (steps.length:Int) else cut).toNat).drop 0).length)∧(W.length≤d.files.length+k)∧((List.drop k ((steps.take (if (steps.length:Int)< cut then (steps.length:Int) else cut).toNat).drop 0)).foldl doD (⟨W,ac,ae,af⟩:Dsk)=toD d steps cut)) (fun (k,W,r_out_0,n_out_0,c_out_0,ac,a_out_1,n_out_1,c_out_1,ae,a_out_2,n_out_2,c_out_2,af)=>((steps.take (if (steps.length:Int)< cut then (steps.length:Int) else cut).toNat).drop 0).length - k) AA ⟨AA,AA,AA,AA,AA,trivial⟩ ⟨Chg.refl _ _,aq,BU,aE,aF,bE,AB,AB,(by exact TE ‹_›)⟩ ?_
 rintro ⟨k,W,r_out_0,n_out_0,c_out_0,ac,a_out_1,n_out_1,c_out_1,ae,a_out_2,n_out_2,c_out_2,af⟩ ek aC ⟨al,ah,az,ai,aj,ak,dj,dm,dp⟩ aZ
 have dq:=Ay az cz E.lt
 have dr:=Ay az cA J.lt
 have bI:=Ay az (Nb.symm cG) bE.lt
 have dt:=BA az cB C.size
 have bJ:Cov (ins [ay,ag]) bd ay:=⟨.inl AI⟩
 have du:Cov (ins [ay,ag]) bd ag:=⟨.inl AJ⟩
 have dv:=BA az bJ (Nat.le_refl _)
 have bg:Mv [ag,ay,ab,aa] [ag,r_out_0,ab,aa] bd aC:=Mv.inl al (all_cons AJ (all_cons AI all_nil)) (all_cons (.inl AI) (all_cons (Bb az AJ) (all_cons (.inl AK) (all_cons (.inl AL) all_nil))))
 replace ⟨E,J,aN,C⟩:=(sp bg al).g4 E J aN C
 have dw:=ah.len; have dx:=ah.max
 refine .s<|.g<|.bp ((k:Int)< (((((if (steps.length:Int)< cut then (steps.length:Int) else cut)).toNat - 0)):Int)) (fun bK=>?_) (fun bK=>?_)
 ·refine .d<|.s<|.ct<|.sk<|.s<|.b 1<|.s<|.g ?_
  have bL:k< (((if (steps.length:Int)< cut then (steps.length:Int) else cut)).toNat - 0):=AB
  refine .ix k 6 aN bL ?_
  obtain ⟨am,aS⟩:∃ y,((steps.take (((if (steps.length:Int)< cut then (steps.length:Int) else cut)).toNat)).drop 0)[k]? = some y:=⟨_,AU AB⟩
  have dC:=Ai aS; have cJ:=AV aS
  obtain ⟨_,⟨cK,en,cL,cM,et,cN,cO,ey,cP,cQ,ez,cR,rfl,aG,aH,aI,aJ⟩,bM⟩:=aN.elem k am aS
  have bN:=aG.len
  subst bN
  have bO:=aH.len
  subst bO
  have bP:=aI.len
  subst bP
  have bQ:=aJ.len
  subst bQ
  refine .lg 0 bM<|.np 137 [vI 0,vI 0,AH,AH,AH,AH] fun ar eA au bh bR bS=>?_
  have dH:=AX au E.lt
  have dI:=AX au J.lt
  have dJ:=AX au ah.lt
  have dK:=AX au ak.lt
  have dL:=C.cn au
  have dM:=al.cn au
  replace ⟨E,J,ah,ak,ai,aj,aG,aH,aI,aJ,C,al⟩:=(sn [ag,r_out_0,ab,aa] bh au).g12 E J ah ak ai aj aG aH aI aJ C al
  refine .sc [vI am.kind,vI am.num,.slice cK am.part.ids.length cL,.slice cM am.part.blocks.length cN,.slice cO am.list.length cP,.slice cQ am.names.length cR] bR fun bi bj bk bT=>?_
  replace ⟨E,J,ah,ak,ai,aj,aG,aH,aI,aJ,C,al⟩:=(so [ar,ag,r_out_0,ab,aa] bj).g12 E J ah ak ai aj aG aH aI aJ C al
  refine .d<|.g<|.ln bk<|.cl (IB (⟨W,ac,ae,af⟩:Dsk) am (Own.toM ah (all_cons AJ (all_cons AK all_nil))) (RepS.toM ai (all_cons AJ (all_cons AK all_nil))) (RepS.toM aj (all_cons AJ (all_cons AK all_nil))) ak bI (RepS.toM aG (all_cons AJ (all_cons AK all_nil))) (RepS.toM aH (all_cons AJ (all_cons AK all_nil))) (RepS.toM aI (all_cons AJ (all_cons AK all_nil))) (RepS.toM aJ (all_cons AJ (all_cons AK all_nil))) (by have:=p0.nf; have q2:=(p1 ‹_›).len; have q3:=T5 (st:=steps) (c:=cut) ‹_›; show W.length≤1000; omega) ((p1 ‹_›).sz _ (List.mem_of_mem_take (List.mem_of_mem_drop ‹_›))) ((p1 ‹_›).pt _ (List.mem_of_mem_take (List.mem_of_mem_drop ‹_›))) (w:=bi) (F:=nin (fo F w.heap.size) [ar,ag,r_out_0,ab,aa])) ?_
  rintro eB aO ⟨⟨rfl,av,cS,cT,cU,eC,cV,cW,eD,cX,bU,aA,aY,dN,aK,aL⟩,aT⟩
  have aP:=al5 bk.lt ak.lt ah.lt J.lt E.lt
  have aU:Gb w.heap.size bi.heap.size:=C.size
  have bV:=NO aY az al.size
  have bm:Mv [ar,ag,r_out_0,ab,aa] [ar,ag,av,ab,aa] bi aO:=Mv.inl aT (all_cons AJ (all_cons AK all_nil)) (all_cons (.inl AI) (all_cons (.inl AJ) (all_cons (Bb aY AK) (all_cons (.inl AL) (all_cons (.inl AM) all_nil)))))
  replace ⟨E,J,ai,aj,C,al⟩:=(sp bm aT).g6 E J ai aj C al
  replace aA:Own aO av 50 (nin (fo F w.heap.size) [ar,ag,av,ab,aa]) _ _ _:=Own.bxM (M2:=[ar,ag,av,ab,aa]) aA aP (fun _ h=>.inr (Nat.le_trans aU h)) (all_cons (.inr AI) (all_cons (.inl AI) (all_cons (.inl AJ) (all_cons (.inr AL) (all_cons (.inr AM) all_nil)))))
  replace aK:RepS aO (nin (fo F w.heap.size) [ar,ag,av,ab,aa]) _ _ _ _:=RepS.bxM (M2:=[ar,ag,av,ab,aa]) aK aP (fun _ h=>.inr (Nat.le_trans aU h)) (all_cons (.inr AI) (all_cons (.inl AI) (all_cons (.inl AJ) (all_cons (.inr AL) (all_cons (.inr AM) all_nil)))))
  replace aL:RepS aO (nin (fo F w.heap.size) [ar,ag,av,ab,aa]) _ _ _ _:=RepS.bxM (M2:=[ar,ag,av,ab,aa]) aL aP (fun _ h=>.inr (Nat.le_trans aU h)) (all_cons (.inr AI) (all_cons (.inl AI) (all_cons (.inl AJ) (all_cons (.inr AL) (all_cons (.inr AM) all_nil)))))
  have bW:=aK.len
  subst bW
  have bX:=aL.len
  subst bX
  refine .d<|.ib 1<|.g<|.it ((k:Int)+1)<|.r 1<|.d ?_
  have bY:Mv [ar,ag,av,ab,aa] [ag,av,ab,aa] aO aO:=Mv.less (all_cons AJ (all_cons AK (all_cons AL (all_cons AM all_nil))))
  replace ⟨aA,ai,aj,aK,aL⟩:=(sp bY (Chg.refl nil _)).g5 aA ai aj aK aL
  exact aZ (k+1,((doD (⟨W,ac,ae,af⟩:Dsk) am)).files,av,cS,cT,((doD (⟨W,ac,ae,af⟩:Dsk) am)).list,cU,(((doD (⟨W,ac,ae,af⟩:Dsk) am)).list).length,cV,((doD (⟨W,ac,ae,af⟩:Dsk) am)).names,cW,(((doD (⟨W,ac,ae,af⟩:Dsk) am)).names).length,cX,((doD (⟨W,ac,ae,af⟩:Dsk) am)).next) _ _ ⟨AA,AA,AA,AA,AA,trivial⟩ ⟨al,aA,bV,aK,aL,bU,AB,(by exact Nat.le_trans (QN _) (by show W.length+1≤_; omega)),(by exact Rp ‹_› ‹_›)⟩ (by (simp only []; omega))
 refine .d<|.s<|.cf<|.x 0 rfl<|.s<|.s<|.g<|.ln ak<|.cl (Cv (⟨W,ac,ae,af⟩:Dsk) (ah.rep) ai.ta aj.ta (by exact H9 ‹_› AB (p1 ‹_›)) (w:=aC) (F:=all)) ?_
 rintro eE bF ⟨rfl,bn⟩
 replace ⟨E,J,ah,ak,ai,aj,C⟩:=(se [ag,r_out_0,ab,aa] bn).g7 E J ah ak ai aj C
 cases dS:(BI (⟨W,ac,ae,af⟩:Dsk))
 ·refine .r 1<|.d<|.ct<|.s<|.g<|.r 1<|.sc [AH,AH,AH,vI 0] J fun eF bo bZ b0=>?_
  replace ⟨E,ah,ak,ai,aj,C⟩:=(so [ag,r_out_0,ab,aa] bo).g6 E ah ak ai aj C
  exact .d<|.rb func60 results60 bZ ⟨(VS.of (y:=(⟨([]:List Fil),([]:List Int),([]:List (List Tag)),0⟩:Dsk)) ⟨_,rfl,⟨_,_,_,_,_,_,_,_,_,rfl,(RepS.Aj _ _ none 0 AE),(RepS.Aj _ _ none 0 AE),(RepS.Aj _ _ none 0 AE)⟩⟩ (by exact Rq ‹_› AB ‹_›)),C⟩
 refine .r 1<|.d<|.cf<|.sk<|.s<|.g<|.ln ak<|.cl (D2 (⟨W,ac,ae,af⟩:Dsk) (ah.rep) ai.ta aj.ta (by exact TF (H9 ‹_› AB (p1 ‹_›))) (by exact TG (H9 ‹_› AB (p1 ‹_›))) (by exact TH (H9 ‹_› AB (p1 ‹_›))) (by exact TI (H9 ‹_› AB (p1 ‹_›))) (by exact TJ (H9 ‹_› AB (p1 ‹_›))) (w:=bF) (F:=all)) ?_
 rintro eG bq ⟨⟨aD,cY,cZ,c7,eH,c8,c9,eI,da,rfl,ao,aB,aw,ax⟩,br⟩
 have aQ:=al4 ak.lt ah.lt J.lt E.lt
 have aV:Gb w.heap.size bF.heap.size:=C.size
 have dT:=Ah aB E.lt
 have dU:=Ah aB J.lt
 have dV:=Ah aB ah.lt
 have dW:=Ah aB ak.lt
 have b6:=Bo aB C.size
 replace ⟨J,C⟩:=(se [] br).g2 J C
 replace ao:Own bq aD 50 (nin (ge w.heap.size) [aD,ag,r_out_0,ab,aa]) _ _ _:=Own.Bc (s0:=w.heap.size) (M:=[ag,r_out_0,ab,aa]) ao aQ aV
 replace ao:=ao.base (G':=fo F w.heap.size) (fun _ _ h=>.inr h)
 replace aw:RepS bq (nin (ge w.heap.size) [aD,ag,r_out_0,ab,aa]) _ _ _ _:=RepS.Bc (s0:=w.heap.size) (M:=[ag,r_out_0,ab,aa]) aw aQ aV
 replace aw:=aw.base (G':=fo F w.heap.size) (fun _ _ h=>.inr h)
 have dZ:=aw.max
 replace ax:RepS bq (nin (ge w.heap.size) [aD,ag,r_out_0,ab,aa]) _ _ _ _:=RepS.Bc (s0:=w.heap.size) (M:=[ag,r_out_0,ab,aa]) ax aQ aV
 replace ax:=ax.base (G':=fo F w.heap.size) (fun _ _ h=>.inr h)
 have d0:=ax.max
 have b7:=aw.len
 subst b7
 have b8:=ax.len
 subst b8
 refine .sc [vS aD cY cZ,.slice c7 ((((⟨W,ac,ae,af⟩:Dsk)).list).length) c8,.slice c9 ((((⟨W,ac,ae,af⟩:Dsk)).names).length) da,vI (((⟨W,ac,ae,af⟩:Dsk)).next)] J fun db bt b9 cd=>?_
 replace ⟨ao,aw,ax,C⟩:=(so [aD,ag,r_out_0,ab,aa] bt).g4 ao aw ax C
 refine .d ?_
 have de:=ao.sl (.inr b6)
 replace ⟨aw,ax⟩:=(sd db [aD,ag,r_out_0,ab,aa] aD).g2 aw ax
 exact .rb func60 results60 b9 ⟨(VS.of (y:=((⟨W,ac,ae,af⟩:Dsk))) ⟨_,rfl,⟨_,_,_,_,_,_,_,_,_,rfl,de.w1,aw.w1,ax.w1⟩⟩ (by exact Rr ‹_› AB ‹_› ‹_› ‹_›)),C⟩
end Go.Proofs.YtggnnidleedpaaaGreat
namespace Go.Proofs.YtggnnidleedpaaaGreat
set_option maxRecDepth 100000
set_option maxHeartbeats 4000000
variable {w:World} {F:Nat→Prop} {a1 a2 a3:Option Addr} {n1 c1 n2 c2 n3 c3:Nat}
theorem Eo (f:Fil) (d:Dsk) (h1:RepS w F a1 n1 c1 f.part.ids) (h2:RepS w F a2 n2 c2 f.part.blocks){bq_d:Nat}{a3:Option Addr}{c3:Nat}{a4:Option Addr}{c4:Nat}{a5:Option Addr}{c5:Nat}(hb_d:Box w bq_d 36 [.slice a3 d.files.length c3,.slice a4 d.list.length c4,.slice a5 d.names.length c5,.int .i64 d.next]) (h3:RepS w F a3 d.files.length c3 d.files) (h4:RepS w F a4 d.list.length c4 d.list) (h5:RepS w F a5 d.names.length c5 d.names)  : Calls Tryz.prog 142 [.agg #[.int .i64 f.num,.slice a1 n1 c1,.slice a2 n2 c2],.pointer (some ⟨bq_d,0,none⟩)].toArray w (BB fun rv w'=>rv=.bool ((!(d.list.contains f.num)))∧Ext w w'):=by
 refine goT func142 ?_
 obtain ⟨rfl,ae,h1⟩:=h1.tp
 obtain ⟨rfl,af,h2⟩:=h2.tp
 replace h3:=h3.top (s:=w.heap.size)
 replace h4:=h4.top (s:=w.heap.size)
 replace h5:=h5.top (s:=w.heap.size)
 refine .s<|.g<|.np 50 [vI f.num,.slice a1 f.part.ids.length c1,.slice a2 f.part.blocks.length c2] fun aj ac J C aa ab=>?_
 replace ⟨h4,hb_d⟩:=(sn [] C J).g2 h4 hb_d
 have E:=C
 refine .r 1<|.d<|.s<|.g<|.r 1<|.lb hb_d<|.r 1<|.lb aa<|.cl (CY d.list f.num h4.ta (w:=ac) (F:=all)) ?_
 rintro ak al ⟨rfl,W⟩
 replace ⟨hb_d,E⟩:=(se [] W).g2 hb_d E
 exact .r 2<|.d<|.rt func142 results142 (.bool (!(d.list.contains f.num))) ⟨(AG AF),E⟩
theorem IC (s:List Fil) (d:Dsk) (h1:RepS w F a1 n1 c1 s){bq_d:Nat}{a2:Option Addr}{c2:Nat}{a3:Option Addr}{c3:Nat}{a4:Option Addr}{c4:Nat}(hb_d:Box w bq_d 36 [.slice a2 d.files.length c2,.slice a3 d.list.length c3,.slice a4 d.names.length c4,.int .i64 d.next]) (h2:RepS w F a2 d.files.length c2 d.files) (h3:RepS w F a3 d.list.length c3 d.list) (h4:RepS w F a4 d.names.length c4 d.names)  : Calls Tryz.prog 126 [.slice a1 n1 c1,.func (.func 142) #[] #[.pointer (some ⟨bq_d,0,none⟩)]].toArray w (BB fun rv w'=>rv=.int .i64 (DK d.list 0 s)∧Ext w w'):=by
 refine goT func126 ?_
 obtain ⟨rfl,ao,h1⟩:=h1.tp
 replace h2:=h2.top (s:=w.heap.size)
 replace h3:=h3.top (s:=w.heap.size)
 replace h4:=h4.top (s:=w.heap.size)
 refine .s<|.g<|.r 1<|.d<|.s<|.s<|.g<|.r 3<|.d<|.b 0<|T.loop (X:=Nat) 0 (fun k=>[(0,.slice a1 s.length c1),(1,.func (.func 142) #[] #[.pointer (some ⟨bq_d,0,none⟩)]),(7,vI (s.length:Int)),(8,vI (k:Int))]) (fun k J=>Chg (ins []) w J∧(k≤s.length)∧(DK d.list k (s.drop k)=DK d.list 0 s)) (fun k=>s.length - k) AA ⟨AA,AA,AA,AA,trivial⟩ ⟨Chg.refl _ _,AD,AD⟩ ?_
 rintro k aB J ⟨C,av,aw⟩ W
 have ab:Mv [] [] w J:=Mv.inl C all_nil all_nil
 replace ⟨h1,h2,h3,h4,hb_d⟩:=(sp ab C).g5 h1 h2 h3 h4 hb_d
 have E:Chg nil w J:=Chg.Cr (Chg.refl nil w) C all_nil
 refine .s<|.g<|.bp ((k:Int)< (s.length:Int)) (fun ah=>?_) (fun ah=>.d<|.s<|.cf<|.x 0 rfl<|.s<|.g<|.r 1<|.d<|.rt func126 results126 (vI (-1)) ⟨(congrArg (Value.int .i64) (by exact QT ‹_› AB)),E⟩)
 refine .d<|.s<|.ct<|.sk<|.s<|.b 1<|.s<|.g<|.r 2<|.d<|.s<|.g<|.r 3 ?_
 have ai:k< s.length:=AB
 refine .ix k 3 h1 ai ?_
 obtain ⟨ae,aa⟩:∃ y,s[k]? = some y:=⟨_,AU AB⟩
 have ax:=Ai aa
 obtain ⟨_,⟨aC,aD,aE,aF,aG,aH,rfl,af,ag⟩,aj⟩:=h1.elem k ae aa
 have ak:=af.len
 subst ak
 have al:=ag.len
 subst al
 refine .lg 0 aj<|.cl (Eo ae d af.ta ag.ta hb_d h2.ta h3.ta h4.ta (w:=J) (F:=all)) ?_
 rintro aI aJ ⟨rfl,ac⟩
 replace ⟨hb_d,E,C⟩:=(se [] ac).g3 hb_d E C
 cases aA:(!(d.list.contains ae.num))
 ·exact .d<|.cf<|.sk<|.ib 1<|.g<|.it ((k:Int)+1)<|.r 1<|.d<|W (k+1) _ _ ⟨AA,AA,AA,AA,trivial⟩ ⟨C,AB,(by exact TP ‹_› ‹_› ‹_›)⟩ AB
 exact .d<|.ct<|.s<|.g<|.r 2<|.d<|.rt func126 results126 (vI (k:Int)) ⟨(congrArg (Value.int .i64) (by exact QS ‹_› ‹_› ‹_›)),E⟩
theorem GS (d:Dsk){r n c bq c1 c2 c3:Nat}{a1 a2 a3:Option Addr}{xs0:List Fil}(ho:Own w r 50 F n c xs0) (hb:Box w bq 36 [.slice a1 d.files.length c1,.slice a2 d.list.length c2,.slice a3 d.names.length c3,.int .i64 d.next]) (h1:RepS w (nin all [r]) a1 d.files.length c1 d.files) (h2:RepS w (nin all [r]) a2 d.list.length c2 d.list) (h3:RepS w (nin all [r]) a3 d.names.length c3 d.names) (hne:Nb r bq) (hn:n≤1000000):Calls Tryz.prog 141 [.slice (some ⟨r,0,none⟩) n c,.func (.func 142) #[] #[.pointer (some ⟨bq,0,none⟩)]].toArray w (BB fun rv w'=>(∃ m,rv=.slice (some ⟨r,0,none⟩) m c∧Own w' r 50 F m c (xs0.filter (fun f=>d.list.contains f.num)))∧Chg (one r) w w'):=by
 refine goT func141 ?_
 replace ho:=ho.Nl; have hnl:=ho.len; have hle:=ho.le
 refine .s<|.g<|.r 1<|.d<|.s<|.g<|.r 2<|.cl (IC xs0 d (ho.rep) hb h1.ta h2.ta h3.ta (w:=w) (F:=all)) ?_
 rintro bN ar ⟨rfl,aj⟩
 replace ⟨ho,h1,h2,h3,hb⟩:=(se [r] aj).g5 ho h1 h2 h3 hb
 have E:Chg (one r) w ar:=Chg.Cb (Chg.refl (one r) w) aj
 refine .r 1<|.d<|.s<|.s<|.g<|.r 1<|.eq (DK d.list 0 xs0) (-1) (fun aL=>.d<|.ct<|.s<|.g<|.r 2<|.d<|.rt func141 results141 (vS r n c) ⟨⟨_,rfl,(Own.Lx ho).eqx (Ru ‹_›)⟩,E⟩) fun aL=>.d<|.cf<|.sk<|.s<|.s<|.g<|.r 1<|RG.int (DK d.list 0 xs0+1) AA (by (have q1:=N0 (by assumption:¬ DK d.list 0 xs0 = -1); have q2:=N1 d.list xs0; omega))<|.r 1<|.d<|.b 0<|T.loop (X:=Int × Int × (List Fil)) (DK d.list 0 xs0,DK d.list 0 xs0+1,xs0) (fun (i,j,xs)=>[(0,vS r n c),(1,.func (.func 142) #[] #[.pointer (some ⟨bq,0,none⟩)]),(5,vI i),(6,vI j)]) (fun (i,j,xs) ak=>Chg (ins [r]) ar ak∧Own ak r 50 (nin F [r]) n c xs∧(0≤i)∧(i< j)∧(j≤n)∧(xs.take i.toNat=(xs0.take j.toNat).filter (fun f=>d.list.contains f.num))∧(xs.drop j.toNat=xs0.drop j.toNat)) (fun (i,j,xs)=>n - j.toNat) AA ⟨AA,AA,AA,AA,trivial⟩ ⟨Chg.refl _ _,ho,(by exact N0 ‹_›),AB,(by have:=N1 d.list xs0; omega),(by exact Oq ‹_›),AF⟩ ?_
 rintro ⟨i,j,xs⟩ bO ak ⟨J,C,bm,bn,bo,br,bt⟩ ae
 have bu:Cov (ins [r]) ar r:=⟨.inl AI⟩
 have ax:Mv [r] [r] ar ak:=Mv.inl J (all_cons AI all_nil) (all_cons (.inl AI) all_nil)
 replace ⟨h1,h2,h3,hb,E⟩:=(sp ax J).g5 h1 h2 h3 hb E
 have bv:=C.len
 refine .s<|.s<|.g<|.r 3<|.bp (j< (n:Int)) (fun aM=>?_) (fun aM=>?_)
 ·refine .d<|.ct<|.sk<|.s<|.b 1<|.s<|.g<|.r 2 ?_
  have aN:j.toNat< n:=AB
  refine RG.idx (b:=r) (o:=0) (j.toNat) (len:=n) (i:=j) (sz:=3) AA AB aN rfl ?_
  obtain ⟨W,al⟩:∃ y,xs[j.toNat]? = some y:=⟨_,AU AB⟩
  obtain ⟨_,⟨aC,bP,aD,aE,bQ,aF,rfl,aa,ab⟩,am⟩:=C.elem (j.toNat) W al
  replace aa:=aa.CE (fun _ _ h=>h.1)
  replace ab:=ab.CE (fun _ _ h=>h.1)
  have aO:=aa.len
  subst aO
  have aP:=ab.len
  subst aP
  replace am:Has ak ⟨r,0+(j.toNat) * Rep.sz Fil,none⟩ [vI W.num,.slice aC W.part.ids.length aD,.slice aE W.part.blocks.length aF]:=by rw [Nat.zero_add]; exact am
  refine .lg 0 am<|.np 50 [vI 0,AH,AH] fun au bR ac ay aQ aR=>?_
  have bC:=AX ac C.lt
  have bD:=AX ac hb.lt
  have bE:=E.cn ac
  have bF:=J.cn ac
  replace ⟨C,h1,h2,h3,hb,aa,ab,E,J⟩:=(sn [r] ay ac).g9 C h1 h2 h3 hb aa ab E J
  refine .sc [vI W.num,.slice aC W.part.ids.length aD,.slice aE W.part.blocks.length aF] aQ fun bi az ah aS=>?_
  replace ⟨C,h1,h2,h3,hb,aa,ab,E,J⟩:=(so [au,r] az).g9 C h1 h2 h3 hb aa ab E J
  refine .d<|.s<|.g<|.r 1<|.ln ah<|.cl (Eo W d aa.ta ab.ta hb h1.ta h2.ta h3.ta (w:=bi) (F:=all)) ?_
  rintro bS aG ⟨rfl,aA⟩
  replace ⟨C,hb,aa,ab,ah,E,J⟩:=(se [au,r] aA).g7 C hb aa ab ah E J
  cases bG:(!(d.list.contains W.num))
  ·refine .r 1<|.d<|.ct<|.s<|.g<|.r 2<|.ln ah ?_
   have aT:i.toNat< n:=AB
   refine RG.idx (b:=r) (o:=0) (i.toNat) (len:=n) (i:=i) (sz:=3) AA AB aT rfl ?_
   obtain ⟨af,ai⟩:∃ y,xs[i.toNat]? = some y:=⟨_,AU AB⟩
   obtain ⟨_,⟨aU,bT,aV,aW,bU,aX,rfl,av,aw⟩,ao⟩:=C.elem (i.toNat) af ai
   replace av:=av.CE (fun _ _ h=>h.1)
   replace aw:=aw.CE (fun _ _ h=>h.1)
   have aY:=av.len
   subst aY
   have aZ:=aw.len
   subst aZ
   replace ao:Has aG ⟨r,0+(i.toNat) * Rep.sz Fil,none⟩ [vI af.num,.slice aU af.part.ids.length aV,.slice aW af.part.blocks.length aX]:=by rw [Nat.zero_add]; exact ao
   refine RG.DQ (t':=50) (i:=(i.toNat)) (k:=0) (v:=.agg #[vI W.num,.slice aC W.part.ids.length aD,.slice aE W.part.blocks.length aF]) (cs:=[vI af.num,.slice aU af.part.ids.length aV,.slice aW af.part.blocks.length aX]) W C ai ao AA AA AA ⟨_,_,_,_,_,_,rfl,aa.oi,ab.oi⟩ fun aB ag aq aH=>?_
   replace ⟨hb,E,J⟩:=(s1 aq).g3 hb E J
   refine .d<|.g<|.r 1<|RG.int (i+1) AA AB<|.r 1<|.d<|.ib 1<|.g<|.r 1<|RG.int (j+1) AA AB<|.r 1<|.d ?_
   have aI:Mv [au,r] [r] aB aB:=Mv.less (all_cons AJ all_nil)
   replace ag:=(sp aI (Chg.refl nil _)).g1 ag
   exact ae (i+1,j+1,(xs.set (i.toNat) W)) _ _ ⟨AA,AA,AA,AA,trivial⟩ ⟨J,ag,AB,AB,AB,(by exact QU ‹_› ‹_› ‹_› AB AB AB ‹_›),(by exact Ot ‹_› AB AB AB)⟩ (by (simp only []; omega))
  refine .r 1<|.d<|.cf<|.sk<|.ib 1<|.g<|.r 1<|RG.int (j+1) AA AB<|.r 1<|.d ?_
  have aJ:Mv [au,r] [r] aG aG:=Mv.less (all_cons AJ all_nil)
  replace C:=(sp aJ (Chg.refl nil _)).g1 C
  exact ae (i,j+1,xs) _ _ ⟨AA,AA,AA,AA,trivial⟩ ⟨J,C,AB,AB,AB,(by exact QV ‹_› ‹_› ‹_› AB ‹_›),(by exact QW ‹_› AB)⟩ (by (simp only []; omega))
 refine .d<|.cf<|.x 0 rfl<|.s<|.g<|.r 2 ?_
 refine RG.GR (t:=33) (r:=r) (o:=0) (len:=n) (cap:=c) (lo:=some (vI i)) (hi:=none) (sz:=3) (i.toNat) n AA AA (.inr ⟨_,_,rfl,by omega⟩) (.inl ⟨rfl,rfl⟩) AB AB AB ?_
 obtain ⟨cs_,hB_,hl_⟩:=Own.Sz C; have hz_:Rep.sz Fil=3:=rfl; rw [hz_] at hl_
 obtain ⟨vs_,w5,bj,bW,ba,aK⟩:=QJ (P:=Tryz.prog) (T:=33) (ty:=0) (t:=50) (sz:=3) (o:=0+(i.toNat) * 3) (m:=n - i.toNat) (c:=c - i.toNat) AA hB_ AB AB
 rw [Nat.zero_add] at ba
 have hsl_:(BQ cs_ ((i.toNat) * 3) vs_).length=c * Rep.sz Fil:=by rw [Di AB,hz_]; exact hl_
 have bk:=Own.TD C aK hB_ ba hsl_ (i:=i.toNat) AB (fun p hp=>Oo (by rw [hz_] at hp; exact hp) AB)
 refine RG.clear (ats:=[33]) (ty:=0) (args:=[.slice (some ⟨r,0+(i.toNat) * 3,none⟩) (n - i.toNat) (c - i.toNat)]) AA bj ?_
 replace ⟨hb,E⟩:=(s1 aK).g2 hb E
 exact .d<|.s<|.g<|.r 2<|RG.GR (t:=33) (r:=r) (o:=0) (len:=n) (cap:=c) (lo:=none) (hi:=some (vI i)) (sz:=3) 0 (i.toNat) AA AA (.inl ⟨rfl,rfl⟩) (.inr ⟨_,_,rfl,by omega⟩) AB AB AB<|.r 1<|.d<|.rt func141 results141 (vS r (i.toNat) c) ⟨⟨_,rfl,(Own.Lx bk).eqx (Rv ‹_› ‹_› AB AB)⟩,E⟩
theorem Il (d:Dsk) (h1:RepS w F a1 n1 c1 d.files) (h2:RepS w F a2 n2 c2 d.list) (h3:RepS w F a3 n3 c3 d.names) (p0:DD d):Calls Tryz.prog 101 [.agg #[.slice a1 n1 c1,.slice a2 n2 c2,.slice a3 n3 c3,.int .i64 d.next]].toArray w (BB fun rv w'=>VS (ge w.heap.size) w' (Br d:Dsk) rv∧Ext w w'):=by
 refine goT func101 ?_
 obtain ⟨rfl,bQ,h1⟩:=h1.tp
 obtain ⟨rfl,bR,h2⟩:=h2.tp
 obtain ⟨rfl,bS,h3⟩:=h3.tp
 refine .s<|.g<|.np 36 [.slice a1 d.files.length c1,.slice a2 d.list.length c2,.slice a3 d.names.length c3,vI d.next] fun ab cj aF ay E bg=>?_
 replace ⟨h1,h2,h3⟩:=(sn [] ay aF).g3 h1 h2 h3
 have C:=ay
 refine .np 36 [AH,AH,AH,vI 0] fun ac bF av aG J bh=>?_
 have bT:=AX av E.lt
 have bU:=C.cn av
 replace ⟨h1,h2,h3,E,C⟩:=(sn [ab] aG av).g5 h1 h2 h3 E C
 refine .d<|.s<|.s<|.g<|.ln E<|.cl (Cv d h1.ta h2.ta h3.ta p0 (w:=bF) (F:=all)) ?_
 rintro ck bi ⟨rfl,aH⟩
 replace ⟨h1,h2,h3,E,J,C⟩:=(se [ac,ab] aH).g6 h1 h2 h3 E J C
 cases bV:(BI d)
 ·refine .r 1<|.d<|.ct<|.s<|.g<|.r 1<|.sc [AH,AH,AH,vI 0] J fun cm aI bj bk=>?_
  replace ⟨h1,h2,h3,E,C⟩:=(so [ac,ab] aI).g5 h1 h2 h3 E C
  exact .d<|.rb func101 results101 bj ⟨(VS.of (y:=(⟨([]:List Fil),([]:List Int),([]:List (List Tag)),0⟩:Dsk)) ⟨_,rfl,⟨_,_,_,_,_,_,_,_,_,rfl,(RepS.Aj _ _ none 0 AE),(RepS.Aj _ _ none 0 AE),(RepS.Aj _ _ none 0 AE)⟩⟩ (by exact Rs ‹_›)),C⟩
 refine .r 1<|.d<|.cf<|.sk<|.s<|.g<|.ln E<|.cl (D2 d h1.ta h2.ta h3.ta (by exact TF p0) (by exact TG p0) (by exact TH p0) (by exact TI p0) (by exact TJ p0) (w:=bi) (F:=all)) ?_
 rintro co aP ⟨⟨aj,bG,bm,bn,cp,bo,bq,cq,br,rfl,af,am,W,aa⟩,aJ⟩
 have aw:=al2 J.lt E.lt
 have az:Gb w.heap.size bi.heap.size:=C.size
 have bt:=Ah am E.lt
 have bW:=Ah am J.lt
 have bu:=Bo am C.size
 have bX:Cov nil w aj:=BT am C.size
 replace ⟨h1,h2,h3,E,J,C⟩:=(sz [ac,ab] aJ am).g6 h1 h2 h3 E J C
 replace af:Own aP aj 50 (nin (ge w.heap.size) [aj,ac,ab]) _ _ _:=Own.Bc (s0:=w.heap.size) (M:=[ac,ab]) af aw az
 have bY:=af.max
 have bZ:=af.len
 replace W:RepS aP (nin (ge w.heap.size) [aj,ac,ab]) _ _ _ _:=RepS.Bc (s0:=w.heap.size) (M:=[ac,ab]) W aw az
 have b0:=W.max
 replace aa:RepS aP (nin (ge w.heap.size) [aj,ac,ab]) _ _ _ _:=RepS.Bc (s0:=w.heap.size) (M:=[ac,ab]) aa aw az
 have b6:=aa.max
 have bv:=W.len
 subst bv
 have bw:=aa.len
 subst bw
 refine .np 36 [AH,AH,AH,vI 0] fun al cr ao aK bz bA=>?_
 have b7:=AX ao E.lt
 have b8:=AX ao J.lt
 have b9:=AX ao af.lt
 have cd:=C.cn ao
 replace ⟨h1,h2,h3,E,J,af,W,aa,C⟩:=(sn [aj,ac,ab] aK ao).g9 h1 h2 h3 E J af W aa C
 refine .sc [vS aj bG bm,.slice bn d.list.length bo,.slice bq d.names.length br,vI d.next] bz fun cu aL ax bB=>?_
 replace ⟨h1,h2,h3,E,J,af,W,aa,C⟩:=(so [al,aj,ac,ab] aL).g9 h1 h2 h3 E J af W aa C
 refine .d<|.s<|.g<|.r 1<|.lb ax<|.r 1 ?_
 refine .cl (GS d af E (RepS.Bk h1 AJ) (RepS.Bk h2 AJ) (RepS.Bk h3 AJ) bt (by have:=p0.nf; have:=List.length_filter_le (fun f:Fil=>d.list.contains f.num) d.files; omega)) ?_
 rintro cw cx ⟨⟨aQ,rfl,ak⟩,aM⟩
 replace ⟨E,J,W,aa,ax,C⟩:=(so [al,aj,ac,ab] aM).g6 E J W aa ax C
 have bH:=ak.len; have bI:=ak.max
 refine .r 1<|.ss 0 (vS aj aQ bm) ax fun ce aA ag aR=>?_
 replace ⟨E,J,ak,W,aa,C⟩:=(so [al,aj,ac,ab] aA).g6 E J ak W aa C
 refine .d<|.s<|.g<|.ns 0 50 [] fun ar aN ah aB aS aT=>?_
 have aU:=AX ah E.lt
 have aV:=AX ah J.lt
 have bJ:=AX ah ak.lt
 have aW:=AX ah ag.lt
 have aX:=Ae ah C.size
 have bK:=C.cn ah
 replace ⟨E,J,ak,W,aa,ag,C⟩:=(sn [al,aj,ac,ab] aB ah).g7 E J ak W aa ag C
 have au:Own (α:=Fil) aN ar 50 (nin (ge w.heap.size) [ar,al,aj,ac,ab]) 0 0 []:=Own.Aj aS
 refine .r 1<|.lb ag ?_
 have bC:=ak.sl bu
 replace ⟨W,aa,au⟩:=(sd aN [ar,al,aj,ac,ab] aj).g3 W aa au
 refine RG.G2 (T:=33) (ty:=33) au bC AA AA (fun b _ h=>Dx AI h) (by have:=p0.nf; have:=List.length_filter_le (fun f:Fil=>d.list.contains f.num) d.files; omega) fun aq aO cg ae ai aC=>?_
 have bL:=Ag ai aU E.lt
 have bM:=Ag ai aV J.lt
 have bN:=Ag ai aW ag.lt
 have aY:=Bt ai aX C.size
 replace ⟨J,W,aa,ag,C⟩:=(sa [ar,al,ac,ab] aC ai).g5 J W aa ag C
 replace ae:=ae.rn ar
 refine .r 1<|.ss 0 (vS aq (0+aQ) aO) ag fun ci aD aZ ba=>?_
 replace ⟨J,W,aa,ae,C⟩:=(so [aq,al,ac,ab] aD).g5 J W aa ae C
 refine .d<|.s<|.g<|.ln aZ<|.sc [vS aq (0+aQ) aO,.slice bn d.list.length bo,.slice bq d.names.length br,vI d.next] J fun bD aE bc bd=>?_
 replace ⟨W,aa,ae,C⟩:=(so [aq,al,ac,ab] aE).g4 W aa ae C
 refine .d ?_
 have bE:=ae.sl aY
 replace ⟨W,aa⟩:=(sd bD [aq,al,ac,ab] aq).g2 W aa
 exact .rb func101 results101 bc ⟨(VS.of (y:=(⟨([]++(d.files.filter (fun f=>d.list.contains f.num))),d.list,d.names,d.next⟩:Dsk)) ⟨_,rfl,⟨_,_,_,_,_,_,_,_,_,rfl,bE.w1,W.w1,aa.w1⟩⟩ (by (rw [I3 ‹_›]; rfl))),C⟩
theorem HX (d:Dsk) (at_:Int) (h1:RepS w F a1 n1 c1 d.files) (h2:RepS w F a2 n2 c2 d.list) (h3:RepS w F a3 n3 c3 d.names) (p0:DD d):Calls Tryz.prog 57 [.agg #[.slice a1 n1 c1,.slice a2 n2 c2,.slice a3 n3 c3,.int .i64 d.next],.int .i64 at_].toArray w (BB fun rv w'=>VL (ge w.heap.size) w' (Ao d at_:List Stp) rv∧Ext w w'):=by
 refine goT func57 ?_
 obtain ⟨rfl,ic,h1⟩:=h1.tp
 obtain ⟨rfl,ie,h2⟩:=h2.tp
 obtain ⟨rfl,ig,h3⟩:=h3.tp
 refine .s<|.g<|.np 36 [.slice a1 d.files.length c1,.slice a2 d.list.length c2,.slice a3 d.names.length c3,vI d.next] fun af fY dx bZ C fi=>?_
 replace ⟨h1,h2,h3⟩:=(sn [] bZ dx).g3 h1 h2 h3
 have E:=bZ
 refine .r 1<|.d<|.s<|.s<|.g<|.ln C<|.cl (Cv d h1.ta h2.ta h3.ta p0 (w:=fY) (F:=all)) ?_
 rintro jI fZ ⟨rfl,dy⟩
 replace ⟨h1,h2,h3,C,E⟩:=(se [af] dy).g5 h1 h2 h3 C E
 cases ii:(BI d)
 ·refine .r 14<|.d<|.ct<|.s<|.g<|.ns 0 137 [] fun b0 fj bM dz fk fm=>?_
  have ij:=AX bM C.lt
  have fp:=Ae bM E.size
  replace ⟨h1,h2,h3,C,E⟩:=(sn [af] dz bM).g5 h1 h2 h3 C E
  have fq:Own (α:=Stp) fj b0 137 (nin (ge w.heap.size) [b0,af]) 0 0 []:=Own.Aj fk
  refine .r 1<|.d ?_
  have f0:=fq.sl fp
  replace ⟨h1,h2,h3⟩:=(sd fj [b0,af] b0).g3 h1 h2 h3
  exact .rt func57 results57 (vS b0 0 0) ⟨(f0.vl (by exact (MK ‹_›).symm) (fun _ _ h=>h.1)),E⟩
 refine .r 4<|.lb C<|.r 1<|RG.int ((d.list.length:Int) - 2) AA (by have:=p0.nl; omega)<|.cl (CM at_ 0 ((d.list.length:Int) - 2) (w:=fZ) (F:=all)) ?_
 rintro jJ f5 ⟨rfl,dA⟩
 replace ⟨h1,h2,h3,C,E⟩:=(se [af] dA).g5 h1 h2 h3 C E
 cases dB:(inR at_ 0 ((d.list.length:Int) - 2))
 ·refine .r 6<|.d<|.ct<|.s<|.g<|.ns 0 137 [] fun b6 ft bN dC fu fv=>?_
  have il:=AX bN C.lt
  have fw:=Ae bN E.size
  replace ⟨h1,h2,h3,C,E⟩:=(sn [af] dC bN).g5 h1 h2 h3 C E
  have fA:Own (α:=Stp) ft b6 137 (nin (ge w.heap.size) [b6,af]) 0 0 []:=Own.Aj fu
  refine .r 1<|.d ?_
  have f6:=fA.sl fw
  replace ⟨h1,h2,h3⟩:=(sd ft [b6,af] b6).g3 h1 h2 h3
  exact .rt func57 results57 (vS b6 0 0) ⟨(f6.vl (by exact SO ‹_› (.inl ‹_›)) (fun _ _ h=>h.1)),E⟩
 have im:=CF dB
 refine .r 3<|.ln C<|.cl (FE d h1.ta h2.ta h3.ta (w:=f5) (F:=all)) ?_
 rintro jK jL ⟨rfl,dD⟩
 replace ⟨h1,h2,h3,C,E⟩:=(se [af] dD).g5 h1 h2 h3 C E
 cases io:(EK d)
 ·refine .r 1<|.d<|.cf<|.sk<|.s<|.gd nil 12 fun jM dE=>?_
  replace ⟨h1,h2,h3,C,E⟩:=(se [af] dE).g5 h1 h2 h3 C E
  refine .r [0]<|.lb 1 C id<|.r [2] ?_
  have dF:at_.toNat< d.list.length:=AB
  refine GA.idx (i:=3) (at_.toNat) (len:=d.list.length) (z:=at_) (sz:=1) AA AB dF (h2.addr (Nat.zero_lt_of_lt dF)) ?_
  obtain ⟨aW,b8⟩:∃ y,d.list[at_.toNat]? = some y:=⟨_,AU AB⟩
  have fV:=AV b8
  obtain ⟨_,rfl,fB⟩:=h2.elem (at_.toNat) aW b8
  refine .lh 4 0 fB id<|.r [5]<|.lb 6 C id<|.r [7]<|GA.int (i:=8) (at_+1) AA (by have:=p0.nl; omega) ?_
  have dG:(at_+1).toNat< d.list.length:=AB
  refine GA.idx (i:=9) ((at_+1).toNat) (len:=d.list.length) (z:=at_+1) (sz:=1) AA AB dG (h2.addr (Nat.zero_lt_of_lt dG)) ?_
  obtain ⟨aX,b9⟩:∃ y,d.list[(at_+1).toNat]? = some y:=⟨_,AU AB⟩
  have fW:=AV b9
  obtain ⟨_,rfl,fC⟩:=h2.elem ((at_+1).toNat) aX b9
  refine .lh 10 0 fC id<|.r [11]<|.d fun bW dH=>?_
  replace ⟨h1,h2,h3,C,E⟩:=(se [af] dH).g5 h1 h2 h3 C E
  refine .r 1<|.d<|.s ?_
  replace h1:=h1.BO
  replace h2:=h2.BO
  replace h3:=h3.BO
  have bO:Gb (af+1) bW.heap.size:=C.lt
  refine .gd (mtb [] bW.heap.size) 22 fun f7 cd=>?_
  replace ⟨h1,h2,h3,C,E⟩:=(se [af] cd).g5 h1 h2 h3 C E
  have av:Chg (mtb [] bW.heap.size) bW f7:=Chg.Cb (Chg.refl (mtb [] bW.heap.size) bW) cd
  refine .r [0]<|.lb 1 C (BL all_nil bO)<|.ln 2 C (BL all_nil bO)<|.r [3]<|GA.Dt (i:=4) AA (fun f8 ce=>Cn d aW (h1.IQ ce all_nil) (h2.IQ ce all_nil) (h3.IQ ce all_nil) (w:=f8) (F:=all)) ?_
  have dI:(Av d aW).toNat< d.files.length:=(by exact (GM (EC (Ct ‹_›).2.2.2 _ ‹_›)).1)
  refine GA.idx (i:=5) ((Av d aW).toNat) (len:=d.files.length) (z:=Av d aW) (sz:=3) AA (by exact (GM (EC (Ct ‹_›).2.2.2 _ ‹_›)).2) dI (h1.addr (Nat.zero_lt_of_lt dI))<|.r [6] ?_
  obtain ⟨aB,bP⟩:∃ y,d.files[(Av d aW).toNat]? = some y:=⟨_,AU AB⟩
  have fX:=AV bP
  obtain ⟨_,⟨iu,iw,iy,iz,iA,iB,rfl,J,W⟩,dJ⟩:=h1.elem ((Av d aW).toNat) aB bP
  have dK:=J.len
  subst dK
  have dL:=W.len
  subst dL
  refine .lg 7 1 dJ (h1.nS (Dd bP) all_nil)<|.r [8]<|.lb 9 C (BL all_nil bO)<|.ln 10 C (BL all_nil bO)<|.r [11]<|GA.Dt (i:=12) AA (fun fD bk=>Cn d aX (h1.IQ bk all_nil) (h2.IQ bk all_nil) (h3.IQ bk all_nil) (w:=fD) (F:=all)) ?_
  have cg:(Av d aX).toNat< d.files.length:=(by exact (GM (EC (Ct ‹_›).2.2.2 _ ‹_›)).1)
  refine GA.idx (i:=13) ((Av d aX).toNat) (len:=d.files.length) (z:=Av d aX) (sz:=3) AA (by exact (GM (EC (Ct ‹_›).2.2.2 _ ‹_›)).2) cg (h1.addr (Nat.zero_lt_of_lt cg))<|.r [14] ?_
  obtain ⟨aq,bi⟩:∃ y,d.files[(Av d aX).toNat]? = some y:=⟨_,AU AB⟩
  have fE:=AV bi
  obtain ⟨_,⟨iC,iD,iE,iF,iG,iH,rfl,aa,ab⟩,dM⟩:=h1.elem ((Av d aX).toNat) aq bi
  have dN:=aa.len
  subst dN
  have dO:=ab.len
  subst dO
  refine .lg 15 1 dM (h1.nS (Dd bi) all_nil)<|.tw 16 20 ?_ ?_
  ·refine .cl (fun ci aP=>D0 aB.part aq.part (J.ta.ext aP) (W.ta.ext aP) (aa.ta.ext aP) (ab.ta.ext aP) (by exact (p0.file _ ‹_›).sz) (by exact (p0.file _ ‹_›).sz) (w:=ci) (F:=all)) ?_
   intro ci aP
   replace ⟨h2,h3,C,J,W,aa,ab,E,av⟩:=(se [af] aP).g9 h2 h3 C J W aa ab E av
   rintro iI iJ ⟨⟨iK,rfl,⟨_,rfl,⟨cj,iL,ck,cm,iM,co,rfl,ac,ae⟩⟩⟩,bm⟩
   have bn:=al1 C.lt
   have cp:Gb w.heap.size ci.heap.size:=E.size
   have hkeep_:=bm
   replace ⟨h2,h3,C,J,W,aa,ab,E,av⟩:=(se [af] bm).g9 h2 h3 C J W aa ab E av
   refine ⟨Ext.chg hkeep_,?_⟩
   have ac:=ac.fr bn cp
   have gi:=ac.max
   have ae:=ae.fr bn cp
   have gj:=ae.max
   have dP:=ac.len
   subst dP
   have dQ:=ae.len
   subst dQ
   refine .r [17,18,19]<|.go 20<|.nw (fun b=>.pointer (some ⟨b,0,none⟩)) 48 [AH,AH] fun iN cq=>?_
   replace ⟨h2,h3,C,J,W,aa,ab,ac,ae,E,av⟩:=(se [af] cq).g11 h2 h3 C J W aa ab ac ae E av
   intro ak iO aY cr dR dS
   have gk:=AX aY C.lt
   have gl:=E.cn aY
   have dT:=av.cn aY
   replace ⟨h2,h3,C,J,W,aa,ab,ac,ae,E,av⟩:=(sn [af] cr aY).g11 h2 h3 C J W aa ab ac ae E av
   refine .go 21<|GE.Dc (t':=48) (o:=0) (v:=.agg #[.slice cj ((CL aB.part aq.part).1.ids.length) ck,.slice cm ((CL aB.part aq.part).1.blocks.length) co]) [.slice cj ((CL aB.part aq.part).1.ids.length) ck,.slice cm ((CL aB.part aq.part).1.blocks.length) co] dR AA AA AA fun iP cu=>?_
   replace ⟨h2,h3,C,J,W,aa,ab,ac,ae,E,av⟩:=(se [ak,af] cu).g11 h2 h3 C J W aa ab ac ae E av
   intro iQ bo ag dU
   have hkeep_:=Chg.toS bo (Cov.toS dT)
   replace ⟨h2,h3,C,J,W,aa,ab,ac,ae,E,av⟩:=(so [ak,af] bo).g11 h2 h3 C J W aa ab ac ae E av
   refine ⟨hkeep_,?_⟩
   refine .d fun iR cw=>?_
   replace ⟨h2,h3,C,J,W,aa,ab,ac,ae,ag,E,av⟩:=(se [ak,af] cw).g12 h2 h3 C J W aa ab ac ae ag E av
   replace h2:=h2.Aa
   replace h3:=h3.Aa
   replace J:=J.Aa
   replace W:=W.Aa
   replace aa:=aa.Aa
   replace ab:=ab.Aa
   refine .r 1<|.d<|.s<|.g<|.ns 0 3 [] fun bQ fF aQ cx dV dW=>?_
   have dX:=AX aQ C.lt
   have dY:=AX aQ ag.lt
   have dZ:=Ae aQ E.size
   have d0:=E.cn aQ
   replace ⟨h2,h3,C,J,W,aa,ab,ac,ae,ag,E⟩:=(sn [ak,af] cx aQ).g11 h2 h3 C J W aa ab ac ae ag E
   have d3:Own (α:=Int) fF bQ 3 (nin (ge w.heap.size) [bQ,ak,af]) 0 0 []:=Own.Aj dV
   refine .r 1<|.lb C<|.r 1<|RG.sub (t:=34) (lo:=none) (hi:=some (vI at_)) h2 0 (at_.toNat) AA AA (.inl ⟨rfl,rfl⟩) (.inr ⟨_,_,rfl,by omega⟩) (by have:=p0.nl; omega) (by have:=p0.nl; omega) fun iS iT cy=>?_
   have gm:=cy.len; have gn:=cy.max
   refine RG.BG (T:=34) (ty:=34) BS d3 cy AA AA (fun b h e=>h.2 (e▸AI)) (by have:=p0.nl; omega) fun ay fG bR ar aD cz=>?_
   have bq:=Ag aD dX C.lt
   have d4:=Ag aD dY ag.lt
   have d5:=Bt aD dZ E.size
   have d6:=Aw aD d0 E.size
   replace ⟨h2,h3,C,J,W,aa,ab,ac,ae,ag,E⟩:=(sa [bQ,ak,af] cz aD).g11 h2 h3 C J W aa ab ac ae ag E
   replace ar:=ar.rn bQ
   have gp:=ar.len
   refine .r 1<|.d<|.s ?_
   replace h2:=h2.BO
   replace h3:=h3.BO
   replace J:=J.BO
   replace W:=W.BO
   replace aa:=aa.BO
   replace ab:=ab.BO
   replace ac:=ac.BO
   replace ae:=ae.BO
   have cA:Gb (af+1) bR.heap.size:=C.lt
   have d7:Cov (mtb [ay] bR.heap.size) bR ay:=⟨.inl (.inl AI)⟩
   refine .gd (mtb [ay] bR.heap.size) 10 fun iU cB=>?_
   replace ⟨h2,h3,C,J,W,aa,ab,ac,ae,ag,ar,E⟩:=(se [ay,ak,af] cB).g12 h2 h3 C J W aa ab ac ae ag ar E
   refine .r [0,1]<|.lb 2 C (BL (all_cons (Nb.symm bq) all_nil) cA)<|.r [5]<|.lb 6 C (BL (all_cons (Nb.symm bq) all_nil) cA)<|.r [7]<|GA.int (i:=8) (at_+2) AA (by have:=p0.nl; omega)<|GA.sub (i:=9) (t:=34) (lo:=some (vI (at_+2))) (hi:=none) AA h2 ((at_+2).toNat) d.list.length AA AA (.inr ⟨_,_,rfl,by omega⟩) (.inl ⟨rfl,rfl⟩) (by have:=p0.nl; omega) (by have:=p0.nl; omega) fun iV iW az=>?_
   have gr:=az.len
   refine .go 3<|.ns 1 3 [vI d.next] fun iX br=>?_
   replace ⟨h2,h3,C,J,W,aa,ab,ac,ae,ag,ar,az⟩:=(se [ay,ak,af] br).g12 h2 h3 C J W aa ab ac ae ag ar az
   replace E:=(se [ay,ak,af] br).g1 E
   intro cC iY aZ bt bu d8
   have d9:=AX aZ C.lt
   have ec:=AX aZ ag.lt
   have cD:=AX aZ ar.lt
   have ed:=Ae aZ E.size
   replace ⟨h2,h3,C,J,W,aa,ab,ac,ae,ag,ar,az⟩:=(se [ay,ak,af] bt).g12 h2 h3 C J W aa ab ac ae ag ar az
   replace E:=(se [ay,ak,af] bt).g1 E
   refine .go 4<|GE.append (T:=34) (ty:=34) (args:=[vS ay (0+(at_.toNat - 0)) fG,vS cC 1 1]) AA fun iZ bv=>?_
   replace ⟨h2,h3,C,J,W,aa,ab,ac,ae,ag,ar,az⟩:=(se [ay,ak,af] bv).g12 h2 h3 C J W aa ab ac ae ag ar az
   replace ⟨bu,E⟩:=(se [ay,ak,af] bv).g2 bu E
   have bX:nin (ge w.heap.size) [ay,ak,af] cC∧cC≠ay:=BR ed (all_cons cD (all_cons ec (all_cons d9 all_nil))) cD
   obtain ⟨bS,ja,jb,cE,aI,aE,bw,ee⟩:=ar.Ax (P:=Tryz.prog) (T:=34) (ty:=34) (y:=d.next) AA bu rfl bX (by have:=p0.nl; omega)
   refine ⟨_,_,cE,Chg.toS bw (Cov.toS d7),?_⟩
   have ef:=Ag aE bq C.lt
   have eg:=Ag aE d4 ag.lt
   have eh:=Bt aE d5 E.size
   have gt:=Aw aE d6 E.size
   replace ⟨h2,h3,C,J,W,aa,ab,ac,ae,ag,az,E⟩:=(sa [ay,ak,af] bw aE).g12 h2 h3 C J W aa ab ac ae ag az E
   replace aI:=aI.rn ay
   have gu:=aI.len
   refine .d fun jc bz=>?_
   replace ⟨h2,h3,C,J,W,aa,ab,ac,ae,ag,aI,az⟩:=(se [bS,ak,af] bz).g12 h2 h3 C J W aa ab ac ae ag aI az
   replace E:=(se [bS,ak,af] bz).g1 E
   replace h2:=h2.Aa
   replace h3:=h3.Aa
   replace J:=J.Aa
   replace W:=W.Aa
   replace aa:=aa.Aa
   replace ab:=ab.Aa
   replace ac:=ac.Aa
   replace ae:=ae.Aa
   replace az:=az.Aa
   refine RG.BG (T:=34) (ty:=34) BS aI az AA AA (fun b h e=>h.2 (e▸AI)) (by have:=p0.nl; omega) fun aH fH jd am aM cF=>?_
   have gw:=Ag aM ef C.lt
   have gy:=Ag aM eg ag.lt
   have ej:=Bt aM eh E.size
   replace ⟨h2,h3,C,J,W,aa,ab,ac,ae,ag,E⟩:=(sa [bS,ak,af] cF aM).g11 h2 h3 C J W aa ab ac ae ag E
   replace am:=am.rn bS
   refine .r 1<|.d<|.s<|.gd nil 13 fun je cG=>?_
   replace ⟨h2,h3,C,J,W,aa,ab,ac,ae,ag,am,E⟩:=(se [aH,ak,af] cG).g12 h2 h3 C J W aa ab ac ae ag am E
   refine .r [0]<|.lb 1 C id<|.ln 2 ag id<|.r [3,4,5]<|.lb 6 C id<|.r [9,10,11,12]<|.go 7<|.cl (fun cH bA=>Ak d.names (h3.ta.ext bA) (by have:=p0.g.len; omega) (by (intro n hn; have:=(p0.g.sz n hn).1; omega)) (w:=cH) (F:=all)) ?_
   intro cH bA
   replace ⟨h2,h3,C,J,W,aa,ab,ac,ae,ag,am,E⟩:=(se [aH,ak,af] bA).g12 h2 h3 C J W aa ab ac ae ag am E
   rintro jf jg ⟨⟨ba,fI,fJ,rfl,aw,aR⟩,bB⟩
   have cI:=al3 am.lt ag.lt C.lt
   have ek:Gb w.heap.size cH.heap.size:=E.size
   have hkeep_:=bB
   have gC:=Ah aR C.lt
   have gD:=Ah aR ag.lt
   have gE:=Ah aR am.lt
   have en:=Bo aR E.size
   replace ⟨h2,h3,C,J,W,aa,ab,ac,ae,ag,am,E⟩:=(sz [aH,ak,af] bB aR).g12 h2 h3 C J W aa ab ac ae ag am E
   refine ⟨Ext.chg hkeep_,?_⟩
   replace aw:=Own.take (s0:=w.heap.size) (M:=[aH,ak,af]) aw cI ek
   refine .r [8]<|.d fun jh bC=>?_
   replace ⟨h2,h3,C,J,W,aa,ab,ac,ae,ag,am,aw⟩:=(se [ba,aH,ak,af] bC).g12 h2 h3 C J W aa ab ac ae ag am aw
   replace E:=(se [ba,aH,ak,af] bC).g1 E
   refine .ns 4 137 [vI 1,vI d.next,.slice cj ((CL aB.part aq.part).1.ids.length) ck,.slice cm ((CL aB.part aq.part).1.blocks.length) co,AH,AH,vI 2,vI 0,AH,AH,vS aH (0+(at_.toNat - 0)+1+(d.list.length - (at_+2).toNat)) fH,vS ba fI fJ,vI 3,vI aW,AH,AH,AH,AH,vI 3,vI aX,AH,AH,AH,AH] fun bc bT aJ cJ et ey=>?_
   have gH:=AX aJ C.lt
   have gI:=AX aJ ag.lt
   have gJ:=AX aJ am.lt
   have gK:=AX aJ aw.lt
   have ez:=Ae aJ E.size
   replace ⟨h2,h3,C,J,W,aa,ab,ac,ae,am,aw,E⟩:=(sn [ba,aH,ak,af] cJ aJ).g12 h2 h3 C J W aa ab ac ae am aw E
   have cK:=am.sl ej
   replace ⟨h2,h3,J,W,aa,ab,ac,ae,aw⟩:=(sd bT [bc,ba,aH,ak,af] aH).g9 h2 h3 J W aa ab ac ae aw
   have fK:=aw.sl en
   replace ⟨h2,h3,J,W,aa,ab,ac,ae,cK⟩:=(sd bT [bc,ba,ak,af] ba).g9 h2 h3 J W aa ab ac ae cK
   have eA:Own (α:=Stp) bT bc 137 (nin (ge w.heap.size) [bc,ak,af]) 4 4 [(⟨1,d.next,(⟨(CL aB.part aq.part).1.ids,(CL aB.part aq.part).1.blocks⟩:Prt),([]:List Int),([]:List (List Tag))⟩:Stp),(⟨2,0,(⟨([]:List Int),([]:List (List Row))⟩:Prt),((([]++((d.list.take (at_.toNat)).drop 0))++[d.next])++((d.list.take d.list.length).drop ((at_+2).toNat))),d.names⟩:Stp),(⟨3,aW,(⟨([]:List Int),([]:List (List Row))⟩:Prt),([]:List Int),([]:List (List Tag))⟩:Stp),(⟨3,aX,(⟨([]:List Int),([]:List (List Row))⟩:Prt),([]:List Int),([]:List (List Tag))⟩:Stp)]:=Own.lit et rfl AE ⟨⟨_,_,_,_,_,_,_,_,_,_,_,_,rfl,ac.oi,ae.oi,(RepS.Aj _ _ none 0 AE),(RepS.Aj _ _ none 0 AE)⟩,⟨_,_,_,_,_,_,_,_,_,_,_,_,rfl,(RepS.Aj _ _ none 0 AE),(RepS.Aj _ _ none 0 AE),cK.oi,fK.oi⟩,⟨_,_,_,_,_,_,_,_,_,_,_,_,rfl,(RepS.Aj _ _ none 0 AE),(RepS.Aj _ _ none 0 AE),(RepS.Aj _ _ none 0 AE),(RepS.Aj _ _ none 0 AE)⟩,⟨_,_,_,_,_,_,_,_,_,_,_,_,rfl,(RepS.Aj _ _ none 0 AE),(RepS.Aj _ _ none 0 AE),(RepS.Aj _ _ none 0 AE),(RepS.Aj _ _ none 0 AE)⟩,rfl⟩
   refine .r 1<|.d ?_
   have fL:=eA.sl ez
   replace ⟨h2,h3,J,W,aa,ab⟩:=(sd bT [bc,ak,af] bc).g6 h2 h3 J W aa ab
   exact .rt func57 results57 (vS bc 4 4) ⟨(fL.vl (by exact QR p0 ‹_› ‹_› ‹_› ‹_› ‹_› ‹_› ‹_›) (fun _ _ h=>h.1)),E⟩
  refine .nw (fun b=>.pointer (some ⟨b,0,none⟩)) 48 [AH,AH] fun ji cL=>?_
  replace ⟨h2,h3,C,J,W,aa,ab,E,av⟩:=(se [af] cL).g9 h2 h3 C J W aa ab E av
  intro al jj bd cM aS eB
  have gL:=AX bd C.lt
  have gM:=E.cn bd
  have eC:=av.cn bd
  replace ⟨h2,h3,C,J,W,aa,ab,E⟩:=(sn [af] cM bd).g8 h2 h3 C J W aa ab E
  refine .go 16<|.cl (fun cN aT=>D0 aB.part aq.part (J.ta.ext aT) (W.ta.ext aT) (aa.ta.ext aT) (ab.ta.ext aT) (by exact (p0.file _ ‹_›).sz) (by exact (p0.file _ ‹_›).sz) (w:=cN) (F:=all)) ?_
  intro cN aT
  replace ⟨h2,h3,C,aS,E⟩:=(se [al,af] aT).g5 h2 h3 C aS E
  rintro jk jl ⟨⟨jm,rfl,⟨_,rfl,⟨cO,jn,cP,cQ,jo,cR,rfl,ai,aj⟩⟩⟩,bD⟩
  have bE:=al2 aS.lt C.lt
  have cS:Gb w.heap.size cN.heap.size:=E.size
  have hkeep_:=bD
  replace ⟨h2,h3,C,aS,E⟩:=(se [al,af] bD).g5 h2 h3 C aS E
  refine ⟨Ext.chg hkeep_,?_⟩
  have ai:=ai.fr bE cS
  have gN:=ai.max
  have aj:=aj.fr bE cS
  have gO:=aj.max
  have eD:=ai.len
  subst eD
  have eE:=aj.len
  subst eE
  refine .r [17,18,19]<|.go 21<|GE.Dc (t':=48) (o:=0) (v:=.agg #[.slice cO ((CL aB.part aq.part).1.ids.length) cP,.slice cQ ((CL aB.part aq.part).1.blocks.length) cR]) [.slice cO ((CL aB.part aq.part).1.ids.length) cP,.slice cQ ((CL aB.part aq.part).1.blocks.length) cR] aS AA AA AA fun jp cT=>?_
  replace ⟨h2,h3,C,ai,aj,E⟩:=(se [al,af] cT).g6 h2 h3 C ai aj E
  intro jq bF ah eF
  have hkeep_:=Chg.toS bF (Cov.toS eC)
  replace ⟨h2,h3,C,ai,aj,E⟩:=(so [al,af] bF).g6 h2 h3 C ai aj E
  refine ⟨hkeep_,?_⟩
  refine .d fun jr cU=>?_
  replace ⟨h2,h3,C,ah,ai,aj,E⟩:=(se [al,af] cU).g7 h2 h3 C ah ai aj E
  replace h2:=h2.Aa
  replace h3:=h3.Aa
  refine .r 1<|.d<|.s<|.g<|.ns 0 3 [] fun bU fM aU cV eG eH=>?_
  have eI:=AX aU C.lt
  have eJ:=AX aU ah.lt
  have eK:=Ae aU E.size
  have eL:=E.cn aU
  replace ⟨h2,h3,C,ah,ai,aj,E⟩:=(sn [al,af] cV aU).g7 h2 h3 C ah ai aj E
  have eM:Own (α:=Int) fM bU 3 (nin (ge w.heap.size) [bU,al,af]) 0 0 []:=Own.Aj eG
  refine .r 1<|.lb C<|.r 1<|RG.sub (t:=34) (lo:=none) (hi:=some (vI at_)) h2 0 (at_.toNat) AA AA (.inl ⟨rfl,rfl⟩) (.inr ⟨_,_,rfl,by omega⟩) (by have:=p0.nl; omega) (by have:=p0.nl; omega) fun js jt cW=>?_
  have gP:=cW.len; have gQ:=cW.max
  refine RG.BG (T:=34) (ty:=34) BS eM cW AA AA (fun b h e=>h.2 (e▸AI)) (by have:=p0.nl; omega) fun aC fN bV au aF cX=>?_
  have bG:=Ag aF eI C.lt
  have eN:=Ag aF eJ ah.lt
  have eO:=Bt aF eK E.size
  have eP:=Aw aF eL E.size
  replace ⟨h2,h3,C,ah,ai,aj,E⟩:=(sa [bU,al,af] cX aF).g7 h2 h3 C ah ai aj E
  replace au:=au.rn bU
  have gR:=au.len
  refine .r 1<|.d<|.s ?_
  replace h2:=h2.BO
  replace h3:=h3.BO
  replace ai:=ai.BO
  replace aj:=aj.BO
  have cY:Gb (af+1) bV.heap.size:=C.lt
  have eQ:Cov (mtb [aC] bV.heap.size) bV aC:=⟨.inl (.inl AI)⟩
  refine .gd (mtb [aC] bV.heap.size) 10 fun ju cZ=>?_
  replace ⟨h2,h3,C,ah,ai,aj,au,E⟩:=(se [aC,al,af] cZ).g8 h2 h3 C ah ai aj au E
  refine .r [0,1]<|.lb 2 C (BL (all_cons (Nb.symm bG) all_nil) cY)<|.r [5]<|.lb 6 C (BL (all_cons (Nb.symm bG) all_nil) cY)<|.r [7]<|GA.int (i:=8) (at_+2) AA (by have:=p0.nl; omega)<|GA.sub (i:=9) (t:=34) (lo:=some (vI (at_+2))) (hi:=none) AA h2 ((at_+2).toNat) d.list.length AA AA (.inr ⟨_,_,rfl,by omega⟩) (.inl ⟨rfl,rfl⟩) (by have:=p0.nl; omega) (by have:=p0.nl; omega) fun jv jw aA=>?_
  have gT:=aA.len
  refine .go 3<|.ns 1 3 [vI d.next] fun jx c7=>?_
  replace ⟨h3,C,ah,ai,aj,au,aA,E⟩:=(se [aC,al,af] c7).g8 h3 C ah ai aj au aA E
  intro c8 jy bg c9 bH eR
  have eS:=AX bg C.lt
  have eT:=AX bg ah.lt
  have da:=AX bg au.lt
  have eU:=Ae bg E.size
  replace ⟨h3,C,ah,ai,aj,au,aA,E⟩:=(se [aC,al,af] c9).g8 h3 C ah ai aj au aA E
  refine .go 4<|GE.append (T:=34) (ty:=34) (args:=[vS aC (0+(at_.toNat - 0)) fN,vS c8 1 1]) AA fun jz db=>?_
  replace ⟨h3,C,ah,ai,aj,au,aA,bH,E⟩:=(se [aC,al,af] db).g9 h3 C ah ai aj au aA bH E
  have bY:nin (ge w.heap.size) [aC,al,af] c8∧c8≠aC:=BR eU (all_cons da (all_cons eT (all_cons eS all_nil))) da
  obtain ⟨de,jA,jB,df,aK,aG,bI,eV⟩:=au.Ax (P:=Tryz.prog) (T:=34) (ty:=34) (y:=d.next) AA bH rfl bY (by have:=p0.nl; omega)
  refine ⟨_,_,df,Chg.toS bI (Cov.toS eQ),?_⟩
  have eW:=Ag aG bG C.lt
  have eX:=Ag aG eN ah.lt
  have eY:=Bt aG eO E.size
  have gV:=Aw aG eP E.size
  replace ⟨h3,C,ah,ai,aj,aA,E⟩:=(sa [aC,al,af] bI aG).g7 h3 C ah ai aj aA E
  replace aK:=aK.rn aC
  have gW:=aK.len
  refine .d fun jC dg=>?_
  replace ⟨h3,C,ah,ai,aj,aK,aA,E⟩:=(se [de,al,af] dg).g8 h3 C ah ai aj aK aA E
  replace h3:=h3.Aa
  replace ai:=ai.Aa
  replace aj:=aj.Aa
  replace aA:=aA.Aa
  refine RG.BG (T:=34) (ty:=34) BS aK aA AA AA (fun b h e=>h.2 (e▸AI)) (by have:=p0.nl; omega) fun aN fO jD ao aO dh=>?_
  have gY:=Ag aO eW C.lt
  have gZ:=Ag aO eX ah.lt
  have eZ:=Bt aO eY E.size
  replace ⟨h3,C,ah,ai,aj,E⟩:=(sa [de,al,af] dh aO).g6 h3 C ah ai aj E
  replace ao:=ao.rn de
  refine .r 1<|.d<|.s<|.gd nil 13 fun jE dj=>?_
  replace ⟨h3,C,ah,ai,aj,ao,E⟩:=(se [aN,al,af] dj).g7 h3 C ah ai aj ao E
  refine .r [0]<|.lb 1 C id<|.ln 2 ah id<|.r [3,4,5]<|.lb 6 C id<|.r [9,10,11,12]<|.go 7<|.cl (fun dm bJ=>Ak d.names (h3.ta.ext bJ) (by have:=p0.g.len; omega) (by (intro n hn; have:=(p0.g.sz n hn).1; omega)) (w:=dm) (F:=all)) ?_
  intro dm bJ
  replace ⟨C,ah,ai,aj,ao,E⟩:=(se [aN,al,af] bJ).g6 C ah ai aj ao E
  rintro jF jG ⟨⟨bh,fP,fQ,rfl,ax,aV⟩,bK⟩
  have dp:=al3 ao.lt ah.lt C.lt
  have e7:Gb w.heap.size dm.heap.size:=E.size
  have hkeep_:=bK
  have hD:=Ah aV C.lt
  have hE:=Ah aV ah.lt
  have hH:=Ah aV ao.lt
  have e8:=Bo aV E.size
  replace ⟨C,ah,ai,aj,ao,E⟩:=(sz [aN,al,af] bK aV).g6 C ah ai aj ao E
  refine ⟨Ext.chg hkeep_,?_⟩
  replace ax:=Own.take (s0:=w.heap.size) (M:=[aN,al,af]) ax dp e7
  refine .r [8]<|.d fun jH dq=>?_
  replace ⟨C,ah,ai,aj,ao,ax,E⟩:=(se [bh,aN,al,af] dq).g7 C ah ai aj ao ax E
  refine .ns 4 137 [vI 1,vI d.next,.slice cO ((CL aB.part aq.part).1.ids.length) cP,.slice cQ ((CL aB.part aq.part).1.blocks.length) cR,AH,AH,vI 2,vI 0,AH,AH,vS aN (0+(at_.toNat - 0)+1+(d.list.length - (at_+2).toNat)) fO,vS bh fP fQ,vI 3,vI aW,AH,AH,AH,AH,vI 3,vI aX,AH,AH,AH,AH] fun bj dr aL dt fa fb=>?_
  have hO:=AX aL C.lt
  have hQ:=AX aL ah.lt
  have hV:=AX aL ao.lt
  have hW:=AX aL ax.lt
  have fc:=Ae aL E.size
  replace ⟨C,ai,aj,ao,ax,E⟩:=(sn [bh,aN,al,af] dt aL).g6 C ai aj ao ax E
  have du:=ao.sl eZ
  replace ⟨ai,aj,ax⟩:=(sd dr [bj,bh,aN,al,af] aN).g3 ai aj ax
  have fR:=ax.sl e8
  replace ⟨ai,aj,du⟩:=(sd dr [bj,bh,al,af] bh).g3 ai aj du
  have fd:Own (α:=Stp) dr bj 137 (nin (ge w.heap.size) [bj,al,af]) 4 4 [(⟨1,d.next,(⟨(CL aB.part aq.part).1.ids,(CL aB.part aq.part).1.blocks⟩:Prt),([]:List Int),([]:List (List Tag))⟩:Stp),(⟨2,0,(⟨([]:List Int),([]:List (List Row))⟩:Prt),((([]++((d.list.take (at_.toNat)).drop 0))++[d.next])++((d.list.take d.list.length).drop ((at_+2).toNat))),d.names⟩:Stp),(⟨3,aW,(⟨([]:List Int),([]:List (List Row))⟩:Prt),([]:List Int),([]:List (List Tag))⟩:Stp),(⟨3,aX,(⟨([]:List Int),([]:List (List Row))⟩:Prt),([]:List Int),([]:List (List Tag))⟩:Stp)]:=Own.lit fa rfl AE ⟨⟨_,_,_,_,_,_,_,_,_,_,_,_,rfl,ai.oi,aj.oi,(RepS.Aj _ _ none 0 AE),(RepS.Aj _ _ none 0 AE)⟩,⟨_,_,_,_,_,_,_,_,_,_,_,_,rfl,(RepS.Aj _ _ none 0 AE),(RepS.Aj _ _ none 0 AE),du.oi,fR.oi⟩,⟨_,_,_,_,_,_,_,_,_,_,_,_,rfl,(RepS.Aj _ _ none 0 AE),(RepS.Aj _ _ none 0 AE),(RepS.Aj _ _ none 0 AE),(RepS.Aj _ _ none 0 AE)⟩,⟨_,_,_,_,_,_,_,_,_,_,_,_,rfl,(RepS.Aj _ _ none 0 AE),(RepS.Aj _ _ none 0 AE),(RepS.Aj _ _ none 0 AE),(RepS.Aj _ _ none 0 AE)⟩,rfl⟩
  refine .r 1<|.d ?_
  have fS:=fd.sl fc
  exact .rt func57 results57 (vS bj 4 4) ⟨(fS.vl (by exact QR p0 ‹_› ‹_› ‹_› ‹_› ‹_› ‹_› ‹_›) (fun _ _ h=>h.1)),E⟩
 refine .r 1<|.d<|.ct<|.s<|.g<|.ns 0 137 [] fun dv fT bL dw fe ff=>?_
 have ia:=AX bL C.lt
 have fg:=Ae bL E.size
 replace E:=(se [] dw).g1 E
 have fh:Own (α:=Stp) fT dv 137 (nin (ge w.heap.size) [dv,af]) 0 0 []:=Own.Aj fe
 refine .r 1<|.d ?_
 have fU:=fh.sl fg
 exact .rt func57 results57 (vS dv 0 0) ⟨(fU.vl (by exact SO ‹_› (.inr ‹_›)) (fun _ _ h=>h.1)),E⟩
end Go.Proofs.YtggnnidleedpaaaGreat
namespace Go.Proofs.YtggnnidleedpaaaGreat
theorem N2:∀ (fs:List Fil) (n:Int) (i:Nat),0≤C1 n i fs→∃ f,fs[(C1 n i fs).toNat - i]? = some f∧f.num=n∧i≤(C1 n i fs).toNat:=by
 intro fs
 induction fs with
 | nil=>intro n i h; exact absurd h (by unfold C1; omega)
 | cons x xs ih =>
   intro n i h
   unfold C1 at h ⊢
   split at h
   ·next e =>
    rw [if_pos e]
    exact ⟨x,by simp,by simpa using e,by simp⟩
   ·next e =>
    rw [if_neg e]
    obtain ⟨f,h1,h2,h3⟩:=ih n (i+1) h
    refine ⟨f,?_,h2,by omega⟩
    rw [show (C1 n (i+1) xs).toNat - i=((C1 n (i+1) xs).toNat - (i+1))+1 by omega,List.getElem?_cons_succ]
    exact h1
end Go.Proofs.YtggnnidleedpaaaGreat
namespace Go.Proofs.YtggnnidleedpaaaGreat
theorem Kf (nx:Int):∀ (fs:List Fil) (o:Option Int),DJ nx o fs=true↔(∀ f∈fs,1≤f.num∧f.num≤nx - 1∧Az f.part=true)∧fs.Pairwise (fun a b=>a.num< b.num)∧∀ q,o=some q→∀ f∈fs,q< f.num:=by
 intro fs
 induction fs with
 | nil=>intro o; simp [DJ]
 | cons x xs ih =>
   intro o
   unfold DJ
   simp only [AW]
   rw [ih]
   constructor
   ·rintro ⟨⟨⟨h1,h2⟩,h3⟩,h4,h5,h6⟩
    have h1:=CF h1
    refine ⟨fun f hf=>?_,List.pairwise_cons.2 ⟨fun f hf=>h6 _ rfl f hf,h5⟩,fun q hq f hf=>?_⟩
    ·rcases List.mem_cons.1 hf with rfl | hf
     ·exact ⟨h1.1,h1.2,h3⟩
     ·exact h4 f hf
    ·subst hq
     have hx:q< x.num:=by simpa using h2
     rcases List.mem_cons.1 hf with rfl | hf
     ·exact hx
     ·have:=h6 _ rfl f hf; omega
   ·rintro ⟨h1,h2,h3⟩
    obtain ⟨h4,h5⟩:=List.pairwise_cons.1 h2
    have hx:=h1 x AD
    refine ⟨⟨⟨?_,?_⟩,hx.2.2⟩,fun f hf=>h1 f (by simp [hf]),h5,fun q hq f hf=>?_⟩
    ·unfold inR; rw [decide_eq_true hx.1,decide_eq_true hx.2.1]; rfl
    ·cases o with
     | none=>rfl
     | some q=>simpa using h3 q rfl x AD
    ·cases hq
     exact h4 f hf
theorem N3:∀ (fs:List Fil) (i:Nat) (f:Fil),fs.Pairwise (fun a b=>a.num< b.num)→f∈fs→∃ k:Nat,C1 f.num i fs=((i+k:Nat):Int)∧fs[k]? = some f:=by
 intro fs
 induction fs with
 | nil=>intro i f _ hf; cases hf
 | cons x xs ih =>
   intro i f hp hf
   obtain ⟨h1,h2⟩:=List.pairwise_cons.1 hp
   unfold C1
   rcases List.mem_cons.1 hf with rfl | hf
   ·exact ⟨0,by simp,rfl⟩
   ·have:=h1 f hf
    rw [if_neg (by simp; omega)]
    obtain ⟨k,g1,g2⟩:=ih (i+1) f h2 hf
    exact ⟨k+1,by rw [g1]; omega,by rw [List.getElem?_cons_succ]; exact g2⟩
theorem ED {d:Dsk}(hp:d.files.Pairwise (fun a b=>a.num< b.num)){f:Fil}(hf:f∈d.files):BH d f.num=f.part∧0≤Av d f.num:=by
 obtain ⟨k,h1,h2⟩:=N3 d.files 0 f hp hf
 have h3:Av d f.num=(k:Int):=by unfold Av; rw [h1]; simp
 refine ⟨ER (by rw [h3]; exact h2),by omega⟩
structure DskV (d:Dsk):Prop where
 next:1≤d.next∧d.next≤999
 nf:d.files.length≤20
 nl:d.list.length≤6
 file:∀ f∈d.files,1≤f.num∧f.num≤d.next - 1∧Az f.part=true
 asc:d.files.Pairwise (fun a b=>a.num< b.num)
 at_:∀ n∈d.list,∃ f∈d.files,f.num=n
 nd:d.list.Nodup
 nm:nmB d.names=true
 so:Al (At d)=true
theorem Co {d:Dsk}:BI d=true↔DskV d:=by
 unfold BI
 simp only [AW,decide_eq_true_eq]
 constructor
 ·rintro ⟨⟨⟨⟨⟨h1,h2⟩,h3⟩,h4⟩,h5⟩,h6,h7⟩
  obtain ⟨g1,g2,_⟩:=(Kf _ _ _).1 h4
  unfold Da at h5
  simp only [AW,decide_eq_true_eq,List.all_eq_true] at h5
  exact ⟨CF h1,h2,h3,g1,g2,fun n hn=>(Ea d n).1 (h5.1 n hn),h5.2,h6,h7⟩
 ·rintro ⟨h1,h2,h3,h4,h5,h6,h7,h8,h9⟩
  refine ⟨⟨⟨⟨⟨?_,h2⟩,h3⟩,(Kf _ _ _).2 ⟨h4,h5,by simp⟩⟩,?_⟩,h8,h9⟩
  ·unfold inR; rw [decide_eq_true h1.1,decide_eq_true h1.2]; rfl
  ·unfold Da
   simp only [AW,decide_eq_true_eq,List.all_eq_true]
   exact ⟨fun n hn=>(Ea d n).2 (h6 n hn),h7⟩
theorem DskV.lt {d:Dsk}(h:DskV d):∀ n∈d.list,1≤n∧n< d.next:=fun n hn=>by
 obtain ⟨f,hf,rfl⟩:=h.at_ n hn
 have:=h.file f hf
 omega
theorem Rw {d e:Dsk}(hn:e.names=d.names) (hl:e.list=d.list) (hp:∀ n∈d.list,BH e n=BH d n):At e=At d:=by
 unfold At
 rw [hn,hl,List.map_congr_left hp]
theorem DskV.files {d:Dsk}(h:DskV d){fs:List Fil}{nx:Int}(h1:1≤nx∧nx≤999) (h2:fs.length≤20) (h3:∀ f∈fs,1≤f.num∧f.num≤nx - 1∧Az f.part=true) (h4:fs.Pairwise (fun a b=>a.num< b.num)) (h5:∀ f∈d.files,f.num∈d.list→f∈fs) :
 DskV ⟨fs,d.list,d.names,nx⟩∧At ⟨fs,d.list,d.names,nx⟩=At d:=by
 have e:At ⟨fs,d.list,d.names,nx⟩=At d:=Rw rfl rfl (fun n hn=>by
  obtain ⟨f,hf,rfl⟩:=h.at_ n hn
  rw [(ED h.asc hf).1,(ED (d:=⟨fs,d.list,d.names,nx⟩) h4 (h5 f hf hn)).1])
 refine ⟨⟨h1,h2,h.nl,h3,h4,fun n hn=>?_,h.nd,h.nm,by rw [e]; exact h.so⟩,e⟩
 obtain ⟨f,hf,rfl⟩:=h.at_ n hn
 exact ⟨f,h5 f hf hn,rfl⟩
theorem DskV.add {d:Dsk}(h:DskV d){p:Prt}(hp:Az p=true) (h1:d.next< 999) (h2:d.files.length< 20):DskV ⟨d.files++[⟨d.next,p⟩],d.list,d.names,d.next+1⟩∧At ⟨d.files++[⟨d.next,p⟩],d.list,d.names,d.next+1⟩=At d:=by
 have hn:=h.next
 refine h.files AB (by simp; omega) (fun f hf=>?_) ?_ (fun f hf _=>List.mem_append.2 (.inl hf))
 ·rcases List.mem_append.1 hf with hf | hf
  ·have:=h.file f hf
   exact ⟨this.1,by omega,this.2.2⟩
  ·simp at hf
   subst hf
   exact ⟨hn.1,by simp,hp⟩
 ·rw [List.pairwise_append]
  refine ⟨h.asc,by simp,fun a ha b hb=>?_⟩
  simp at hb
  subst hb
  have:=h.file a ha
  show a.num< d.next
  omega
theorem DskV.gone {d:Dsk}(h:DskV d) (n:Int):DskV ⟨DY d n,d.list,d.names,d.next⟩∧At ⟨DY d n,d.list,d.names,d.next⟩=At d:=by
 refine h.files h.next (Nat.le_trans Jg h.nf) (fun f hf=>h.file f (F6 f hf)) ?_ (fun f hf hm=>?_)
 ·refine h.asc.sublist ?_
  unfold DY
  split
  ·have e:=List.take_append_drop (Av d n).toNat d.files
   conv=>rhs; rw [← e]
   refine List.Sublist.append (List.Sublist.refl _) ?_
   rw [← List.drop_drop]
   exact List.drop_sublist 1 _
  ·exact List.Sublist.refl _
 ·unfold DY
  split
  ·rename_i hc
   obtain ⟨k,g1,g2⟩:=N3 d.files 0 f h.asc hf
   have g3:Av d f.num=(k:Int):=by unfold Av; rw [g1]; simp
   by_cases hk:k< (Av d n).toNat
   ·refine List.mem_append.2 (.inl (List.mem_iff_getElem?.2 ⟨k,?_⟩))
    rw [List.getElem?_take,if_pos hk]
    exact g2
   ·by_cases hk2:k=(Av d n).toNat
    ·obtain ⟨y,hy1,hy2,_⟩:=(fun hh=>N2 d.files n 0 hh) hc.1
     have hy1':d.files[(Av d n).toNat]? = some y:=hy1
     rw [← hk2,g2] at hy1'
     cases hy1'
     rw [hy2] at hm
     have:=hc.2
     rw [List.contains_iff_mem.2 hm] at this
     cases this
    ·refine List.mem_append.2 (.inr (List.mem_iff_getElem?.2 ⟨k - ((Av d n).toNat+1),?_⟩))
     rw [List.getElem?_drop,show (Av d n).toNat+1+(k - ((Av d n).toNat+1))=k by omega]
     exact g2
  ·exact hf
theorem DskV.tidy {d:Dsk}(h:DskV d):DskV (BM d)∧At (BM d)=At d:=by
 refine h.files h.next (Nat.le_trans (List.length_filter_le _ _) h.nf) (fun f hf=>h.file f (List.mem_filter.1 hf).1) (h.asc.sublist List.filter_sublist) (fun f hf hm=>List.mem_filter.2 ⟨hf,?_⟩)
 simpa using hm
theorem Kg {d:Dsk}{st:List Stp}{c:Int}(h:c≤0):toD d st c=d:=by
 unfold toD
 rw [show c.toNat=0 by omega]
 rfl
theorem Cu {d:Dsk}{x:Stp}{st:List Stp}{c:Int}(h:1≤c):toD d (x::st) c=toD (doD d x) st (c - 1):=by
 unfold toD
 rw [show c.toNat=(c - 1).toNat+1 by omega]
 rfl
theorem I4 {d:Dsk}{c:Int}:toD d [] c=d:=by
 unfold toD
 simp
theorem QY {s:Sto}(h:s.idx=idxOf s.idx.names){ps:List Prt}{m:List Smp}:(⟨idxOf s.idx.names,ps,m⟩:Sto)=⟨s.idx,ps,m⟩:=by rw [← h]
structure FlD (d:Dsk) (s:Sto):Prop where
 v:DskV d
 sd:SD s
 k:Al s=true
 nb:nmB s.idx.names=true
 p:s.parts=d.list.map (BH d)
 m:s.mem≠[]
 l:d.list.length< 6
 n:d.next< 999
 f:d.files.length< 20
theorem ND {s:Sto}(h:SD s) (hk:Al s=true) (h1:s.mem≠[]) (h2:s.parts.length< 6):Az (BJ s.mem)=true:=by
 have h5:=Jb h hk h1 h2
 unfold Al at h5
 simp only [AW,decide_eq_true_eq,List.all_eq_true] at h5
 exact Dz (h5.1.1.2 (BJ s.mem) (by unfold DE; simp))
theorem FlD.to {d:Dsk}{s:Sto}(q:FlD d s) (c:Int):DskV (toD d (BD d s) c)∧At (toD d (BD d s) c)=if c< 2 then At d else DE s:=by
 have hpl:s.parts.length< 6:=by rw [q.p,List.length_map]; exact q.l
 have e:=D8 (d:=d) (s:=s) (by have:=q.m; rw [← List.length_pos_iff] at this; omega) (by have:=q.l; omega) (by have:=q.n; omega) (by have:=q.f; omega)
 rw [e]
 by_cases h0:c≤0
 ·rw [Kg h0,if_pos AB]
  exact ⟨q.v,rfl⟩
 ·have hp:=ND q.sd q.k q.m hpl
  obtain ⟨v1,o1⟩:=q.v.add hp q.n q.f
  rw [Cu AB,E6 rfl]
  by_cases h1:c≤1
  ·rw [Kg AB,if_pos AB]
   exact ⟨v1,o1⟩
  ·rw [Cu AB,Fs rfl,I4,if_neg AB]
   have hnew:BH ⟨d.files++[⟨d.next,BJ s.mem⟩],d.list++[d.next],s.idx.names,d.next+1⟩ d.next=BJ s.mem:=(ED (d:=⟨d.files++[⟨d.next,BJ s.mem⟩],d.list++[d.next],s.idx.names,d.next+1⟩) v1.asc (f:=⟨d.next,BJ s.mem⟩) AD).1
   have hold:∀ n∈d.list,BH ⟨d.files++[⟨d.next,BJ s.mem⟩],d.list++[d.next],s.idx.names,d.next+1⟩ n=BH d n:=fun n hn=>by
    obtain ⟨f,hf,rfl⟩:=q.v.at_ n hn
    rw [(ED q.v.asc hf).1,(ED (d:=⟨d.files++[⟨d.next,BJ s.mem⟩],d.list++[d.next],s.idx.names,d.next+1⟩) v1.asc (f:=f) (List.mem_append.2 (.inl hf))).1]
   have eo:At ⟨d.files++[⟨d.next,BJ s.mem⟩],d.list++[d.next],s.idx.names,d.next+1⟩=DE s:=by
    unfold At DE
    rw [QY q.sd.idx]
    simp only [List.map_append,List.map_cons,List.map_nil]
    rw [hnew,List.map_congr_left hold,q.p]
   refine ⟨⟨v1.next,v1.nf,by have:=q.l; simp; omega,v1.file,v1.asc,fun n hn=>?_,?_,q.nb,by rw [eo]; exact Jb q.sd q.k q.m hpl⟩,eo⟩
   ·rcases List.mem_append.1 hn with hn | hn
    ·exact v1.at_ n hn
    ·simp at hn
     exact ⟨⟨d.next,BJ s.mem⟩,by simp,hn.symm⟩
   ·rw [List.nodup_append]
    refine ⟨q.v.nd,by simp,fun a ha b hb=>?_⟩
    simp at hb
    subst hb
    have:=q.v.lt a ha
    omega
theorem FlD.of {d:Dsk}{s:Sto}(hs:SD s) (h:¬ ((An d s).length:Int)=0):FlD d s∧An d s=BD d s:=by
 cases hf:CW d s with
 | false=>rw [MJ hf] at h; exact absurd rfl h
 | true =>
   have q:=C0 hf
   have e:=Eg hf
   by_cases hc:s.mem.length=0∨d.list.length≥6∨d.next≥999∨d.files.length≥20
   ·have e2:BD d s=[]:=by unfold BD; rw [if_pos hc]
    rw [e,e2] at h; exact absurd rfl h
   ·exact ⟨⟨Co.1 q.dk,hs,q.sk,q.nm,q.p,fun e2=>hc (.inl (by rw [e2]; rfl)),by omega,by omega,by omega⟩,e⟩
structure MgD (d:Dsk) (a:Nat) (x y:Int):Prop where
 v:DskV d
 dd:DD d
 l:a+2≤d.list.length
 hx:d.list[a]? = some x
 hy:d.list[a+1]? = some y
 n:d.next< 999
 f:d.files.length< 20
 e:BF d a=[⟨1,d.next,BW (BH d x) (BH d y),[],[]⟩,⟨2,0,⟨[],[]⟩,d.list.take a++[d.next]++d.list.drop (a+2),d.names⟩,⟨3,x,⟨[],[]⟩,[],[]⟩,⟨3,y,⟨[],[]⟩,[],[]⟩]
theorem MgD.of {d:Dsk}{i:Int}(hd:DD d) (h:¬ ((Ao d i).length:Int)=0):∃ x y,MgD d i.toNat x y∧Ao d i=BF d i.toNat∧i=(i.toNat:Int):=by
 cases hk:BI d with
 | false=>rw [MK hk] at h; exact absurd rfl h
 | true =>
   rw [Dp hk] at h ⊢
   by_cases hc:(!(inR i 0 ((d.list.length:Int) - 2)) || decide (d.next≥999) || decide (d.files.length≥20))=true
   ·unfold BF at h
    rw [if_pos hc] at h
    exact absurd rfl h
   ·have hc2:=hc
    simp only [Bool.or_eq_true,not_or,Bool.not_eq_true,Bool.not_eq_false',decide_eq_true_eq] at hc2
    obtain ⟨⟨h1,h3⟩,h4⟩:=hc2
    have h0:=CF (by simpa using h1)
    have ei:i=(i.toNat:Int):=by omega
    have hx:=AU (l:=d.list) (i:=i.toNat) AB
    have hy:=AU (l:=d.list) (i:=i.toNat+1) AB
    refine ⟨_,_,⟨Co.1 hk,hd,by omega,hx,hy,by omega,by omega,?_⟩,by rw [← ei],ei⟩
    rw [← ei]
    unfold BF
    rw [if_neg hc]
    simp only [List.getD_eq_getElem?_getD,hx,hy,Option.getD_some]
section
variable {d:Dsk} {a:Nat} {x y:Int}
theorem MgD.list (q:MgD d a x y):d.list=d.list.take a++x::y::d.list.drop (a+2):=by
 have e:=List.take_append_drop a d.list
 rw [Ai q.hx,Ai q.hy] at e
 exact e.symm
theorem MgD.open (q:MgD d a x y):(At d).parts[a]? = some (BH d x)∧(At d).parts[a+1]? = some (BH d y)∧(At d).parts.length=d.list.length:=by
 unfold At
 simp only [List.getElem?_map,q.hx,q.hy,List.length_map]
 exact ⟨rfl,rfl,trivial⟩
theorem MgD.sd (q:MgD d a x y):SD (At d):=q.dd.sd (Co.2 q.v)
theorem MgD.part (q:MgD d a x y):Az (BW (BH d x) (BH d y))=true:=by
 have hl:a+2≤(At d).parts.length:=by rw [q.open.2.2]; exact q.l
 have h:=GL q.sd q.v.so hl
 obtain ⟨u,w,hu,hw,e⟩:=ET hl
 rw [q.open.1] at hu
 rw [q.open.2.1] at hw
 cases hu
 cases hw
 unfold Al at h
 simp only [AW,decide_eq_true_eq,List.all_eq_true] at h
 exact Dz (h.1.1.2 _ (by rw [e]; simp))
theorem MgD.mem (q:MgD d a x y):∀ n∈d.list.take a++[d.next]++d.list.drop (a+2),n∈d.list∧n≠x∧n≠y∨n=d.next:=fun n hn=>by
 have hnd:=q.v.nd
 rw [q.list] at hnd
 rw [List.nodup_append,List.nodup_cons,List.nodup_cons] at hnd
 obtain ⟨n1,⟨n2,n3,n4⟩,n5⟩:=hnd
 rcases List.mem_append.1 hn with hn | hn
 ·rcases List.mem_append.1 hn with hn | hn
  ·exact .inl ⟨List.mem_of_mem_take hn,n5 n hn x AD,n5 n hn y AD⟩
  ·simp at hn; exact .inr hn
 ·exact .inl ⟨List.mem_of_mem_drop hn,fun e=>n2 (by rw [← e]; simp [hn]),fun e=>n3 (by rw [← e]; exact hn)⟩
def mgD (d:Dsk) (a:Nat) (x y:Int):Dsk:=⟨d.files++[⟨d.next,BW (BH d x) (BH d y)⟩],d.list.take a++[d.next]++d.list.drop (a+2),d.names,d.next+1⟩
theorem MgD.v2 (q:MgD d a x y):DskV (mgD d a x y)∧At (mgD d a x y)=Cq (At d) a:=by
 obtain ⟨v1,o1⟩:=q.v.add q.part q.n q.f
 have hnew:BH (mgD d a x y) d.next=BW (BH d x) (BH d y):=(ED (d:=mgD d a x y) v1.asc (f:=⟨d.next,BW (BH d x) (BH d y)⟩) (by unfold mgD; simp)).1
 have hold:∀ n∈d.list,BH (mgD d a x y) n=BH d n:=fun n hn=>by
  obtain ⟨f,hf,rfl⟩:=q.v.at_ n hn
  rw [(ED q.v.asc hf).1,(ED (d:=mgD d a x y) v1.asc (f:=f) (List.mem_append.2 (.inl hf))).1]
 have hl:a+2≤(At d).parts.length:=by rw [q.open.2.2]; exact q.l
 have eo:At (mgD d a x y)=Cq (At d) a:=by
  obtain ⟨u,w,hu,hw,e⟩:=ET hl
  rw [q.open.1] at hu
  rw [q.open.2.1] at hw
  cases hu
  cases hw
  have h1:(At (mgD d a x y)).parts=(Cq (At d) a).parts:=by
   rw [e]
   show (d.list.take a++[d.next]++d.list.drop (a+2)).map (BH (mgD d a x y))=(d.list.map (BH d)).take a++[_]++(d.list.map (BH d)).drop (a+2)
   simp only [List.map_append,List.map_cons,List.map_nil]
   rw [hnew,List.map_congr_left (fun n hn=>hold n (List.mem_of_mem_take hn)),List.map_congr_left (l:=d.list.drop (a+2)) (fun n hn=>hold n (List.mem_of_mem_drop hn)),List.map_take,List.map_drop]
  show (⟨_,_,_⟩:Sto)=⟨_,_,_⟩
  have h2:(At (mgD d a x y)).parts=FM (At d).parts a:=h1
  unfold At at h2 ⊢
  simp only [] at h2 ⊢
  rw [h2]
  rfl
 refine ⟨⟨v1.next,v1.nf,?_,v1.file,v1.asc,fun n hn=>?_,?_,q.v.nm,by rw [eo]; exact GL q.sd q.v.so hl⟩,eo⟩
 ·have:=q.v.nl
  show (d.list.take a++[d.next]++d.list.drop (a+2)).length≤6
  simp only [List.length_append,List.length_take,List.length_drop,List.length_cons,List.length_nil]
  have:=q.l
  omega
 ·rcases q.mem n hn with hn | rfl
  ·exact v1.at_ n hn.1
  ·exact ⟨⟨d.next,BW (BH d x) (BH d y)⟩,by unfold mgD; simp,rfl⟩
 ·show (d.list.take a++[d.next]++d.list.drop (a+2)).Nodup
  have hnd:=q.v.nd
  rw [q.list] at hnd
  rw [List.nodup_append,List.nodup_cons,List.nodup_cons] at hnd
  obtain ⟨n1,⟨n2,n3,n4⟩,n5⟩:=hnd
  have hlt:=q.v.lt
  rw [List.append_assoc,List.nodup_append]
  refine ⟨n1,?_,fun u hu w hw=>?_⟩
  ·rw [List.singleton_append,List.nodup_cons]
   exact ⟨fun hm=>by have:=hlt _ (List.mem_of_mem_drop hm); omega,n4⟩
  ·have hu2:=hlt u (List.mem_of_mem_take hu)
   rcases List.mem_append.1 hw with hw | hw
   ·simp at hw; omega
   ·exact n5 u hu w (by simp [hw])
theorem MgD.to (q:MgD d a x y) (c:Int):DskV (toD d (BF d a) c)∧At (toD d (BF d a) c)=if c< 2 then At d else Cq (At d) a:=by
 rw [q.e]
 by_cases h0:c≤0
 ·rw [Kg h0,if_pos AB]
  exact ⟨q.v,rfl⟩
 ·obtain ⟨v1,o1⟩:=q.v.add q.part q.n q.f
  rw [Cu AB,E6 rfl]
  by_cases h1:c≤1
  ·rw [Kg AB,if_pos AB]
   exact ⟨v1,o1⟩
  ·obtain ⟨v2,o2⟩:=q.v2
   have e2:doD (⟨d.files++[⟨d.next,BW (BH d x) (BH d y)⟩],d.list,d.names,d.next+1⟩:Dsk) ⟨2,0,⟨[],[]⟩,d.list.take a++[d.next]++d.list.drop (a+2),d.names⟩=mgD d a x y:=Fs rfl
   rw [Cu AB,e2,if_neg AB]
   by_cases h2:c≤2
   ·rw [Kg AB]
    exact ⟨v2,o2⟩
   ·obtain ⟨v3,o3⟩:=v2.gone x
    rw [Cu AB,Ej rfl]
    by_cases h3:c≤3
    ·rw [Kg AB]
     exact ⟨v3,o3.trans o2⟩
    ·obtain ⟨v4,o4⟩:=v3.gone y
     rw [Cu AB,Ej rfl,I4]
     exact ⟨v4,(o4.trans o3).trans o2⟩
end
end Go.Proofs.YtggnnidleedpaaaGreat
namespace Go.Proofs.YtggnnidleedpaaaGreat
theorem QZ {d:Dsk}{st:List Stp}{c:Int}(h:DD d) (hw:BI d=true→StW d st):DD (Ar d st c):=by
 unfold Ar
 split
 ·rename_i hc
  exact TK c (hw hc.1)
 ·exact QF
theorem Qa {d:Dsk}{st:List Stp}{c:Int}(h:BI d=true) (h1:0≤c) (h2:BI (toD d st c)=true):Ar d st c=toD d st c:=SN h AB h2
section
variable {d:Dsk}
theorem Rx (h:DD d):DD (Br d):=by
 unfold Br
 split
 ·exact h.tidy
 ·exact QF
theorem Ry (h:BI d=true):BI (Br d)=true:=by
 rw [I3 h]
 exact Co.2 (Co.1 h).tidy.1
theorem Rz (h:BI d=true):CP (Br d)=CP d:=by
 rw [I2 h,I2 (Ry h),I3 h]
 exact (Co.1 h).tidy.2
end
theorem T8 {d:Dsk}{s:Sto}(hs:SD s) (h:¬ ((An d s).length:Int)=0){c:Int}(hc:0≤c):Ar d (An d s) c=toD d (BD d s) c∧BI (Ar d (An d s) c)=true:=by
 obtain ⟨q,e⟩:=FlD.of hs h
 have o:=Co.2 (q.to c).1
 rw [e,Qa (Co.2 q.v) hc o]
 exact ⟨rfl,o⟩
section
variable {d:Dsk} {i:Int}
theorem T9 (hd:DD d) (h:¬ ((Ao d i).length:Int)=0){c:Int}(hc:0≤c):Ar d (Ao d i) c=toD d (BF d i.toNat) c∧BI (Ar d (Ao d i) c)=true:=by
 obtain ⟨x,y,q,e,_⟩:=MgD.of hd h
 have o:=Co.2 (q.to c).1
 rw [e,Qa (Co.2 q.v) hc o]
 exact ⟨rfl,o⟩
end
end Go.Proofs.YtggnnidleedpaaaGreat
namespace Go.Proofs.YtggnnidleedpaaaGreat
structure WV (w:Wld):Prop where
 wd:WD w
 v:DskV w.disk
 k:Al w.store=true
 p:w.store.parts=w.disk.list.map (BH w.disk)
 m:w.disk.names=w.store.idx.names.take w.disk.names.length
 tf:∀ f∈w.disk.files,f.num∈w.disk.list
theorem WV.sd {w:Wld}(h:WV w):SD w.store:=h.wd.sd
theorem WV.dd {w:Wld}(h:WV w):DD w.disk:=h.wd.dd
theorem WV.dk {w:Wld}(h:WV w):BI w.disk=true:=Co.2 h.v
theorem WV.nb {w:Wld}(h:WV w):nmB w.store.idx.names=true:=Dk.2 h.wd.wi.sto.nm
theorem WV.fits {w:Wld}(h:WV w):CW w.disk w.store=true:=(MH h.dk (by rw [h.nb,h.k]; rfl) h.p h.m).symm
def DA:Wld:=⟨⟨⟨[],[]⟩,[],[]⟩,⟨[],[],[],1⟩⟩
theorem WV.new:WV DA:=⟨WD.new,⟨by simp [DA],by simp [DA],by simp [DA],by simp [DA],by simp [DA],by simp [DA],by simp [DA],by decide,by decide⟩,by decide,rfl,rfl,by simp [DA]⟩
theorem N4 {w:Wld}(hd:DD w.disk) (hv:DskV w.disk):BE w=⟨At w.disk,BM w.disk⟩:=by
 obtain ⟨v,e⟩:=hv.tidy
 have hk:=Co.2 v
 have e1:=hd.tidy.SJ hk
 have e2:=(hd.tidy.sd hk).copy
 unfold BE
 rw [e1,e2,e]
theorem NE {d e:Dsk}(h:At d=At e):d.list.map (BH d)=e.list.map (BH e):=congrArg Sto.parts h
theorem WV.NF {s:Sto}{d:Dsk}(hd:DD d) (hv:DskV d) (hw:WD (BE ⟨s,d⟩)):WV (BE ⟨s,d⟩):=by
 have e:=N4 (w:=⟨s,d⟩) hd hv
 rw [e] at hw ⊢
 obtain ⟨v,eo⟩:=hv.tidy
 refine ⟨hw,v,hv.so,(NE eo).symm,?_,fun f hf=>?_⟩
 ·show d.names=d.names.take d.names.length
  rw [List.take_length]
 ·have:=(List.mem_filter.1 hf).2
  show f.num∈d.list
  simpa using this
theorem Qb (x:Idx) (n:List Tag):∃ l,(Bu x n).1.names=x.names++l:=by
 unfold Bu
 split
 ·exact ⟨[],by simp⟩
 ·split
  ·exact ⟨[],by simp⟩
  ·exact ⟨[n],rfl⟩
theorem Qc {α:Type}{a l m:List α}(h:a=l.take a.length):a=(l++m).take a.length:=by
 have hl:a.length≤l.length:=by
  have:=congrArg List.length h
  rw [List.length_take] at this
  omega
 rw [List.take_append_of_le_length hl]
 exact h
theorem WV.add {w:Wld}(h:WV w){n:List Tag}{r:Row}(hw:WD ⟨(CI w.store n r).1,w.disk⟩):WV ⟨(CI w.store n r).1,w.disk⟩:=by
 cases hb:(CI w.store n r).2 with
 | false =>
   have e:(CI w.store n r).1=w.store:=by
    unfold CI at hb ⊢
    split at hb
    ·rename_i hc; rw [if_pos hc]
    ·rename_i hc
     rw [if_neg hc]
     split at hb
     ·rename_i hc2; rw [if_pos hc2]
     ·cases hb
   rw [e] at hw ⊢
   exact h
 | true =>
   obtain ⟨a1,a2,a3,a4,e⟩:=Rb hb
   rw [e] at hw ⊢
   obtain ⟨l,hl⟩:=Qb w.store.idx n
   refine ⟨hw,h.v,Rc h.sd h.k a1 a2 a3 a4,h.p,?_,h.tf⟩
   show w.disk.names=(Bu w.store.idx n).1.names.take w.disk.names.length
   rw [hl]
   exact Qc h.m
theorem Jh {d:Dsk}{s:Sto}(q:FlD d s){c:Int}(hc:¬ c< 2):BD d s=[⟨1,d.next,BJ s.mem,[],[]⟩,⟨2,0,⟨[],[]⟩,d.list++[d.next],s.idx.names⟩]∧toD d (BD d s) c=⟨d.files++[⟨d.next,BJ s.mem⟩],d.list++[d.next],s.idx.names,d.next+1⟩:=by
 have e:=D8 (d:=d) (s:=s) (by have:=q.m; rw [← List.length_pos_iff] at this; omega) (by have:=q.l; omega) (by have:=q.n; omega) (by have:=q.f; omega)
 refine ⟨e,?_⟩
 rw [e,Cu AB,E6 rfl,Cu AB,Fs rfl,I4]
theorem MN {d:Dsk}{s:Sto}(q:FlD d s):((BD d s).length:Int)=2:=by rw [(Jh q (c:=2) AB).1]; rfl
theorem Ji {s:Sto}(h:SD s) (hk:Al s=true) (hm:s.mem≠[]) (hl:s.parts.length< 6):(As s).1=DE s∧(Bv s).1=DE s:=by
 rw [← List.length_pos_iff] at hm
 have f1:=HM h hk AB AB
 have f2:(Bv s).2=true:=by rw [f1]
 have f3:=(Oj h f2).1
 refine ⟨?_,f3⟩
 have f4:Bv s=As s:=by rw [Gt hk,h.copy]
 rw [← f4]
 exact f3
theorem WV.fl {w:Wld}(h:WV w) (hn:BD w.disk w.store≠[]):FlD w.disk w.store:=by
 by_cases hc:w.store.mem.length=0∨w.disk.list.length≥6∨w.disk.next≥999∨w.disk.files.length≥20
 ·exact absurd (by unfold BD; rw [if_pos hc]) hn
 ·exact ⟨h.v,h.sd,h.k,h.nb,h.p,fun e=>hc (.inl (by rw [e]; rfl)),by omega,by omega,by omega⟩
theorem FlD.parts {d:Dsk}{s:Sto}(q:FlD d s):s.parts.length< 6:=by rw [q.p,List.length_map]; exact q.l
theorem WV.R0 {w:Wld}(h:WV w) (q:FlD w.disk w.store){c:Int}(hc:¬ c< 2) (hw:WD ⟨DE w.store,toD w.disk (BD w.disk w.store) c⟩):WV ⟨DE w.store,toD w.disk (BD w.disk w.store) c⟩:=by
 obtain ⟨v,o⟩:=q.to c
 rw [if_neg hc] at o
 have e:=(Jh q hc).2
 refine ⟨hw,v,Jb q.sd q.k q.m q.parts,?_,?_,fun f hf=>?_⟩
 ·exact (congrArg Sto.parts o).symm
 ·have:(toD w.disk (BD w.disk w.store) c).names=w.store.idx.names:=congrArg (fun s=>s.idx.names) o
  show (toD w.disk (BD w.disk w.store) c).names=w.store.idx.names.take (toD w.disk (BD w.disk w.store) c).names.length
  rw [this,List.take_length]
 ·have hf2:f∈(toD w.disk (BD w.disk w.store) c).files:=hf
  show f.num∈(toD w.disk (BD w.disk w.store) c).list
  rw [e] at hf2 ⊢
  rcases List.mem_append.1 hf2 with hf2 | hf2
  ·exact List.mem_append.2 (.inl (h.tf f hf2))
  ·simp at hf2
   subst hf2
   simp
theorem N5 {fs:List Fil}(h:fs.Pairwise (fun a b=>a.num< b.num)){i j:Nat}{a b:Fil}(ha:fs[i]? = some a) (hb:fs[j]? = some b) (e:a.num=b.num):i=j:=by
 rw [List.pairwise_iff_getElem] at h
 obtain ⟨h1,h2⟩:=List.getElem?_eq_some_iff.1 ha
 obtain ⟨h3,h4⟩:=List.getElem?_eq_some_iff.1 hb
 rcases Nat.lt_trichotomy i j with hij | hij | hij
 ·have:=h i j h1 h3 hij; rw [h2,h4] at this; omega
 ·exact hij
 ·have:=h j i h3 h1 hij; rw [h2,h4] at this; omega
theorem N6 {d:Dsk}(h:DskV d){n:Int}(hn:n∉d.list){f:Fil}(hf:f∈DY d n):f.num≠n:=fun e=>by
 have hm:=F6 f hf
 have h1:0≤Av d n:=(Ea d n).2 ⟨f,hm,e⟩
 have h3:d.list.contains n=false:=by
  cases hc:d.list.contains n with
  | false=>rfl
  | true=>exact absurd (List.contains_iff_mem.1 hc) hn
 rw [Ml h1 h3] at hf
 obtain ⟨y,hy1,hy2,_⟩:=(fun hh=>N2 d.files n 0 hh) h1
 have hy1':d.files[(Av d n).toNat]? = some y:=hy1
 rcases List.mem_append.1 hf with hf | hf
 ·obtain ⟨j,hj⟩:=List.mem_iff_getElem?.1 hf
  rw [List.getElem?_take] at hj
  split at hj
  ·have:=N5 h.asc hj hy1' (e.trans hy2.symm); omega
  ·cases hj
 ·obtain ⟨j,hj⟩:=List.mem_iff_getElem?.1 hf
  rw [List.getElem?_drop] at hj
  have:=N5 h.asc hj hy1' (e.trans hy2.symm)
  omega
theorem WV.mg {w:Wld}(h:WV w){i:Int}(hn:BF w.disk i≠[]):∃ x y,MgD w.disk i.toNat x y∧i=(i.toNat:Int)∧BF w.disk i=BF w.disk i.toNat∧Ao w.disk i=BF w.disk i:=by
 have e:=Dp (a:=i) h.dk
 have h0:¬ ((Ao w.disk i).length:Int)=0:=by
  rw [e]
  intro h0
  exact hn (List.length_eq_zero_iff.1 AB)
 obtain ⟨x,y,q,e2,i0⟩:=MgD.of h.dd h0
 exact ⟨x,y,q,i0,by rw [← e,e2],e⟩
theorem Qd {s:Sto}{a:Nat}(hl:a+2≤s.parts.length):Au s (a:Int)=(Cq s a,true):=by
 unfold Au Cq
 rw [if_pos (by unfold inR; simp; omega)]
 simp
theorem NG {d:Dsk}{a:Nat}{x y:Int}(q:MgD d a x y){c:Int}(hc:¬ c< 4):toD d (BF d a) c=⟨DY ⟨DY (mgD d a x y) x,(mgD d a x y).list,(mgD d a x y).names,(mgD d a x y).next⟩ y,(mgD d a x y).list,(mgD d a x y).names,(mgD d a x y).next⟩:=by
 have e2:doD (⟨d.files++[⟨d.next,BW (BH d x) (BH d y)⟩],d.list,d.names,d.next+1⟩:Dsk) ⟨2,0,⟨[],[]⟩,d.list.take a++[d.next]++d.list.drop (a+2),d.names⟩=mgD d a x y:=Fs rfl
 rw [q.e,Cu AB,E6 rfl,Cu AB,e2,Cu AB,Ej rfl,Cu AB,Ej rfl,I4]
theorem MO {d:Dsk}{a:Nat}{x y:Int}(q:MgD d a x y):((BF d a).length:Int)=4:=by rw [q.e]; rfl
theorem WV.open {w:Wld}(h:WV w):(At w.disk).parts=w.store.parts:=h.p.symm
theorem WV.R1 {w:Wld}(h:WV w){a:Nat}{x y:Int}(q:MgD w.disk a x y){c:Int}(hc:¬ c< 4) (hw:WD ⟨Cq w.store a,toD w.disk (BF w.disk a) c⟩):WV ⟨Cq w.store a,toD w.disk (BF w.disk a) c⟩:=by
 obtain ⟨v,o⟩:=q.to c
 rw [if_neg AB] at o
 have e:=NG q hc
 have hl:a+2≤w.store.parts.length:=by rw [← h.open,q.open.2.2]; exact q.l
 refine ⟨hw,v,GL h.sd h.k hl,?_,?_,fun f hf=>?_⟩
 ·have:=congrArg Sto.parts o
  have e3:(Cq (At w.disk) a).parts=(Cq w.store a).parts:=by show FM (At w.disk).parts a=FM w.store.parts a; rw [h.open]
  rw [e3] at this
  exact this.symm
 ·have:(toD w.disk (BF w.disk a) c).names=w.disk.names:=congrArg (fun s=>s.idx.names) o
  show (toD w.disk (BF w.disk a) c).names=w.store.idx.names.take (toD w.disk (BF w.disk a) c).names.length
  rw [this]
  exact h.m
 ·have hf2:f∈(toD w.disk (BF w.disk a) c).files:=hf
  show f.num∈(toD w.disk (BF w.disk a) c).list
  rw [e] at hf2 ⊢
  obtain ⟨v2,_⟩:=q.v2
  obtain ⟨v3,_⟩:=v2.gone x
  have hnd:=q.v.nd
  rw [q.list] at hnd
  rw [List.nodup_append,List.nodup_cons,List.nodup_cons] at hnd
  have mx:x∉(mgD w.disk a x y).list:=fun hm=>by
   rcases q.mem x hm with hm | hm
   ·exact hm.2.1 rfl
   ·have:=q.v.lt x (AV q.hx); omega
  have my:y∉(mgD w.disk a x y).list:=fun hm=>by
   rcases q.mem y hm with hm | hm
   ·exact hm.2.2 rfl
   ·have:=q.v.lt y (AV q.hy); omega
  have ny:=N6 v3 my hf2
  have hf3:=F6 f hf2
  have nx:=N6 v2 mx hf3
  have hf4:=F6 f hf3
  rcases List.mem_append.1 hf4 with hf5 | hf5
  ·have hm:=h.tf f hf5
   rw [q.list] at hm
   show f.num∈w.disk.list.take a++[w.disk.next]++w.disk.list.drop (a+2)
   simp only [List.mem_append,List.mem_cons,List.not_mem_nil,or_false] at hm ⊢
   rcases hm with hm | hm | hm | hm
   ·exact .inl (.inl hm)
   ·exact absurd hm nx
   ·exact absurd hm ny
   ·exact .inr hm
  ·simp at hf5
   subst hf5
   show w.disk.next∈w.disk.list.take a++[w.disk.next]++w.disk.list.drop (a+2)
   simp
theorem Qe {w:Wld}(h:WV w) (q:FlD w.disk w.store) (c:Int):DD (toD w.disk (BD w.disk w.store) c):=by
 have e:An w.disk w.store=BD w.disk w.store:=Eg h.fits
 have:=(H7 h.dd h.sd).1
 rw [e] at this
 exact this.ok c.toNat
theorem Qf {w:Wld}(h:WV w) (i:Int) (c:Int):DD (toD w.disk (BF w.disk i) c):=by
 have:=(H8 h.dd i).1
 rw [Dp h.dk] at this
 exact this.ok c.toNat
theorem WV.do {w:Wld}(h:WV w){e:Evt}(he:NmD e.name):WV (doW w e):=by
 have hw:=h.wd.do he
 by_cases k1:e.kind=1
 ·cases hn:BC e.name with
  | false=>rw [K7 k1 hn]; exact h
  | true=>rw [Lj k1 hn] at hw ⊢; exact h.add hw
 ·by_cases k2:e.kind=2
  ·rw [KJ k2] at hw ⊢
   by_cases hs:((BD w.disk w.store).length:Int)=0∨e.cut< 0
   ·rw [D9 hs]; exact h
   ·have q:=h.fl (fun e0=>hs (.inl (by rw [e0]; rfl)))
    by_cases hc:e.cut< (BD w.disk w.store).length
    ·rw [Eb (fun e0=>hs (.inl e0)) (fun e0=>hs (.inr e0)) hc] at hw ⊢
     exact WV.NF (Qe h q _) (q.to _).1 hw
    ·rw [Ec (fun e0=>hs (.inl e0)) (fun e0=>hs (.inr e0)) hc,(Ji h.sd h.k q.m q.parts).1] at hw ⊢
     exact h.R0 q (by rw [MN q] at hc; exact hc) hw
  ·by_cases k3:e.kind=3
   ·rw [KK k3] at hw ⊢
    by_cases hs:((BF w.disk e.at_).length:Int)=0∨e.cut< 0
    ·rw [D9 hs]; exact h
    ·obtain ⟨x,y,q,i0,e3,_⟩:=h.mg (i:=e.at_) (fun e0=>hs (.inl (by rw [e0]; rfl)))
     have hl:e.at_.toNat+2≤w.store.parts.length:=by rw [← h.open,q.open.2.2]; exact q.l
     by_cases hc:e.cut< (BF w.disk e.at_).length
     ·rw [Eb (fun e0=>hs (.inl e0)) (fun e0=>hs (.inr e0)) hc] at hw ⊢
      exact WV.NF (Qf h _ _) (by rw [e3]; exact (q.to _).1) hw
     ·have em:(Au w.store e.at_).1=Cq w.store e.at_.toNat:=by
       have:=Qd hl
       rw [← i0] at this
       rw [this]
      rw [Ec (fun e0=>hs (.inl e0)) (fun e0=>hs (.inr e0)) hc,em,e3] at hw ⊢
      exact h.R1 q (by rw [e3,MO q] at hc; exact hc) hw
   ·by_cases k4:e.kind=4
    ·rw [Na k4] at hw ⊢
     exact WV.NF (s:=w.store) h.dd h.v hw
    ·rw [Nc k1 k2 k3 k4]; exact h
theorem WV.copy {w:Wld}(h:WV w):Cd w=w:=by
 unfold Cd
 rw [h.sd.copy,h.dd.SJ h.dk]
def Gg (es:List Evt):Wld:=es.foldl doW DA
def UA:Wld:=⟨⟨⟨[],[]⟩,[],[]⟩,⟨[],[],[],0⟩⟩
def Ac (es:List Evt):Wld × Bool:=if es.length≤50 then (Gg es,true) else (UA,false)
def EsD (es:List Evt):Prop:=∀ e∈es,EvD e
theorem WV.foldl:∀ (es:List Evt) (w:Wld),WV w→EsD es→WV (es.foldl doW w):=by
 intro es
 induction es with
 | nil=>intro w h _; exact h
 | cons e es ih=>intro w h he; exact ih _ (h.do (he e AD).1) (fun x hx=>he x (by simp [hx]))
theorem WV.UB {es:List Evt}(h:EsD es):WV (Gg es):=WV.foldl es _ WV.new h
theorem ID {es:List Evt}(h:¬ (es.length:Int) > 50):Ac es=(Gg es,true):=by unfold Ac; rw [if_pos AB]
theorem Jj {es:List Evt}(h:(es.length:Int) > 50):Ac es=(UA,false):=by unfold Ac; rw [if_neg AB]
theorem MP {es:List Evt}{k:Nat}{w Y:Wld}{e:Evt}(h:(es.drop k).foldl doW w=Y) (hd:es.drop k=e::es.drop (k+1)):(es.drop (k+1)).foldl doW (doW w e)=Y:=by
 rw [hd] at h
 exact h
theorem N7 {es:List Evt}{k:Nat}{w Y:Wld}(h:(es.drop k).foldl doW w=Y) (hk:es.length≤k):w=Y:=by
 rw [Ab hk] at h
 exact h
theorem EsD.nil:EsD []:=fun e h=>by cases h
theorem EsD.snoc {es:List Evt}{e:Evt}(h:EsD es) (he:EvD e):EsD (es++[e]):=fun x hx=>by
 rcases List.mem_append.1 hx with hx | hx
 ·exact h x hx
 ·simp at hx; subst hx; exact he
theorem TR {a b:Wld}(h:(a.store==b.store)=false):false=(a==b):=(beq_eq_false_iff_ne.2 (fun e=>by subst e; simp at h)).symm
theorem TS {a b:Wld}(h:(a.store==b.store)=true):(a.disk==b.disk)=(a==b):=by
 have h:=eq_of_beq h
 cases a with
 | mk s d =>
   cases b with
   | mk s' d' =>
     simp only at h
     subst h
     by_cases e:d=d'
     ·subst e; simp
     ·rw [beq_eq_false_iff_ne.2 (fun e2:d=d'=>e e2),beq_eq_false_iff_ne.2 (fun e2:(⟨s,d⟩:Wld)=⟨s,d'⟩=>e (congrArg Wld.disk e2))]
section
variable {w:Wld} {e:Evt}
theorem TT (hd:DD w.disk) (hk:BI w.disk=true):BE w=⟨CP (Br w.disk),Br w.disk⟩:=by
 rw [N4 hd (Co.1 hk),Rz hk,I2 hk,I3 hk]
theorem UZ (h:e.kind=4):doW w e=BE w:=Na h
theorem Qg (h:WV w) (hn:BC e.name=true):Bd w.store e.name e.row=CI w.store e.name e.row:=by
 unfold Bd
 rw [if_pos ⟨h.k,hn⟩,h.sd.copy]
theorem do_1 (h:WV w) (h1:e.kind=1) (h2:(Bd w.store e.name e.row).2=true):doW w e=⟨(Bd w.store e.name e.row).1,w.disk⟩:=by
 have hn:=(Ra h2).2.1
 rw [Lj h1 hn,Qg h hn]
theorem SP (h:WV w) (h1:e.kind=1) (h2:(Bd w.store e.name e.row).2=false):doW w e=w:=by
 cases hn:BC e.name with
 | false=>exact K7 h1 hn
 | true =>
   rw [Lj h1 hn]
   rw [Qg h hn] at h2
   have e2:(CI w.store e.name e.row).1=w.store:=by
    unfold CI at h2 ⊢
    split at h2
    ·rename_i hc; rw [if_pos hc]
    ·rename_i hc
     rw [if_neg hc]
     split at h2
     ·rename_i hc2; rw [if_pos hc2]
     ·cases h2
   rw [e2]
theorem SQ (h:WV w) (h1:e.kind=2) (h2:((An w.disk w.store).length:Int)=0∨e.cut< 0):doW w e=w:=by
 rw [KJ h1]
 rw [Eg h.fits] at h2
 exact D9 h2
theorem LN (h:WV w) (h2:¬ ((An w.disk w.store).length:Int)=0) (h3:¬ e.cut< 0):Ar w.disk (An w.disk w.store) e.cut=toD w.disk (BD w.disk w.store) e.cut∧DD (Ar w.disk (An w.disk w.store) e.cut)∧BI (Ar w.disk (An w.disk w.store) e.cut)=true:=by
 obtain ⟨e1,o⟩:=T8 h.sd h2 (by omega:0≤e.cut)
 exact ⟨e1,QZ h.dd (fun _=>(H7 h.dd h.sd).1),o⟩
theorem UC (h:WV w) (h1:e.kind=2) (h2:¬ ((An w.disk w.store).length:Int)=0) (h3:¬ e.cut< 0) (h4:e.cut< (An w.disk w.store).length):doW w e=BE ⟨w.store,Ar w.disk (An w.disk w.store) e.cut⟩:=by
 rw [(LN h h2 h3).1,KJ h1]
 rw [Eg h.fits] at h2 h4
 exact Eb h2 h3 h4
theorem UD (h:WV w) (h1:e.kind=2) (h2:¬ ((An w.disk w.store).length:Int)=0) (h3:¬ e.cut< 0) (h4:¬ e.cut< (An w.disk w.store).length):doW w e=⟨(Bv w.store).1,Ar w.disk (An w.disk w.store) e.cut⟩:=by
 rw [(LN h h2 h3).1,KJ h1]
 have h20:=h2
 rw [Eg h.fits] at h2 h4
 have q:=h.fl (fun e0=>h2 (by rw [e0]; rfl))
 rw [Ec h2 h3 h4,(Ji h.sd h.k q.m q.parts).1,(Ji h.sd h.k q.m q.parts).2]
theorem SR (h:WV w) (h1:e.kind=3) (h2:((Ao w.disk e.at_).length:Int)=0∨e.cut< 0):doW w e=w:=by
 rw [KK h1]
 rw [Dp h.dk] at h2
 exact D9 h2
theorem LO (h:WV w) (h2:¬ ((Ao w.disk e.at_).length:Int)=0) (h3:¬ e.cut< 0):Ar w.disk (Ao w.disk e.at_) e.cut=toD w.disk (BF w.disk e.at_) e.cut∧DD (Ar w.disk (Ao w.disk e.at_) e.cut)∧BI (Ar w.disk (Ao w.disk e.at_) e.cut)=true:=by
 obtain ⟨e1,o⟩:=T9 h.dd h2 (by omega:0≤e.cut)
 obtain ⟨x,y,q,e2,i0⟩:=MgD.of h.dd h2
 refine ⟨?_,QZ h.dd (fun _=>(H8 h.dd _).1),o⟩
 rw [e1,← e2,Dp h.dk]
theorem UE (h:WV w) (h1:e.kind=3) (h2:¬ ((Ao w.disk e.at_).length:Int)=0) (h3:¬ e.cut< 0) (h4:e.cut< (Ao w.disk e.at_).length):doW w e=BE ⟨w.store,Ar w.disk (Ao w.disk e.at_) e.cut⟩:=by
 rw [(LO h h2 h3).1,KK h1]
 rw [Dp h.dk] at h2 h4
 exact Eb h2 h3 h4
theorem UF (h:WV w) (h1:e.kind=3) (h2:¬ ((Ao w.disk e.at_).length:Int)=0) (h3:¬ e.cut< 0) (h4:¬ e.cut< (Ao w.disk e.at_).length):doW w e=⟨(Ba w.store e.at_).1,Ar w.disk (Ao w.disk e.at_) e.cut⟩:=by
 rw [(LO h h2 h3).1,KK h1]
 rw [Dp h.dk] at h2 h4
 have em:Ba w.store e.at_=Au w.store e.at_:=by rw [FO h.k,h.sd.copy]
 rw [Ec h2 h3 h4,em]
end
end Go.Proofs.YtggnnidleedpaaaGreat
