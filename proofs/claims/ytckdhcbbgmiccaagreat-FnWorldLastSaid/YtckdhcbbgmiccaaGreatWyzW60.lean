/- walks; pruned haves; hints pruned; squeezed -/
import Derived.Test.YtckdhcbbgmiccaaGreatWyzMod42
open Go.Proofs.Tryz
set_option linter.unusedVariables false
set_option linter.unusedSimpArgs false
namespace Go.Proofs.YtckdhcbbgmiccaaGreat
set_option maxRecDepth 100000
set_option maxHeartbeats 4000000
variable {w:World} {F:Nat→Prop} {a1 a2 a3 a4:Option Addr} {n1 c1 n2 c2 n3 c3 n4 c4:Nat}
theorem JL (d:Dsk) (s:Stp){bx rb0:Nat}{nb0 cb0:Nat}(hob0:Own w rb0 110 (nin F [bx,rb0]) nb0 cb0 d.files){ab1:Option Addr}{nb1 cb1:Nat}(hrb1:RepS w (nin F [bx,rb0]) ab1 nb1 cb1 d.list){ab2:Option Addr}{nb2 cb2:Nat}(hrb2:RepS w (nin F [bx,rb0]) ab2 nb2 cb2 d.names) (hbx:Box w bx 36 [.slice (some ⟨rb0,0,none⟩) nb0 cb0,.slice ab1 nb1 cb1,.slice ab2 nb2 cb2,.int .i64 d.next]) (hnb0:Nb rb0 bx) (h1:RepS w (nin F [bx,rb0]) a1 n1 c1 s.part.ids) (h2:RepS w (nin F [bx,rb0]) a2 n2 c2 s.part.blocks) (h3:RepS w (nin F [bx,rb0]) a3 n3 c3 s.list) (h4:RepS w (nin F [bx,rb0]) a4 n4 c4 s.names) (p0:d.files.length≤1000) (p1:JR s) (p2:Cs s.part):Calls Tryz.prog 65 [.pointer (some ⟨bx,0,none⟩),.agg #[.int .i64 s.kind,.int .i64 s.num,.slice a1 n1 c1,.slice a2 n2 c2,.slice a3 n3 c3,.slice a4 n4 c4]].toArray w (Al fun rv w'=>(rv=.tuple #[]∧(∃ (ro0 no0 co0:Nat) (ao1:Option Addr) (no1 co1:Nat) (ao2:Option Addr) (no2 co2:Nat),Box w' bx 36 [.slice (some ⟨ro0,0,none⟩) no0 co0,.slice ao1 no1 co1,.slice ao2 no2 co2,.int .i64 (((doD d s)).next)]∧Own w' ro0 110 (nin (fo F w.heap.size) [bx,ro0]) no0 co0 (((doD d s)).files)∧OrB ro0 rb0 w.heap.size∧Nb ro0 bx∧RepS w' (nin (fo F w.heap.size) [bx,ro0]) ao1 no1 co1 (((doD d s)).list)∧RepS w' (nin (fo F w.heap.size) [bx,ro0]) ao2 no2 co2 (((doD d s)).names)))∧Chg (ins [bx,rb0]) w w'):=by
 refine goT func65 ?_
 have hcv_bx:Cov (ins [bx,rb0]) w bx:=Cov.mkI AI
 have hcv_rb0:Cov (ins [bx,rb0]) w rb0:=Cov.mkI AJ
 replace hob0:=hob0.base (G':=fo F w.heap.size) (fun _ _ h=>.inl h)
 have cR:=hob0.len
 obtain rfl:=hrb1.len
 replace hrb1:=hrb1.IY (s:=w.heap.size)
 obtain rfl:=hrb2.len
 replace hrb2:=hrb2.IY (s:=w.heap.size)
 obtain rfl:=h1.len
 replace h1:=h1.IY (s:=w.heap.size)
 obtain rfl:=h2.len
 replace h2:=h2.IY (s:=w.heap.size)
 obtain rfl:=h3.len
 replace h3:=h3.IY (s:=w.heap.size)
 have cX:=h3.max
 obtain rfl:=h4.len
 replace h4:=h4.IY (s:=w.heap.size)
 have cY:=h4.max
 refine .s<|.g<|.np 115 [vI s.kind,vI s.num,.slice a1 s.part.ids.length c1,.slice a2 s.part.blocks.length c2,.slice a3 s.list.length c3,.slice a4 s.names.length c4] fun ab aG aE aI aa cj=>?_
 have bu:=Ab aE hob0.lt
 have cZ:=Ab aE hbx.lt
 replace ⟨hob0,hrb1,hrb2,hbx,h1,h2,h3,h4⟩:=(sn [bx,rb0] aI aE).g8 hob0 hrb1 hrb2 hbx h1 h2 h3 h4
 have E:Chg (ins [bx,rb0]) w aG:=Chg.GW (Chg.refl (ins [bx,rb0]) w) aI
 refine .d<|.s<|.g<|.r 1<|.lb aa<|.d<|.b 0<|.s<|.g<|.eq s.kind 1 (fun ck=>?_) (fun ck=>?_)
 ·refine .r 1<|.d<|.ct<|.s ?_
  replace hrb1:=hrb1.Cl
  replace hrb2:=hrb2.Cl
  replace h1:=h1.Cl
  replace h2:=h2.Cl
  replace h3:=h3.Cl
  replace h4:=h4.Cl
  have bD:Cov (mtb [rb0] aG.heap.size) aG rb0:=⟨.inl (.inl AI)⟩
  have bE:Gb (bx+1) aG.heap.size:=hbx.lt
  have aJ:Gb (ab+1) aG.heap.size:=aa.lt
  refine .gd (mtb [rb0] aG.heap.size) 13 fun c7 aK=>?_
  replace ⟨hob0,hrb1,hrb2,hbx,h1,h2,h3,h4,aa,E⟩:=(se [ab,bx,rb0] aK).g10 hob0 hrb1 hrb2 hbx h1 h2 h3 h4 aa E
  refine .r [0,1,2,3]<|.lb 4 hbx (Cy (all_cons (Nb.symm hnb0) all_nil) bE)<|.r [5]<|.lb 6 aa (Cy (all_cons bu all_nil) aJ)<|.r [7]<|.ln 8 aa (Cy (all_cons bu all_nil) aJ)<|.go 9<|.cl (fun aL ay=>Ar s.part (h1.ta.ext ay) (h2.ta.ext ay) p2 (w:=aL) (F:=all)) ?_
  intro aL ay
  replace ⟨hob0,hrb1,hrb2,hbx,h3,h4,aa,E⟩:=(se [ab,bx,rb0] ay).g8 hob0 hrb1 hrb2 hbx h3 h4 aa E
  rintro c8 da ⟨⟨_,rfl,⟨cm,db,co,cp,de,cq,rfl,ag,ah⟩⟩,aA⟩
  have aB:=al3 aa.lt hbx.lt hob0.lt
  have aM:Gb w.heap.size aL.heap.size:=E.size
  have hkeep_:=aA
  replace ⟨hob0,hrb1,hrb2,hbx,h3,h4,aa,E⟩:=(se [ab,bx,rb0] aA).g8 hob0 hrb1 hrb2 hbx h3 h4 aa E
  refine ⟨Ext.chg hkeep_,?_⟩
  have ag:=ag.fr aB aM
  replace ag:=ag.base (G':=fo F w.heap.size) (fun _ _ h=>.inr h)
  have cy:=ag.max
  have ah:=ah.fr aB aM
  replace ah:=ah.base (G':=fo F w.heap.size) (fun _ _ h=>.inr h)
  have cz:=ah.max
  have bF:=ag.len
  subst bF
  have bG:=ah.len
  subst bG
  refine .r [10]<|.go 11<|.ns 1 110 [vI s.num,.slice cm s.part.ids.length co,.slice cp s.part.blocks.length cq] fun df aN=>?_
  replace ⟨hob0,hrb1,hrb2,hbx,h3,h4,aa,ag,ah,E⟩:=(se [ab,bx,rb0] aN).g10 hob0 hrb1 hrb2 hbx h3 h4 aa ag ah E
  intro aO dh ao aP aC bH
  have aQ:=Ab ao hob0.lt
  have bI:=Ab ao hbx.lt
  have bJ:=Ab ao aa.lt
  have bK:=BT ao E.size
  replace ⟨hob0,hrb1,hrb2,hbx,h3,h4,aa,ag,ah,E⟩:=(se [ab,bx,rb0] aP).g10 hob0 hrb1 hrb2 hbx h3 h4 aa ag ah E
  refine .go 12<|GE.append (T:=33) (ty:=33) (args:=[vS rb0 nb0 cb0,vS aO 1 1]) AA fun dj aR=>?_
  replace ⟨hob0,hrb1,hrb2,hbx,h3,h4,aa,ag,ah,aC,E⟩:=(se [ab,bx,rb0] aR).g11 hob0 hrb1 hrb2 hbx h3 h4 aa ag ah aC E
  have aH:nin (fo F w.heap.size) [ab,bx,rb0] aO∧aO≠rb0:=Du (.inr bK) (all_cons bJ (all_cons bI (all_cons aQ all_nil))) aQ
  obtain ⟨az,bv,dm,aS,ae,am,aD,bL⟩:=hob0.CU (P:=Tryz.prog) (T:=33) (ty:=33) (y:=(⟨s.num,(⟨s.part.ids,s.part.blocks⟩:Prt)⟩:Fil)) AA aC ⟨_,_,_,_,_,_,rfl,ag.oi,ah.oi⟩ aH AB
  refine ⟨_,_,aS,Chg.toS aD (Cov.toS bD),?_⟩
  have aT:=Bd am hnb0 hbx.lt
  have bM:=GV am hcv_rb0 E.size
  replace ⟨hrb1,hrb2,hbx,h3,h4,aa,E⟩:=(sa [ab,bx,rb0] aD am).g7 hrb1 hrb2 hbx h3 h4 aa E
  replace ae:=ae.rn rb0
  refine .d fun dp aU=>?_
  replace ⟨ae,hrb1,hrb2,hbx,h3,h4,aa,E⟩:=(se [ab,bx,az] aU).g8 ae hrb1 hrb2 hbx h3 h4 aa E
  replace hrb1:=hrb1.BK
  replace hrb2:=hrb2.BK
  replace h3:=h3.BK
  replace h4:=h4.BK
  refine .r 2<|.ss 0 (vS az (nb0+1) bv) hbx fun dq aV bN bO=>?_
  replace ⟨ae,hrb1,hrb2,h3,h4,aa,E⟩:=(so [ab,bx,az] aV).g7 ae hrb1 hrb2 h3 h4 aa E
  refine .d<|.g<|.r 2<|.lb aa<|RG.int (s.num+1) AA (by have q1:=p1.2.2.2; omega)<|.r 2<|.ss 3 (vI (s.num+1)) bN fun dt aW bP bQ=>?_
  replace ⟨ae,hrb1,hrb2,h3,h4,aa,E⟩:=(so [ab,bx,az] aW).g7 ae hrb1 hrb2 h3 h4 aa E
  refine .d<|.ib 0<|T.FP func65 results65 ?_
  rw [show (doD d s)=(⟨(d.files++[(⟨s.num,(⟨s.part.ids,s.part.blocks⟩:Prt)⟩:Fil)]),d.list,d.names,s.num+1⟩:Dsk) from by (rw [Ex ‹_›]; done)]
  exact ⟨⟨rfl,az,(nb0+1),bv,ab1,d.list.length,cb1,ab2,d.names.length,cb2,bP,(Own.Am ae (all_cons AJ (all_cons AK all_nil))),(JG bM aT),aT,(RepS.Am hrb1 (all_cons AJ (all_cons AK all_nil))),(RepS.Am hrb2 (all_cons AJ (all_cons AK all_nil)))⟩,E⟩
 refine .r 1<|.d<|.cf<|.s<|.g<|.eq s.kind 2 (fun bR=>?_) (fun bR=>?_)
 ·refine .r 1<|.d<|.ct<|.s<|.g<|.r 1<|.ns 0 3 [] fun aF cr aj aX bS bT=>?_
  have bU:=Ab aj hob0.lt
  have bV:=Ab aj hbx.lt
  have bW:=Ab aj aa.lt
  have bX:=BT aj E.size
  have cC:=E.cn aj
  replace ⟨hob0,hrb1,hrb2,hbx,h3,h4,aa,E⟩:=(sn [ab,bx,rb0] aX aj).g8 hob0 hrb1 hrb2 hbx h3 h4 aa E
  have bY:Own (α:=Int) cr aF 3 (nin (fo F w.heap.size) [aF,ab,bx,rb0]) 0 0 []:=Own.BM bS
  refine .r 1<|.lb aa<|RG.DM (T:=34) (ty:=34) Av bY h3 AA AA (fun b h e=>h.2 (e▸AI)) (by (have:=p1.1; omega)) fun al bw du ac ai aY=>?_
  have cD:=Bd ai bU hob0.lt
  have cE:=Bd ai bV hbx.lt
  have cF:=Bd ai bW aa.lt
  have bZ:=EP ai bX E.size
  replace ⟨hob0,hrb1,hrb2,hbx,h4,aa,E⟩:=(sa [aF,ab,bx,rb0] aY ai).g7 hob0 hrb1 hrb2 hbx h4 aa E
  replace ac:=ac.rn aF
  refine .r 2<|.ss 1 (vS al (0+s.list.length) bw) hbx fun bz aZ aq b0=>?_
  replace ⟨hob0,hrb1,hrb2,h4,aa,ac,E⟩:=(so [al,ab,bx,rb0] aZ).g7 hob0 hrb1 hrb2 h4 aa ac E
  refine .d<|.g<|.r 2<|.lb aa<|.cl (Ae s.names h4.ta (by have:=p1.2.1; omega) (by (intro n hn; have:=p1.2.2.1 n hn; omega)) (w:=bz) (F:=all)) ?_
  rintro dv dw ⟨⟨ax,bA,bB,rfl,af,ak⟩,ba⟩
  have bd:=al4 ac.lt aa.lt aq.lt hob0.lt
  have b6:Gb w.heap.size bz.heap.size:=E.size
  have cI:=CC ak hob0.lt
  have cJ:=CC ak aq.lt
  have cK:=CC ak aa.lt
  have cL:=CC ak ac.lt
  have b7:=FT ak E.size
  replace ⟨hob0,hrb1,hrb2,aq,aa,ac,E⟩:=(sz [al,ab,bx,rb0] ba ak).g7 hob0 hrb1 hrb2 aq aa ac E
  replace af:=Own.take (s0:=w.heap.size) (M:=[al,ab,bx,rb0]) af bd b6
  replace af:=af.base (G':=fo F w.heap.size) (fun _ _ h=>.inr h)
  refine .r 2<|.ss 2 (vS ax bA bB) aq fun bC bg b8 b9=>?_
  replace ⟨hob0,hrb1,hrb2,aa,ac,af,E⟩:=(so [ax,al,ab,bx,rb0] bg).g7 hob0 hrb1 hrb2 aa ac af E
  refine .d<|.ib 0 ?_
  have bh:=ac.sl (.inr bZ)
  replace ⟨hob0,hrb1,hrb2,af⟩:=(sd bC [ax,al,ab,bx,rb0] al).g4 hob0 hrb1 hrb2 af
  have cu:=af.sl (.inr b7)
  replace ⟨hob0,hrb1,hrb2,bh⟩:=(sd bC [ax,ab,bx,rb0] ax).g4 hob0 hrb1 hrb2 bh
  refine T.FP func65 results65 ?_
  rw [show (doD d s)=(⟨d.files,([]++s.list),s.names,d.next⟩:Dsk) from by (rw [Gf ‹_›]; rfl)]
  exact ⟨⟨rfl,rb0,nb0,cb0,(some ⟨al,0,none⟩),(0+s.list.length),bw,(some ⟨ax,0,none⟩),bA,bB,b8,(Own.Am hob0 (all_cons AJ (all_cons AK all_nil))),(JG hcv_rb0 hnb0),hnb0,(RepS.Am bh (all_cons AJ (all_cons AK all_nil))),(RepS.Am cu (all_cons AJ (all_cons AK all_nil)))⟩,E⟩
 refine .r 1<|.d<|.cf<|.s<|.g<|.eq s.kind 3 (fun cd=>?_) (fun cd=>?_)
 ·refine .r 1<|.d<|.ct<|.s<|.gd nil 5 fun dx bi=>?_
  replace ⟨hob0,hrb1,hrb2,hbx,aa,E⟩:=(se [ab,bx,rb0] bi).g6 hob0 hrb1 hrb2 hbx aa E
  refine .r [0,1]<|.ln 2 hbx id<|.r [3]<|.lb 4 aa id<|.d fun cw bj=>?_
  replace ⟨hob0,hrb1,hrb2,hbx,aa,E⟩:=(se [ab,bx,rb0] bj).g6 hob0 hrb1 hrb2 hbx aa E
  refine .cl (Co d s.num (hob0.rep) hrb1.ta hrb2.ta (w:=cw) (F:=all)) ?_
  rintro dy dz ⟨rfl,bk⟩
  replace ⟨hob0,hrb1,hrb2,hbx,aa,E⟩:=(se [ab,bx,rb0] bk).g6 hob0 hrb1 hrb2 hbx aa E
  refine .r 1<|.d<|.s<|.gd nil 9 fun dA bm=>?_
  replace ⟨hob0,hrb1,hrb2,hbx,aa,E⟩:=(se [ab,bx,rb0] bm).g6 hob0 hrb1 hrb2 hbx aa E
  refine .r [0]<|GA.F6 (i:=1) (As d s.num≥0) AA (fun ce=>?_) (fun ce=>?_)
  ·refine .r [2,3,4,5]<|.lb 6 hbx id<|.r [7]<|.lb 8 aa id<|.d fun cx bn=>?_
   replace ⟨hob0,hrb1,hrb2,hbx,E⟩:=(se [ab,bx,rb0] bn).g5 hob0 hrb1 hrb2 hbx E
   refine .cl (CY d.list s.num hrb1.ta (w:=cx) (F:=all)) ?_
   rintro dB dC ⟨rfl,bo⟩
   replace ⟨hob0,hrb1,hrb2,hbx,E⟩:=(se [ab,bx,rb0] bo).g5 hob0 hrb1 hrb2 hbx E
   cases cO:(d.list.contains s.num)
   ·refine .r 2<|.d<|.ct<|.g<|.r 4<|.lb hbx<|.r 2<|RG.int (As d s.num+1) AA (by have q1:=p1.2.2.2; (have:=Cc d s.num; omega))<|.cl (JK (i:=(As d s.num).toNat) (a:=As d s.num) (b:=As d s.num+1) hob0 (by have:=Cc d s.num; have:=H4 d s.num; omega) (by have:=Cc d s.num; have:=H4 d s.num; omega) (by have:=Cc d s.num; have:=H4 d s.num; omega) (by have:=Cc d s.num; have:=H4 d s.num; omega)) ?_
    rintro dD dE ⟨⟨rfl,ar⟩,bq⟩
    replace ⟨hrb1,hrb2,hbx,E⟩:=(so [ab,bx,rb0] bq).g4 hrb1 hrb2 hbx E
    refine .r 2<|.ss 0 (vS rb0 (nb0 - 1) cb0) hbx fun dF br cg ci=>?_
    replace ⟨ar,hrb1,hrb2,E⟩:=(so [ab,bx,rb0] br).g4 ar hrb1 hrb2 E
    refine .d<|.ib 0<|T.FP func65 results65 ?_
    rw [show (doD d s)=(⟨(d.files.take ((As d s.num).toNat)++d.files.drop ((As d s.num).toNat+1)),d.list,d.names,d.next⟩:Dsk) from by (rw [FA ‹_›,OI ‹_› ‹_›]; done)]
    exact ⟨⟨rfl,rb0,(nb0 - 1),cb0,ab1,d.list.length,cb1,ab2,d.names.length,cb2,cg,(Own.Am ar (all_cons AJ (all_cons AK all_nil))),(JG hcv_rb0 hnb0),hnb0,(RepS.Am hrb1 (all_cons AJ (all_cons AK all_nil))),(RepS.Am hrb2 (all_cons AJ (all_cons AK all_nil)))⟩,E⟩
   refine .r 2<|.d<|.cf<|.sk<|.ib 0<|T.FP func65 results65 ?_
   rw [show (doD d s)=d from by (rw [FA ‹_›,MO (.inr ‹_›)]; done)]
   exact ⟨⟨rfl,rb0,nb0,cb0,ab1,d.list.length,cb1,ab2,d.names.length,cb2,hbx,(Own.Am hob0 (all_cons AJ (all_cons AK all_nil))),(JG hcv_rb0 hnb0),hnb0,(RepS.Am hrb1 (all_cons AJ (all_cons AK all_nil))),(RepS.Am hrb2 (all_cons AJ (all_cons AK all_nil)))⟩,E⟩
  refine .r [2]<|GA.skip AA fun dG bt=>?_
  replace ⟨hob0,hrb1,hrb2,hbx,E⟩:=(se [ab,bx,rb0] bt).g5 hob0 hrb1 hrb2 hbx E
  refine .r 3<|.d<|.cf<|.sk<|.ib 0<|T.FP func65 results65 ?_
  rw [show (doD d s)=d from by (rw [FA ‹_›,MO (.inl ‹_›)]; done)]
  exact ⟨⟨rfl,rb0,nb0,cb0,ab1,d.list.length,cb1,ab2,d.names.length,cb2,hbx,(Own.Am hob0 (all_cons AJ (all_cons AK all_nil))),(JG hcv_rb0 hnb0),hnb0,(RepS.Am hrb1 (all_cons AJ (all_cons AK all_nil))),(RepS.Am hrb2 (all_cons AJ (all_cons AK all_nil)))⟩,E⟩
 refine .r 1<|.d<|.cf<|.sk<|.ib 0<|T.FP func65 results65 ?_
 rw [show (doD d s)=d from by (rw [UD ‹_› ‹_› ‹_›]; done)]
 exact ⟨⟨rfl,rb0,nb0,cb0,ab1,d.list.length,cb1,ab2,d.names.length,cb2,hbx,(Own.Am hob0 (all_cons AJ (all_cons AK all_nil))),(JG hcv_rb0 hnb0),hnb0,(RepS.Am hrb1 (all_cons AJ (all_cons AK all_nil))),(RepS.Am hrb2 (all_cons AJ (all_cons AK all_nil)))⟩,E⟩
theorem CK (d:Dsk) (h1:RepS w F a1 n1 c1 d.files) (h2:RepS w F a2 n2 c2 d.list) (h3:RepS w F a3 n3 c3 d.names) (p0:d.files.length≤1000) (p1:∀ f∈d.files,Cs f.part) (p2:d.list.length≤1000) (p3:d.names.length≤1000) (p4:∀ n∈d.names,n.length≤1000):Calls Tryz.prog 43 [.agg #[.slice a1 n1 c1,.slice a2 n2 c2,.slice a3 n3 c3,.int .i64 d.next]].toArray w (Al fun rv w'=>(∃ (r0 n0 c0:Nat) (a1:Option Addr) (n1 c1:Nat) (a2:Option Addr) (n2 c2:Nat),rv=.agg #[.slice (some ⟨r0,0,none⟩) n0 c0,.slice a1 n1 c1,.slice a2 n2 c2,.int .i64 (d.next)]∧Own w' r0 110 (nin (ge w.heap.size) [r0]) n0 c0 (d.files)∧w.heap.size≤r0∧RepS w' (nin (ge w.heap.size) [r0]) a1 n1 c1 (d.list)∧RepS w' (nin (ge w.heap.size) [r0]) a2 n2 c2 (d.names))∧Ext w w'):=by
 cases h1.len
 cases h2.len
 cases h3.len
 refine goT func43 ?_
 have Z:=(((St.i0 F w).p h1).p h2).p h3
 refine .s<|.g<|RG.Np Z fun af w Z=>RG.Np Z fun ae w Z=>.d<|.s<|T.GS 12 [ae,af] Z fun _ w Z=>.r [2]<|GA.Lb (q:=1) 3 1 Z<|.r [5]<|GA.Lb (q:=1) 6 1 Z<|.r [8]<|GA.Lb (q:=1) 9 1 Z<|GE.many [0,1,11] AA (all_cons ?_ (all_cons ?_ (all_cons ?_ all_nil)))
 ·refine GE.N0 Fil 0 Z fun bQ w Z=>.tw 1 11 ?_ ?_
  ·refine GE.N0 Int 0 Z fun nH w Z=>.tw 4 11 ?_ ?_
   ·refine GE.An (hf:=.inr Av) 0 1 ([]:List Int) d.list [2,3] Z fun cC cD w Z=>.tw 7 11 ?_ ?_
    ·refine GE.CO 0 (fun w Z=>Ae d.names (Z.a 0) AB (fun n hn=>by have:=p4 n hn; omega)) Z fun fE fF w Z=>.r [10]<|.go 11<|GE.Np Z fun b0 w Z=>GA.Do Z fun w Z=>RG.Ss 0 Z fun w Z=>.d<|.s<|.s<|.g<|.r 1<|RG.Lb 5 Z<|.r 2<|.d<|.b 0<|T.Lp ((0:Nat),([]:List Fil),bQ,(0:Nat),(([]++d.list):List Int),cC,cD,(d.names:List (List Tag)),fE,fF,d.next) (fun (k,E,r_out_0,c_out_0,aa,r_out_1,c_out_1,ab,r_out_2,c_out_2,ac)=>([(2,vP ae),(3,vP b0),(18,.slice a1 d.files.length c1),(19,vI (d.files.length:Int)),(20,vI (k:Int))],[(0,.box b0 36 [vS r_out_0 E.length c_out_0,vS r_out_1 aa.length c_out_1,vS r_out_2 ab.length c_out_2,vI ac]),(1,.own 0 r_out_2 42 c_out_2 ab),(2,.own 0 r_out_1 3 c_out_1 aa),(3,.own 0 r_out_0 110 c_out_0 E)],[],d.files.length - k,(k≤d.files.length)∧(E.length≤k)∧(E++d.files.drop k=d.files)∧(aa=d.list)∧(ab=d.names)∧(ac=d.next))) [] Z ⟨AB,AD,AF,AF,AF,AB⟩ ?_
     rintro ⟨k,E,r_out_0,c_out_0,aa,r_out_1,c_out_1,ab,r_out_2,c_out_2,ac⟩ nI w Z ⟨jn,jo,jp,jq,jr,jt⟩ bi
     refine .s<|.g<|.bp ((k:Int)< (d.files.length:Int)) (fun cE=>?_) (fun cE=>?_)
     ·exact .d<|.s<|.ct<|.sk<|.s<|.b 1<|.s<|.g<|gxb d.files k fun b6 aK ju fC=>RG.Ix 2 aK Z<|Z.el 2 aK fun nJ nK nL nM Z=>RG.Lg 0 0 Z<|RG.Np Z fun fG w Z=>RG.Ss 0 Z fun w Z=>.d<|T.GS 9 [fG,b0,ae,af] Z fun _ w Z=>.r [0]<|GA.Lb (q:=1) 1 1 Z<|.r [2]<|GA.Lb 3 0 Z<|.r [4]<|GA.Ln 5 0 Z<|.go 6<|GE.CS (fun w Z=>Ar b6.part (Z.a 1) (Z.a 2) (p1 _ ‹_›)) Z fun nN nO nP nQ w Z=>.r [7]<|.go 8<|GE.Nb 1 Z fun nR w Z=>GA.Do Z fun w Z=>RG.Ap 4 0 E b6 [0,1] Z fun fH fI w Z=>.r 1<|RG.Ss 1 Z fun w Z=>.d<|.ib 1<|.g<|.it ((k:Int)+1)<|.r 1<|.d<|bi (k+1,(E++[b6]),fH,fI,aa,r_out_1,c_out_1,ab,r_out_2,c_out_2,ac) _ _ AA (Z.to 1 [] 5) ⟨AB,(by (simp; omega)),(by exact Cp ‹_› ‹_›),‹_›,‹_›,‹_›⟩ (by (simp only []; omega))
     refine .d<|.s<|.cf<|.x 0 rfl<|.s<|.g<|RG.Ln 0 Z<|RG.Ss 4 Z fun w Z=>.d ?_
     have Z:=(Z.sl 2).sl 1
     exact T.Rb 2 func43 results43 Z ⟨⟨r_out_0,E.length,c_out_0,(some ⟨r_out_1,0,none⟩),aa.length,c_out_1,(some ⟨r_out_2,0,none⟩),ab.length,c_out_2,(by rw [show d.next=ac from Eq.symm ‹_›]; kernel_rfl),Z.qo [1] 1 E (by exact CF ‹_› AB),Z.qb 1,Z.qr [1] 1 aa ‹_›,Z.qr [1] 0 ab ‹_›⟩,Z.xt⟩
    refine GE.Np Z fun b7 w Z=>.go 7<|GE.CO 0 (fun w Z=>Ae d.names (Z.a 0) AB (fun n hn=>by have:=p4 n hn; omega)) Z fun fJ fK w Z=>.r [10]<|GA.Do Z fun w Z=>RG.Ss 1 Z fun w Z=>.d<|.s<|.s<|.g<|.r 1<|RG.Lb 5 Z<|.r 2<|.d<|.b 0<|T.Lp ((0:Nat),([]:List Fil),bQ,(0:Nat),(([]++d.list):List Int),cC,cD,(d.names:List (List Tag)),fJ,fK,d.next) (fun (k,E,r_out_0,c_out_0,aa,r_out_1,c_out_1,ab,r_out_2,c_out_2,ac)=>([(2,vP ae),(3,vP b7),(18,.slice a1 d.files.length c1),(19,vI (d.files.length:Int)),(20,vI (k:Int))],[(0,.own 0 r_out_2 42 c_out_2 ab),(1,.box b7 36 [vS r_out_0 E.length c_out_0,vS r_out_1 aa.length c_out_1,vS r_out_2 ab.length c_out_2,vI ac]),(2,.own 0 r_out_1 3 c_out_1 aa),(3,.own 0 r_out_0 110 c_out_0 E)],[],d.files.length - k,(k≤d.files.length)∧(E.length≤k)∧(E++d.files.drop k=d.files)∧(aa=d.list)∧(ab=d.names)∧(ac=d.next))) [] Z ⟨AB,AD,AF,AF,AF,AB⟩ ?_
    rintro ⟨k,E,r_out_0,c_out_0,aa,r_out_1,c_out_1,ab,r_out_2,c_out_2,ac⟩ nT w Z ⟨jv,jw,jx,jy,jz,jA⟩ bj
    refine .s<|.g<|.bp ((k:Int)< (d.files.length:Int)) (fun cF=>?_) (fun cF=>?_)
    ·exact .d<|.s<|.ct<|.sk<|.s<|.b 1<|.s<|.g<|gxb d.files k fun b8 aL jB fD=>RG.Ix 2 aL Z<|Z.el 2 aL fun nU nV nW nX Z=>RG.Lg 0 0 Z<|RG.Np Z fun fL w Z=>RG.Ss 0 Z fun w Z=>.d<|T.GS 9 [fL,b7,ae,af] Z fun _ w Z=>.r [0]<|GA.Lb (q:=1) 1 2 Z<|.r [2]<|GA.Lb 3 0 Z<|.r [4]<|GA.Ln 5 0 Z<|.go 6<|GE.CS (fun w Z=>Ar b8.part (Z.a 1) (Z.a 2) (p1 _ ‹_›)) Z fun nY nZ n7 n8 w Z=>.r [7]<|.go 8<|GE.Nb 1 Z fun n9 w Z=>GA.Do Z fun w Z=>RG.Ap 4 0 E b8 [0,1] Z fun fM fN w Z=>.r 1<|RG.Ss 2 Z fun w Z=>.d<|.ib 1<|.g<|.it ((k:Int)+1)<|.r 1<|.d<|bj (k+1,(E++[b8]),fM,fN,aa,r_out_1,c_out_1,ab,r_out_2,c_out_2,ac) _ _ AA (Z.to 1 [] 5) ⟨AB,(by (simp; omega)),(by exact Cp ‹_› ‹_›),‹_›,‹_›,‹_›⟩ (by (simp only []; omega))
    refine .d<|.s<|.cf<|.x 0 rfl<|.s<|.g<|RG.Ln 1 Z<|RG.Ss 4 Z fun w Z=>.d ?_
    have Z:=(Z.sl 2).sl 0
    exact T.Rb 2 func43 results43 Z ⟨⟨r_out_0,E.length,c_out_0,(some ⟨r_out_1,0,none⟩),aa.length,c_out_1,(some ⟨r_out_2,0,none⟩),ab.length,c_out_2,(by rw [show d.next=ac from Eq.symm ‹_›]; kernel_rfl),Z.qo [1] 1 E (by exact CF ‹_› AB),Z.qb 1,Z.qr [1] 1 aa ‹_›,Z.qr [1] 0 ab ‹_›⟩,Z.xt⟩
   refine GE.Np Z fun b9 w Z=>.go 4<|GE.An (hf:=.inr Av) 1 1 ([]:List Int) d.list [3,4] Z fun fO fP w Z=>.go 7<|GE.CO 0 (fun w Z=>Ae d.names (Z.a 0) AB (fun n hn=>by have:=p4 n hn; omega)) Z fun fQ fR w Z=>.r [10]<|GA.Do Z fun w Z=>RG.Ss 1 Z fun w Z=>.d<|.s<|.s<|.g<|.r 1<|RG.Lb 5 Z<|.r 2<|.d<|.b 0<|T.Lp ((0:Nat),([]:List Fil),bQ,(0:Nat),(([]++d.list):List Int),fO,fP,(d.names:List (List Tag)),fQ,fR,d.next) (fun (k,E,r_out_0,c_out_0,aa,r_out_1,c_out_1,ab,r_out_2,c_out_2,ac)=>([(2,vP ae),(3,vP b9),(18,.slice a1 d.files.length c1),(19,vI (d.files.length:Int)),(20,vI (k:Int))],[(0,.own 0 r_out_2 42 c_out_2 ab),(1,.box b9 36 [vS r_out_0 E.length c_out_0,vS r_out_1 aa.length c_out_1,vS r_out_2 ab.length c_out_2,vI ac]),(2,.own 0 r_out_1 3 c_out_1 aa),(3,.own 0 r_out_0 110 c_out_0 E)],[],d.files.length - k,(k≤d.files.length)∧(E.length≤k)∧(E++d.files.drop k=d.files)∧(aa=d.list)∧(ab=d.names)∧(ac=d.next))) [] Z ⟨AB,AD,AF,AF,AF,AB⟩ ?_
   rintro ⟨k,E,r_out_0,c_out_0,aa,r_out_1,c_out_1,ab,r_out_2,c_out_2,ac⟩ jC w Z ⟨jD,jE,jF,jG,jH,jI⟩ aM
   refine .s<|.g<|.bp ((k:Int)< (d.files.length:Int)) (fun cd=>?_) (fun cd=>?_)
   ·exact .d<|.s<|.ct<|.sk<|.s<|.b 1<|.s<|.g<|gxb d.files k fun bk al fS cG=>RG.Ix 2 al Z<|Z.el 2 al fun jJ jK jL jM Z=>RG.Lg 0 0 Z<|RG.Np Z fun cH w Z=>RG.Ss 0 Z fun w Z=>.d<|T.GS 9 [cH,b9,ae,af] Z fun _ w Z=>.r [0]<|GA.Lb (q:=1) 1 2 Z<|.r [2]<|GA.Lb 3 0 Z<|.r [4]<|GA.Ln 5 0 Z<|.go 6<|GE.CS (fun w Z=>Ar bk.part (Z.a 1) (Z.a 2) (p1 _ ‹_›)) Z fun jN jO jP jQ w Z=>.r [7]<|.go 8<|GE.Nb 1 Z fun jR w Z=>GA.Do Z fun w Z=>RG.Ap 4 0 E bk [0,1] Z fun cI cJ w Z=>.r 1<|RG.Ss 2 Z fun w Z=>.d<|.ib 1<|.g<|.it ((k:Int)+1)<|.r 1<|.d<|aM (k+1,(E++[bk]),cI,cJ,aa,r_out_1,c_out_1,ab,r_out_2,c_out_2,ac) _ _ AA (Z.to 1 [] 5) ⟨AB,(by (simp; omega)),(by exact Cp ‹_› ‹_›),‹_›,‹_›,‹_›⟩ (by (simp only []; omega))
   refine .d<|.s<|.cf<|.x 0 rfl<|.s<|.g<|RG.Ln 1 Z<|RG.Ss 4 Z fun w Z=>.d ?_
   have Z:=(Z.sl 2).sl 0
   exact T.Rb 2 func43 results43 Z ⟨⟨r_out_0,E.length,c_out_0,(some ⟨r_out_1,0,none⟩),aa.length,c_out_1,(some ⟨r_out_2,0,none⟩),ab.length,c_out_2,(by rw [show d.next=ac from Eq.symm ‹_›]; kernel_rfl),Z.qo [1] 1 E (by exact CF ‹_› AB),Z.qb 1,Z.qr [1] 1 aa ‹_›,Z.qr [1] 0 ab ‹_›⟩,Z.xt⟩
  refine GE.Np Z fun bm w Z=>.go 1<|GE.N0 Int 0 Z fun jS w Z=>.go 4<|GE.An (hf:=.inr Av) 0 1 ([]:List Int) d.list [3,4] Z fun cK cL w Z=>.go 7<|GE.CO 0 (fun w Z=>Ae d.names (Z.a 0) AB (fun n hn=>by have:=p4 n hn; omega)) Z fun cM cN w Z=>.r [10]<|GA.Do Z fun w Z=>RG.Ss 2 Z fun w Z=>.d<|.s<|.s<|.g<|.r 1<|RG.Lb 5 Z<|.r 2<|.d<|.b 0<|T.Lp ((0:Nat),([]:List Fil),bQ,(0:Nat),(([]++d.list):List Int),cK,cL,(d.names:List (List Tag)),cM,cN,d.next) (fun (k,E,r_out_0,c_out_0,aa,r_out_1,c_out_1,ab,r_out_2,c_out_2,ac)=>([(2,vP ae),(3,vP bm),(18,.slice a1 d.files.length c1),(19,vI (d.files.length:Int)),(20,vI (k:Int))],[(0,.own 0 r_out_2 42 c_out_2 ab),(1,.own 0 r_out_1 3 c_out_1 aa),(2,.box bm 36 [vS r_out_0 E.length c_out_0,vS r_out_1 aa.length c_out_1,vS r_out_2 ab.length c_out_2,vI ac]),(3,.own 0 r_out_0 110 c_out_0 E)],[],d.files.length - k,(k≤d.files.length)∧(E.length≤k)∧(E++d.files.drop k=d.files)∧(aa=d.list)∧(ab=d.names)∧(ac=d.next))) [] Z ⟨AB,AD,AF,AF,AF,AB⟩ ?_
  rintro ⟨k,E,r_out_0,c_out_0,aa,r_out_1,c_out_1,ab,r_out_2,c_out_2,ac⟩ jT w Z ⟨fT,fU,fV,fW,fX,fY⟩ aN
  refine .s<|.g<|.bp ((k:Int)< (d.files.length:Int)) (fun ce=>?_) (fun ce=>?_)
  ·exact .d<|.s<|.ct<|.sk<|.s<|.b 1<|.s<|.g<|gxb d.files k fun bn am fZ cO=>RG.Ix 2 am Z<|Z.el 2 am fun jU jV jW jX Z=>RG.Lg 0 0 Z<|RG.Np Z fun cP w Z=>RG.Ss 0 Z fun w Z=>.d<|T.GS 9 [cP,bm,ae,af] Z fun _ w Z=>.r [0]<|GA.Lb (q:=1) 1 3 Z<|.r [2]<|GA.Lb 3 0 Z<|.r [4]<|GA.Ln 5 0 Z<|.go 6<|GE.CS (fun w Z=>Ar bn.part (Z.a 1) (Z.a 2) (p1 _ ‹_›)) Z fun jY jZ j0 j1 w Z=>.r [7]<|.go 8<|GE.Nb 1 Z fun j2 w Z=>GA.Do Z fun w Z=>RG.Ap 4 0 E bn [0,1] Z fun cQ cR w Z=>.r 1<|RG.Ss 3 Z fun w Z=>.d<|.ib 1<|.g<|.it ((k:Int)+1)<|.r 1<|.d<|aN (k+1,(E++[bn]),cQ,cR,aa,r_out_1,c_out_1,ab,r_out_2,c_out_2,ac) _ _ AA (Z.to 1 [] 5) ⟨AB,(by (simp; omega)),(by exact Cp ‹_› ‹_›),‹_›,‹_›,‹_›⟩ (by (simp only []; omega))
  refine .d<|.s<|.cf<|.x 0 rfl<|.s<|.g<|RG.Ln 2 Z<|RG.Ss 4 Z fun w Z=>.d ?_
  have Z:=(Z.sl 1).sl 0
  exact T.Rb 2 func43 results43 Z ⟨⟨r_out_0,E.length,c_out_0,(some ⟨r_out_1,0,none⟩),aa.length,c_out_1,(some ⟨r_out_2,0,none⟩),ab.length,c_out_2,(by rw [show d.next=ac from Eq.symm ‹_›]; kernel_rfl),Z.qo [1] 1 E (by exact CF ‹_› AB),Z.qb 1,Z.qr [1] 1 aa ‹_›,Z.qr [1] 0 ab ‹_›⟩,Z.xt⟩
 ·refine GE.N0 Int 0 Z fun j3 w Z=>GE.many [0,4,11] AA (all_cons ?_ (all_cons ?_ (all_cons ?_ all_nil)))
  ·refine GE.N0 Fil 0 Z fun bo w Z=>.tw 4 11 ?_ ?_
   ·refine GE.An (hf:=.inr Av) 1 1 ([]:List Int) d.list [2,3] Z fun bR bS w Z=>.tw 7 11 ?_ ?_
    ·refine GE.CO 0 (fun w Z=>Ae d.names (Z.a 0) AB (fun n hn=>by have:=p4 n hn; omega)) Z fun cS cT w Z=>.r [10]<|.go 11<|GE.Np Z fun bq w Z=>GA.Do Z fun w Z=>RG.Ss 0 Z fun w Z=>.d<|.s<|.s<|.g<|.r 1<|RG.Lb 5 Z<|.r 2<|.d<|.b 0<|T.Lp ((0:Nat),([]:List Fil),bo,(0:Nat),(([]++d.list):List Int),bR,bS,(d.names:List (List Tag)),cS,cT,d.next) (fun (k,E,r_out_0,c_out_0,aa,r_out_1,c_out_1,ab,r_out_2,c_out_2,ac)=>([(2,vP ae),(3,vP bq),(18,.slice a1 d.files.length c1),(19,vI (d.files.length:Int)),(20,vI (k:Int))],[(0,.box bq 36 [vS r_out_0 E.length c_out_0,vS r_out_1 aa.length c_out_1,vS r_out_2 ab.length c_out_2,vI ac]),(1,.own 0 r_out_2 42 c_out_2 ab),(2,.own 0 r_out_0 110 c_out_0 E),(3,.own 0 r_out_1 3 c_out_1 aa)],[],d.files.length - k,(k≤d.files.length)∧(E.length≤k)∧(E++d.files.drop k=d.files)∧(aa=d.list)∧(ab=d.names)∧(ac=d.next))) [] Z ⟨AB,AD,AF,AF,AF,AB⟩ ?_
     rintro ⟨k,E,r_out_0,c_out_0,aa,r_out_1,c_out_1,ab,r_out_2,c_out_2,ac⟩ j4 w Z ⟨f0,f5,f6,f7,f8,f9⟩ aO
     refine .s<|.g<|.bp ((k:Int)< (d.files.length:Int)) (fun cg=>?_) (fun cg=>?_)
     ·exact .d<|.s<|.ct<|.sk<|.s<|.b 1<|.s<|.g<|gxb d.files k fun br ao gb cU=>RG.Ix 2 ao Z<|Z.el 2 ao fun j5 j6 j7 j8 Z=>RG.Lg 0 0 Z<|RG.Np Z fun cV w Z=>RG.Ss 0 Z fun w Z=>.d<|T.GS 9 [cV,bq,ae,af] Z fun _ w Z=>.r [0]<|GA.Lb (q:=1) 1 1 Z<|.r [2]<|GA.Lb 3 0 Z<|.r [4]<|GA.Ln 5 0 Z<|.go 6<|GE.CS (fun w Z=>Ar br.part (Z.a 1) (Z.a 2) (p1 _ ‹_›)) Z fun j9 ka kb kd w Z=>.r [7]<|.go 8<|GE.Nb 1 Z fun ke w Z=>GA.Do Z fun w Z=>RG.Ap 3 0 E br [0,1] Z fun cW cX w Z=>.r 1<|RG.Ss 1 Z fun w Z=>.d<|.ib 1<|.g<|.it ((k:Int)+1)<|.r 1<|.d<|aO (k+1,(E++[br]),cW,cX,aa,r_out_1,c_out_1,ab,r_out_2,c_out_2,ac) _ _ AA (Z.to 1 [] 5) ⟨AB,(by (simp; omega)),(by exact Cp ‹_› ‹_›),‹_›,‹_›,‹_›⟩ (by (simp only []; omega))
     refine .d<|.s<|.cf<|.x 0 rfl<|.s<|.g<|RG.Ln 0 Z<|RG.Ss 4 Z fun w Z=>.d ?_
     have Z:=(Z.sl 3).sl 1
     exact T.Rb 2 func43 results43 Z ⟨⟨r_out_0,E.length,c_out_0,(some ⟨r_out_1,0,none⟩),aa.length,c_out_1,(some ⟨r_out_2,0,none⟩),ab.length,c_out_2,(by rw [show d.next=ac from Eq.symm ‹_›]; kernel_rfl),Z.qo [1] 1 E (by exact CF ‹_› AB),Z.qb 1,Z.qr [1] 1 aa ‹_›,Z.qr [1] 0 ab ‹_›⟩,Z.xt⟩
    refine GE.Np Z fun bt w Z=>.go 7<|GE.CO 0 (fun w Z=>Ae d.names (Z.a 0) AB (fun n hn=>by have:=p4 n hn; omega)) Z fun cY cZ w Z=>.r [10]<|GA.Do Z fun w Z=>RG.Ss 1 Z fun w Z=>.d<|.s<|.s<|.g<|.r 1<|RG.Lb 5 Z<|.r 2<|.d<|.b 0<|T.Lp ((0:Nat),([]:List Fil),bo,(0:Nat),(([]++d.list):List Int),bR,bS,(d.names:List (List Tag)),cY,cZ,d.next) (fun (k,E,r_out_0,c_out_0,aa,r_out_1,c_out_1,ab,r_out_2,c_out_2,ac)=>([(2,vP ae),(3,vP bt),(18,.slice a1 d.files.length c1),(19,vI (d.files.length:Int)),(20,vI (k:Int))],[(0,.own 0 r_out_2 42 c_out_2 ab),(1,.box bt 36 [vS r_out_0 E.length c_out_0,vS r_out_1 aa.length c_out_1,vS r_out_2 ab.length c_out_2,vI ac]),(2,.own 0 r_out_0 110 c_out_0 E),(3,.own 0 r_out_1 3 c_out_1 aa)],[],d.files.length - k,(k≤d.files.length)∧(E.length≤k)∧(E++d.files.drop k=d.files)∧(aa=d.list)∧(ab=d.names)∧(ac=d.next))) [] Z ⟨AB,AD,AF,AF,AF,AB⟩ ?_
    rintro ⟨k,E,r_out_0,c_out_0,aa,r_out_1,c_out_1,ab,r_out_2,c_out_2,ac⟩ kf w Z ⟨gf,gh,gi,gj,gk,gl⟩ aP
    refine .s<|.g<|.bp ((k:Int)< (d.files.length:Int)) (fun ci=>?_) (fun ci=>?_)
    ·exact .d<|.s<|.ct<|.sk<|.s<|.b 1<|.s<|.g<|gxb d.files k fun bu aq gm c7=>RG.Ix 2 aq Z<|Z.el 2 aq fun kg kh ki kj Z=>RG.Lg 0 0 Z<|RG.Np Z fun c8 w Z=>RG.Ss 0 Z fun w Z=>.d<|T.GS 9 [c8,bt,ae,af] Z fun _ w Z=>.r [0]<|GA.Lb (q:=1) 1 2 Z<|.r [2]<|GA.Lb 3 0 Z<|.r [4]<|GA.Ln 5 0 Z<|.go 6<|GE.CS (fun w Z=>Ar bu.part (Z.a 1) (Z.a 2) (p1 _ ‹_›)) Z fun kk kl km ko w Z=>.r [7]<|.go 8<|GE.Nb 1 Z fun kr w Z=>GA.Do Z fun w Z=>RG.Ap 3 0 E bu [0,1] Z fun da db w Z=>.r 1<|RG.Ss 2 Z fun w Z=>.d<|.ib 1<|.g<|.it ((k:Int)+1)<|.r 1<|.d<|aP (k+1,(E++[bu]),da,db,aa,r_out_1,c_out_1,ab,r_out_2,c_out_2,ac) _ _ AA (Z.to 1 [] 5) ⟨AB,(by (simp; omega)),(by exact Cp ‹_› ‹_›),‹_›,‹_›,‹_›⟩ (by (simp only []; omega))
    refine .d<|.s<|.cf<|.x 0 rfl<|.s<|.g<|RG.Ln 1 Z<|RG.Ss 4 Z fun w Z=>.d ?_
    have Z:=(Z.sl 3).sl 0
    exact T.Rb 2 func43 results43 Z ⟨⟨r_out_0,E.length,c_out_0,(some ⟨r_out_1,0,none⟩),aa.length,c_out_1,(some ⟨r_out_2,0,none⟩),ab.length,c_out_2,(by rw [show d.next=ac from Eq.symm ‹_›]; kernel_rfl),Z.qo [1] 1 E (by exact CF ‹_› AB),Z.qb 1,Z.qr [1] 1 aa ‹_›,Z.qr [1] 0 ab ‹_›⟩,Z.xt⟩
   refine GE.Np Z fun bv w Z=>.go 4<|GE.An (hf:=.inr Av) 2 1 ([]:List Int) d.list [3,4] Z fun de df w Z=>.go 7<|GE.CO 0 (fun w Z=>Ae d.names (Z.a 0) AB (fun n hn=>by have:=p4 n hn; omega)) Z fun dh dj w Z=>.r [10]<|GA.Do Z fun w Z=>RG.Ss 1 Z fun w Z=>.d<|.s<|.s<|.g<|.r 1<|RG.Lb 5 Z<|.r 2<|.d<|.b 0<|T.Lp ((0:Nat),([]:List Fil),bo,(0:Nat),(([]++d.list):List Int),de,df,(d.names:List (List Tag)),dh,dj,d.next) (fun (k,E,r_out_0,c_out_0,aa,r_out_1,c_out_1,ab,r_out_2,c_out_2,ac)=>([(2,vP ae),(3,vP bv),(18,.slice a1 d.files.length c1),(19,vI (d.files.length:Int)),(20,vI (k:Int))],[(0,.own 0 r_out_2 42 c_out_2 ab),(1,.box bv 36 [vS r_out_0 E.length c_out_0,vS r_out_1 aa.length c_out_1,vS r_out_2 ab.length c_out_2,vI ac]),(2,.own 0 r_out_0 110 c_out_0 E),(3,.own 0 r_out_1 3 c_out_1 aa)],[],d.files.length - k,(k≤d.files.length)∧(E.length≤k)∧(E++d.files.drop k=d.files)∧(aa=d.list)∧(ab=d.names)∧(ac=d.next))) [] Z ⟨AB,AD,AF,AF,AF,AB⟩ ?_
   rintro ⟨k,E,r_out_0,c_out_0,aa,r_out_1,c_out_1,ab,r_out_2,c_out_2,ac⟩ ku w Z ⟨gn,gp,gq,gr,gs,gt⟩ aQ
   refine .s<|.g<|.bp ((k:Int)< (d.files.length:Int)) (fun cj=>?_) (fun cj=>?_)
   ·exact .d<|.s<|.ct<|.sk<|.s<|.b 1<|.s<|.g<|gxb d.files k fun bw ar gu dm=>RG.Ix 2 ar Z<|Z.el 2 ar fun kv kw kx ky Z=>RG.Lg 0 0 Z<|RG.Np Z fun dp w Z=>RG.Ss 0 Z fun w Z=>.d<|T.GS 9 [dp,bv,ae,af] Z fun _ w Z=>.r [0]<|GA.Lb (q:=1) 1 2 Z<|.r [2]<|GA.Lb 3 0 Z<|.r [4]<|GA.Ln 5 0 Z<|.go 6<|GE.CS (fun w Z=>Ar bw.part (Z.a 1) (Z.a 2) (p1 _ ‹_›)) Z fun kz kA kB kC w Z=>.r [7]<|.go 8<|GE.Nb 1 Z fun kD w Z=>GA.Do Z fun w Z=>RG.Ap 3 0 E bw [0,1] Z fun dq dt w Z=>.r 1<|RG.Ss 2 Z fun w Z=>.d<|.ib 1<|.g<|.it ((k:Int)+1)<|.r 1<|.d<|aQ (k+1,(E++[bw]),dq,dt,aa,r_out_1,c_out_1,ab,r_out_2,c_out_2,ac) _ _ AA (Z.to 1 [] 5) ⟨AB,(by (simp; omega)),(by exact Cp ‹_› ‹_›),‹_›,‹_›,‹_›⟩ (by (simp only []; omega))
   refine .d<|.s<|.cf<|.x 0 rfl<|.s<|.g<|RG.Ln 1 Z<|RG.Ss 4 Z fun w Z=>.d ?_
   have Z:=(Z.sl 3).sl 0
   exact T.Rb 2 func43 results43 Z ⟨⟨r_out_0,E.length,c_out_0,(some ⟨r_out_1,0,none⟩),aa.length,c_out_1,(some ⟨r_out_2,0,none⟩),ab.length,c_out_2,(by rw [show d.next=ac from Eq.symm ‹_›]; kernel_rfl),Z.qo [1] 1 E (by exact CF ‹_› AB),Z.qb 1,Z.qr [1] 1 aa ‹_›,Z.qr [1] 0 ab ‹_›⟩,Z.xt⟩
  ·refine GE.An (hf:=.inr Av) 0 1 ([]:List Int) d.list [1,2] Z fun ai aj w Z=>GE.many [0,7,11] AA (all_cons ?_ (all_cons ?_ (all_cons ?_ all_nil)))
   ·refine GE.N0 Fil 0 Z fun bT w Z=>.tw 7 11 ?_ ?_
    ·refine GE.CO 0 (fun w Z=>Ae d.names (Z.a 0) AB (fun n hn=>by have:=p4 n hn; omega)) Z fun du dv w Z=>.r [10]<|.go 11<|GE.Np Z fun bz w Z=>GA.Do Z fun w Z=>RG.Ss 0 Z fun w Z=>.d<|.s<|.s<|.g<|.r 1<|RG.Lb 5 Z<|.r 2<|.d<|.b 0<|T.Lp ((0:Nat),([]:List Fil),bT,(0:Nat),(([]++d.list):List Int),ai,aj,(d.names:List (List Tag)),du,dv,d.next) (fun (k,E,r_out_0,c_out_0,aa,r_out_1,c_out_1,ab,r_out_2,c_out_2,ac)=>([(2,vP ae),(3,vP bz),(18,.slice a1 d.files.length c1),(19,vI (d.files.length:Int)),(20,vI (k:Int))],[(0,.box bz 36 [vS r_out_0 E.length c_out_0,vS r_out_1 aa.length c_out_1,vS r_out_2 ab.length c_out_2,vI ac]),(1,.own 0 r_out_2 42 c_out_2 ab),(2,.own 0 r_out_0 110 c_out_0 E),(3,.own 0 r_out_1 3 c_out_1 aa)],[],d.files.length - k,(k≤d.files.length)∧(E.length≤k)∧(E++d.files.drop k=d.files)∧(aa=d.list)∧(ab=d.names)∧(ac=d.next))) [] Z ⟨AB,AD,AF,AF,AF,AB⟩ ?_
     rintro ⟨k,E,r_out_0,c_out_0,aa,r_out_1,c_out_1,ab,r_out_2,c_out_2,ac⟩ kE w Z ⟨gv,gw,gy,gz,gA,gC⟩ aR
     refine .s<|.g<|.bp ((k:Int)< (d.files.length:Int)) (fun ck=>?_) (fun ck=>?_)
     ·exact .d<|.s<|.ct<|.sk<|.s<|.b 1<|.s<|.g<|gxb d.files k fun bA ax gD dw=>RG.Ix 2 ax Z<|Z.el 2 ax fun kF kG kH kI Z=>RG.Lg 0 0 Z<|RG.Np Z fun dx w Z=>RG.Ss 0 Z fun w Z=>.d<|T.GS 9 [dx,bz,ae,af] Z fun _ w Z=>.r [0]<|GA.Lb (q:=1) 1 1 Z<|.r [2]<|GA.Lb 3 0 Z<|.r [4]<|GA.Ln 5 0 Z<|.go 6<|GE.CS (fun w Z=>Ar bA.part (Z.a 1) (Z.a 2) (p1 _ ‹_›)) Z fun kJ kK kL kM w Z=>.r [7]<|.go 8<|GE.Nb 1 Z fun kN w Z=>GA.Do Z fun w Z=>RG.Ap 3 0 E bA [0,1] Z fun dy dz w Z=>.r 1<|RG.Ss 1 Z fun w Z=>.d<|.ib 1<|.g<|.it ((k:Int)+1)<|.r 1<|.d<|aR (k+1,(E++[bA]),dy,dz,aa,r_out_1,c_out_1,ab,r_out_2,c_out_2,ac) _ _ AA (Z.to 1 [] 5) ⟨AB,(by (simp; omega)),(by exact Cp ‹_› ‹_›),‹_›,‹_›,‹_›⟩ (by (simp only []; omega))
     refine .d<|.s<|.cf<|.x 0 rfl<|.s<|.g<|RG.Ln 0 Z<|RG.Ss 4 Z fun w Z=>.d ?_
     have Z:=(Z.sl 3).sl 1
     exact T.Rb 2 func43 results43 Z ⟨⟨r_out_0,E.length,c_out_0,(some ⟨r_out_1,0,none⟩),aa.length,c_out_1,(some ⟨r_out_2,0,none⟩),ab.length,c_out_2,(by rw [show d.next=ac from Eq.symm ‹_›]; kernel_rfl),Z.qo [1] 1 E (by exact CF ‹_› AB),Z.qb 1,Z.qr [1] 1 aa ‹_›,Z.qr [1] 0 ab ‹_›⟩,Z.xt⟩
    refine GE.Np Z fun bB w Z=>.go 7<|GE.CO 0 (fun w Z=>Ae d.names (Z.a 0) AB (fun n hn=>by have:=p4 n hn; omega)) Z fun dA dB w Z=>.r [10]<|GA.Do Z fun w Z=>RG.Ss 1 Z fun w Z=>.d<|.s<|.s<|.g<|.r 1<|RG.Lb 5 Z<|.r 2<|.d<|.b 0<|T.Lp ((0:Nat),([]:List Fil),bT,(0:Nat),(([]++d.list):List Int),ai,aj,(d.names:List (List Tag)),dA,dB,d.next) (fun (k,E,r_out_0,c_out_0,aa,r_out_1,c_out_1,ab,r_out_2,c_out_2,ac)=>([(2,vP ae),(3,vP bB),(18,.slice a1 d.files.length c1),(19,vI (d.files.length:Int)),(20,vI (k:Int))],[(0,.own 0 r_out_2 42 c_out_2 ab),(1,.box bB 36 [vS r_out_0 E.length c_out_0,vS r_out_1 aa.length c_out_1,vS r_out_2 ab.length c_out_2,vI ac]),(2,.own 0 r_out_0 110 c_out_0 E),(3,.own 0 r_out_1 3 c_out_1 aa)],[],d.files.length - k,(k≤d.files.length)∧(E.length≤k)∧(E++d.files.drop k=d.files)∧(aa=d.list)∧(ab=d.names)∧(ac=d.next))) [] Z ⟨AB,AD,AF,AF,AF,AB⟩ ?_
    rintro ⟨k,E,r_out_0,c_out_0,aa,r_out_1,c_out_1,ab,r_out_2,c_out_2,ac⟩ kO w Z ⟨gE,gF,gG,gH,gI,gJ⟩ aS
    refine .s<|.g<|.bp ((k:Int)< (d.files.length:Int)) (fun cm=>?_) (fun cm=>?_)
    ·exact .d<|.s<|.ct<|.sk<|.s<|.b 1<|.s<|.g<|gxb d.files k fun bC ay gK dC=>RG.Ix 2 ay Z<|Z.el 2 ay fun kP kQ kR kS Z=>RG.Lg 0 0 Z<|RG.Np Z fun dD w Z=>RG.Ss 0 Z fun w Z=>.d<|T.GS 9 [dD,bB,ae,af] Z fun _ w Z=>.r [0]<|GA.Lb (q:=1) 1 2 Z<|.r [2]<|GA.Lb 3 0 Z<|.r [4]<|GA.Ln 5 0 Z<|.go 6<|GE.CS (fun w Z=>Ar bC.part (Z.a 1) (Z.a 2) (p1 _ ‹_›)) Z fun kT kU kV kW w Z=>.r [7]<|.go 8<|GE.Nb 1 Z fun kX w Z=>GA.Do Z fun w Z=>RG.Ap 3 0 E bC [0,1] Z fun dE dF w Z=>.r 1<|RG.Ss 2 Z fun w Z=>.d<|.ib 1<|.g<|.it ((k:Int)+1)<|.r 1<|.d<|aS (k+1,(E++[bC]),dE,dF,aa,r_out_1,c_out_1,ab,r_out_2,c_out_2,ac) _ _ AA (Z.to 1 [] 5) ⟨AB,(by (simp; omega)),(by exact Cp ‹_› ‹_›),‹_›,‹_›,‹_›⟩ (by (simp only []; omega))
    refine .d<|.s<|.cf<|.x 0 rfl<|.s<|.g<|RG.Ln 1 Z<|RG.Ss 4 Z fun w Z=>.d ?_
    have Z:=(Z.sl 3).sl 0
    exact T.Rb 2 func43 results43 Z ⟨⟨r_out_0,E.length,c_out_0,(some ⟨r_out_1,0,none⟩),aa.length,c_out_1,(some ⟨r_out_2,0,none⟩),ab.length,c_out_2,(by rw [show d.next=ac from Eq.symm ‹_›]; kernel_rfl),Z.qo [1] 1 E (by exact CF ‹_› AB),Z.qb 1,Z.qr [1] 1 aa ‹_›,Z.qr [1] 0 ab ‹_›⟩,Z.xt⟩
   ·refine GE.CO 0 (fun w Z=>Ae d.names (Z.a 0) AB (fun n hn=>by have:=p4 n hn; omega)) Z fun bU bV w Z=>.tw 0 11 ?_ ?_
    ·refine GE.N0 Fil 0 Z fun dG w Z=>.r [10]<|.go 11<|GE.Np Z fun bD w Z=>GA.Do Z fun w Z=>RG.Ss 0 Z fun w Z=>.d<|.s<|.s<|.g<|.r 1<|RG.Lb 5 Z<|.r 2<|.d<|.b 0<|T.Lp ((0:Nat),([]:List Fil),dG,(0:Nat),(([]++d.list):List Int),ai,aj,(d.names:List (List Tag)),bU,bV,d.next) (fun (k,E,r_out_0,c_out_0,aa,r_out_1,c_out_1,ab,r_out_2,c_out_2,ac)=>([(2,vP ae),(3,vP bD),(18,.slice a1 d.files.length c1),(19,vI (d.files.length:Int)),(20,vI (k:Int))],[(0,.box bD 36 [vS r_out_0 E.length c_out_0,vS r_out_1 aa.length c_out_1,vS r_out_2 ab.length c_out_2,vI ac]),(1,.own 0 r_out_0 110 c_out_0 E),(2,.own 0 r_out_2 42 c_out_2 ab),(3,.own 0 r_out_1 3 c_out_1 aa)],[],d.files.length - k,(k≤d.files.length)∧(E.length≤k)∧(E++d.files.drop k=d.files)∧(aa=d.list)∧(ab=d.names)∧(ac=d.next))) [] Z ⟨AB,AD,AF,AF,AF,AB⟩ ?_
     rintro ⟨k,E,r_out_0,c_out_0,aa,r_out_1,c_out_1,ab,r_out_2,c_out_2,ac⟩ kY w Z ⟨gL,gM,gN,gO,gP,gQ⟩ aT
     refine .s<|.g<|.bp ((k:Int)< (d.files.length:Int)) (fun co=>?_) (fun co=>?_)
     ·exact .d<|.s<|.ct<|.sk<|.s<|.b 1<|.s<|.g<|gxb d.files k fun bE az gR dH=>RG.Ix 2 az Z<|Z.el 2 az fun kZ k5 k6 k7 Z=>RG.Lg 0 0 Z<|RG.Np Z fun dI w Z=>RG.Ss 0 Z fun w Z=>.d<|T.GS 9 [dI,bD,ae,af] Z fun _ w Z=>.r [0]<|GA.Lb (q:=1) 1 1 Z<|.r [2]<|GA.Lb 3 0 Z<|.r [4]<|GA.Ln 5 0 Z<|.go 6<|GE.CS (fun w Z=>Ar bE.part (Z.a 1) (Z.a 2) (p1 _ ‹_›)) Z fun k8 lc ld lf w Z=>.r [7]<|.go 8<|GE.Nb 1 Z fun li w Z=>GA.Do Z fun w Z=>RG.Ap 2 0 E bE [0,1] Z fun dJ dK w Z=>.r 1<|RG.Ss 1 Z fun w Z=>.d<|.ib 1<|.g<|.it ((k:Int)+1)<|.r 1<|.d<|aT (k+1,(E++[bE]),dJ,dK,aa,r_out_1,c_out_1,ab,r_out_2,c_out_2,ac) _ _ AA (Z.to 1 [] 5) ⟨AB,(by (simp; omega)),(by exact Cp ‹_› ‹_›),‹_›,‹_›,‹_›⟩ (by (simp only []; omega))
     refine .d<|.s<|.cf<|.x 0 rfl<|.s<|.g<|RG.Ln 0 Z<|RG.Ss 4 Z fun w Z=>.d ?_
     have Z:=(Z.sl 3).sl 2
     exact T.Rb 2 func43 results43 Z ⟨⟨r_out_0,E.length,c_out_0,(some ⟨r_out_1,0,none⟩),aa.length,c_out_1,(some ⟨r_out_2,0,none⟩),ab.length,c_out_2,(by rw [show d.next=ac from Eq.symm ‹_›]; kernel_rfl),Z.qo [1] 1 E (by exact CF ‹_› AB),Z.qb 1,Z.qr [1] 1 aa ‹_›,Z.qr [1] 0 ab ‹_›⟩,Z.xt⟩
    refine GE.Np Z fun bF w Z=>.go 0<|GE.N0 Fil 0 Z fun dL w Z=>.r [10]<|GA.Do Z fun w Z=>RG.Ss 1 Z fun w Z=>.d<|.s<|.s<|.g<|.r 1<|RG.Lb 5 Z<|.r 2<|.d<|.b 0<|T.Lp ((0:Nat),([]:List Fil),dL,(0:Nat),(([]++d.list):List Int),ai,aj,(d.names:List (List Tag)),bU,bV,d.next) (fun (k,E,r_out_0,c_out_0,aa,r_out_1,c_out_1,ab,r_out_2,c_out_2,ac)=>([(2,vP ae),(3,vP bF),(18,.slice a1 d.files.length c1),(19,vI (d.files.length:Int)),(20,vI (k:Int))],[(0,.own 0 r_out_0 110 c_out_0 E),(1,.box bF 36 [vS r_out_0 E.length c_out_0,vS r_out_1 aa.length c_out_1,vS r_out_2 ab.length c_out_2,vI ac]),(2,.own 0 r_out_2 42 c_out_2 ab),(3,.own 0 r_out_1 3 c_out_1 aa)],[],d.files.length - k,(k≤d.files.length)∧(E.length≤k)∧(E++d.files.drop k=d.files)∧(aa=d.list)∧(ab=d.names)∧(ac=d.next))) [] Z ⟨AB,AD,AF,AF,AF,AB⟩ ?_
    rintro ⟨k,E,r_out_0,c_out_0,aa,r_out_1,c_out_1,ab,r_out_2,c_out_2,ac⟩ lj w Z ⟨gS,gT,gU,gV,gW,gX⟩ aU
    refine .s<|.g<|.bp ((k:Int)< (d.files.length:Int)) (fun cp=>?_) (fun cp=>?_)
    ·exact .d<|.s<|.ct<|.sk<|.s<|.b 1<|.s<|.g<|gxb d.files k fun bG aA gY dM=>RG.Ix 2 aA Z<|Z.el 2 aA fun lk ll lm lp Z=>RG.Lg 0 0 Z<|RG.Np Z fun dN w Z=>RG.Ss 0 Z fun w Z=>.d<|T.GS 9 [dN,bF,ae,af] Z fun _ w Z=>.r [0]<|GA.Lb (q:=1) 1 2 Z<|.r [2]<|GA.Lb 3 0 Z<|.r [4]<|GA.Ln 5 0 Z<|.go 6<|GE.CS (fun w Z=>Ar bG.part (Z.a 1) (Z.a 2) (p1 _ ‹_›)) Z fun lq lu lv lw w Z=>.r [7]<|.go 8<|GE.Nb 1 Z fun ly w Z=>GA.Do Z fun w Z=>RG.Ap 1 0 E bG [0,1] Z fun dO dP w Z=>.r 1<|RG.Ss 2 Z fun w Z=>.d<|.ib 1<|.g<|.it ((k:Int)+1)<|.r 1<|.d<|aU (k+1,(E++[bG]),dO,dP,aa,r_out_1,c_out_1,ab,r_out_2,c_out_2,ac) _ _ AA (Z.to 1 [] 5) ⟨AB,(by (simp; omega)),(by exact Cp ‹_› ‹_›),‹_›,‹_›,‹_›⟩ (by (simp only []; omega))
    refine .d<|.s<|.cf<|.x 0 rfl<|.s<|.g<|RG.Ln 1 Z<|RG.Ss 4 Z fun w Z=>.d ?_
    have Z:=(Z.sl 3).sl 2
    exact T.Rb 2 func43 results43 Z ⟨⟨r_out_0,E.length,c_out_0,(some ⟨r_out_1,0,none⟩),aa.length,c_out_1,(some ⟨r_out_2,0,none⟩),ab.length,c_out_2,(by rw [show d.next=ac from Eq.symm ‹_›]; kernel_rfl),Z.qo [0] 0 E (by exact CF ‹_› AB),Z.qb 0,Z.qr [0] 1 aa ‹_›,Z.qr [0] 0 ab ‹_›⟩,Z.xt⟩
   refine GE.Np Z fun ak w Z=>.tw 0 7 ?_ ?_
   ·refine GE.N0 Fil 0 Z fun dQ w Z=>.go 7<|GE.CO 0 (fun w Z=>Ae d.names (Z.a 0) AB (fun n hn=>by have:=p4 n hn; omega)) Z fun dR dS w Z=>.r [10]<|GA.Do Z fun w Z=>RG.Ss 2 Z fun w Z=>.d<|.s<|.s<|.g<|.r 1<|RG.Lb 5 Z<|.r 2<|.d<|.b 0<|T.Lp ((0:Nat),([]:List Fil),dQ,(0:Nat),(([]++d.list):List Int),ai,aj,(d.names:List (List Tag)),dR,dS,d.next) (fun (k,E,r_out_0,c_out_0,aa,r_out_1,c_out_1,ab,r_out_2,c_out_2,ac)=>([(2,vP ae),(3,vP ak),(18,.slice a1 d.files.length c1),(19,vI (d.files.length:Int)),(20,vI (k:Int))],[(0,.own 0 r_out_2 42 c_out_2 ab),(1,.own 0 r_out_0 110 c_out_0 E),(2,.box ak 36 [vS r_out_0 E.length c_out_0,vS r_out_1 aa.length c_out_1,vS r_out_2 ab.length c_out_2,vI ac]),(3,.own 0 r_out_1 3 c_out_1 aa)],[],d.files.length - k,(k≤d.files.length)∧(E.length≤k)∧(E++d.files.drop k=d.files)∧(aa=d.list)∧(ab=d.names)∧(ac=d.next))) [] Z ⟨AB,AD,AF,AF,AF,AB⟩ ?_
    rintro ⟨k,E,r_out_0,c_out_0,aa,r_out_1,c_out_1,ab,r_out_2,c_out_2,ac⟩ lz w Z ⟨gZ,g0,hC,hE,hH,hN⟩ aV
    refine .s<|.g<|.bp ((k:Int)< (d.files.length:Int)) (fun cq=>?_) (fun cq=>?_)
    ·exact .d<|.s<|.ct<|.sk<|.s<|.b 1<|.s<|.g<|gxb d.files k fun bH aB hO dT=>RG.Ix 2 aB Z<|Z.el 2 aB fun lA lB lC lD Z=>RG.Lg 0 0 Z<|RG.Np Z fun dU w Z=>RG.Ss 0 Z fun w Z=>.d<|T.GS 9 [dU,ak,ae,af] Z fun _ w Z=>.r [0]<|GA.Lb (q:=1) 1 3 Z<|.r [2]<|GA.Lb 3 0 Z<|.r [4]<|GA.Ln 5 0 Z<|.go 6<|GE.CS (fun w Z=>Ar bH.part (Z.a 1) (Z.a 2) (p1 _ ‹_›)) Z fun lE lF lG lH w Z=>.r [7]<|.go 8<|GE.Nb 1 Z fun lI w Z=>GA.Do Z fun w Z=>RG.Ap 2 0 E bH [0,1] Z fun dV dW w Z=>.r 1<|RG.Ss 3 Z fun w Z=>.d<|.ib 1<|.g<|.it ((k:Int)+1)<|.r 1<|.d<|aV (k+1,(E++[bH]),dV,dW,aa,r_out_1,c_out_1,ab,r_out_2,c_out_2,ac) _ _ AA (Z.to 1 [] 5) ⟨AB,(by (simp; omega)),(by exact Cp ‹_› ‹_›),‹_›,‹_›,‹_›⟩ (by (simp only []; omega))
    refine .d<|.s<|.cf<|.x 0 rfl<|.s<|.g<|RG.Ln 2 Z<|RG.Ss 4 Z fun w Z=>.d ?_
    have Z:=(Z.sl 3).sl 0
    exact T.Rb 2 func43 results43 Z ⟨⟨r_out_0,E.length,c_out_0,(some ⟨r_out_1,0,none⟩),aa.length,c_out_1,(some ⟨r_out_2,0,none⟩),ab.length,c_out_2,(by rw [show d.next=ac from Eq.symm ‹_›]; kernel_rfl),Z.qo [0] 0 E (by exact CF ‹_› AB),Z.qb 0,Z.qr [0] 1 aa ‹_›,Z.qr [0] 0 ab ‹_›⟩,Z.xt⟩
   refine GE.CO 0 (fun w Z=>Ae d.names (Z.a 0) AB (fun n hn=>by have:=p4 n hn; omega)) Z fun dX dY w Z=>.go 0<|GE.N0 Fil 0 Z fun dZ w Z=>.r [10]<|GA.Do Z fun w Z=>RG.Ss 2 Z fun w Z=>.d<|.s<|.s<|.g<|.r 1<|RG.Lb 5 Z<|.r 2<|.d<|.b 0<|T.Lp ((0:Nat),([]:List Fil),dZ,(0:Nat),(([]++d.list):List Int),ai,aj,(d.names:List (List Tag)),dX,dY,d.next) (fun (k,E,r_out_0,c_out_0,aa,r_out_1,c_out_1,ab,r_out_2,c_out_2,ac)=>([(2,vP ae),(3,vP ak),(18,.slice a1 d.files.length c1),(19,vI (d.files.length:Int)),(20,vI (k:Int))],[(0,.own 0 r_out_0 110 c_out_0 E),(1,.own 0 r_out_2 42 c_out_2 ab),(2,.box ak 36 [vS r_out_0 E.length c_out_0,vS r_out_1 aa.length c_out_1,vS r_out_2 ab.length c_out_2,vI ac]),(3,.own 0 r_out_1 3 c_out_1 aa)],[],d.files.length - k,(k≤d.files.length)∧(E.length≤k)∧(E++d.files.drop k=d.files)∧(aa=d.list)∧(ab=d.names)∧(ac=d.next))) [] Z ⟨AB,AD,AF,AF,AF,AB⟩ ?_
   rintro ⟨k,E,r_out_0,c_out_0,aa,r_out_1,c_out_1,ab,r_out_2,c_out_2,ac⟩ lJ w Z ⟨hQ,hV,hW,ia,ic,ie⟩ aW
   refine .s<|.g<|.bp ((k:Int)< (d.files.length:Int)) (fun cr=>?_) (fun cr=>?_)
   ·exact .d<|.s<|.ct<|.sk<|.s<|.b 1<|.s<|.g<|gxb d.files k fun bI aC ig d0=>RG.Ix 2 aC Z<|Z.el 2 aC fun lK lL lM lN Z=>RG.Lg 0 0 Z<|RG.Np Z fun d3 w Z=>RG.Ss 0 Z fun w Z=>.d<|T.GS 9 [d3,ak,ae,af] Z fun _ w Z=>.r [0]<|GA.Lb (q:=1) 1 3 Z<|.r [2]<|GA.Lb 3 0 Z<|.r [4]<|GA.Ln 5 0 Z<|.go 6<|GE.CS (fun w Z=>Ar bI.part (Z.a 1) (Z.a 2) (p1 _ ‹_›)) Z fun lO lP lQ lR w Z=>.r [7]<|.go 8<|GE.Nb 1 Z fun lS w Z=>GA.Do Z fun w Z=>RG.Ap 1 0 E bI [0,1] Z fun d4 d5 w Z=>.r 1<|RG.Ss 3 Z fun w Z=>.d<|.ib 1<|.g<|.it ((k:Int)+1)<|.r 1<|.d<|aW (k+1,(E++[bI]),d4,d5,aa,r_out_1,c_out_1,ab,r_out_2,c_out_2,ac) _ _ AA (Z.to 1 [] 5) ⟨AB,(by (simp; omega)),(by exact Cp ‹_› ‹_›),‹_›,‹_›,‹_›⟩ (by (simp only []; omega))
   refine .d<|.s<|.cf<|.x 0 rfl<|.s<|.g<|RG.Ln 2 Z<|RG.Ss 4 Z fun w Z=>.d ?_
   have Z:=(Z.sl 3).sl 1
   exact T.Rb 2 func43 results43 Z ⟨⟨r_out_0,E.length,c_out_0,(some ⟨r_out_1,0,none⟩),aa.length,c_out_1,(some ⟨r_out_2,0,none⟩),ab.length,c_out_2,(by rw [show d.next=ac from Eq.symm ‹_›]; kernel_rfl),Z.qo [0] 0 E (by exact CF ‹_› AB),Z.qb 0,Z.qr [0] 1 aa ‹_›,Z.qr [0] 0 ab ‹_›⟩,Z.xt⟩
  refine GE.Np Z fun ah w Z=>.tw 0 4 ?_ ?_
  ·refine GE.N0 Fil 0 Z fun d6 w Z=>.go 4<|GE.An (hf:=.inr Av) 2 1 ([]:List Int) d.list [3,4] Z fun d7 d8 w Z=>.go 7<|GE.CO 0 (fun w Z=>Ae d.names (Z.a 0) AB (fun n hn=>by have:=p4 n hn; omega)) Z fun d9 ec w Z=>.r [10]<|GA.Do Z fun w Z=>RG.Ss 2 Z fun w Z=>.d<|.s<|.s<|.g<|.r 1<|RG.Lb 5 Z<|.r 2<|.d<|.b 0<|T.Lp ((0:Nat),([]:List Fil),d6,(0:Nat),(([]++d.list):List Int),d7,d8,(d.names:List (List Tag)),d9,ec,d.next) (fun (k,E,r_out_0,c_out_0,aa,r_out_1,c_out_1,ab,r_out_2,c_out_2,ac)=>([(2,vP ae),(3,vP ah),(18,.slice a1 d.files.length c1),(19,vI (d.files.length:Int)),(20,vI (k:Int))],[(0,.own 0 r_out_2 42 c_out_2 ab),(1,.own 0 r_out_0 110 c_out_0 E),(2,.box ah 36 [vS r_out_0 E.length c_out_0,vS r_out_1 aa.length c_out_1,vS r_out_2 ab.length c_out_2,vI ac]),(3,.own 0 r_out_1 3 c_out_1 aa)],[],d.files.length - k,(k≤d.files.length)∧(E.length≤k)∧(E++d.files.drop k=d.files)∧(aa=d.list)∧(ab=d.names)∧(ac=d.next))) [] Z ⟨AB,AD,AF,AF,AF,AB⟩ ?_
   rintro ⟨k,E,r_out_0,c_out_0,aa,r_out_1,c_out_1,ab,r_out_2,c_out_2,ac⟩ lT w Z ⟨ii,ij,ik,il,im,io⟩ aX
   refine .s<|.g<|.bp ((k:Int)< (d.files.length:Int)) (fun cu=>?_) (fun cu=>?_)
   ·exact .d<|.s<|.ct<|.sk<|.s<|.b 1<|.s<|.g<|gxb d.files k fun bJ aD ip ee=>RG.Ix 2 aD Z<|Z.el 2 aD fun lU lV lW lX Z=>RG.Lg 0 0 Z<|RG.Np Z fun eg w Z=>RG.Ss 0 Z fun w Z=>.d<|T.GS 9 [eg,ah,ae,af] Z fun _ w Z=>.r [0]<|GA.Lb (q:=1) 1 3 Z<|.r [2]<|GA.Lb 3 0 Z<|.r [4]<|GA.Ln 5 0 Z<|.go 6<|GE.CS (fun w Z=>Ar bJ.part (Z.a 1) (Z.a 2) (p1 _ ‹_›)) Z fun lY lZ l0 l3 w Z=>.r [7]<|.go 8<|GE.Nb 1 Z fun l4 w Z=>GA.Do Z fun w Z=>RG.Ap 2 0 E bJ [0,1] Z fun eh ej w Z=>.r 1<|RG.Ss 3 Z fun w Z=>.d<|.ib 1<|.g<|.it ((k:Int)+1)<|.r 1<|.d<|aX (k+1,(E++[bJ]),eh,ej,aa,r_out_1,c_out_1,ab,r_out_2,c_out_2,ac) _ _ AA (Z.to 1 [] 5) ⟨AB,(by (simp; omega)),(by exact Cp ‹_› ‹_›),‹_›,‹_›,‹_›⟩ (by (simp only []; omega))
   refine .d<|.s<|.cf<|.x 0 rfl<|.s<|.g<|RG.Ln 2 Z<|RG.Ss 4 Z fun w Z=>.d ?_
   have Z:=(Z.sl 3).sl 0
   exact T.Rb 2 func43 results43 Z ⟨⟨r_out_0,E.length,c_out_0,(some ⟨r_out_1,0,none⟩),aa.length,c_out_1,(some ⟨r_out_2,0,none⟩),ab.length,c_out_2,(by rw [show d.next=ac from Eq.symm ‹_›]; kernel_rfl),Z.qo [0] 0 E (by exact CF ‹_› AB),Z.qb 0,Z.qr [0] 1 aa ‹_›,Z.qr [0] 0 ab ‹_›⟩,Z.xt⟩
  refine GE.An (hf:=.inr Av) 1 1 ([]:List Int) d.list [2,3] Z fun bW bX w Z=>.tw 0 7 ?_ ?_
  ·refine GE.N0 Fil 0 Z fun ek w Z=>.go 7<|GE.CO 0 (fun w Z=>Ae d.names (Z.a 0) AB (fun n hn=>by have:=p4 n hn; omega)) Z fun en eA w Z=>.r [10]<|GA.Do Z fun w Z=>RG.Ss 2 Z fun w Z=>.d<|.s<|.s<|.g<|.r 1<|RG.Lb 5 Z<|.r 2<|.d<|.b 0<|T.Lp ((0:Nat),([]:List Fil),ek,(0:Nat),(([]++d.list):List Int),bW,bX,(d.names:List (List Tag)),en,eA,d.next) (fun (k,E,r_out_0,c_out_0,aa,r_out_1,c_out_1,ab,r_out_2,c_out_2,ac)=>([(2,vP ae),(3,vP ah),(18,.slice a1 d.files.length c1),(19,vI (d.files.length:Int)),(20,vI (k:Int))],[(0,.own 0 r_out_2 42 c_out_2 ab),(1,.own 0 r_out_0 110 c_out_0 E),(2,.box ah 36 [vS r_out_0 E.length c_out_0,vS r_out_1 aa.length c_out_1,vS r_out_2 ab.length c_out_2,vI ac]),(3,.own 0 r_out_1 3 c_out_1 aa)],[],d.files.length - k,(k≤d.files.length)∧(E.length≤k)∧(E++d.files.drop k=d.files)∧(aa=d.list)∧(ab=d.names)∧(ac=d.next))) [] Z ⟨AB,AD,AF,AF,AF,AB⟩ ?_
   rintro ⟨k,E,r_out_0,c_out_0,aa,r_out_1,c_out_1,ab,r_out_2,c_out_2,ac⟩ l6 w Z ⟨iq,ir,iu,iw,iy,iz⟩ aY
   refine .s<|.g<|.bp ((k:Int)< (d.files.length:Int)) (fun cw=>?_) (fun cw=>?_)
   ·exact .d<|.s<|.ct<|.sk<|.s<|.b 1<|.s<|.g<|gxb d.files k fun bK aE iA eB=>RG.Ix 2 aE Z<|Z.el 2 aE fun l7 l8 l9 mh Z=>RG.Lg 0 0 Z<|RG.Np Z fun eC w Z=>RG.Ss 0 Z fun w Z=>.d<|T.GS 9 [eC,ah,ae,af] Z fun _ w Z=>.r [0]<|GA.Lb (q:=1) 1 3 Z<|.r [2]<|GA.Lb 3 0 Z<|.r [4]<|GA.Ln 5 0 Z<|.go 6<|GE.CS (fun w Z=>Ar bK.part (Z.a 1) (Z.a 2) (p1 _ ‹_›)) Z fun mj ml mp mq w Z=>.r [7]<|.go 8<|GE.Nb 1 Z fun mr w Z=>GA.Do Z fun w Z=>RG.Ap 2 0 E bK [0,1] Z fun eD eE w Z=>.r 1<|RG.Ss 3 Z fun w Z=>.d<|.ib 1<|.g<|.it ((k:Int)+1)<|.r 1<|.d<|aY (k+1,(E++[bK]),eD,eE,aa,r_out_1,c_out_1,ab,r_out_2,c_out_2,ac) _ _ AA (Z.to 1 [] 5) ⟨AB,(by (simp; omega)),(by exact Cp ‹_› ‹_›),‹_›,‹_›,‹_›⟩ (by (simp only []; omega))
   refine .d<|.s<|.cf<|.x 0 rfl<|.s<|.g<|RG.Ln 2 Z<|RG.Ss 4 Z fun w Z=>.d ?_
   have Z:=(Z.sl 3).sl 0
   exact T.Rb 2 func43 results43 Z ⟨⟨r_out_0,E.length,c_out_0,(some ⟨r_out_1,0,none⟩),aa.length,c_out_1,(some ⟨r_out_2,0,none⟩),ab.length,c_out_2,(by rw [show d.next=ac from Eq.symm ‹_›]; kernel_rfl),Z.qo [0] 0 E (by exact CF ‹_› AB),Z.qb 0,Z.qr [0] 1 aa ‹_›,Z.qr [0] 0 ab ‹_›⟩,Z.xt⟩
  refine GE.CO 0 (fun w Z=>Ae d.names (Z.a 0) AB (fun n hn=>by have:=p4 n hn; omega)) Z fun eF eG w Z=>.go 0<|GE.N0 Fil 0 Z fun eH w Z=>.r [10]<|GA.Do Z fun w Z=>RG.Ss 2 Z fun w Z=>.d<|.s<|.s<|.g<|.r 1<|RG.Lb 5 Z<|.r 2<|.d<|.b 0<|T.Lp ((0:Nat),([]:List Fil),eH,(0:Nat),(([]++d.list):List Int),bW,bX,(d.names:List (List Tag)),eF,eG,d.next) (fun (k,E,r_out_0,c_out_0,aa,r_out_1,c_out_1,ab,r_out_2,c_out_2,ac)=>([(2,vP ae),(3,vP ah),(18,.slice a1 d.files.length c1),(19,vI (d.files.length:Int)),(20,vI (k:Int))],[(0,.own 0 r_out_0 110 c_out_0 E),(1,.own 0 r_out_2 42 c_out_2 ab),(2,.box ah 36 [vS r_out_0 E.length c_out_0,vS r_out_1 aa.length c_out_1,vS r_out_2 ab.length c_out_2,vI ac]),(3,.own 0 r_out_1 3 c_out_1 aa)],[],d.files.length - k,(k≤d.files.length)∧(E.length≤k)∧(E++d.files.drop k=d.files)∧(aa=d.list)∧(ab=d.names)∧(ac=d.next))) [] Z ⟨AB,AD,AF,AF,AF,AB⟩ ?_
  rintro ⟨k,E,r_out_0,c_out_0,aa,r_out_1,c_out_1,ab,r_out_2,c_out_2,ac⟩ mt w Z ⟨iB,iC,iD,iE,iF,iG⟩ aZ
  refine .s<|.g<|.bp ((k:Int)< (d.files.length:Int)) (fun cx=>?_) (fun cx=>?_)
  ·exact .d<|.s<|.ct<|.sk<|.s<|.b 1<|.s<|.g<|gxb d.files k fun bL aF iH eI=>RG.Ix 2 aF Z<|Z.el 2 aF fun mu mw mz mA Z=>RG.Lg 0 0 Z<|RG.Np Z fun eJ w Z=>RG.Ss 0 Z fun w Z=>.d<|T.GS 9 [eJ,ah,ae,af] Z fun _ w Z=>.r [0]<|GA.Lb (q:=1) 1 3 Z<|.r [2]<|GA.Lb 3 0 Z<|.r [4]<|GA.Ln 5 0 Z<|.go 6<|GE.CS (fun w Z=>Ar bL.part (Z.a 1) (Z.a 2) (p1 _ ‹_›)) Z fun mB mC mD mE w Z=>.r [7]<|.go 8<|GE.Nb 1 Z fun mF w Z=>GA.Do Z fun w Z=>RG.Ap 1 0 E bL [0,1] Z fun eK eL w Z=>.r 1<|RG.Ss 3 Z fun w Z=>.d<|.ib 1<|.g<|.it ((k:Int)+1)<|.r 1<|.d<|aZ (k+1,(E++[bL]),eK,eL,aa,r_out_1,c_out_1,ab,r_out_2,c_out_2,ac) _ _ AA (Z.to 1 [] 5) ⟨AB,(by (simp; omega)),(by exact Cp ‹_› ‹_›),‹_›,‹_›,‹_›⟩ (by (simp only []; omega))
  refine .d<|.s<|.cf<|.x 0 rfl<|.s<|.g<|RG.Ln 2 Z<|RG.Ss 4 Z fun w Z=>.d ?_
  have Z:=(Z.sl 3).sl 1
  exact T.Rb 2 func43 results43 Z ⟨⟨r_out_0,E.length,c_out_0,(some ⟨r_out_1,0,none⟩),aa.length,c_out_1,(some ⟨r_out_2,0,none⟩),ab.length,c_out_2,(by rw [show d.next=ac from Eq.symm ‹_›]; kernel_rfl),Z.qo [0] 0 E (by exact CF ‹_› AB),Z.qb 0,Z.qr [0] 1 aa ‹_›,Z.qr [0] 0 ab ‹_›⟩,Z.xt⟩
 refine GE.Np Z fun ag w Z=>.tw 0 1 ?_ ?_
 ·refine GE.N0 Fil 0 Z fun eM w Z=>.go 1<|GE.N0 Int 0 Z fun mG w Z=>.go 4<|GE.An (hf:=.inr Av) 0 1 ([]:List Int) d.list [3,4] Z fun eN eO w Z=>.go 7<|GE.CO 0 (fun w Z=>Ae d.names (Z.a 0) AB (fun n hn=>by have:=p4 n hn; omega)) Z fun eP eQ w Z=>.r [10]<|GA.Do Z fun w Z=>RG.Ss 3 Z fun w Z=>.d<|.s<|.s<|.g<|.r 1<|RG.Lb 5 Z<|.r 2<|.d<|.b 0<|T.Lp ((0:Nat),([]:List Fil),eM,(0:Nat),(([]++d.list):List Int),eN,eO,(d.names:List (List Tag)),eP,eQ,d.next) (fun (k,E,r_out_0,c_out_0,aa,r_out_1,c_out_1,ab,r_out_2,c_out_2,ac)=>([(2,vP ae),(3,vP ag),(18,.slice a1 d.files.length c1),(19,vI (d.files.length:Int)),(20,vI (k:Int))],[(0,.own 0 r_out_2 42 c_out_2 ab),(1,.own 0 r_out_1 3 c_out_1 aa),(2,.own 0 r_out_0 110 c_out_0 E),(3,.box ag 36 [vS r_out_0 E.length c_out_0,vS r_out_1 aa.length c_out_1,vS r_out_2 ab.length c_out_2,vI ac])],[],d.files.length - k,(k≤d.files.length)∧(E.length≤k)∧(E++d.files.drop k=d.files)∧(aa=d.list)∧(ab=d.names)∧(ac=d.next))) [] Z ⟨AB,AD,AF,AF,AF,AB⟩ ?_
  rintro ⟨k,E,r_out_0,c_out_0,aa,r_out_1,c_out_1,ab,r_out_2,c_out_2,ac⟩ mH w Z ⟨iI,iJ,iK,iL,iM,iN⟩ ba
  refine .s<|.g<|.bp ((k:Int)< (d.files.length:Int)) (fun cy=>?_) (fun cy=>?_)
  ·exact .d<|.s<|.ct<|.sk<|.s<|.b 1<|.s<|.g<|gxb d.files k fun bM aG iO eR=>RG.Ix 2 aG Z<|Z.el 2 aG fun mI mJ mK mL Z=>RG.Lg 0 0 Z<|RG.Np Z fun eS w Z=>RG.Ss 0 Z fun w Z=>.d<|T.GS 9 [eS,ag,ae,af] Z fun _ w Z=>.r [0]<|GA.Lb (q:=1) 1 4 Z<|.r [2]<|GA.Lb 3 0 Z<|.r [4]<|GA.Ln 5 0 Z<|.go 6<|GE.CS (fun w Z=>Ar bM.part (Z.a 1) (Z.a 2) (p1 _ ‹_›)) Z fun mM mN mO mP w Z=>.r [7]<|.go 8<|GE.Nb 1 Z fun mQ w Z=>GA.Do Z fun w Z=>RG.Ap 3 0 E bM [0,1] Z fun eT eU w Z=>.r 1<|RG.Ss 4 Z fun w Z=>.d<|.ib 1<|.g<|.it ((k:Int)+1)<|.r 1<|.d<|ba (k+1,(E++[bM]),eT,eU,aa,r_out_1,c_out_1,ab,r_out_2,c_out_2,ac) _ _ AA (Z.to 1 [] 5) ⟨AB,(by (simp; omega)),(by exact Cp ‹_› ‹_›),‹_›,‹_›,‹_›⟩ (by (simp only []; omega))
  refine .d<|.s<|.cf<|.x 0 rfl<|.s<|.g<|RG.Ln 3 Z<|RG.Ss 4 Z fun w Z=>.d ?_
  have Z:=(Z.sl 1).sl 0
  exact T.Rb 2 func43 results43 Z ⟨⟨r_out_0,E.length,c_out_0,(some ⟨r_out_1,0,none⟩),aa.length,c_out_1,(some ⟨r_out_2,0,none⟩),ab.length,c_out_2,(by rw [show d.next=ac from Eq.symm ‹_›]; kernel_rfl),Z.qo [0] 0 E (by exact CF ‹_› AB),Z.qb 0,Z.qr [0] 1 aa ‹_›,Z.qr [0] 0 ab ‹_›⟩,Z.xt⟩
 refine GE.N0 Int 0 Z fun mR w Z=>.tw 0 4 ?_ ?_
 ·refine GE.N0 Fil 0 Z fun eV w Z=>.go 4<|GE.An (hf:=.inr Av) 1 1 ([]:List Int) d.list [3,4] Z fun eW eX w Z=>.go 7<|GE.CO 0 (fun w Z=>Ae d.names (Z.a 0) AB (fun n hn=>by have:=p4 n hn; omega)) Z fun eY eZ w Z=>.r [10]<|GA.Do Z fun w Z=>RG.Ss 3 Z fun w Z=>.d<|.s<|.s<|.g<|.r 1<|RG.Lb 5 Z<|.r 2<|.d<|.b 0<|T.Lp ((0:Nat),([]:List Fil),eV,(0:Nat),(([]++d.list):List Int),eW,eX,(d.names:List (List Tag)),eY,eZ,d.next) (fun (k,E,r_out_0,c_out_0,aa,r_out_1,c_out_1,ab,r_out_2,c_out_2,ac)=>([(2,vP ae),(3,vP ag),(18,.slice a1 d.files.length c1),(19,vI (d.files.length:Int)),(20,vI (k:Int))],[(0,.own 0 r_out_2 42 c_out_2 ab),(1,.own 0 r_out_0 110 c_out_0 E),(2,.own 0 r_out_1 3 c_out_1 aa),(3,.box ag 36 [vS r_out_0 E.length c_out_0,vS r_out_1 aa.length c_out_1,vS r_out_2 ab.length c_out_2,vI ac])],[],d.files.length - k,(k≤d.files.length)∧(E.length≤k)∧(E++d.files.drop k=d.files)∧(aa=d.list)∧(ab=d.names)∧(ac=d.next))) [] Z ⟨AB,AD,AF,AF,AF,AB⟩ ?_
  rintro ⟨k,E,r_out_0,c_out_0,aa,r_out_1,c_out_1,ab,r_out_2,c_out_2,ac⟩ mS w Z ⟨iP,iQ,iR,iS,iT,iU⟩ bd
  refine .s<|.g<|.bp ((k:Int)< (d.files.length:Int)) (fun cz=>?_) (fun cz=>?_)
  ·exact .d<|.s<|.ct<|.sk<|.s<|.b 1<|.s<|.g<|gxb d.files k fun bN aH iV e7=>RG.Ix 2 aH Z<|Z.el 2 aH fun mT mU mV mW Z=>RG.Lg 0 0 Z<|RG.Np Z fun e8 w Z=>RG.Ss 0 Z fun w Z=>.d<|T.GS 9 [e8,ag,ae,af] Z fun _ w Z=>.r [0]<|GA.Lb (q:=1) 1 4 Z<|.r [2]<|GA.Lb 3 0 Z<|.r [4]<|GA.Ln 5 0 Z<|.go 6<|GE.CS (fun w Z=>Ar bN.part (Z.a 1) (Z.a 2) (p1 _ ‹_›)) Z fun mX mY mZ m0 w Z=>.r [7]<|.go 8<|GE.Nb 1 Z fun m5 w Z=>GA.Do Z fun w Z=>RG.Ap 2 0 E bN [0,1] Z fun fa fb w Z=>.r 1<|RG.Ss 4 Z fun w Z=>.d<|.ib 1<|.g<|.it ((k:Int)+1)<|.r 1<|.d<|bd (k+1,(E++[bN]),fa,fb,aa,r_out_1,c_out_1,ab,r_out_2,c_out_2,ac) _ _ AA (Z.to 1 [] 5) ⟨AB,(by (simp; omega)),(by exact Cp ‹_› ‹_›),‹_›,‹_›,‹_›⟩ (by (simp only []; omega))
  refine .d<|.s<|.cf<|.x 0 rfl<|.s<|.g<|RG.Ln 3 Z<|RG.Ss 4 Z fun w Z=>.d ?_
  have Z:=(Z.sl 2).sl 0
  exact T.Rb 2 func43 results43 Z ⟨⟨r_out_0,E.length,c_out_0,(some ⟨r_out_1,0,none⟩),aa.length,c_out_1,(some ⟨r_out_2,0,none⟩),ab.length,c_out_2,(by rw [show d.next=ac from Eq.symm ‹_›]; kernel_rfl),Z.qo [0] 0 E (by exact CF ‹_› AB),Z.qb 0,Z.qr [0] 1 aa ‹_›,Z.qr [0] 0 ab ‹_›⟩,Z.xt⟩
 refine GE.An (hf:=.inr Av) 0 1 ([]:List Int) d.list [2,3] Z fun bY bZ w Z=>.tw 0 7 ?_ ?_
 ·refine GE.N0 Fil 0 Z fun fd w Z=>.go 7<|GE.CO 0 (fun w Z=>Ae d.names (Z.a 0) AB (fun n hn=>by have:=p4 n hn; omega)) Z fun fe ff w Z=>.r [10]<|GA.Do Z fun w Z=>RG.Ss 3 Z fun w Z=>.d<|.s<|.s<|.g<|.r 1<|RG.Lb 5 Z<|.r 2<|.d<|.b 0<|T.Lp ((0:Nat),([]:List Fil),fd,(0:Nat),(([]++d.list):List Int),bY,bZ,(d.names:List (List Tag)),fe,ff,d.next) (fun (k,E,r_out_0,c_out_0,aa,r_out_1,c_out_1,ab,r_out_2,c_out_2,ac)=>([(2,vP ae),(3,vP ag),(18,.slice a1 d.files.length c1),(19,vI (d.files.length:Int)),(20,vI (k:Int))],[(0,.own 0 r_out_2 42 c_out_2 ab),(1,.own 0 r_out_0 110 c_out_0 E),(2,.own 0 r_out_1 3 c_out_1 aa),(3,.box ag 36 [vS r_out_0 E.length c_out_0,vS r_out_1 aa.length c_out_1,vS r_out_2 ab.length c_out_2,vI ac])],[],d.files.length - k,(k≤d.files.length)∧(E.length≤k)∧(E++d.files.drop k=d.files)∧(aa=d.list)∧(ab=d.names)∧(ac=d.next))) [] Z ⟨AB,AD,AF,AF,AF,AB⟩ ?_
  rintro ⟨k,E,r_out_0,c_out_0,aa,r_out_1,c_out_1,ab,r_out_2,c_out_2,ac⟩ m6 w Z ⟨iW,iX,iY,iZ,ja,jb⟩ bg
  refine .s<|.g<|.bp ((k:Int)< (d.files.length:Int)) (fun cA=>?_) (fun cA=>?_)
  ·exact .d<|.s<|.ct<|.sk<|.s<|.b 1<|.s<|.g<|gxb d.files k fun bO aI jc fg=>RG.Ix 2 aI Z<|Z.el 2 aI fun m7 m8 m9 nc Z=>RG.Lg 0 0 Z<|RG.Np Z fun fi w Z=>RG.Ss 0 Z fun w Z=>.d<|T.GS 9 [fi,ag,ae,af] Z fun _ w Z=>.r [0]<|GA.Lb (q:=1) 1 4 Z<|.r [2]<|GA.Lb 3 0 Z<|.r [4]<|GA.Ln 5 0 Z<|.go 6<|GE.CS (fun w Z=>Ar bO.part (Z.a 1) (Z.a 2) (p1 _ ‹_›)) Z fun nh ni nj nq w Z=>.r [7]<|.go 8<|GE.Nb 1 Z fun nt w Z=>GA.Do Z fun w Z=>RG.Ap 2 0 E bO [0,1] Z fun fj fm w Z=>.r 1<|RG.Ss 4 Z fun w Z=>.d<|.ib 1<|.g<|.it ((k:Int)+1)<|.r 1<|.d<|bg (k+1,(E++[bO]),fj,fm,aa,r_out_1,c_out_1,ab,r_out_2,c_out_2,ac) _ _ AA (Z.to 1 [] 5) ⟨AB,(by (simp; omega)),(by exact Cp ‹_› ‹_›),‹_›,‹_›,‹_›⟩ (by (simp only []; omega))
  refine .d<|.s<|.cf<|.x 0 rfl<|.s<|.g<|RG.Ln 3 Z<|RG.Ss 4 Z fun w Z=>.d ?_
  have Z:=(Z.sl 2).sl 0
  exact T.Rb 2 func43 results43 Z ⟨⟨r_out_0,E.length,c_out_0,(some ⟨r_out_1,0,none⟩),aa.length,c_out_1,(some ⟨r_out_2,0,none⟩),ab.length,c_out_2,(by rw [show d.next=ac from Eq.symm ‹_›]; kernel_rfl),Z.qo [0] 0 E (by exact CF ‹_› AB),Z.qb 0,Z.qr [0] 1 aa ‹_›,Z.qr [0] 0 ab ‹_›⟩,Z.xt⟩
 refine GE.CO 0 (fun w Z=>Ae d.names (Z.a 0) AB (fun n hn=>by have:=p4 n hn; omega)) Z fun fp fq w Z=>.go 0<|GE.N0 Fil 0 Z fun fu w Z=>.r [10]<|GA.Do Z fun w Z=>RG.Ss 3 Z fun w Z=>.d<|.s<|.s<|.g<|.r 1<|RG.Lb 5 Z<|.r 2<|.d<|.b 0<|T.Lp ((0:Nat),([]:List Fil),fu,(0:Nat),(([]++d.list):List Int),bY,bZ,(d.names:List (List Tag)),fp,fq,d.next) (fun (k,E,r_out_0,c_out_0,aa,r_out_1,c_out_1,ab,r_out_2,c_out_2,ac)=>([(2,vP ae),(3,vP ag),(18,.slice a1 d.files.length c1),(19,vI (d.files.length:Int)),(20,vI (k:Int))],[(0,.own 0 r_out_0 110 c_out_0 E),(1,.own 0 r_out_2 42 c_out_2 ab),(2,.own 0 r_out_1 3 c_out_1 aa),(3,.box ag 36 [vS r_out_0 E.length c_out_0,vS r_out_1 aa.length c_out_1,vS r_out_2 ab.length c_out_2,vI ac])],[],d.files.length - k,(k≤d.files.length)∧(E.length≤k)∧(E++d.files.drop k=d.files)∧(aa=d.list)∧(ab=d.names)∧(ac=d.next))) [] Z ⟨AB,AD,AF,AF,AF,AB⟩ ?_
 rintro ⟨k,E,r_out_0,c_out_0,aa,r_out_1,c_out_1,ab,r_out_2,c_out_2,ac⟩ nu w Z ⟨jd,je,jf,jg,jh,ji⟩ bh
 refine .s<|.g<|.bp ((k:Int)< (d.files.length:Int)) (fun cB=>?_) (fun cB=>?_)
 ·exact .d<|.s<|.ct<|.sk<|.s<|.b 1<|.s<|.g<|gxb d.files k fun bP aJ jj fv=>RG.Ix 2 aJ Z<|Z.el 2 aJ fun nv nz nA nB Z=>RG.Lg 0 0 Z<|RG.Np Z fun fw w Z=>RG.Ss 0 Z fun w Z=>.d<|T.GS 9 [fw,ag,ae,af] Z fun _ w Z=>.r [0]<|GA.Lb (q:=1) 1 4 Z<|.r [2]<|GA.Lb 3 0 Z<|.r [4]<|GA.Ln 5 0 Z<|.go 6<|GE.CS (fun w Z=>Ar bP.part (Z.a 1) (Z.a 2) (p1 _ ‹_›)) Z fun nC nD nE nF w Z=>.r [7]<|.go 8<|GE.Nb 1 Z fun nG w Z=>GA.Do Z fun w Z=>RG.Ap 1 0 E bP [0,1] Z fun fA fB w Z=>.r 1<|RG.Ss 4 Z fun w Z=>.d<|.ib 1<|.g<|.it ((k:Int)+1)<|.r 1<|.d<|bh (k+1,(E++[bP]),fA,fB,aa,r_out_1,c_out_1,ab,r_out_2,c_out_2,ac) _ _ AA (Z.to 1 [] 5) ⟨AB,(by (simp; omega)),(by exact Cp ‹_› ‹_›),‹_›,‹_›,‹_›⟩ (by (simp only []; omega))
 refine .d<|.s<|.cf<|.x 0 rfl<|.s<|.g<|RG.Ln 3 Z<|RG.Ss 4 Z fun w Z=>.d ?_
 have Z:=(Z.sl 2).sl 1
 exact T.Rb 2 func43 results43 Z ⟨⟨r_out_0,E.length,c_out_0,(some ⟨r_out_1,0,none⟩),aa.length,c_out_1,(some ⟨r_out_2,0,none⟩),ab.length,c_out_2,(by rw [show d.next=ac from Eq.symm ‹_›]; kernel_rfl),Z.qo [0] 0 E (by exact CF ‹_› AB),Z.qb 0,Z.qr [0] 1 aa ‹_›,Z.qr [0] 0 ab ‹_›⟩,Z.xt⟩
end Go.Proofs.YtckdhcbbgmiccaaGreat
namespace Go.Proofs.YtckdhcbbgmiccaaGreat
set_option maxRecDepth 100000
set_option maxHeartbeats 4000000
variable {w:World} {F:Nat→Prop} {a1 a2 a3 a4 a5 a6:Option Addr} {n1 c1 n2 c2 n3 c3 n4 c4 n5 c5 n6 c6:Nat}
theorem LK (a:Dsk) (b:Dsk) (h1:RepS w F a1 n1 c1 a.files) (h2:RepS w F a2 n2 c2 a.list) (h3:RepS w F a3 n3 c3 a.names) (h4:RepS w F a4 n4 c4 b.files) (h5:RepS w F a5 n5 c5 b.list) (h6:RepS w F a6 n6 c6 b.names)  : Calls Tryz.prog 26 [.agg #[.slice a1 n1 c1,.slice a2 n2 c2,.slice a3 n3 c3,.int .i64 a.next],.agg #[.slice a4 n4 c4,.slice a5 n5 c5,.slice a6 n6 c6,.int .i64 b.next]].toArray w (Al fun rv w'=>rv=.bool ((a==b))∧Ext w w'):=by
 cases h1.len
 cases h2.len
 cases h3.len
 cases h4.len
 cases h5.len
 cases h6.len
 refine goT func26 ?_
 have Z:=((((((St.i0 F w).p h1).p h2).p h3).p h4).p h5).p h6
 have aD:=h1.max
 have aF:=h3.max
 refine .s<|.g<|RG.Np Z fun ai w Z=>RG.Np Z fun aj w Z=>.r 1<|.d<|.s<|.s<|.g<|.r 1<|RG.Lb 1 Z<|.r 2<|RG.Lb 0 Z<|.r 1<|.ne (a.files.length:Int) (b.files.length:Int) (fun ak=>.r 24<|.d<|.ct<|.s<|.g<|.r 1<|.d<|T.rt func26 results26 (.bool false) ⟨(AG (by exact Hm (.inl (SN ‹_›)))),Z.xt⟩) fun ak=>.r 2<|RG.Lb 1 Z<|.r 1<|RG.Lb 0 Z<|RG.C0 (FK a.list b.list (Z.a 4) (Z.a 1)) Z fun w Z=>?_
 cases aJ:(a.list==b.list)
 ·exact .r 18<|.d<|.ct<|.s<|.g<|.r 1<|.d<|T.rt func26 results26 (.bool false) ⟨(AG (by exact Hm (.inr (.inl (VT ‹_›))))),Z.xt⟩
 refine .r 4<|RG.Lb 1 Z<|.r 2<|RG.Lb 0 Z<|.r 1<|.ne (a.names.length:Int) (b.names.length:Int) (fun al=>.r 8<|.d<|.ct<|.s<|.g<|.r 1<|.d<|T.rt func26 results26 (.bool false) ⟨(AG (by exact Hm (.inr (.inr (.inl (SN ‹_›)))))),Z.xt⟩) fun al=>.r 3<|RG.Lb 1 Z<|.r 1<|RG.Lb 0 Z<|.ne a.next b.next (fun am=>.r 1<|.d<|.ct<|.s<|.g<|.r 1<|.d<|T.rt func26 results26 (.bool false) ⟨(AG (by exact Hm (.inr (.inr (.inr ‹_›))))),Z.xt⟩) fun am=>.r 1<|.d<|.cf<|.sk<|.s<|.s<|.g<|.r 1<|.d<|.b 0<|T.Lp (0:Nat) (fun k=>([(2,vP ai),(3,vP aj),(5,vI (k:Int))],[],[],a.files.length - k,(k≤a.files.length)∧(a.files.drop k=b.files.drop k↔a.files=b.files))) [] Z ⟨AB,(by exact Iff.rfl)⟩ ?_
 rintro k aV w Z ⟨aK,aL⟩ ae
 refine .s<|.s<|.g<|.r 2<|RG.Lb 1 Z<|.r 1<|.bp ((k:Int)< (a.files.length:Int)) (fun ao=>?_) (fun ao=>?_)
 ·refine .d<|.ct<|.sk<|.s<|.b 1<|.s<|T.Gd 26 Z fun w Z=>.r [0]<|GA.Lb 1 1 Z<|.r [2]<|gxd a.files k fun ag E aM=>GA.Ix 3 5 E Z<|.r [4]<|Z.el 5 E fun aW aX aY aZ Z=>GA.Lh 5 0 0 Z<|.r [6]<|GA.Lb 7 0 Z<|.r [8]<|gxd b.files k fun ah aa aN=>GA.Ix 9 5 aa Z<|.r [10]<|Z.el 5 aa fun ba bd bg bh Z=>GA.Lh 11 0 0 Z<|GA.neI (i:=12) (a:=ag.num) (b:=ah.num) AA (fun aq=>.r [13]<|GA.Sk Z fun w Z=>.r 3<|.d<|.ct<|.s<|.g<|.r 1<|.d<|T.rt func26 results26 (.bool false) ⟨(AG (by exact Hm (.inl (SL ‹_› ‹_› ‹_› (.inl ‹_›))))),Z.xt⟩) fun aq=>.r [13,14]<|GA.Lb 15 1 Z<|.r [16]<|GA.Ix 17 11 E Z<|.r [18]<|GA.Lg 19 3 1 Z<|.r [20]<|GA.Lb 21 0 Z<|.r [22]<|GA.Ix 23 8 aa Z<|.r [24]<|GA.Lg 25 0 1 Z<|GA.Dn Z fun w Z=>RG.C0 (HQ ag.part ah.part (Z.a 4) (Z.a 5) (Z.a 1) (Z.a 2)) Z fun w Z=>?_
  cases aO:(ag.part==ah.part)
  ·exact .r 2<|.d<|.ct<|.s<|.g<|.r 1<|.d<|T.rt func26 results26 (.bool false) ⟨(AG (by exact Hm (.inl (SL ‹_› ‹_› ‹_› (.inr ‹_›))))),Z.xt⟩
  exact .r 2<|.d<|.cf<|.sk<|.ib 1<|.g<|.r 1<|.it ((k:Int)+1)<|.r 1<|.d<|ae (k+1) _ _ AA (Z.to 0 [] 6) ⟨AB,(by exact VQ ‹_› ‹_› ‹_› ‹_› ‹_›)⟩ (by (simp only []; omega))
 refine .d<|.cf<|.x 0 rfl<|.s<|.s<|.g<|.r 1<|.d<|.b 2<|T.Lp (0:Nat) (fun k=>([(2,vP ai),(3,vP aj),(6,vI (k:Int))],[],[],a.names.length - k,(k≤a.names.length)∧(a.files=b.files)∧(a.names.drop k=b.names.drop k↔a.names=b.names))) [] Z ⟨AB,(by exact Nu ‹_› AB AB),(by exact Iff.rfl)⟩ ?_
 rintro k bi w Z ⟨aP,aQ,aR⟩ af
 refine .s<|.s<|.g<|.r 2<|RG.Lb 1 Z<|.r 1<|.bp ((k:Int)< (a.names.length:Int)) (fun ar=>?_) (fun ar=>.d<|.cf<|.x 2 rfl<|.s<|.g<|.r 1<|.d<|T.rt func26 results26 (.bool true) ⟨(AG (by exact VR ‹_› ‹_› (Nu ‹_› AB AB) ‹_›)),Z.xt⟩)
 refine .d<|.ct<|.sk<|.s<|.b 3<|.s<|T.Gd 10 Z fun w Z=>.r [0]<|GA.Lb 1 1 Z<|.r [2]<|gxd a.names k fun ax ab aS=>GA.Ix 3 3 ab Z<|Z.el 3 ab fun bj bk Z=>GA.Lh 4 0 0 Z<|.r [5]<|GA.Lb 6 0 Z<|.r [7]<|gxd b.names k fun ay ac aT=>GA.Ix 8 2 ac Z<|Z.el 2 ac fun bm bn Z=>GA.Lh 9 0 0 Z<|GA.Dn Z fun w Z=>RG.C0 (HN ax ay (Z.a 3) (Z.a 1)) Z fun w Z=>?_
 cases aU:(ax==ay)
 ·exact .r 1<|.d<|.ct<|.s<|.g<|.r 1<|.d<|T.rt func26 results26 (.bool false) ⟨(AG (by exact Hm (.inr (.inr (.inl (V8 ‹_› ‹_› ‹_› ‹_›)))))),Z.xt⟩
 exact .r 1<|.d<|.cf<|.sk<|.ib 3<|.g<|.r 1<|.it ((k:Int)+1)<|.r 1<|.d<|af (k+1) _ _ AA (Z.to 0 [] 4) ⟨AB,‹_›,(by exact V7 ‹_› ‹_› ‹_› ‹_›)⟩ (by (simp only []; omega))
theorem HT (d:Dsk) (steps:List Stp) (cut:Int) (h1:RepS w F a1 n1 c1 d.files) (h2:RepS w F a2 n2 c2 d.list) (h3:RepS w F a3 n3 c3 d.names) (h4:RepS w F a4 n4 c4 steps) (p0:DD d) (p1:Ax d=true→StW d steps):Calls Tryz.prog 29 [.agg #[.slice a1 n1 c1,.slice a2 n2 c2,.slice a3 n3 c3,.int .i64 d.next],.slice a4 n4 c4,.int .i64 cut].toArray w (Al fun rv w'=>VS (fo F w.heap.size) w' (Aj d steps cut:Dsk) rv∧Ext w w'):=by
 refine goT func29 ?_
 obtain ⟨rfl,eh,h1⟩:=h1.tp
 obtain ⟨rfl,ej,h2⟩:=h2.tp
 obtain ⟨rfl,ek,h3⟩:=h3.tp
 obtain ⟨rfl,en,h4⟩:=h4.tp
 refine .s<|.g<|.np 36 [.slice a1 d.files.length c1,.slice a2 d.list.length c2,.slice a3 d.names.length c3,vI d.next] fun ae eY bD bk aa cp=>?_
 replace ⟨h1,h2,h3,h4⟩:=(sn [] bk bD).g4 h1 h2 h3 h4
 have E:=bk
 refine .np 36 [AH,AH,AH,vI 0] fun af dv bg bE ab cq=>?_
 have eA:=Ab bg aa.lt
 have eB:=E.cn bg
 replace ⟨h1,h2,h3,h4,aa,E⟩:=(sn [ae] bE bg).g6 h1 h2 h3 h4 aa E
 refine .d<|.s<|.s<|.g<|.ln aa<|.cl (C5 d h1.ta h2.ta h3.ta (by exact p0) (w:=dv) (F:=all)) ?_
 rintro eZ cr ⟨rfl,bF⟩
 replace ⟨h1,h2,h3,h4,aa,ab,E⟩:=(se [af,ae] bF).g7 h1 h2 h3 h4 aa ab E
 cases eC:(Ax d)
 ·refine .r 5<|.d<|.ct<|.s<|.g<|.r 1<|.sc [AH,AH,AH,vI 0] ab fun e7 bG cu cw=>?_
  replace ⟨h1,h2,h3,h4,aa,E⟩:=(so [af,ae] bG).g6 h1 h2 h3 h4 aa E
  exact .d<|.rb func29 results29 cu ⟨(VS.of (y:=(⟨([]:List Fil),([]:List Int),([]:List (List Tag)),0⟩:Dsk)) ⟨_,rfl,⟨_,_,_,_,_,_,_,_,_,rfl,(RepS.BM _ _ none 0 AE),(RepS.BM _ _ none 0 AE),(RepS.BM _ _ none 0 AE)⟩⟩ (by exact SK (.inl ‹_›))),E⟩
 refine .r 3<|.bp (cut< 0) (fun cx=>?_) (fun cx=>?_)
 ·refine .r 1<|.d<|.ct<|.s<|.g<|.r 1<|.sc [AH,AH,AH,vI 0] ab fun e8 bH cy cz=>?_
  replace ⟨h1,h2,h3,h4,aa,E⟩:=(so [af,ae] bH).g6 h1 h2 h3 h4 aa E
  exact .d<|.rb func29 results29 cy ⟨(VS.of (y:=(⟨([]:List Fil),([]:List Int),([]:List (List Tag)),0⟩:Dsk)) ⟨_,rfl,⟨_,_,_,_,_,_,_,_,_,rfl,(RepS.BM _ _ none 0 AE),(RepS.BM _ _ none 0 AE),(RepS.BM _ _ none 0 AE)⟩⟩ (by exact SK (.inr (.inl ‹_›)))),E⟩
 refine .r 1<|.d<|.cf<|.sk<|.s<|.g<|.ln aa<|.cl (CK d h1.ta h2.ta h3.ta (by exact QU p0) (by exact QV p0) (by exact QW p0) (by exact QX p0) (by exact QY p0) (w:=cr) (F:=all)) ?_
 rintro fa bN ⟨⟨aE,cA,cB,cC,fb,cD,cE,fd,cF,rfl,ay,aX,aK,aL⟩,bI⟩
 have bh:=al2 ab.lt aa.lt
 have bm:Gb w.heap.size cr.heap.size:=E.size
 have cG:=CC aX aa.lt
 have cH:=CC aX ab.lt
 have cI:Cov nil w aE:=KN aX E.size
 replace ⟨h4,aa,ab,E⟩:=(sz [af,ae] bI aX).g4 h4 aa ab E
 replace ay:Own bN aE 110 (nin (ge w.heap.size) [aE,af,ae]) _ _ _:=Own.Ch (s0:=w.heap.size) (M:=[af,ae]) ay bh bm
 replace ay:=ay.base (G':=fo F w.heap.size) (fun _ _ h=>.inr h)
 have eE:=ay.len
 replace aK:RepS bN (nin (ge w.heap.size) [aE,af,ae]) _ _ _ _:=RepS.Ch (s0:=w.heap.size) (M:=[af,ae]) aK bh bm
 replace aK:=aK.base (G':=fo F w.heap.size) (fun _ _ h=>.inr h)
 have eF:=aK.max
 replace aL:RepS bN (nin (ge w.heap.size) [aE,af,ae]) _ _ _ _:=RepS.Ch (s0:=w.heap.size) (M:=[af,ae]) aL bh bm
 replace aL:=aL.base (G':=fo F w.heap.size) (fun _ _ h=>.inr h)
 have eG:=aL.max
 have cJ:=aK.len
 subst cJ
 have cK:=aL.len
 subst cK
 refine .np 36 [AH,AH,AH,vI 0] fun aj fe aS bJ cL cM=>?_
 have eH:=Ab aS aa.lt
 have eI:=Ab aS ab.lt
 have cN:=Ab aS ay.lt
 have eJ:=E.cn aS
 replace ⟨h4,aa,ab,ay,aK,aL,E⟩:=(sn [aE,af,ae] bJ aS).g7 h4 aa ab ay aK aL E
 refine .sc [vS aE cA cB,.slice cC d.list.length cD,.slice cE d.names.length cF,vI d.next] cL fun bn bK bL bO=>?_
 replace ⟨h4,aa,ab,ay,aK,aL,E⟩:=(so [aj,aE,af,ae] bK).g7 h4 aa ab ay aK aL E
 refine .d<|.s<|.s<|.g<|.r 5<|RG.sub (t:=70) (lo:=none) (hi:=some (vI (if (steps.length:Int)< cut then (steps.length:Int) else cut))) h4 0 (((if (steps.length:Int)< cut then (steps.length:Int) else cut)).toNat) AA AA (.inl ⟨rfl,rfl⟩) (.inr ⟨_,_,rfl,by omega⟩) (by split <;> omega) (by split <;> omega) fun cO cP aT=>?_
 have dw:=aT.len; have dx:=aT.max
 refine .r 2<|.d<|.b 0<|T.loop (X:=Nat × (List Fil) × Nat × Nat × Nat × (List Int) × (Option Addr) × Nat × Nat × (List (List Tag)) × (Option Addr) × Nat × Nat × Int) (0,(d.files:List Fil),aE,cA,cB,(d.list:List Int),cC,d.list.length,cD,(d.names:List (List Tag)),cE,d.names.length,cF,d.next) (fun (k,ac,r_out_0,n_out_0,c_out_0,ag,a_out_1,n_out_1,c_out_1,ah,a_out_2,n_out_2,c_out_2,ai)=>[(6,.pointer (some ⟨af,0,none⟩)),(7,.pointer (some ⟨aj,0,none⟩)),(25,.slice cO (((if (steps.length:Int)< cut then (steps.length:Int) else cut)).toNat - 0) cP),(26,vI (((((if (steps.length:Int)< cut then (steps.length:Int) else cut)).toNat - 0)):Int)),(27,vI (k:Int))]) (fun (k,ac,r_out_0,n_out_0,c_out_0,ag,a_out_1,n_out_1,c_out_1,ah,a_out_2,n_out_2,c_out_2,ai) aI=>Chg (ins [aE,aj]) bn aI∧Own aI r_out_0 110 (nin (fo F w.heap.size) [aj,r_out_0,af,ae]) n_out_0 c_out_0 ac∧OrB r_out_0 aE bn.heap.size∧RepS aI (nin (fo F w.heap.size) [aj,r_out_0,af,ae]) a_out_1 n_out_1 c_out_1 ag∧RepS aI (nin (fo F w.heap.size) [aj,r_out_0,af,ae]) a_out_2 n_out_2 c_out_2 ah∧Box aI aj 36 [vS r_out_0 n_out_0 c_out_0,.slice a_out_1 n_out_1 c_out_1,.slice a_out_2 n_out_2 c_out_2,vI ai]∧(k≤((steps.take (if (steps.length:Int)< cut then (steps.length:Int) else cut).toNat).drop 0).length)∧(ac.length≤d.files.length+k)∧((List.drop k ((steps.take (if (steps.length:Int)< cut then (steps.length:Int) else cut).toNat).drop 0)).foldl doD (⟨ac,ag,ah,ai⟩:Dsk)=toD d steps cut)) (fun (k,ac,r_out_0,n_out_0,c_out_0,ag,a_out_1,n_out_1,c_out_1,ah,a_out_2,n_out_2,c_out_2,ai)=>((steps.take (if (steps.length:Int)< cut then (steps.length:Int) else cut).toNat).drop 0).length - k) AA ⟨AA,AA,AA,AA,AA,trivial⟩ ⟨Chg.refl _ _,ay,Dt,aK,aL,bL,AB,AB,(by exact VN ‹_›)⟩ ?_
 rintro ⟨k,ac,r_out_0,n_out_0,c_out_0,ag,a_out_1,n_out_1,c_out_1,ah,a_out_2,n_out_2,c_out_2,ai⟩ eK aI ⟨aq,ak,aF,al,am,ao,dy,dz,dA⟩ bj
 have dB:=CW aF cG aa.lt
 have dC:=CW aF cH ab.lt
 have bP:=CW aF (Nb.symm cN) bL.lt
 have dD:=Ck aF cI E.size
 have bQ:Cov (ins [aE,aj]) bn aE:=⟨.inl AI⟩
 have dE:Cov (ins [aE,aj]) bn aj:=⟨.inl AJ⟩
 have dF:=Ck aF bQ (Nat.le_refl _)
 have bo:Mv [aj,aE,af,ae] [aj,r_out_0,af,ae] bn aI:=Mv.inl aq (all_cons AJ (all_cons AI all_nil)) (all_cons (.inl AI) (all_cons (E7 aF AJ) (all_cons (.inl AK) (all_cons (.inl AL) all_nil))))
 replace ⟨aa,ab,aT,E⟩:=(sp bo aq).g4 aa ab aT E
 have dG:=ak.len; have dH:=ak.max
 refine .s<|.g<|.bp ((k:Int)< (((((if (steps.length:Int)< cut then (steps.length:Int) else cut)).toNat - 0)):Int)) (fun bR=>?_) (fun bR=>?_)
 ·refine .d<|.s<|.ct<|.sk<|.s<|.b 1<|.s<|.g ?_
  have bS:k< (((if (steps.length:Int)< cut then (steps.length:Int) else cut)).toNat - 0):=AB
  refine .ix k 6 aT bS ?_
  obtain ⟨ar,aY⟩:∃ y,((steps.take (((if (steps.length:Int)< cut then (steps.length:Int) else cut)).toNat)).drop 0)[k]? = some y:=⟨_,AU AB⟩
  have dM:=Be aY; have cQ:=AV aY
  obtain ⟨_,⟨cR,eL,cS,cT,eM,cU,cV,eN,cW,cX,eO,cY,rfl,aM,aN,aO,aP⟩,bT⟩:=aT.elem k ar aY
  have bU:=aM.len
  subst bU
  have bV:=aN.len
  subst bV
  have bW:=aO.len
  subst bW
  have bX:=aP.len
  subst bX
  refine .lg 0 bT<|.np 115 [vI 0,vI 0,AH,AH,AH,AH] fun az eP aA bq bY bZ=>?_
  have dR:=Ab aA aa.lt
  have dS:=Ab aA ab.lt
  have dT:=Ab aA ak.lt
  have dU:=Ab aA ao.lt
  have dV:=E.cn aA
  have dW:=aq.cn aA
  replace ⟨aa,ab,ak,ao,al,am,aM,aN,aO,aP,E,aq⟩:=(sn [aj,r_out_0,af,ae] bq aA).g12 aa ab ak ao al am aM aN aO aP E aq
  refine .sc [vI ar.kind,vI ar.num,.slice cR ar.part.ids.length cS,.slice cT ar.part.blocks.length cU,.slice cV ar.list.length cW,.slice cX ar.names.length cY] bY fun br bt bu b0=>?_
  replace ⟨aa,ab,ak,ao,al,am,aM,aN,aO,aP,E,aq⟩:=(so [az,aj,r_out_0,af,ae] bt).g12 aa ab ak ao al am aM aN aO aP E aq
  refine .d<|.g<|.ln bu<|.cl (JL (⟨ac,ag,ah,ai⟩:Dsk) ar (Own.toM ak (all_cons AJ (all_cons AK all_nil))) (RepS.toM al (all_cons AJ (all_cons AK all_nil))) (RepS.toM am (all_cons AJ (all_cons AK all_nil))) ao bP (RepS.toM aM (all_cons AJ (all_cons AK all_nil))) (RepS.toM aN (all_cons AJ (all_cons AK all_nil))) (RepS.toM aO (all_cons AJ (all_cons AK all_nil))) (RepS.toM aP (all_cons AJ (all_cons AK all_nil))) (by have:=p0.nf; have q2:=(p1 ‹_›).len; have q3:=WC (st:=steps) (c:=cut) ‹_›; show ac.length≤1000; omega) ((p1 ‹_›).sz _ (List.mem_of_mem_take (List.mem_of_mem_drop ‹_›))) ((p1 ‹_›).pt _ (List.mem_of_mem_take (List.mem_of_mem_drop ‹_›))) (w:=br) (F:=nin (fo F w.heap.size) [az,aj,r_out_0,af,ae])) ?_
  rintro eQ aU ⟨⟨rfl,aB,cZ,c7,c8,eR,da,db,eS,de,b6,aG,bi,dX,aQ,aR⟩,aZ⟩
  have aV:=al5 bu.lt ao.lt ak.lt ab.lt aa.lt
  have ba:Gb w.heap.size br.heap.size:=E.size
  have b7:=S0 bi aF aq.size
  have bv:Mv [az,aj,r_out_0,af,ae] [az,aj,aB,af,ae] br aU:=Mv.inl aZ (all_cons AJ (all_cons AK all_nil)) (all_cons (.inl AI) (all_cons (.inl AJ) (all_cons (E7 bi AK) (all_cons (.inl AL) (all_cons (.inl AM) all_nil)))))
  replace ⟨aa,ab,al,am,E,aq⟩:=(sp bv aZ).g6 aa ab al am E aq
  replace aG:Own aU aB 110 (nin (fo F w.heap.size) [az,aj,aB,af,ae]) _ _ _:=Own.bxM (M2:=[az,aj,aB,af,ae]) aG aV (fun _ h=>.inr (Nat.le_trans ba h)) (all_cons (.inr AI) (all_cons (.inl AI) (all_cons (.inl AJ) (all_cons (.inr AL) (all_cons (.inr AM) all_nil)))))
  replace aQ:RepS aU (nin (fo F w.heap.size) [az,aj,aB,af,ae]) _ _ _ _:=RepS.bxM (M2:=[az,aj,aB,af,ae]) aQ aV (fun _ h=>.inr (Nat.le_trans ba h)) (all_cons (.inr AI) (all_cons (.inl AI) (all_cons (.inl AJ) (all_cons (.inr AL) (all_cons (.inr AM) all_nil)))))
  replace aR:RepS aU (nin (fo F w.heap.size) [az,aj,aB,af,ae]) _ _ _ _:=RepS.bxM (M2:=[az,aj,aB,af,ae]) aR aV (fun _ h=>.inr (Nat.le_trans ba h)) (all_cons (.inr AI) (all_cons (.inl AI) (all_cons (.inl AJ) (all_cons (.inr AL) (all_cons (.inr AM) all_nil)))))
  have b8:=aQ.len
  subst b8
  have b9:=aR.len
  subst b9
  refine .d<|.ib 1<|.g<|.it ((k:Int)+1)<|.r 1<|.d ?_
  have cd:Mv [az,aj,aB,af,ae] [aj,aB,af,ae] aU aU:=Mv.less (all_cons AJ (all_cons AK (all_cons AL (all_cons AM all_nil))))
  replace ⟨aG,al,am,aQ,aR⟩:=(sp cd (Chg.refl nil _)).g5 aG al am aQ aR
  exact bj (k+1,((doD (⟨ac,ag,ah,ai⟩:Dsk) ar)).files,aB,cZ,c7,((doD (⟨ac,ag,ah,ai⟩:Dsk) ar)).list,c8,(((doD (⟨ac,ag,ah,ai⟩:Dsk) ar)).list).length,da,((doD (⟨ac,ag,ah,ai⟩:Dsk) ar)).names,db,(((doD (⟨ac,ag,ah,ai⟩:Dsk) ar)).names).length,de,((doD (⟨ac,ag,ah,ai⟩:Dsk) ar)).next) _ _ ⟨AA,AA,AA,AA,AA,trivial⟩ ⟨aq,aG,b7,aQ,aR,b6,AB,(by exact Nat.le_trans (SJ _) (by show ac.length+1≤_; omega)),(by exact Tt ‹_› ‹_›)⟩ (by (simp only []; omega))
 refine .d<|.s<|.cf<|.x 0 rfl<|.s<|.s<|.g<|.ln ao<|.cl (C5 (⟨ac,ag,ah,ai⟩:Dsk) (ak.rep) al.ta am.ta (by exact JJ ‹_› AB (p1 ‹_›)) (w:=aI) (F:=all)) ?_
 rintro eT bM ⟨rfl,bw⟩
 replace ⟨aa,ab,ak,ao,al,am,E⟩:=(se [aj,r_out_0,af,ae] bw).g7 aa ab ak ao al am E
 cases d4:(Ax (⟨ac,ag,ah,ai⟩:Dsk))
 ·refine .r 1<|.d<|.ct<|.s<|.g<|.r 1<|.sc [AH,AH,AH,vI 0] ab fun eU bz ce cg=>?_
  replace ⟨aa,ak,ao,al,am,E⟩:=(so [aj,r_out_0,af,ae] bz).g6 aa ak ao al am E
  exact .d<|.rb func29 results29 ce ⟨(VS.of (y:=(⟨([]:List Fil),([]:List Int),([]:List (List Tag)),0⟩:Dsk)) ⟨_,rfl,⟨_,_,_,_,_,_,_,_,_,rfl,(RepS.BM _ _ none 0 AE),(RepS.BM _ _ none 0 AE),(RepS.BM _ _ none 0 AE)⟩⟩ (by exact Tu ‹_› AB ‹_›)),E⟩
 refine .r 1<|.d<|.cf<|.sk<|.s<|.g<|.ln ao<|.cl (CK (⟨ac,ag,ah,ai⟩:Dsk) (ak.rep) al.ta am.ta (by exact QU (JJ ‹_› AB (p1 ‹_›))) (by exact QV (JJ ‹_› AB (p1 ‹_›))) (by exact QW (JJ ‹_› AB (p1 ‹_›))) (by exact QX (JJ ‹_› AB (p1 ‹_›))) (by exact QY (JJ ‹_› AB (p1 ‹_›))) (w:=bM) (F:=all)) ?_
 rintro eV bA ⟨⟨aJ,df,dh,dj,eW,dm,dp,eX,dq,rfl,ax,aH,aC,aD⟩,bB⟩
 have aW:=al4 ao.lt ak.lt ab.lt aa.lt
 have bd:Gb w.heap.size bM.heap.size:=E.size
 have d5:=CC aH aa.lt
 have d6:=CC aH ab.lt
 have d7:=CC aH ak.lt
 have d8:=CC aH ao.lt
 have ci:=FT aH E.size
 replace ⟨ab,E⟩:=(se [] bB).g2 ab E
 replace ax:Own bA aJ 110 (nin (ge w.heap.size) [aJ,aj,r_out_0,af,ae]) _ _ _:=Own.Ch (s0:=w.heap.size) (M:=[aj,r_out_0,af,ae]) ax aW bd
 replace ax:=ax.base (G':=fo F w.heap.size) (fun _ _ h=>.inr h)
 replace aC:RepS bA (nin (ge w.heap.size) [aJ,aj,r_out_0,af,ae]) _ _ _ _:=RepS.Ch (s0:=w.heap.size) (M:=[aj,r_out_0,af,ae]) aC aW bd
 replace aC:=aC.base (G':=fo F w.heap.size) (fun _ _ h=>.inr h)
 have ee:=aC.max
 replace aD:RepS bA (nin (ge w.heap.size) [aJ,aj,r_out_0,af,ae]) _ _ _ _:=RepS.Ch (s0:=w.heap.size) (M:=[aj,r_out_0,af,ae]) aD aW bd
 replace aD:=aD.base (G':=fo F w.heap.size) (fun _ _ h=>.inr h)
 have eg:=aD.max
 have cj:=aC.len
 subst cj
 have ck:=aD.len
 subst ck
 refine .sc [vS aJ df dh,.slice dj ((((⟨ac,ag,ah,ai⟩:Dsk)).list).length) dm,.slice dp ((((⟨ac,ag,ah,ai⟩:Dsk)).names).length) dq,vI (((⟨ac,ag,ah,ai⟩:Dsk)).next)] ab fun dt bC cm co=>?_
 replace ⟨ax,aC,aD,E⟩:=(so [aJ,aj,r_out_0,af,ae] bC).g4 ax aC aD E
 refine .d ?_
 have du:=ax.sl (.inr ci)
 replace ⟨aC,aD⟩:=(sd dt [aJ,aj,r_out_0,af,ae] aJ).g2 aC aD
 exact .rb func29 results29 cm ⟨(VS.of (y:=((⟨ac,ag,ah,ai⟩:Dsk))) ⟨_,rfl,⟨_,_,_,_,_,_,_,_,_,rfl,du.w1,aC.w1,aD.w1⟩⟩ (by exact Tv ‹_› AB ‹_› ‹_› ‹_›)),E⟩
end Go.Proofs.YtckdhcbbgmiccaaGreat
namespace Go.Proofs.YtckdhcbbgmiccaaGreat
set_option maxRecDepth 100000
set_option maxHeartbeats 4000000
variable {w:World} {F:Nat→Prop} {a1 a2 a3:Option Addr} {n1 c1 n2 c2 n3 c3:Nat}
theorem FF (f:Fil) (d:Dsk) (h1:RepS w F a1 n1 c1 f.part.ids) (h2:RepS w F a2 n2 c2 f.part.blocks){bq_d:Nat}{a3:Option Addr}{c3:Nat}{a4:Option Addr}{c4:Nat}{a5:Option Addr}{c5:Nat}(hb_d:Box w bq_d 36 [.slice a3 d.files.length c3,.slice a4 d.list.length c4,.slice a5 d.names.length c5,.int .i64 d.next]) (h3:RepS w F a3 d.files.length c3 d.files) (h4:RepS w F a4 d.list.length c4 d.list) (h5:RepS w F a5 d.names.length c5 d.names)  : Calls Tryz.prog 156 [.agg #[.int .i64 f.num,.slice a1 n1 c1,.slice a2 n2 c2],.pointer (some ⟨bq_d,0,none⟩)].toArray w (Al fun rv w'=>rv=.bool ((!(d.list.contains f.num)))∧Ext w w'):=by
 cases h1.len
 cases h2.len
 refine goT func156 ?_
 have Z:=((((((St.i0 F w).p h1).p h2).p h3).p h4).p h5).pb' hb_d
 exact .s<|.g<|RG.Np Z fun af w Z=>.r 1<|.d<|.s<|.g<|.r 1<|RG.Lh 0 1 Z<|.r 1<|RG.Lb 0 Z<|RG.C0 (CY d.list f.num (Z.a 2)) Z fun w Z=>.r 2<|.d<|T.rt func156 results156 (.bool (!(d.list.contains f.num))) ⟨(AG AF),Z.xt⟩
theorem JM (s:List Fil) (d:Dsk) (h1:RepS w F a1 n1 c1 s){bq_d:Nat}{a2:Option Addr}{c2:Nat}{a3:Option Addr}{c3:Nat}{a4:Option Addr}{c4:Nat}(hb_d:Box w bq_d 36 [.slice a2 d.files.length c2,.slice a3 d.list.length c3,.slice a4 d.names.length c4,.int .i64 d.next]) (h2:RepS w F a2 d.files.length c2 d.files) (h3:RepS w F a3 d.list.length c3 d.list) (h4:RepS w F a4 d.names.length c4 d.names)  : Calls Tryz.prog 120 [.slice a1 n1 c1,.func (.func 156) #[] #[.pointer (some ⟨bq_d,0,none⟩)]].toArray w (Al fun rv w'=>rv=.int .i64 (DZ d.list 0 s)∧Ext w w'):=by
 refine goT func120 ?_
 obtain ⟨rfl,ax,h1⟩:=h1.tp
 replace h2:=h2.top (s:=w.heap.size)
 replace h3:=h3.top (s:=w.heap.size)
 replace h4:=h4.top (s:=w.heap.size)
 refine .s<|.g<|.r 1<|.d<|.s<|.s<|.g<|.r 3<|.d<|.b 0<|T.loop (X:=Nat) 0 (fun k=>[(0,.slice a1 s.length c1),(1,.func (.func 156) #[] #[.pointer (some ⟨bq_d,0,none⟩)]),(7,vI (s.length:Int)),(8,vI (k:Int))]) (fun k ab=>Chg (ins []) w ab∧(k≤s.length)∧(DZ d.list k (s.drop k)=DZ d.list 0 s)) (fun k=>s.length - k) AA ⟨AA,AA,AA,AA,trivial⟩ ⟨Chg.refl _ _,AD,AD⟩ ?_
 rintro k aH ab ⟨E,aB,aC⟩ ac
 have af:Mv [] [] w ab:=Mv.inl E all_nil all_nil
 replace ⟨h1,h2,h3,h4,hb_d⟩:=(sp af E).g5 h1 h2 h3 h4 hb_d
 have aa:Chg nil w ab:=Chg.LO (Chg.refl nil w) E all_nil
 refine .s<|.g<|.bp ((k:Int)< (s.length:Int)) (fun ak=>?_) (fun ak=>.d<|.s<|.cf<|.x 0 rfl<|.s<|.g<|.r 1<|.d<|.rt func120 results120 (vI (-1)) ⟨(congrArg (Value.int .i64) (by exact SQ ‹_› AB)),aa⟩)
 refine .d<|.s<|.ct<|.sk<|.s<|.b 1<|.s<|.g<|.r 2<|.d<|.s<|.g<|.r 3 ?_
 have al:k< s.length:=AB
 refine .ix k 3 h1 al ?_
 obtain ⟨ah,ae⟩:∃ y,s[k]? = some y:=⟨_,AU AB⟩
 have aD:=Be ae
 obtain ⟨_,⟨aI,aJ,aK,aL,aM,aN,rfl,ai,aj⟩,am⟩:=h1.elem k ah ae
 have ao:=ai.len
 subst ao
 have aq:=aj.len
 subst aq
 refine .lg 0 am<|.cl (FF ah d ai.ta aj.ta hb_d h2.ta h3.ta h4.ta (w:=ab) (F:=all)) ?_
 rintro aO aP ⟨rfl,ag⟩
 replace ⟨hb_d,aa,E⟩:=(se [] ag).g3 hb_d aa E
 cases aG:(!(d.list.contains ah.num))
 ·exact .d<|.cf<|.sk<|.ib 1<|.g<|.it ((k:Int)+1)<|.r 1<|.d<|ac (k+1) _ _ ⟨AA,AA,AA,AA,trivial⟩ ⟨E,AB,(by exact VU ‹_› ‹_› ‹_›)⟩ AB
 exact .d<|.ct<|.s<|.g<|.r 2<|.d<|.rt func120 results120 (vI (k:Int)) ⟨(congrArg (Value.int .i64) (by exact SP ‹_› ‹_› ‹_›)),aa⟩
theorem HH (d:Dsk){r n c bq c1 c2 c3:Nat}{a1 a2 a3:Option Addr}{xs0:List Fil}(ho:Own w r 110 F n c xs0) (hb:Box w bq 36 [.slice a1 d.files.length c1,.slice a2 d.list.length c2,.slice a3 d.names.length c3,.int .i64 d.next]) (h1:RepS w (nin all [r]) a1 d.files.length c1 d.files) (h2:RepS w (nin all [r]) a2 d.list.length c2 d.list) (h3:RepS w (nin all [r]) a3 d.names.length c3 d.names) (hne:Nb r bq) (hn:n≤1000000):Calls Tryz.prog 155 [.slice (some ⟨r,0,none⟩) n c,.func (.func 156) #[] #[.pointer (some ⟨bq,0,none⟩)]].toArray w (Al fun rv w'=>(∃ m,rv=.slice (some ⟨r,0,none⟩) m c∧Own w' r 110 F m c (xs0.filter (fun f=>d.list.contains f.num)))∧Chg (one r) w w'):=by
 refine goT func155 ?_
 replace ho:=ho.PN; have hnl:=ho.len; have hle:=ho.le
 refine .s<|.g<|.r 1<|.d<|.s<|.g<|.r 2<|.cl (JM xs0 d (ho.rep) hb h1.ta h2.ta h3.ta (w:=w) (F:=all)) ?_
 rintro bU az ⟨rfl,am⟩
 replace ⟨ho,h1,h2,h3,hb⟩:=(se [r] am).g5 ho h1 h2 h3 hb
 have aa:Chg (one r) w az:=Chg.GW (Chg.refl (one r) w) am
 refine .r 1<|.d<|.s<|.s<|.g<|.r 1<|.eq (DZ d.list 0 xs0) (-1) (fun aR=>.d<|.ct<|.s<|.g<|.r 2<|.d<|.rt func155 results155 (vS r n c) ⟨⟨_,rfl,(Own.NO ho).eqx (Tx ‹_›)⟩,aa⟩) fun aR=>.d<|.cf<|.sk<|.s<|.s<|.g<|.r 1<|RG.int (DZ d.list 0 xs0+1) AA (by (have q1:=Pc (by assumption:¬ DZ d.list 0 xs0 = -1); have q2:=Pd d.list xs0; omega))<|.r 1<|.d<|.b 0<|T.loop (X:=Int × Int × (List Fil)) (DZ d.list 0 xs0,DZ d.list 0 xs0+1,xs0) (fun (i,j,xs)=>[(0,vS r n c),(1,.func (.func 156) #[] #[.pointer (some ⟨bq,0,none⟩)]),(5,vI i),(6,vI j)]) (fun (i,j,xs) ao=>Chg (ins [r]) az ao∧Own ao r 110 (nin F [r]) n c xs∧(0≤i)∧(i< j)∧(j≤n)∧(xs.take i.toNat=(xs0.take j.toNat).filter (fun f=>d.list.contains f.num))∧(xs.drop j.toNat=xs0.drop j.toNat)) (fun (i,j,xs)=>n - j.toNat) AA ⟨AA,AA,AA,AA,trivial⟩ ⟨Chg.refl _ _,ho,(by exact Pc ‹_›),AB,(by have:=Pd d.list xs0; omega),(by exact QZ ‹_›),AF⟩ ?_
 rintro ⟨i,j,xs⟩ bV ao ⟨ab,E,bw,bz,bA,bB,bC⟩ ah
 have bD:Cov (ins [r]) az r:=⟨.inl AI⟩
 have aD:Mv [r] [r] az ao:=Mv.inl ab (all_cons AI all_nil) (all_cons (.inl AI) all_nil)
 replace ⟨h1,h2,h3,hb,aa⟩:=(sp aD ab).g5 h1 h2 h3 hb aa
 have bE:=E.len
 refine .s<|.s<|.g<|.r 3<|.bp (j< (n:Int)) (fun aS=>?_) (fun aS=>?_)
 ·refine .d<|.ct<|.sk<|.s<|.b 1<|.s<|.g<|.r 2 ?_
  have aT:j.toNat< n:=AB
  refine RG.idx (b:=r) (o:=0) (j.toNat) (len:=n) (i:=j) (sz:=3) AA AB aT rfl ?_
  obtain ⟨ac,aq⟩:∃ y,xs[j.toNat]? = some y:=⟨_,AU AB⟩
  obtain ⟨_,⟨aI,bW,aJ,aK,bX,aL,rfl,ae,af⟩,ar⟩:=E.elem (j.toNat) ac aq
  replace ae:=ae.Bi (fun _ _ h=>h.1)
  replace af:=af.Bi (fun _ _ h=>h.1)
  have aU:=ae.len
  subst aU
  have aV:=af.len
  subst aV
  replace ar:Has ao ⟨r,0+(j.toNat) * Rep.sz Fil,none⟩ [vI ac.num,.slice aI ac.part.ids.length aJ,.slice aK ac.part.blocks.length aL]:=by rw [Nat.zero_add]; exact ar
  refine .lg 0 ar<|.np 110 [vI 0,AH,AH] fun aA bY ag aE aW aX=>?_
  have bJ:=Ab ag E.lt
  have bK:=Ab ag hb.lt
  have bL:=aa.cn ag
  have bM:=ab.cn ag
  replace ⟨E,h1,h2,h3,hb,ae,af,aa,ab⟩:=(sn [r] aE ag).g9 E h1 h2 h3 hb ae af aa ab
  refine .sc [vI ac.num,.slice aI ac.part.ids.length aJ,.slice aK ac.part.blocks.length aL] aW fun bt aF ak aY=>?_
  replace ⟨E,h1,h2,h3,hb,ae,af,aa,ab⟩:=(so [aA,r] aF).g9 E h1 h2 h3 hb ae af aa ab
  refine .d<|.s<|.g<|.r 1<|.ln ak<|.cl (FF ac d ae.ta af.ta hb h1.ta h2.ta h3.ta (w:=bt) (F:=all)) ?_
  rintro bZ aM ⟨rfl,aG⟩
  replace ⟨E,hb,ae,af,ak,aa,ab⟩:=(se [aA,r] aG).g7 E hb ae af ak aa ab
  cases bN:(!(d.list.contains ac.num))
  ·refine .r 1<|.d<|.ct<|.s<|.g<|.r 2<|.ln ak ?_
   have aZ:i.toNat< n:=AB
   refine RG.idx (b:=r) (o:=0) (i.toNat) (len:=n) (i:=i) (sz:=3) AA AB aZ rfl ?_
   obtain ⟨ai,al⟩:∃ y,xs[i.toNat]? = some y:=⟨_,AU AB⟩
   obtain ⟨_,⟨ba,b0,bd,bg,b6,bh,rfl,aB,aC⟩,ax⟩:=E.elem (i.toNat) ai al
   replace aB:=aB.Bi (fun _ _ h=>h.1)
   replace aC:=aC.Bi (fun _ _ h=>h.1)
   have bi:=aB.len
   subst bi
   have bj:=aC.len
   subst bj
   replace ax:Has aM ⟨r,0+(i.toNat) * Rep.sz Fil,none⟩ [vI ai.num,.slice ba ai.part.ids.length bd,.slice bg ai.part.blocks.length bh]:=by rw [Nat.zero_add]; exact ax
   refine RG.EE (t':=110) (i:=(i.toNat)) (k:=0) (v:=.agg #[vI ac.num,.slice aI ac.part.ids.length aJ,.slice aK ac.part.blocks.length aL]) (cs:=[vI ai.num,.slice ba ai.part.ids.length bd,.slice bg ai.part.blocks.length bh]) ac E al ax AA AA AA ⟨_,_,_,_,_,_,rfl,ae.oi,af.oi⟩ fun aH aj ay aN=>?_
   replace ⟨hb,aa,ab⟩:=(s1 ay).g3 hb aa ab
   refine .d<|.g<|.r 1<|RG.int (i+1) AA AB<|.r 1<|.d<|.ib 1<|.g<|.r 1<|RG.int (j+1) AA AB<|.r 1<|.d ?_
   have aO:Mv [aA,r] [r] aH aH:=Mv.less (all_cons AJ all_nil)
   replace aj:=(sp aO (Chg.refl nil _)).g1 aj
   exact ah (i+1,j+1,(xs.set (i.toNat) ac)) _ _ ⟨AA,AA,AA,AA,trivial⟩ ⟨ab,aj,AB,AB,AB,(by exact SR ‹_› ‹_› ‹_› AB AB AB ‹_›),(by exact Qa ‹_› AB AB AB)⟩ (by (simp only []; omega))
  refine .r 1<|.d<|.cf<|.sk<|.ib 1<|.g<|.r 1<|RG.int (j+1) AA AB<|.r 1<|.d ?_
  have aP:Mv [aA,r] [r] aM aM:=Mv.less (all_cons AJ all_nil)
  replace E:=(sp aP (Chg.refl nil _)).g1 E
  exact ah (i,j+1,xs) _ _ ⟨AA,AA,AA,AA,trivial⟩ ⟨ab,E,AB,AB,AB,(by exact SS ‹_› ‹_› ‹_› AB ‹_›),(by exact SU ‹_› AB)⟩ (by (simp only []; omega))
 refine .d<|.cf<|.x 0 rfl<|.s<|.g<|.r 2 ?_
 refine RG.HG (t:=33) (r:=r) (o:=0) (len:=n) (cap:=c) (lo:=some (vI i)) (hi:=none) (sz:=3) (i.toNat) n AA AA (.inr ⟨_,_,rfl,by omega⟩) (.inl ⟨rfl,rfl⟩) AB AB AB ?_
 obtain ⟨cs_,hB_,hl_⟩:=Own.U7 E; have hz_:Rep.sz Fil=3:=rfl; rw [hz_] at hl_
 obtain ⟨vs_,w5,bu,b8,bk,aQ⟩:=SE (P:=Tryz.prog) (T:=33) (ty:=0) (t:=110) (sz:=3) (o:=0+(i.toNat) * 3) (m:=n - i.toNat) (c:=c - i.toNat) AA hB_ AB AB
 rw [Nat.zero_add] at bk
 have hsl_:(Az cs_ ((i.toNat) * 3) vs_).length=c * Rep.sz Fil:=by rw [D1 AB,hz_]; exact hl_
 have bv:=Own.VM E aQ hB_ bk hsl_ (i:=i.toNat) AB (fun p hp=>QT (by rw [hz_] at hp; exact hp) AB)
 refine RG.clear (ats:=[33]) (ty:=0) (args:=[.slice (some ⟨r,0+(i.toNat) * 3,none⟩) (n - i.toNat) (c - i.toNat)]) AA bu ?_
 replace ⟨hb,aa⟩:=(s1 aQ).g2 hb aa
 exact .d<|.s<|.g<|.r 2<|RG.HG (t:=33) (r:=r) (o:=0) (len:=n) (cap:=c) (lo:=none) (hi:=some (vI i)) (sz:=3) 0 (i.toNat) AA AA (.inl ⟨rfl,rfl⟩) (.inr ⟨_,_,rfl,by omega⟩) AB AB AB<|.r 1<|.d<|.rt func155 results155 (vS r (i.toNat) c) ⟨⟨_,rfl,(Own.NO bv).eqx (Ty ‹_› ‹_› AB AB)⟩,aa⟩
theorem Jz (d:Dsk) (h1:RepS w F a1 n1 c1 d.files) (h2:RepS w F a2 n2 c2 d.list) (h3:RepS w F a3 n3 c3 d.names) (p0:DD d):Calls Tryz.prog 122 [.agg #[.slice a1 n1 c1,.slice a2 n2 c2,.slice a3 n3 c3,.int .i64 d.next]].toArray w (Al fun rv w'=>VS (ge w.heap.size) w' (CE d:Dsk) rv∧Ext w w'):=by
 refine goT func122 ?_
 obtain ⟨rfl,bX,h1⟩:=h1.tp
 obtain ⟨rfl,bY,h2⟩:=h2.tp
 obtain ⟨rfl,bZ,h3⟩:=h3.tp
 refine .s<|.g<|.np 36 [.slice a1 d.files.length c1,.slice a2 d.list.length c2,.slice a3 d.names.length c3,vI d.next] fun af cu aL aE aa bo=>?_
 replace ⟨h1,h2,h3⟩:=(sn [] aE aL).g3 h1 h2 h3
 have E:=aE
 refine .np 36 [AH,AH,AH,vI 0] fun ag bM aB aM ab bq=>?_
 have b0:=Ab aB aa.lt
 have b6:=E.cn aB
 replace ⟨h1,h2,h3,aa,E⟩:=(sn [af] aM aB).g5 h1 h2 h3 aa E
 refine .d<|.s<|.s<|.g<|.ln aa<|.cl (C5 d h1.ta h2.ta h3.ta p0 (w:=bM) (F:=all)) ?_
 rintro cw br ⟨rfl,aN⟩
 replace ⟨h1,h2,h3,aa,ab,E⟩:=(se [ag,af] aN).g6 h1 h2 h3 aa ab E
 cases b7:(Ax d)
 ·refine .r 1<|.d<|.ct<|.s<|.g<|.r 1<|.sc [AH,AH,AH,vI 0] ab fun cx aO bt bu=>?_
  replace ⟨h1,h2,h3,aa,E⟩:=(so [ag,af] aO).g5 h1 h2 h3 aa E
  exact .d<|.rb func122 results122 bt ⟨(VS.of (y:=(⟨([]:List Fil),([]:List Int),([]:List (List Tag)),0⟩:Dsk)) ⟨_,rfl,⟨_,_,_,_,_,_,_,_,_,rfl,(RepS.BM _ _ none 0 AE),(RepS.BM _ _ none 0 AE),(RepS.BM _ _ none 0 AE)⟩⟩ (by exact Tw ‹_›)),E⟩
 refine .r 1<|.d<|.cf<|.sk<|.s<|.g<|.ln aa<|.cl (CK d h1.ta h2.ta h3.ta (by exact QU p0) (by exact QV p0) (by exact QW p0) (by exact QX p0) (by exact QY p0) (w:=br) (F:=all)) ?_
 rintro cy aV ⟨⟨am,bN,bv,bw,cz,bz,bA,cA,bB,rfl,ai,ar,ac,ae⟩,aP⟩
 have aC:=al2 ab.lt aa.lt
 have aF:Gb w.heap.size br.heap.size:=E.size
 have bC:=CC ar aa.lt
 have b8:=CC ar ab.lt
 have bD:=FT ar E.size
 have b9:Cov nil w am:=KN ar E.size
 replace ⟨h1,h2,h3,aa,ab,E⟩:=(sz [ag,af] aP ar).g6 h1 h2 h3 aa ab E
 replace ai:Own aV am 110 (nin (ge w.heap.size) [am,ag,af]) _ _ _:=Own.Ch (s0:=w.heap.size) (M:=[ag,af]) ai aC aF
 have cd:=ai.max
 have ce:=ai.len
 replace ac:RepS aV (nin (ge w.heap.size) [am,ag,af]) _ _ _ _:=RepS.Ch (s0:=w.heap.size) (M:=[ag,af]) ac aC aF
 have cg:=ac.max
 replace ae:RepS aV (nin (ge w.heap.size) [am,ag,af]) _ _ _ _:=RepS.Ch (s0:=w.heap.size) (M:=[ag,af]) ae aC aF
 have ci:=ae.max
 have bE:=ac.len
 subst bE
 have bF:=ae.len
 subst bF
 refine .np 36 [AH,AH,AH,vI 0] fun aq cB ax aQ bG bH=>?_
 have cj:=Ab ax aa.lt
 have ck:=Ab ax ab.lt
 have cm:=Ab ax ai.lt
 have co:=E.cn ax
 replace ⟨h1,h2,h3,aa,ab,ai,ac,ae,E⟩:=(sn [am,ag,af] aQ ax).g9 h1 h2 h3 aa ab ai ac ae E
 refine .sc [vS am bN bv,.slice bw d.list.length bz,.slice bA d.names.length bB,vI d.next] bG fun cC aR aD bI=>?_
 replace ⟨h1,h2,h3,aa,ab,ai,ac,ae,E⟩:=(so [aq,am,ag,af] aR).g9 h1 h2 h3 aa ab ai ac ae E
 refine .d<|.s<|.g<|.r 1<|.lb aD<|.r 1 ?_
 refine .cl (HH d ai aa (RepS.CN h1 AJ) (RepS.CN h2 AJ) (RepS.CN h3 AJ) bC (by have:=p0.nf; have:=List.length_filter_le (fun f:Fil=>d.list.contains f.num) d.files; omega)) ?_
 rintro cD cE ⟨⟨aW,rfl,ao⟩,aS⟩
 replace ⟨aa,ab,ac,ae,aD,E⟩:=(so [aq,am,ag,af] aS).g6 aa ab ac ae aD E
 have bO:=ao.len; have bP:=ao.max
 refine .r 1<|.ss 0 (vS am aW bv) aD fun cp aG aj aX=>?_
 replace ⟨aa,ab,ao,ac,ae,E⟩:=(so [aq,am,ag,af] aG).g6 aa ab ao ac ae E
 refine .d<|.s<|.g<|.ns 0 110 [] fun az aT ak aH aY aZ=>?_
 have ba:=Ab ak aa.lt
 have bd:=Ab ak ab.lt
 have bQ:=Ab ak ao.lt
 have bg:=Ab ak aj.lt
 have bh:=BT ak E.size
 have bR:=E.cn ak
 replace ⟨aa,ab,ao,ac,ae,aj,E⟩:=(sn [aq,am,ag,af] aH ak).g7 aa ab ao ac ae aj E
 have aA:Own (α:=Fil) aT az 110 (nin (ge w.heap.size) [az,aq,am,ag,af]) 0 0 []:=Own.BM aY
 refine .r 1<|.lb aj ?_
 have bJ:=ao.sl bD
 replace ⟨ac,ae,aA⟩:=(sd aT [az,aq,am,ag,af] am).g3 ac ae aA
 refine RG.O1 (T:=33) (ty:=33) aA bJ AA AA (fun b _ h=>N8 AI h) (by have:=p0.nf; have:=List.length_filter_le (fun f:Fil=>d.list.contains f.num) d.files; omega) fun ay aU cq ah al aI=>?_
 have bS:=Bd al ba aa.lt
 have bT:=Bd al bd ab.lt
 have bU:=Bd al bg aj.lt
 have bi:=EP al bh E.size
 replace ⟨ab,ac,ae,aj,E⟩:=(sa [az,aq,ag,af] aI al).g5 ab ac ae aj E
 replace ah:=ah.rn az
 refine .r 1<|.ss 0 (vS ay (0+aW) aU) aj fun cr aJ bj bk=>?_
 replace ⟨ab,ac,ae,ah,E⟩:=(so [ay,aq,ag,af] aJ).g5 ab ac ae ah E
 refine .d<|.s<|.g<|.ln bj<|.sc [vS ay (0+aW) aU,.slice bw d.list.length bz,.slice bA d.names.length bB,vI d.next] ab fun bK aK bm bn=>?_
 replace ⟨ac,ae,ah,E⟩:=(so [ay,aq,ag,af] aK).g4 ac ae ah E
 refine .d ?_
 have bL:=ah.sl bi
 replace ⟨ac,ae⟩:=(sd bK [ay,aq,ag,af] ay).g2 ac ae
 exact .rb func122 results122 bm ⟨(VS.of (y:=(⟨([]++(d.files.filter (fun f=>d.list.contains f.num))),d.list,d.names,d.next⟩:Dsk)) ⟨_,rfl,⟨_,_,_,_,_,_,_,_,_,rfl,bL.w1,ac.w1,ae.w1⟩⟩ (by (rw [KE ‹_›]; rfl))),E⟩
theorem Ib (d:Dsk) (at_:Int) (h1:RepS w F a1 n1 c1 d.files) (h2:RepS w F a2 n2 c2 d.list) (h3:RepS w F a3 n3 c3 d.names) (p0:DD d):Calls Tryz.prog 30 [.agg #[.slice a1 n1 c1,.slice a2 n2 c2,.slice a3 n3 c3,.int .i64 d.next],.int .i64 at_].toArray w (Al fun rv w'=>VL (ge w.heap.size) w' (Ag d at_:List Stp) rv∧Ext w w'):=by
 refine goT func30 ?_
 obtain ⟨rfl,iG,h1⟩:=h1.tp
 obtain ⟨rfl,iH,h2⟩:=h2.tp
 obtain ⟨rfl,iI,h3⟩:=h3.tp
 refine .s<|.g<|.np 36 [.slice a1 d.files.length c1,.slice a2 d.list.length c2,.slice a3 d.names.length c3,vI d.next] fun ai gr dH ce E fJ=>?_
 replace ⟨h1,h2,h3⟩:=(sn [] ce dH).g3 h1 h2 h3
 have aa:=ce
 refine .r 1<|.d<|.s<|.s<|.g<|.ln E<|.cl (C5 d h1.ta h2.ta h3.ta p0 (w:=gr) (F:=all)) ?_
 rintro j5 gs ⟨rfl,dI⟩
 replace ⟨h1,h2,h3,E,aa⟩:=(se [ai] dI).g5 h1 h2 h3 E aa
 cases iJ:(Ax d)
 ·refine .r 14<|.d<|.ct<|.s<|.g<|.ns 0 115 [] fun cg fK bT dJ fL fM=>?_
  have iK:=Ab bT E.lt
  have fN:=BT bT aa.size
  replace ⟨h1,h2,h3,E,aa⟩:=(sn [ai] dJ bT).g5 h1 h2 h3 E aa
  have fO:Own (α:=Stp) fK cg 115 (nin (ge w.heap.size) [cg,ai]) 0 0 []:=Own.BM fL
  refine .r 1<|.d ?_
  have gt:=fO.sl fN
  replace ⟨h1,h2,h3⟩:=(sd fK [cg,ai] cg).g3 h1 h2 h3
  exact .rt func30 results30 (vS cg 0 0) ⟨(gt.vl (by exact (Nt ‹_›).symm) (fun _ _ h=>h.1)),aa⟩
 refine .r 4<|.lb E<|.r 1<|RG.int ((d.list.length:Int) - 2) AA (by have:=p0.nl; omega)<|.cl (Bm at_ 0 ((d.list.length:Int) - 2) (w:=gs) (F:=all)) ?_
 rintro j6 gu ⟨rfl,dK⟩
 replace ⟨h1,h2,h3,E,aa⟩:=(se [ai] dK).g5 h1 h2 h3 E aa
 cases dL:(inR at_ 0 ((d.list.length:Int) - 2))
 ·refine .r 6<|.d<|.ct<|.s<|.g<|.ns 0 115 [] fun ci fP bU dM fQ fR=>?_
  have iM:=Ab bU E.lt
  have fS:=BT bU aa.size
  replace ⟨h1,h2,h3,E,aa⟩:=(sn [ai] dM bU).g5 h1 h2 h3 E aa
  have fT:Own (α:=Stp) fP ci 115 (nin (ge w.heap.size) [ci,ai]) 0 0 []:=Own.BM fQ
  refine .r 1<|.d ?_
  have gv:=fT.sl fS
  replace ⟨h1,h2,h3⟩:=(sd fP [ci,ai] ci).g3 h1 h2 h3
  exact .rt func30 results30 (vS ci 0 0) ⟨(gv.vl (by exact US ‹_› (.inl ‹_›)) (fun _ _ h=>h.1)),aa⟩
 have iN:=Bu dL
 refine .r 3<|.ln E<|.cl (Fk d h1.ta h2.ta h3.ta (w:=gu) (F:=all)) ?_
 rintro j7 j8 ⟨rfl,dN⟩
 replace ⟨h1,h2,h3,E,aa⟩:=(se [ai] dN).g5 h1 h2 h3 E aa
 cases iO:(Ee d)
 ·refine .r 1<|.d<|.cf<|.sk<|.s<|.gd nil 12 fun j9 dO=>?_
  replace ⟨h1,h2,h3,E,aa⟩:=(se [ai] dO).g5 h1 h2 h3 E aa
  refine .r [0]<|.lb 1 E id<|.r [2] ?_
  have dP:at_.toNat< d.list.length:=AB
  refine GA.idx (i:=3) (at_.toNat) (len:=d.list.length) (z:=at_) (sz:=1) AA AB dP (h2.addr (Nat.zero_lt_of_lt dP)) ?_
  obtain ⟨bg,ck⟩:∃ y,d.list[at_.toNat]? = some y:=⟨_,AU AB⟩
  have gn:=AV ck
  obtain ⟨_,rfl,fU⟩:=h2.elem (at_.toNat) bg ck
  refine .lh 4 0 fU id<|.r [5]<|.lb 6 E id<|.r [7]<|GA.int (i:=8) (at_+1) AA (by have:=p0.nl; omega) ?_
  have dQ:(at_+1).toNat< d.list.length:=AB
  refine GA.idx (i:=9) ((at_+1).toNat) (len:=d.list.length) (z:=at_+1) (sz:=1) AA AB dQ (h2.addr (Nat.zero_lt_of_lt dQ)) ?_
  obtain ⟨bh,cm⟩:∃ y,d.list[(at_+1).toNat]? = some y:=⟨_,AU AB⟩
  have gp:=AV cm
  obtain ⟨_,rfl,fV⟩:=h2.elem ((at_+1).toNat) bh cm
  refine .lh 10 0 fV id<|.r [11]<|.d fun b8 dR=>?_
  replace ⟨h1,h2,h3,E,aa⟩:=(se [ai] dR).g5 h1 h2 h3 E aa
  refine .r 1<|.d<|.s ?_
  replace h1:=h1.Cl
  replace h2:=h2.Cl
  replace h3:=h3.Cl
  have bV:Gb (ai+1) b8.heap.size:=E.lt
  refine .gd (mtb [] b8.heap.size) 22 fun gw co=>?_
  replace ⟨h1,h2,h3,E,aa⟩:=(se [ai] co).g5 h1 h2 h3 E aa
  have aB:Chg (mtb [] b8.heap.size) b8 gw:=Chg.GW (Chg.refl (mtb [] b8.heap.size) b8) co
  refine .r [0]<|.lb 1 E (Cy all_nil bV)<|.ln 2 E (Cy all_nil bV)<|.r [3]<|GA.O0 (i:=4) AA (fun gy cp=>Co d bg (h1.Po cp all_nil) (h2.Po cp all_nil) (h3.Po cp all_nil) (w:=gy) (F:=all)) ?_
  have dS:(As d bg).toNat< d.files.length:=(by exact (G9 (EV (C2 ‹_›).2.2.2 _ ‹_›)).1)
  refine GA.idx (i:=5) ((As d bg).toNat) (len:=d.files.length) (z:=As d bg) (sz:=3) AA (by exact (G9 (EV (C2 ‹_›).2.2.2 _ ‹_›)).2) dS (h1.addr (Nat.zero_lt_of_lt dS))<|.r [6] ?_
  obtain ⟨aH,bW⟩:∃ y,d.files[(As d bg).toNat]? = some y:=⟨_,AU AB⟩
  have gq:=AV bW
  obtain ⟨_,⟨iS,iT,iU,iV,iW,iX,rfl,ab,ac⟩,dT⟩:=h1.elem ((As d bg).toNat) aH bW
  have dU:=ab.len
  subst dU
  have dV:=ac.len
  subst dV
  refine .lg 7 1 dT (h1.nS (KM bW) all_nil)<|.r [8]<|.lb 9 E (Cy all_nil bV)<|.ln 10 E (Cy all_nil bV)<|.r [11]<|GA.O0 (i:=12) AA (fun fW bu=>Co d bh (h1.Po bu all_nil) (h2.Po bu all_nil) (h3.Po bu all_nil) (w:=fW) (F:=all)) ?_
  have cq:(As d bh).toNat< d.files.length:=(by exact (G9 (EV (C2 ‹_›).2.2.2 _ ‹_›)).1)
  refine GA.idx (i:=13) ((As d bh).toNat) (len:=d.files.length) (z:=As d bh) (sz:=3) AA (by exact (G9 (EV (C2 ‹_›).2.2.2 _ ‹_›)).2) cq (h1.addr (Nat.zero_lt_of_lt cq))<|.r [14] ?_
  obtain ⟨ay,br⟩:∃ y,d.files[(As d bh).toNat]? = some y:=⟨_,AU AB⟩
  have fX:=AV br
  obtain ⟨_,⟨iY,iZ,ja,jb,jc,jd,rfl,ae,af⟩,dW⟩:=h1.elem ((As d bh).toNat) ay br
  have dX:=ae.len
  subst dX
  have dY:=af.len
  subst dY
  refine .lg 15 1 dW (h1.nS (KM br) all_nil)<|.tw 16 20 ?_ ?_
  ·refine .cl (fun cr aV=>EJ aH.part ay.part (ab.ta.ext aV) (ac.ta.ext aV) (ae.ta.ext aV) (af.ta.ext aV) (by exact (p0.file _ ‹_›).sz) (by exact (p0.file _ ‹_›).sz) (w:=cr) (F:=all)) ?_
   intro cr aV
   replace ⟨h2,h3,E,ab,ac,ae,af,aa,aB⟩:=(se [ai] aV).g9 h2 h3 E ab ac ae af aa aB
   rintro je jf ⟨⟨jg,rfl,⟨_,rfl,⟨cu,jh,cw,cx,ji,cy,rfl,ag,ah⟩⟩⟩,bv⟩
   have bw:=al1 E.lt
   have cz:Gb w.heap.size cr.heap.size:=aa.size
   have hkeep_:=bv
   replace ⟨h2,h3,E,ab,ac,ae,af,aa,aB⟩:=(se [ai] bv).g9 h2 h3 E ab ac ae af aa aB
   refine ⟨Ext.chg hkeep_,?_⟩
   have ag:=ag.fr bw cz
   have gF:=ag.max
   have ah:=ah.fr bw cz
   have gG:=ah.max
   have dZ:=ag.len
   subst dZ
   have d0:=ah.len
   subst d0
   refine .r [17,18,19]<|.go 20<|.nw (fun b=>.pointer (some ⟨b,0,none⟩)) 66 [AH,AH] fun jj cA=>?_
   replace ⟨h2,h3,E,ab,ac,ae,af,ag,ah,aa,aB⟩:=(se [ai] cA).g11 h2 h3 E ab ac ae af ag ah aa aB
   intro ao jk bi cB d3 d4
   have gH:=Ab bi E.lt
   have gI:=aa.cn bi
   have d5:=aB.cn bi
   replace ⟨h2,h3,E,ab,ac,ae,af,ag,ah,aa,aB⟩:=(sn [ai] cB bi).g11 h2 h3 E ab ac ae af ag ah aa aB
   refine .go 21<|GE.Er (t':=66) (o:=0) (v:=.agg #[.slice cu ((Bx aH.part ay.part).1.ids.length) cw,.slice cx ((Bx aH.part ay.part).1.blocks.length) cy]) [.slice cu ((Bx aH.part ay.part).1.ids.length) cw,.slice cx ((Bx aH.part ay.part).1.blocks.length) cy] d3 AA AA AA fun jl cC=>?_
   replace ⟨h2,h3,E,ab,ac,ae,af,ag,ah,aa,aB⟩:=(se [ao,ai] cC).g11 h2 h3 E ab ac ae af ag ah aa aB
   intro jm bz aj d6
   have hkeep_:=Chg.toS bz (Cov.toS d5)
   replace ⟨h2,h3,E,ab,ac,ae,af,ag,ah,aa,aB⟩:=(so [ao,ai] bz).g11 h2 h3 E ab ac ae af ag ah aa aB
   refine ⟨hkeep_,?_⟩
   refine .d fun jn cD=>?_
   replace ⟨h2,h3,E,ab,ac,ae,af,ag,ah,aj,aa,aB⟩:=(se [ao,ai] cD).g12 h2 h3 E ab ac ae af ag ah aj aa aB
   replace h2:=h2.BK
   replace h3:=h3.BK
   replace ab:=ab.BK
   replace ac:=ac.BK
   replace ae:=ae.BK
   replace af:=af.BK
   refine .r 1<|.d<|.s<|.g<|.ns 0 3 [] fun bX fY aW cE d7 d8=>?_
   have d9:=Ab aW E.lt
   have ec:=Ab aW aj.lt
   have ee:=BT aW aa.size
   have eg:=aa.cn aW
   replace ⟨h2,h3,E,ab,ac,ae,af,ag,ah,aj,aa⟩:=(sn [ao,ai] cE aW).g11 h2 h3 E ab ac ae af ag ah aj aa
   have eh:Own (α:=Int) fY bX 3 (nin (ge w.heap.size) [bX,ao,ai]) 0 0 []:=Own.BM d7
   refine .r 1<|.lb E<|.r 1<|RG.sub (t:=34) (lo:=none) (hi:=some (vI at_)) h2 0 (at_.toNat) AA AA (.inl ⟨rfl,rfl⟩) (.inr ⟨_,_,rfl,by omega⟩) (by have:=p0.nl; omega) (by have:=p0.nl; omega) fun jo jp cF=>?_
   have gJ:=cF.len; have gK:=cF.max
   refine RG.DM (T:=34) (ty:=34) Av eh cF AA AA (fun b h e=>h.2 (e▸AI)) (by have:=p0.nl; omega) fun aE fZ bY az aJ cG=>?_
   have bA:=Bd aJ d9 E.lt
   have ej:=Bd aJ ec aj.lt
   have ek:=EP aJ ee aa.size
   have en:=GV aJ eg aa.size
   replace ⟨h2,h3,E,ab,ac,ae,af,ag,ah,aj,aa⟩:=(sa [bX,ao,ai] cG aJ).g11 h2 h3 E ab ac ae af ag ah aj aa
   replace az:=az.rn bX
   have gL:=az.len
   refine .r 1<|.d<|.s ?_
   replace h2:=h2.Cl
   replace h3:=h3.Cl
   replace ab:=ab.Cl
   replace ac:=ac.Cl
   replace ae:=ae.Cl
   replace af:=af.Cl
   replace ag:=ag.Cl
   replace ah:=ah.Cl
   have cH:Gb (ai+1) bY.heap.size:=E.lt
   have eA:Cov (mtb [aE] bY.heap.size) bY aE:=⟨.inl (.inl AI)⟩
   refine .gd (mtb [aE] bY.heap.size) 10 fun jq cI=>?_
   replace ⟨h2,h3,E,ab,ac,ae,af,ag,ah,aj,az,aa⟩:=(se [aE,ao,ai] cI).g12 h2 h3 E ab ac ae af ag ah aj az aa
   refine .r [0,1]<|.lb 2 E (Cy (all_cons (Nb.symm bA) all_nil) cH)<|.r [5]<|.lb 6 E (Cy (all_cons (Nb.symm bA) all_nil) cH)<|.r [7]<|GA.int (i:=8) (at_+2) AA (by have:=p0.nl; omega)<|GA.sub (i:=9) (t:=34) (lo:=some (vI (at_+2))) (hi:=none) AA h2 ((at_+2).toNat) d.list.length AA AA (.inr ⟨_,_,rfl,by omega⟩) (.inl ⟨rfl,rfl⟩) (by have:=p0.nl; omega) (by have:=p0.nl; omega) fun jr jt aF=>?_
   have gN:=aF.len
   refine .go 3<|.ns 1 3 [vI d.next] fun ju bB=>?_
   replace ⟨h2,h3,E,ab,ac,ae,af,ag,ah,aj,az,aF⟩:=(se [aE,ao,ai] bB).g12 h2 h3 E ab ac ae af ag ah aj az aF
   replace aa:=(se [aE,ao,ai] bB).g1 aa
   intro cJ jv bj bC bD eB
   have eC:=Ab bj E.lt
   have eD:=Ab bj aj.lt
   have cK:=Ab bj az.lt
   have eE:=BT bj aa.size
   replace ⟨h2,h3,E,ab,ac,ae,af,ag,ah,aj,az,aF⟩:=(se [aE,ao,ai] bC).g12 h2 h3 E ab ac ae af ag ah aj az aF
   replace aa:=(se [aE,ao,ai] bC).g1 aa
   refine .go 4<|GE.append (T:=34) (ty:=34) (args:=[vS aE (0+(at_.toNat - 0)) fZ,vS cJ 1 1]) AA fun jw bE=>?_
   replace ⟨h2,h3,E,ab,ac,ae,af,ag,ah,aj,az,aF⟩:=(se [aE,ao,ai] bE).g12 h2 h3 E ab ac ae af ag ah aj az aF
   replace ⟨bD,aa⟩:=(se [aE,ao,ai] bE).g2 bD aa
   have b9:nin (ge w.heap.size) [aE,ao,ai] cJ∧cJ≠aE:=Du eE (all_cons cK (all_cons eD (all_cons eC all_nil))) cK
   obtain ⟨bZ,jx,jy,cL,aO,aK,bF,eF⟩:=az.CU (P:=Tryz.prog) (T:=34) (ty:=34) (y:=d.next) AA bD rfl b9 (by have:=p0.nl; omega)
   refine ⟨_,_,cL,Chg.toS bF (Cov.toS eA),?_⟩
   have eG:=Bd aK bA E.lt
   have eH:=Bd aK ej aj.lt
   have eI:=EP aK ek aa.size
   have gP:=GV aK en aa.size
   replace ⟨h2,h3,E,ab,ac,ae,af,ag,ah,aj,aF,aa⟩:=(sa [aE,ao,ai] bF aK).g12 h2 h3 E ab ac ae af ag ah aj aF aa
   replace aO:=aO.rn aE
   have gQ:=aO.len
   refine .d fun jz bG=>?_
   replace ⟨h2,h3,E,ab,ac,ae,af,ag,ah,aj,aO,aF⟩:=(se [bZ,ao,ai] bG).g12 h2 h3 E ab ac ae af ag ah aj aO aF
   replace aa:=(se [bZ,ao,ai] bG).g1 aa
   replace h2:=h2.BK
   replace h3:=h3.BK
   replace ab:=ab.BK
   replace ac:=ac.BK
   replace ae:=ae.BK
   replace af:=af.BK
   replace ag:=ag.BK
   replace ah:=ah.BK
   replace aF:=aF.BK
   refine RG.DM (T:=34) (ty:=34) Av aO aF AA AA (fun b h e=>h.2 (e▸AI)) (by have:=p0.nl; omega) fun aN f0 jA ar aS cM=>?_
   have gS:=Bd aS eG E.lt
   have gT:=Bd aS eH aj.lt
   have eJ:=EP aS eI aa.size
   replace ⟨h2,h3,E,ab,ac,ae,af,ag,ah,aj,aa⟩:=(sa [bZ,ao,ai] cM aS).g11 h2 h3 E ab ac ae af ag ah aj aa
   replace ar:=ar.rn bZ
   refine .r 1<|.d<|.s<|.gd nil 13 fun jB cN=>?_
   replace ⟨h2,h3,E,ab,ac,ae,af,ag,ah,aj,ar,aa⟩:=(se [aN,ao,ai] cN).g12 h2 h3 E ab ac ae af ag ah aj ar aa
   refine .r [0]<|.lb 1 E id<|.ln 2 aj id<|.r [3,4,5]<|.lb 6 E id<|.r [9,10,11,12]<|.go 7<|.cl (fun cO bH=>Ae d.names (h3.ta.ext bH) (by have:=p0.g.len; omega) (by (intro n hn; have:=(p0.g.sz n hn).1; omega)) (w:=cO) (F:=all)) ?_
   intro cO bH
   replace ⟨h2,h3,E,ab,ac,ae,af,ag,ah,aj,ar,aa⟩:=(se [aN,ao,ai] bH).g12 h2 h3 E ab ac ae af ag ah aj ar aa
   rintro jC jD ⟨⟨bk,f5,f6,rfl,aC,aX⟩,bI⟩
   have cP:=al3 ar.lt aj.lt E.lt
   have eK:Gb w.heap.size cO.heap.size:=aa.size
   have hkeep_:=bI
   have gW:=CC aX E.lt
   have gX:=CC aX aj.lt
   have gY:=CC aX ar.lt
   have eL:=FT aX aa.size
   replace ⟨h2,h3,E,ab,ac,ae,af,ag,ah,aj,ar,aa⟩:=(sz [aN,ao,ai] bI aX).g12 h2 h3 E ab ac ae af ag ah aj ar aa
   refine ⟨Ext.chg hkeep_,?_⟩
   replace aC:=Own.take (s0:=w.heap.size) (M:=[aN,ao,ai]) aC cP eK
   refine .r [8]<|.d fun jE bJ=>?_
   replace ⟨h2,h3,E,ab,ac,ae,af,ag,ah,aj,ar,aC⟩:=(se [bk,aN,ao,ai] bJ).g12 h2 h3 E ab ac ae af ag ah aj ar aC
   replace aa:=(se [bk,aN,ao,ai] bJ).g1 aa
   refine .ns 4 115 [vI 1,vI d.next,.slice cu ((Bx aH.part ay.part).1.ids.length) cw,.slice cx ((Bx aH.part ay.part).1.blocks.length) cy,AH,AH,vI 2,vI 0,AH,AH,vS aN (0+(at_.toNat - 0)+1+(d.list.length - (at_+2).toNat)) f0,vS bk f5 f6,vI 3,vI bg,AH,AH,AH,AH,vI 3,vI bh,AH,AH,AH,AH] fun bm b0 aP cQ eM eN=>?_
   have hC:=Ab aP E.lt
   have hE:=Ab aP aj.lt
   have hH:=Ab aP ar.lt
   have hN:=Ab aP aC.lt
   have eO:=BT aP aa.size
   replace ⟨h2,h3,E,ab,ac,ae,af,ag,ah,ar,aC,aa⟩:=(sn [bk,aN,ao,ai] cQ aP).g12 h2 h3 E ab ac ae af ag ah ar aC aa
   have cR:=ar.sl eJ
   replace ⟨h2,h3,ab,ac,ae,af,ag,ah,aC⟩:=(sd b0 [bm,bk,aN,ao,ai] aN).g9 h2 h3 ab ac ae af ag ah aC
   have f7:=aC.sl eL
   replace ⟨h2,h3,ab,ac,ae,af,ag,ah,cR⟩:=(sd b0 [bm,bk,ao,ai] bk).g9 h2 h3 ab ac ae af ag ah cR
   have eP:Own (α:=Stp) b0 bm 115 (nin (ge w.heap.size) [bm,ao,ai]) 4 4 [(⟨1,d.next,(⟨(Bx aH.part ay.part).1.ids,(Bx aH.part ay.part).1.blocks⟩:Prt),([]:List Int),([]:List (List Tag))⟩:Stp),(⟨2,0,(⟨([]:List Int),([]:List (List Row))⟩:Prt),((([]++((d.list.take (at_.toNat)).drop 0))++[d.next])++((d.list.take d.list.length).drop ((at_+2).toNat))),d.names⟩:Stp),(⟨3,bg,(⟨([]:List Int),([]:List (List Row))⟩:Prt),([]:List Int),([]:List (List Tag))⟩:Stp),(⟨3,bh,(⟨([]:List Int),([]:List (List Row))⟩:Prt),([]:List Int),([]:List (List Tag))⟩:Stp)]:=Own.lit eM rfl AE ⟨⟨_,_,_,_,_,_,_,_,_,_,_,_,rfl,ag.oi,ah.oi,(RepS.BM _ _ none 0 AE),(RepS.BM _ _ none 0 AE)⟩,⟨_,_,_,_,_,_,_,_,_,_,_,_,rfl,(RepS.BM _ _ none 0 AE),(RepS.BM _ _ none 0 AE),cR.oi,f7.oi⟩,⟨_,_,_,_,_,_,_,_,_,_,_,_,rfl,(RepS.BM _ _ none 0 AE),(RepS.BM _ _ none 0 AE),(RepS.BM _ _ none 0 AE),(RepS.BM _ _ none 0 AE)⟩,⟨_,_,_,_,_,_,_,_,_,_,_,_,rfl,(RepS.BM _ _ none 0 AE),(RepS.BM _ _ none 0 AE),(RepS.BM _ _ none 0 AE),(RepS.BM _ _ none 0 AE)⟩,rfl⟩
   refine .r 1<|.d ?_
   have f8:=eP.sl eO
   replace ⟨h2,h3,ab,ac,ae,af⟩:=(sd b0 [bm,ao,ai] bm).g6 h2 h3 ab ac ae af
   exact .rt func30 results30 (vS bm 4 4) ⟨(f8.vl (by exact SO p0 ‹_› ‹_› ‹_› ‹_› ‹_› ‹_› ‹_›) (fun _ _ h=>h.1)),aa⟩
  refine .nw (fun b=>.pointer (some ⟨b,0,none⟩)) 66 [AH,AH] fun jF cS=>?_
  replace ⟨h2,h3,E,ab,ac,ae,af,aa,aB⟩:=(se [ai] cS).g9 h2 h3 E ab ac ae af aa aB
  intro aq jG bn cT aY eQ
  have hO:=Ab bn E.lt
  have hQ:=aa.cn bn
  have eR:=aB.cn bn
  replace ⟨h2,h3,E,ab,ac,ae,af,aa⟩:=(sn [ai] cT bn).g8 h2 h3 E ab ac ae af aa
  refine .go 16<|.cl (fun cU aZ=>EJ aH.part ay.part (ab.ta.ext aZ) (ac.ta.ext aZ) (ae.ta.ext aZ) (af.ta.ext aZ) (by exact (p0.file _ ‹_›).sz) (by exact (p0.file _ ‹_›).sz) (w:=cU) (F:=all)) ?_
  intro cU aZ
  replace ⟨h2,h3,E,aY,aa⟩:=(se [aq,ai] aZ).g5 h2 h3 E aY aa
  rintro jH jI ⟨⟨jJ,rfl,⟨_,rfl,⟨cV,jK,cW,cX,jL,cY,rfl,al,am⟩⟩⟩,bK⟩
  have bL:=al2 aY.lt E.lt
  have cZ:Gb w.heap.size cU.heap.size:=aa.size
  have hkeep_:=bK
  replace ⟨h2,h3,E,aY,aa⟩:=(se [aq,ai] bK).g5 h2 h3 E aY aa
  refine ⟨Ext.chg hkeep_,?_⟩
  have al:=al.fr bL cZ
  have hV:=al.max
  have am:=am.fr bL cZ
  have hW:=am.max
  have eS:=al.len
  subst eS
  have eT:=am.len
  subst eT
  refine .r [17,18,19]<|.go 21<|GE.Er (t':=66) (o:=0) (v:=.agg #[.slice cV ((Bx aH.part ay.part).1.ids.length) cW,.slice cX ((Bx aH.part ay.part).1.blocks.length) cY]) [.slice cV ((Bx aH.part ay.part).1.ids.length) cW,.slice cX ((Bx aH.part ay.part).1.blocks.length) cY] aY AA AA AA fun jM c7=>?_
  replace ⟨h2,h3,E,al,am,aa⟩:=(se [aq,ai] c7).g6 h2 h3 E al am aa
  intro jN bM ak eU
  have hkeep_:=Chg.toS bM (Cov.toS eR)
  replace ⟨h2,h3,E,al,am,aa⟩:=(so [aq,ai] bM).g6 h2 h3 E al am aa
  refine ⟨hkeep_,?_⟩
  refine .d fun jO c8=>?_
  replace ⟨h2,h3,E,ak,al,am,aa⟩:=(se [aq,ai] c8).g7 h2 h3 E ak al am aa
  replace h2:=h2.BK
  replace h3:=h3.BK
  refine .r 1<|.d<|.s<|.g<|.ns 0 3 [] fun b6 f9 ba da eV eW=>?_
  have eX:=Ab ba E.lt
  have eY:=Ab ba ak.lt
  have eZ:=BT ba aa.size
  have e7:=aa.cn ba
  replace ⟨h2,h3,E,ak,al,am,aa⟩:=(sn [aq,ai] da ba).g7 h2 h3 E ak al am aa
  have e8:Own (α:=Int) f9 b6 3 (nin (ge w.heap.size) [b6,aq,ai]) 0 0 []:=Own.BM eV
  refine .r 1<|.lb E<|.r 1<|RG.sub (t:=34) (lo:=none) (hi:=some (vI at_)) h2 0 (at_.toNat) AA AA (.inl ⟨rfl,rfl⟩) (.inr ⟨_,_,rfl,by omega⟩) (by have:=p0.nl; omega) (by have:=p0.nl; omega) fun jP jQ db=>?_
  have ia:=db.len; have ic:=db.max
  refine RG.DM (T:=34) (ty:=34) Av e8 db AA AA (fun b h e=>h.2 (e▸AI)) (by have:=p0.nl; omega) fun aI gb b7 aA aL de=>?_
  have bN:=Bd aL eX E.lt
  have fa:=Bd aL eY ak.lt
  have fb:=EP aL eZ aa.size
  have fd:=GV aL e7 aa.size
  replace ⟨h2,h3,E,ak,al,am,aa⟩:=(sa [b6,aq,ai] de aL).g7 h2 h3 E ak al am aa
  replace aA:=aA.rn b6
  have ie:=aA.len
  refine .r 1<|.d<|.s ?_
  replace h2:=h2.Cl
  replace h3:=h3.Cl
  replace al:=al.Cl
  replace am:=am.Cl
  have df:Gb (ai+1) b7.heap.size:=E.lt
  have fe:Cov (mtb [aI] b7.heap.size) b7 aI:=⟨.inl (.inl AI)⟩
  refine .gd (mtb [aI] b7.heap.size) 10 fun jR dh=>?_
  replace ⟨h2,h3,E,ak,al,am,aA,aa⟩:=(se [aI,aq,ai] dh).g8 h2 h3 E ak al am aA aa
  refine .r [0,1]<|.lb 2 E (Cy (all_cons (Nb.symm bN) all_nil) df)<|.r [5]<|.lb 6 E (Cy (all_cons (Nb.symm bN) all_nil) df)<|.r [7]<|GA.int (i:=8) (at_+2) AA (by have:=p0.nl; omega)<|GA.sub (i:=9) (t:=34) (lo:=some (vI (at_+2))) (hi:=none) AA h2 ((at_+2).toNat) d.list.length AA AA (.inr ⟨_,_,rfl,by omega⟩) (.inl ⟨rfl,rfl⟩) (by have:=p0.nl; omega) (by have:=p0.nl; omega) fun jS jT aG=>?_
  have ii:=aG.len
  refine .go 3<|.ns 1 3 [vI d.next] fun jU dj=>?_
  replace ⟨h3,E,ak,al,am,aA,aG,aa⟩:=(se [aI,aq,ai] dj).g8 h3 E ak al am aA aG aa
  intro dm jV bo dp bO ff
  have fg:=Ab bo E.lt
  have fi:=Ab bo ak.lt
  have dq:=Ab bo aA.lt
  have fj:=BT bo aa.size
  replace ⟨h3,E,ak,al,am,aA,aG,aa⟩:=(se [aI,aq,ai] dp).g8 h3 E ak al am aA aG aa
  refine .go 4<|GE.append (T:=34) (ty:=34) (args:=[vS aI (0+(at_.toNat - 0)) gb,vS dm 1 1]) AA fun jW dt=>?_
  replace ⟨h3,E,ak,al,am,aA,aG,bO,aa⟩:=(se [aI,aq,ai] dt).g9 h3 E ak al am aA aG bO aa
  have cd:nin (ge w.heap.size) [aI,aq,ai] dm∧dm≠aI:=Du fj (all_cons dq (all_cons fi (all_cons fg all_nil))) dq
  obtain ⟨du,jX,jY,dv,aQ,aM,bP,fm⟩:=aA.CU (P:=Tryz.prog) (T:=34) (ty:=34) (y:=d.next) AA bO rfl cd (by have:=p0.nl; omega)
  refine ⟨_,_,dv,Chg.toS bP (Cov.toS fe),?_⟩
  have fp:=Bd aM bN E.lt
  have fq:=Bd aM fa ak.lt
  have fu:=EP aM fb aa.size
  have ik:=GV aM fd aa.size
  replace ⟨h3,E,ak,al,am,aG,aa⟩:=(sa [aI,aq,ai] bP aM).g7 h3 E ak al am aG aa
  replace aQ:=aQ.rn aI
  have il:=aQ.len
  refine .d fun jZ dw=>?_
  replace ⟨h3,E,ak,al,am,aQ,aG,aa⟩:=(se [du,aq,ai] dw).g8 h3 E ak al am aQ aG aa
  replace h3:=h3.BK
  replace al:=al.BK
  replace am:=am.BK
  replace aG:=aG.BK
  refine RG.DM (T:=34) (ty:=34) Av aQ aG AA AA (fun b h e=>h.2 (e▸AI)) (by have:=p0.nl; omega) fun aT gf j0 ax aU dx=>?_
  have io:=Bd aU fp E.lt
  have ip:=Bd aU fq ak.lt
  have fv:=EP aU fu aa.size
  replace ⟨h3,E,ak,al,am,aa⟩:=(sa [du,aq,ai] dx aU).g6 h3 E ak al am aa
  replace ax:=ax.rn du
  refine .r 1<|.d<|.s<|.gd nil 13 fun j1 dy=>?_
  replace ⟨h3,E,ak,al,am,ax,aa⟩:=(se [aT,aq,ai] dy).g7 h3 E ak al am ax aa
  refine .r [0]<|.lb 1 E id<|.ln 2 ak id<|.r [3,4,5]<|.lb 6 E id<|.r [9,10,11,12]<|.go 7<|.cl (fun dz bQ=>Ae d.names (h3.ta.ext bQ) (by have:=p0.g.len; omega) (by (intro n hn; have:=(p0.g.sz n hn).1; omega)) (w:=dz) (F:=all)) ?_
  intro dz bQ
  replace ⟨E,ak,al,am,ax,aa⟩:=(se [aT,aq,ai] bQ).g6 E ak al am ax aa
  rintro j2 j3 ⟨⟨bq,gh,gi,rfl,aD,bd⟩,bR⟩
  have dA:=al3 ax.lt ak.lt E.lt
  have fw:Gb w.heap.size dz.heap.size:=aa.size
  have hkeep_:=bR
  have iu:=CC bd E.lt
  have iw:=CC bd ak.lt
  have iy:=CC bd ax.lt
  have fA:=FT bd aa.size
  replace ⟨E,ak,al,am,ax,aa⟩:=(sz [aT,aq,ai] bR bd).g6 E ak al am ax aa
  refine ⟨Ext.chg hkeep_,?_⟩
  replace aD:=Own.take (s0:=w.heap.size) (M:=[aT,aq,ai]) aD dA fw
  refine .r [8]<|.d fun j4 dB=>?_
  replace ⟨E,ak,al,am,ax,aD,aa⟩:=(se [bq,aT,aq,ai] dB).g7 E ak al am ax aD aa
  refine .ns 4 115 [vI 1,vI d.next,.slice cV ((Bx aH.part ay.part).1.ids.length) cW,.slice cX ((Bx aH.part ay.part).1.blocks.length) cY,AH,AH,vI 2,vI 0,AH,AH,vS aT (0+(at_.toNat - 0)+1+(d.list.length - (at_+2).toNat)) gf,vS bq gh gi,vI 3,vI bg,AH,AH,AH,AH,vI 3,vI bh,AH,AH,AH,AH] fun bt dC aR dD fB fC=>?_
  have iB:=Ab aR E.lt
  have iC:=Ab aR ak.lt
  have iD:=Ab aR ax.lt
  have iE:=Ab aR aD.lt
  have fD:=BT aR aa.size
  replace ⟨E,al,am,ax,aD,aa⟩:=(sn [bq,aT,aq,ai] dD aR).g6 E al am ax aD aa
  have dE:=ax.sl fv
  replace ⟨al,am,aD⟩:=(sd dC [bt,bq,aT,aq,ai] aT).g3 al am aD
  have gj:=aD.sl fA
  replace ⟨al,am,dE⟩:=(sd dC [bt,bq,aq,ai] bq).g3 al am dE
  have fE:Own (α:=Stp) dC bt 115 (nin (ge w.heap.size) [bt,aq,ai]) 4 4 [(⟨1,d.next,(⟨(Bx aH.part ay.part).1.ids,(Bx aH.part ay.part).1.blocks⟩:Prt),([]:List Int),([]:List (List Tag))⟩:Stp),(⟨2,0,(⟨([]:List Int),([]:List (List Row))⟩:Prt),((([]++((d.list.take (at_.toNat)).drop 0))++[d.next])++((d.list.take d.list.length).drop ((at_+2).toNat))),d.names⟩:Stp),(⟨3,bg,(⟨([]:List Int),([]:List (List Row))⟩:Prt),([]:List Int),([]:List (List Tag))⟩:Stp),(⟨3,bh,(⟨([]:List Int),([]:List (List Row))⟩:Prt),([]:List Int),([]:List (List Tag))⟩:Stp)]:=Own.lit fB rfl AE ⟨⟨_,_,_,_,_,_,_,_,_,_,_,_,rfl,al.oi,am.oi,(RepS.BM _ _ none 0 AE),(RepS.BM _ _ none 0 AE)⟩,⟨_,_,_,_,_,_,_,_,_,_,_,_,rfl,(RepS.BM _ _ none 0 AE),(RepS.BM _ _ none 0 AE),dE.oi,gj.oi⟩,⟨_,_,_,_,_,_,_,_,_,_,_,_,rfl,(RepS.BM _ _ none 0 AE),(RepS.BM _ _ none 0 AE),(RepS.BM _ _ none 0 AE),(RepS.BM _ _ none 0 AE)⟩,⟨_,_,_,_,_,_,_,_,_,_,_,_,rfl,(RepS.BM _ _ none 0 AE),(RepS.BM _ _ none 0 AE),(RepS.BM _ _ none 0 AE),(RepS.BM _ _ none 0 AE)⟩,rfl⟩
  refine .r 1<|.d ?_
  have gk:=fE.sl fD
  exact .rt func30 results30 (vS bt 4 4) ⟨(gk.vl (by exact SO p0 ‹_› ‹_› ‹_› ‹_› ‹_› ‹_› ‹_›) (fun _ _ h=>h.1)),aa⟩
 refine .r 1<|.d<|.ct<|.s<|.g<|.ns 0 115 [] fun dF gl bS dG fF fG=>?_
 have iF:=Ab bS E.lt
 have fH:=BT bS aa.size
 replace aa:=(se [] dG).g1 aa
 have fI:Own (α:=Stp) gl dF 115 (nin (ge w.heap.size) [dF,ai]) 0 0 []:=Own.BM fF
 refine .r 1<|.d ?_
 have gm:=fI.sl fH
 exact .rt func30 results30 (vS dF 0 0) ⟨(gm.vl (by exact US ‹_› (.inr ‹_›)) (fun _ _ h=>h.1)),aa⟩
end Go.Proofs.YtckdhcbbgmiccaaGreat
namespace Go.Proofs.YtckdhcbbgmiccaaGreat
theorem Pe:∀ (fs:List Fil) (n:Int) (i:Nat),0≤DA n i fs→∃ f,fs[(DA n i fs).toNat - i]? = some f∧f.num=n∧i≤(DA n i fs).toNat:=by
 intro fs
 induction fs with
 | nil=>intro n i h; exact absurd h (by unfold DA; omega)
 | cons x xs ih =>
   intro n i h
   unfold DA at h ⊢
   split at h
   ·next e =>
    rw [if_pos e]
    exact ⟨x,by simp,by simpa using e,by simp⟩
   ·next e =>
    rw [if_neg e]
    obtain ⟨f,h1,h2,h3⟩:=ih n (i+1) h
    refine ⟨f,?_,h2,by omega⟩
    rw [show (DA n (i+1) xs).toNat - i=((DA n (i+1) xs).toNat - (i+1))+1 by omega,List.getElem?_cons_succ]
    exact h1
end Go.Proofs.YtckdhcbbgmiccaaGreat
namespace Go.Proofs.YtckdhcbbgmiccaaGreat
theorem Lz (nx:Int):∀ (fs:List Fil) (o:Option Int),DY nx o fs=true↔(∀ f∈fs,1≤f.num∧f.num≤nx - 1∧At f.part=true)∧fs.Pairwise (fun a b=>a.num< b.num)∧∀ q,o=some q→∀ f∈fs,q< f.num:=by
 intro fs
 induction fs with
 | nil=>intro o; simp [DY]
 | cons x xs ih =>
   intro o
   unfold DY
   simp only [AW]
   rw [ih]
   constructor
   ·rintro ⟨⟨⟨h1,h2⟩,h3⟩,h4,h5,h6⟩
    have h1:=Bu h1
    refine ⟨fun f hf=>?_,List.pairwise_cons.2 ⟨fun f hf=>h6 _ rfl f hf,h5⟩,fun q hq f hf=>?_⟩
    ·rcases List.mem_cons.1 hf with rfl | hf
     ·exact ⟨h1.1,h1.2,h3⟩
     ·exact h4 f hf
    ·subst hq
     have hx:q< x.num:=by simpa using h2
     rcases List.mem_cons.1 hf with rfl | hf
     ·exact hx
     ·have:=h6 _ rfl f hf; omega
   ·rintro ⟨h1,h2,h3⟩
    obtain ⟨h4,h5⟩:=List.pairwise_cons.1 h2
    have hx:=h1 x AD
    refine ⟨⟨⟨?_,?_⟩,hx.2.2⟩,fun f hf=>h1 f (by simp [hf]),h5,fun q hq f hf=>?_⟩
    ·unfold inR; rw [decide_eq_true hx.1,decide_eq_true hx.2.1]; rfl
    ·cases o with
     | none=>rfl
     | some q=>simpa using h3 q rfl x AD
    ·cases hq
     exact h4 f hf
theorem Pf:∀ (fs:List Fil) (i:Nat) (f:Fil),fs.Pairwise (fun a b=>a.num< b.num)→f∈fs→∃ k:Nat,DA f.num i fs=((i+k:Nat):Int)∧fs[k]? = some f:=by
 intro fs
 induction fs with
 | nil=>intro i f _ hf; cases hf
 | cons x xs ih =>
   intro i f hp hf
   obtain ⟨h1,h2⟩:=List.pairwise_cons.1 hp
   unfold DA
   rcases List.mem_cons.1 hf with rfl | hf
   ·exact ⟨0,by simp,rfl⟩
   ·have:=h1 f hf
    rw [if_neg (by simp; omega)]
    obtain ⟨k,g1,g2⟩:=ih (i+1) f h2 hf
    exact ⟨k+1,by rw [g1]; omega,by rw [List.getElem?_cons_succ]; exact g2⟩
theorem EW {d:Dsk}(hp:d.files.Pairwise (fun a b=>a.num< b.num)){f:Fil}(hf:f∈d.files):Au d f.num=f.part∧0≤As d f.num:=by
 obtain ⟨k,h1,h2⟩:=Pf d.files 0 f hp hf
 have h3:As d f.num=(k:Int):=by unfold As; rw [h1]; simp
 refine ⟨El (by rw [h3]; exact h2),by omega⟩
structure DskV (d:Dsk):Prop where
 next:1≤d.next∧d.next≤999
 nf:d.files.length≤20
 nl:d.list.length≤6
 file:∀ f∈d.files,1≤f.num∧f.num≤d.next - 1∧At f.part=true
 asc:d.files.Pairwise (fun a b=>a.num< b.num)
 at_:∀ n∈d.list,∃ f∈d.files,f.num=n
 nd:d.list.Nodup
 nm:nmB d.names=true
 so:Ac (Ao d)=true
theorem Cq {d:Dsk}:Ax d=true↔DskV d:=by
 unfold Ax
 simp only [AW,decide_eq_true_eq]
 constructor
 ·rintro ⟨⟨⟨⟨⟨h1,h2⟩,h3⟩,h4⟩,h5⟩,h6,h7⟩
  obtain ⟨g1,g2,_⟩:=(Lz _ _ _).1 h4
  unfold Ds at h5
  simp only [AW,decide_eq_true_eq,List.all_eq_true] at h5
  exact ⟨Bu h1,h2,h3,g1,g2,fun n hn=>(Ez d n).1 (h5.1 n hn),h5.2,h6,h7⟩
 ·rintro ⟨h1,h2,h3,h4,h5,h6,h7,h8,h9⟩
  refine ⟨⟨⟨⟨⟨?_,h2⟩,h3⟩,(Lz _ _ _).2 ⟨h4,h5,by simp⟩⟩,?_⟩,h8,h9⟩
  ·unfold inR; rw [decide_eq_true h1.1,decide_eq_true h1.2]; rfl
  ·unfold Ds
   simp only [AW,decide_eq_true_eq,List.all_eq_true]
   exact ⟨fun n hn=>(Ez d n).2 (h6 n hn),h7⟩
theorem DskV.lt {d:Dsk}(h:DskV d):∀ n∈d.list,1≤n∧n< d.next:=fun n hn=>by
 obtain ⟨f,hf,rfl⟩:=h.at_ n hn
 have:=h.file f hf
 omega
theorem Tz {d e:Dsk}(hn:e.names=d.names) (hl:e.list=d.list) (hp:∀ n∈d.list,Au e n=Au d n):Ao e=Ao d:=by
 unfold Ao
 rw [hn,hl,List.map_congr_left hp]
theorem DskV.files {d:Dsk}(h:DskV d){fs:List Fil}{nx:Int}(h1:1≤nx∧nx≤999) (h2:fs.length≤20) (h3:∀ f∈fs,1≤f.num∧f.num≤nx - 1∧At f.part=true) (h4:fs.Pairwise (fun a b=>a.num< b.num)) (h5:∀ f∈d.files,f.num∈d.list→f∈fs) :
 DskV ⟨fs,d.list,d.names,nx⟩∧Ao ⟨fs,d.list,d.names,nx⟩=Ao d:=by
 have e:Ao ⟨fs,d.list,d.names,nx⟩=Ao d:=Tz rfl rfl (fun n hn=>by
  obtain ⟨f,hf,rfl⟩:=h.at_ n hn
  rw [(EW h.asc hf).1,(EW (d:=⟨fs,d.list,d.names,nx⟩) h4 (h5 f hf hn)).1])
 refine ⟨⟨h1,h2,h.nl,h3,h4,fun n hn=>?_,h.nd,h.nm,by rw [e]; exact h.so⟩,e⟩
 obtain ⟨f,hf,rfl⟩:=h.at_ n hn
 exact ⟨f,h5 f hf hn,rfl⟩
theorem DskV.add {d:Dsk}(h:DskV d){p:Prt}(hp:At p=true) (h1:d.next< 999) (h2:d.files.length< 20):DskV ⟨d.files++[⟨d.next,p⟩],d.list,d.names,d.next+1⟩∧Ao ⟨d.files++[⟨d.next,p⟩],d.list,d.names,d.next+1⟩=Ao d:=by
 have hn:=h.next
 refine h.files AB (by simp; omega) (fun f hf=>?_) ?_ (fun f hf _=>List.mem_append.2 (.inl hf))
 ·rcases List.mem_append.1 hf with hf | hf
  ·have:=h.file f hf
   exact ⟨this.1,by omega,this.2.2⟩
  ·simp at hf
   subst hf
   exact ⟨hn.1,by simp,hp⟩
 ·rw [List.pairwise_append]
  refine ⟨h.asc,by simp,fun a ha b hb=>?_⟩
  simp at hb
  subst hb
  have:=h.file a ha
  show a.num< d.next
  omega
theorem DskV.gone {d:Dsk}(h:DskV d) (n:Int):DskV ⟨Dp d n,d.list,d.names,d.next⟩∧Ao ⟨Dp d n,d.list,d.names,d.next⟩=Ao d:=by
 refine h.files h.next (Nat.le_trans Kx h.nf) (fun f hf=>h.file f (Gs f hf)) ?_ (fun f hf hm=>?_)
 ·refine h.asc.sublist ?_
  unfold Dp
  split
  ·have e:=List.take_append_drop (As d n).toNat d.files
   conv=>rhs; rw [← e]
   refine List.Sublist.append (List.Sublist.refl _) ?_
   rw [← List.drop_drop]
   exact List.drop_sublist 1 _
  ·exact List.Sublist.refl _
 ·unfold Dp
  split
  ·rename_i hc
   obtain ⟨k,g1,g2⟩:=Pf d.files 0 f h.asc hf
   have g3:As d f.num=(k:Int):=by unfold As; rw [g1]; simp
   by_cases hk:k< (As d n).toNat
   ·refine List.mem_append.2 (.inl (List.mem_iff_getElem?.2 ⟨k,?_⟩))
    rw [List.getElem?_take,if_pos hk]
    exact g2
   ·by_cases hk2:k=(As d n).toNat
    ·obtain ⟨y,hy1,hy2,_⟩:=(fun hh=>Pe d.files n 0 hh) hc.1
     have hy1':d.files[(As d n).toNat]? = some y:=hy1
     rw [← hk2,g2] at hy1'
     cases hy1'
     rw [hy2] at hm
     have:=hc.2
     rw [List.contains_iff_mem.2 hm] at this
     cases this
    ·refine List.mem_append.2 (.inr (List.mem_iff_getElem?.2 ⟨k - ((As d n).toNat+1),?_⟩))
     rw [List.getElem?_drop,show (As d n).toNat+1+(k - ((As d n).toNat+1))=k by omega]
     exact g2
  ·exact hf
theorem DskV.tidy {d:Dsk}(h:DskV d):DskV (BJ d)∧Ao (BJ d)=Ao d:=by
 refine h.files h.next (Nat.le_trans (List.length_filter_le _ _) h.nf) (fun f hf=>h.file f (List.mem_filter.1 hf).1) (h.asc.sublist List.filter_sublist) (fun f hf hm=>List.mem_filter.2 ⟨hf,?_⟩)
 simpa using hm
theorem DskV.SV {d:Dsk}(h:DskV d):(BJ d).files.length=d.list.length:=by
 have h1:((BJ d).files.map Fil.num).Nodup:=by
  unfold List.Nodup
  rw [List.pairwise_map]
  exact (h.asc.sublist List.filter_sublist).imp (fun hab=>by omega)
 have h2:∀ n∈(BJ d).files.map Fil.num,n∈d.list:=fun n hn=>by
  obtain ⟨f,hf,rfl⟩:=List.mem_map.1 hn
  have:=(List.mem_filter.1 hf).2
  simpa using this
 have h3:∀ n∈d.list,n∈(BJ d).files.map Fil.num:=fun n hn=>by
  obtain ⟨f,hf,rfl⟩:=h.at_ n hn
  exact List.mem_map.2 ⟨f,List.mem_filter.2 ⟨hf,by simpa using hn⟩,rfl⟩
 have a:=I6 _ _ h1 h2
 have b:=I6 _ _ h.nd h3
 rw [List.length_map] at a b
 omega
theorem L0 {d:Dsk}{st:List Stp}{c:Int}(h:c≤0):toD d st c=d:=by
 unfold toD
 rw [show c.toNat=0 by omega]
 rfl
theorem C3 {d:Dsk}{x:Stp}{st:List Stp}{c:Int}(h:1≤c):toD d (x::st) c=toD (doD d x) st (c - 1):=by
 unfold toD
 rw [show c.toNat=(c - 1).toNat+1 by omega]
 rfl
theorem KF {d:Dsk}{c:Int}:toD d [] c=d:=by
 unfold toD
 simp
theorem SW {s:Sto}(h:s.idx=idxOf s.idx.names){ps:List Prt}{m:List Smp}:(⟨idxOf s.idx.names,ps,m⟩:Sto)=⟨s.idx,ps,m⟩:=by rw [← h]
structure FlD (d:Dsk) (s:Sto):Prop where
 v:DskV d
 sd:SD s
 k:Ac s=true
 nb:nmB s.idx.names=true
 p:s.parts=d.list.map (Au d)
 m:s.mem≠[]
 l:d.list.length< 6
 n:d.next< 999
 f:d.files.length< 20
theorem Om {s:Sto}(h:SD s) (hk:Ac s=true) (h1:s.mem≠[]) (h2:s.parts.length< 6):At (Ai s.mem)=true:=by
 have h5:=IJ h hk h1 h2
 unfold Ac at h5
 simp only [AW,decide_eq_true_eq,List.all_eq_true] at h5
 exact En (h5.1.1.2 (Ai s.mem) (by unfold Cv; simp))
theorem FlD.to {d:Dsk}{s:Sto}(q:FlD d s) (c:Int):DskV (toD d (Aw d s) c)∧Ao (toD d (Aw d s) c)=if c< 2 then Ao d else Cv s:=by
 have hpl:s.parts.length< 6:=by rw [q.p,List.length_map]; exact q.l
 have e:=DI (d:=d) (s:=s) (by have:=q.m; rw [← List.length_pos_iff] at this; omega) (by have:=q.l; omega) (by have:=q.n; omega) (by have:=q.f; omega)
 rw [e]
 by_cases h0:c≤0
 ·rw [L0 h0,if_pos AB]
  exact ⟨q.v,rfl⟩
 ·have hp:=Om q.sd q.k q.m hpl
  obtain ⟨v1,o1⟩:=q.v.add hp q.n q.f
  rw [C3 AB,Ex rfl]
  by_cases h1:c≤1
  ·rw [L0 AB,if_pos AB]
   exact ⟨v1,o1⟩
  ·rw [C3 AB,Gf rfl,KF,if_neg AB]
   have hnew:Au ⟨d.files++[⟨d.next,Ai s.mem⟩],d.list++[d.next],s.idx.names,d.next+1⟩ d.next=Ai s.mem:=(EW (d:=⟨d.files++[⟨d.next,Ai s.mem⟩],d.list++[d.next],s.idx.names,d.next+1⟩) v1.asc (f:=⟨d.next,Ai s.mem⟩) AD).1
   have hold:∀ n∈d.list,Au ⟨d.files++[⟨d.next,Ai s.mem⟩],d.list++[d.next],s.idx.names,d.next+1⟩ n=Au d n:=fun n hn=>by
    obtain ⟨f,hf,rfl⟩:=q.v.at_ n hn
    rw [(EW q.v.asc hf).1,(EW (d:=⟨d.files++[⟨d.next,Ai s.mem⟩],d.list++[d.next],s.idx.names,d.next+1⟩) v1.asc (f:=f) (List.mem_append.2 (.inl hf))).1]
   have eo:Ao ⟨d.files++[⟨d.next,Ai s.mem⟩],d.list++[d.next],s.idx.names,d.next+1⟩=Cv s:=by
    unfold Ao Cv
    rw [SW q.sd.idx]
    simp only [List.map_append,List.map_cons,List.map_nil]
    rw [hnew,List.map_congr_left hold,q.p]
   refine ⟨⟨v1.next,v1.nf,by have:=q.l; simp; omega,v1.file,v1.asc,fun n hn=>?_,?_,q.nb,by rw [eo]; exact IJ q.sd q.k q.m hpl⟩,eo⟩
   ·rcases List.mem_append.1 hn with hn | hn
    ·exact v1.at_ n hn
    ·simp at hn
     exact ⟨⟨d.next,Ai s.mem⟩,by simp,hn.symm⟩
   ·rw [List.nodup_append]
    refine ⟨q.v.nd,by simp,fun a ha b hb=>?_⟩
    simp at hb
    subst hb
    have:=q.v.lt a ha
    omega
theorem FlD.of {d:Dsk}{s:Sto}(hs:SD s) (h:¬ ((Af d s).length:Int)=0):FlD d s∧Af d s=Aw d s:=by
 cases hf:CQ d s with
 | false=>rw [Nr hf] at h; exact absurd rfl h
 | true =>
   have q:=C9 hf
   have e:=E2 hf
   by_cases hc:s.mem.length=0∨d.list.length≥6∨d.next≥999∨d.files.length≥20
   ·have e2:Aw d s=[]:=by unfold Aw; rw [if_pos hc]
    rw [e,e2] at h; exact absurd rfl h
   ·exact ⟨⟨Cq.1 q.dk,hs,q.sk,q.nm,q.p,fun e2=>hc (.inl (by rw [e2]; rfl)),by omega,by omega,by omega⟩,e⟩
structure MgD (d:Dsk) (a:Nat) (x y:Int):Prop where
 v:DskV d
 dd:DD d
 l:a+2≤d.list.length
 hx:d.list[a]? = some x
 hy:d.list[a+1]? = some y
 n:d.next< 999
 f:d.files.length< 20
 e:Ak d a=[⟨1,d.next,BB (Au d x) (Au d y),[],[]⟩,⟨2,0,⟨[],[]⟩,d.list.take a++[d.next]++d.list.drop (a+2),d.names⟩,⟨3,x,⟨[],[]⟩,[],[]⟩,⟨3,y,⟨[],[]⟩,[],[]⟩]
theorem MgD.of {d:Dsk}{i:Int}(hd:DD d) (h:¬ ((Ag d i).length:Int)=0):∃ x y,MgD d i.toNat x y∧Ag d i=Ak d i.toNat∧i=(i.toNat:Int):=by
 cases hk:Ax d with
 | false=>rw [Nt hk] at h; exact absurd rfl h
 | true =>
   rw [D8 hk] at h ⊢
   by_cases hc:(!(inR i 0 ((d.list.length:Int) - 2)) || decide (d.next≥999) || decide (d.files.length≥20))=true
   ·unfold Ak at h
    rw [if_pos hc] at h
    exact absurd rfl h
   ·have hc2:=hc
    simp only [Bool.or_eq_true,not_or,Bool.not_eq_true,Bool.not_eq_false',decide_eq_true_eq] at hc2
    obtain ⟨⟨h1,h3⟩,h4⟩:=hc2
    have h0:=Bu (by simpa using h1)
    have ei:i=(i.toNat:Int):=by omega
    have hx:=AU (l:=d.list) (i:=i.toNat) AB
    have hy:=AU (l:=d.list) (i:=i.toNat+1) AB
    refine ⟨_,_,⟨Cq.1 hk,hd,by omega,hx,hy,by omega,by omega,?_⟩,by rw [← ei],ei⟩
    rw [← ei]
    unfold Ak
    rw [if_neg hc]
    simp only [List.getD_eq_getElem?_getD,hx,hy,Option.getD_some]
section
variable {d:Dsk} {a:Nat} {x y:Int}
theorem MgD.list (q:MgD d a x y):d.list=d.list.take a++x::y::d.list.drop (a+2):=by
 have e:=List.take_append_drop a d.list
 rw [Be q.hx,Be q.hy] at e
 exact e.symm
theorem MgD.open (q:MgD d a x y):(Ao d).parts[a]? = some (Au d x)∧(Ao d).parts[a+1]? = some (Au d y)∧(Ao d).parts.length=d.list.length:=by
 unfold Ao
 simp only [List.getElem?_map,q.hx,q.hy,List.length_map]
 exact ⟨rfl,rfl,trivial⟩
theorem MgD.sd (q:MgD d a x y):SD (Ao d):=q.dd.sd (Cq.2 q.v)
theorem MgD.part (q:MgD d a x y):At (BB (Au d x) (Au d y))=true:=by
 have hl:a+2≤(Ao d).parts.length:=by rw [q.open.2.2]; exact q.l
 have h:=Fi q.sd q.v.so hl
 obtain ⟨u,w,hu,hw,e⟩:=Eo hl
 rw [q.open.1] at hu
 rw [q.open.2.1] at hw
 cases hu
 cases hw
 unfold Ac at h
 simp only [AW,decide_eq_true_eq,List.all_eq_true] at h
 exact En (h.1.1.2 _ (by rw [e]; simp))
theorem MgD.mem (q:MgD d a x y):∀ n∈d.list.take a++[d.next]++d.list.drop (a+2),n∈d.list∧n≠x∧n≠y∨n=d.next:=fun n hn=>by
 have hnd:=q.v.nd
 rw [q.list] at hnd
 rw [List.nodup_append,List.nodup_cons,List.nodup_cons] at hnd
 obtain ⟨n1,⟨n2,n3,n4⟩,n5⟩:=hnd
 rcases List.mem_append.1 hn with hn | hn
 ·rcases List.mem_append.1 hn with hn | hn
  ·exact .inl ⟨List.mem_of_mem_take hn,n5 n hn x AD,n5 n hn y AD⟩
  ·simp at hn; exact .inr hn
 ·exact .inl ⟨List.mem_of_mem_drop hn,fun e=>n2 (by rw [← e]; simp [hn]),fun e=>n3 (by rw [← e]; exact hn)⟩
def mgD (d:Dsk) (a:Nat) (x y:Int):Dsk:=⟨d.files++[⟨d.next,BB (Au d x) (Au d y)⟩],d.list.take a++[d.next]++d.list.drop (a+2),d.names,d.next+1⟩
theorem MgD.v2 (q:MgD d a x y):DskV (mgD d a x y)∧Ao (mgD d a x y)=CA (Ao d) a:=by
 obtain ⟨v1,o1⟩:=q.v.add q.part q.n q.f
 have hnew:Au (mgD d a x y) d.next=BB (Au d x) (Au d y):=(EW (d:=mgD d a x y) v1.asc (f:=⟨d.next,BB (Au d x) (Au d y)⟩) (by unfold mgD; simp)).1
 have hold:∀ n∈d.list,Au (mgD d a x y) n=Au d n:=fun n hn=>by
  obtain ⟨f,hf,rfl⟩:=q.v.at_ n hn
  rw [(EW q.v.asc hf).1,(EW (d:=mgD d a x y) v1.asc (f:=f) (List.mem_append.2 (.inl hf))).1]
 have hl:a+2≤(Ao d).parts.length:=by rw [q.open.2.2]; exact q.l
 have eo:Ao (mgD d a x y)=CA (Ao d) a:=by
  obtain ⟨u,w,hu,hw,e⟩:=Eo hl
  rw [q.open.1] at hu
  rw [q.open.2.1] at hw
  cases hu
  cases hw
  have h1:(Ao (mgD d a x y)).parts=(CA (Ao d) a).parts:=by
   rw [e]
   show (d.list.take a++[d.next]++d.list.drop (a+2)).map (Au (mgD d a x y))=(d.list.map (Au d)).take a++[_]++(d.list.map (Au d)).drop (a+2)
   simp only [List.map_append,List.map_cons,List.map_nil]
   rw [hnew,List.map_congr_left (fun n hn=>hold n (List.mem_of_mem_take hn)),List.map_congr_left (l:=d.list.drop (a+2)) (fun n hn=>hold n (List.mem_of_mem_drop hn)),List.map_take,List.map_drop]
  show (⟨_,_,_⟩:Sto)=⟨_,_,_⟩
  have h2:(Ao (mgD d a x y)).parts=Fx (Ao d).parts a:=h1
  unfold Ao at h2 ⊢
  simp only [] at h2 ⊢
  rw [h2]
  rfl
 refine ⟨⟨v1.next,v1.nf,?_,v1.file,v1.asc,fun n hn=>?_,?_,q.v.nm,by rw [eo]; exact Fi q.sd q.v.so hl⟩,eo⟩
 ·have:=q.v.nl
  show (d.list.take a++[d.next]++d.list.drop (a+2)).length≤6
  simp only [List.length_append,List.length_take,List.length_drop,List.length_cons,List.length_nil]
  have:=q.l
  omega
 ·rcases q.mem n hn with hn | rfl
  ·exact v1.at_ n hn.1
  ·exact ⟨⟨d.next,BB (Au d x) (Au d y)⟩,by unfold mgD; simp,rfl⟩
 ·show (d.list.take a++[d.next]++d.list.drop (a+2)).Nodup
  have hnd:=q.v.nd
  rw [q.list] at hnd
  rw [List.nodup_append,List.nodup_cons,List.nodup_cons] at hnd
  obtain ⟨n1,⟨n2,n3,n4⟩,n5⟩:=hnd
  have hlt:=q.v.lt
  rw [List.append_assoc,List.nodup_append]
  refine ⟨n1,?_,fun u hu w hw=>?_⟩
  ·rw [List.singleton_append,List.nodup_cons]
   exact ⟨fun hm=>by have:=hlt _ (List.mem_of_mem_drop hm); omega,n4⟩
  ·have hu2:=hlt u (List.mem_of_mem_take hu)
   rcases List.mem_append.1 hw with hw | hw
   ·simp at hw; omega
   ·exact n5 u hu w (by simp [hw])
theorem MgD.to (q:MgD d a x y) (c:Int):DskV (toD d (Ak d a) c)∧Ao (toD d (Ak d a) c)=if c< 2 then Ao d else CA (Ao d) a:=by
 rw [q.e]
 by_cases h0:c≤0
 ·rw [L0 h0,if_pos AB]
  exact ⟨q.v,rfl⟩
 ·obtain ⟨v1,o1⟩:=q.v.add q.part q.n q.f
  rw [C3 AB,Ex rfl]
  by_cases h1:c≤1
  ·rw [L0 AB,if_pos AB]
   exact ⟨v1,o1⟩
  ·obtain ⟨v2,o2⟩:=q.v2
   have e2:doD (⟨d.files++[⟨d.next,BB (Au d x) (Au d y)⟩],d.list,d.names,d.next+1⟩:Dsk) ⟨2,0,⟨[],[]⟩,d.list.take a++[d.next]++d.list.drop (a+2),d.names⟩=mgD d a x y:=Gf rfl
   rw [C3 AB,e2,if_neg AB]
   by_cases h2:c≤2
   ·rw [L0 AB]
    exact ⟨v2,o2⟩
   ·obtain ⟨v3,o3⟩:=v2.gone x
    rw [C3 AB,FA rfl]
    by_cases h3:c≤3
    ·rw [L0 AB]
     exact ⟨v3,o3.trans o2⟩
    ·obtain ⟨v4,o4⟩:=v3.gone y
     rw [C3 AB,FA rfl,KF]
     exact ⟨v4,(o4.trans o3).trans o2⟩
end
end Go.Proofs.YtckdhcbbgmiccaaGreat
namespace Go.Proofs.YtckdhcbbgmiccaaGreat
theorem SX {d:Dsk}{st:List Stp}{c:Int}(h:DD d) (hw:Ax d=true→StW d st):DD (Aj d st c):=by
 unfold Aj
 split
 ·rename_i hc
  exact VP c (hw hc.1)
 ·exact R9
theorem SY {d:Dsk}{st:List Stp}{c:Int}(h:Ax d=true) (h1:0≤c) (h2:Ax (toD d st c)=true):Aj d st c=toD d st c:=UR h AB h2
section
variable {d:Dsk}
theorem T0 (h:DD d):DD (CE d):=by
 unfold CE
 split
 ·exact h.tidy
 ·exact R9
theorem T1 (h:Ax d=true):Ax (CE d)=true:=by
 rw [KE h]
 exact Cq.2 (Cq.1 h).tidy.1
theorem T3 (h:Ax d=true):Cf (CE d)=Cf d:=by
 rw [KD h,KD (T1 h),KE h]
 exact (Cq.1 h).tidy.2
end
theorem WE {d:Dsk}{s:Sto}(hs:SD s) (h:¬ ((Af d s).length:Int)=0){c:Int}(hc:0≤c):Aj d (Af d s) c=toD d (Aw d s) c∧Ax (Aj d (Af d s) c)=true:=by
 obtain ⟨q,e⟩:=FlD.of hs h
 have o:=Cq.2 (q.to c).1
 rw [e,SY (Cq.2 q.v) hc o]
 exact ⟨rfl,o⟩
theorem Gt {s:Sto}(h:SD s) (hk:Ac s=true){k:Nat}(hl:k+2≤s.parts.length):Bw (CA s k) [] 0 99=Bw s [] 0 99 :=
 Kw (x:=CA s k) (s:=s) rfl (hk.trans (Fi h hk hl).symm) (fun _ id a b=>(EU (StoK.of h hk) hl a (by have:=h.nm.len; omega)).2) _ _
section
variable {d:Dsk} {i:Int}
theorem WG (hd:DD d) (h:¬ ((Ag d i).length:Int)=0){c:Int}(hc:0≤c):Aj d (Ag d i) c=toD d (Ak d i.toNat) c∧Ax (Aj d (Ag d i) c)=true:=by
 obtain ⟨x,y,q,e,_⟩:=MgD.of hd h
 have o:=Cq.2 (q.to c).1
 rw [e,SY (Cq.2 q.v) hc o]
 exact ⟨rfl,o⟩
end
end Go.Proofs.YtckdhcbbgmiccaaGreat
namespace Go.Proofs.YtckdhcbbgmiccaaGreat
structure WV (w:Wld):Prop where
 wd:WD w
 v:DskV w.disk
 k:Ac w.store=true
 p:w.store.parts=w.disk.list.map (Au w.disk)
 m:w.disk.names=w.store.idx.names.take w.disk.names.length
 tf:∀ f∈w.disk.files,f.num∈w.disk.list
theorem WV.sd {w:Wld}(h:WV w):SD w.store:=h.wd.sd
theorem WV.dd {w:Wld}(h:WV w):DD w.disk:=h.wd.dd
theorem WV.dk {w:Wld}(h:WV w):Ax w.disk=true:=Cq.2 h.v
theorem WV.nb {w:Wld}(h:WV w):nmB w.store.idx.names=true:=D2.2 h.wd.wi.sto.nm
theorem WV.fits {w:Wld}(h:WV w):CQ w.disk w.store=true:=(Nq h.dk (by rw [h.nb,h.k]; rfl) h.p h.m).symm
def CR:Wld:=⟨⟨⟨[],[]⟩,[],[]⟩,⟨[],[],[],1⟩⟩
theorem WV.new:WV CR:=⟨WD.new,⟨by simp [CR],by simp [CR],by simp [CR],by simp [CR],by simp [CR],by simp [CR],by simp [CR],by decide,by decide⟩,by decide,rfl,rfl,by simp [CR]⟩
theorem HB {w:Wld}(hd:DD w.disk) (hv:DskV w.disk):BA w=⟨Ao w.disk,BJ w.disk⟩:=by
 obtain ⟨v,e⟩:=hv.tidy
 have hk:=Cq.2 v
 have e1:=hd.tidy.UN hk
 have e2:=(hd.tidy.sd hk).copy
 unfold BA
 rw [e1,e2,e]
theorem On {d e:Dsk}(h:Ao d=Ao e):d.list.map (Au d)=e.list.map (Au e):=congrArg Sto.parts h
theorem WV.Oo {s:Sto}{d:Dsk}(hd:DD d) (hv:DskV d) (hw:WD (BA ⟨s,d⟩)):WV (BA ⟨s,d⟩):=by
 have e:=HB (w:=⟨s,d⟩) hd hv
 rw [e] at hw ⊢
 obtain ⟨v,eo⟩:=hv.tidy
 refine ⟨hw,v,hv.so,(On eo).symm,?_,fun f hf=>?_⟩
 ·show d.names=d.names.take d.names.length
  rw [List.take_length]
 ·have:=(List.mem_filter.1 hf).2
  show f.num∈d.list
  simpa using this
theorem SZ (x:Idx) (n:List Tag):∃ l,(BO x n).1.names=x.names++l:=by
 unfold BO
 split
 ·exact ⟨[],by simp⟩
 ·split
  ·exact ⟨[],by simp⟩
  ·exact ⟨[n],rfl⟩
theorem Sa {α:Type}{a l m:List α}(h:a=l.take a.length):a=(l++m).take a.length:=by
 have hl:a.length≤l.length:=by
  have:=congrArg List.length h
  rw [List.length_take] at this
  omega
 rw [List.take_append_of_le_length hl]
 exact h
theorem WV.add {w:Wld}(h:WV w){n:List Tag}{r:Row}(hw:WD ⟨(By w.store n r).1,w.disk⟩):WV ⟨(By w.store n r).1,w.disk⟩:=by
 cases hb:(By w.store n r).2 with
 | false =>
   have e:(By w.store n r).1=w.store:=by
    unfold By at hb ⊢
    split at hb
    ·rename_i hc; rw [if_pos hc]
    ·rename_i hc
     rw [if_neg hc]
     split at hb
     ·rename_i hc2; rw [if_pos hc2]
     ·cases hb
   rw [e] at hw ⊢
   exact h
 | true =>
   obtain ⟨a1,a2,a3,a4,e⟩:=KA hb
   rw [e] at hw ⊢
   obtain ⟨l,hl⟩:=SZ w.store.idx n
   refine ⟨hw,h.v,Tg h.sd h.k a1 a2 a3 a4,h.p,?_,h.tf⟩
   show w.disk.names=(BO w.store.idx n).1.names.take w.disk.names.length
   rw [hl]
   exact Sa h.m
theorem Hn {d:Dsk}{s:Sto}(q:FlD d s){c:Int}(hc:¬ c< 2):Aw d s=[⟨1,d.next,Ai s.mem,[],[]⟩,⟨2,0,⟨[],[]⟩,d.list++[d.next],s.idx.names⟩]∧toD d (Aw d s) c=⟨d.files++[⟨d.next,Ai s.mem⟩],d.list++[d.next],s.idx.names,d.next+1⟩:=by
 have e:=DI (d:=d) (s:=s) (by have:=q.m; rw [← List.length_pos_iff] at this; omega) (by have:=q.l; omega) (by have:=q.n; omega) (by have:=q.f; omega)
 refine ⟨e,?_⟩
 rw [e,C3 AB,Ex rfl,C3 AB,Gf rfl,KF]
theorem FG {d:Dsk}{s:Sto}(q:FlD d s):((Aw d s).length:Int)=2:=by rw [(Hn q (c:=2) AB).1]; rfl
theorem Fl {s:Sto}(h:SD s) (hk:Ac s=true) (hm:s.mem≠[]) (hl:s.parts.length< 6):(BD s).1=Cv s∧(Bg s).1=Cv s:=by
 rw [← List.length_pos_iff] at hm
 have f1:=IK h hk AB AB
 have f2:(Bg s).2=true:=by rw [f1]
 have f3:=(QO h f2).1
 refine ⟨?_,f3⟩
 have f4:Bg s=BD s:=by rw [Hg hk,h.copy]
 rw [← f4]
 exact f3
theorem WV.fl {w:Wld}(h:WV w) (hn:Aw w.disk w.store≠[]):FlD w.disk w.store:=by
 by_cases hc:w.store.mem.length=0∨w.disk.list.length≥6∨w.disk.next≥999∨w.disk.files.length≥20
 ·exact absurd (by unfold Aw; rw [if_pos hc]) hn
 ·exact ⟨h.v,h.sd,h.k,h.nb,h.p,fun e=>hc (.inl (by rw [e]; rfl)),by omega,by omega,by omega⟩
theorem FlD.parts {d:Dsk}{s:Sto}(q:FlD d s):s.parts.length< 6:=by rw [q.p,List.length_map]; exact q.l
theorem WV.T4 {w:Wld}(h:WV w) (q:FlD w.disk w.store){c:Int}(hc:¬ c< 2) (hw:WD ⟨Cv w.store,toD w.disk (Aw w.disk w.store) c⟩):WV ⟨Cv w.store,toD w.disk (Aw w.disk w.store) c⟩:=by
 obtain ⟨v,o⟩:=q.to c
 rw [if_neg hc] at o
 have e:=(Hn q hc).2
 refine ⟨hw,v,IJ q.sd q.k q.m q.parts,?_,?_,fun f hf=>?_⟩
 ·exact (congrArg Sto.parts o).symm
 ·have:(toD w.disk (Aw w.disk w.store) c).names=w.store.idx.names:=congrArg (fun s=>s.idx.names) o
  show (toD w.disk (Aw w.disk w.store) c).names=w.store.idx.names.take (toD w.disk (Aw w.disk w.store) c).names.length
  rw [this,List.take_length]
 ·have hf2:f∈(toD w.disk (Aw w.disk w.store) c).files:=hf
  show f.num∈(toD w.disk (Aw w.disk w.store) c).list
  rw [e] at hf2 ⊢
  rcases List.mem_append.1 hf2 with hf2 | hf2
  ·exact List.mem_append.2 (.inl (h.tf f hf2))
  ·simp at hf2
   subst hf2
   simp
theorem Pg {fs:List Fil}(h:fs.Pairwise (fun a b=>a.num< b.num)){i j:Nat}{a b:Fil}(ha:fs[i]? = some a) (hb:fs[j]? = some b) (e:a.num=b.num):i=j:=by
 rw [List.pairwise_iff_getElem] at h
 obtain ⟨h1,h2⟩:=List.getElem?_eq_some_iff.1 ha
 obtain ⟨h3,h4⟩:=List.getElem?_eq_some_iff.1 hb
 rcases Nat.lt_trichotomy i j with hij | hij | hij
 ·have:=h i j h1 h3 hij; rw [h2,h4] at this; omega
 ·exact hij
 ·have:=h j i h3 h1 hij; rw [h2,h4] at this; omega
theorem Ph {d:Dsk}(h:DskV d){n:Int}(hn:n∉d.list){f:Fil}(hf:f∈Dp d n):f.num≠n:=fun e=>by
 have hm:=Gs f hf
 have h1:0≤As d n:=(Ez d n).2 ⟨f,hm,e⟩
 have h3:d.list.contains n=false:=by
  cases hc:d.list.contains n with
  | false=>rfl
  | true=>exact absurd (List.contains_iff_mem.1 hc) hn
 rw [OI h1 h3] at hf
 obtain ⟨y,hy1,hy2,_⟩:=(fun hh=>Pe d.files n 0 hh) h1
 have hy1':d.files[(As d n).toNat]? = some y:=hy1
 rcases List.mem_append.1 hf with hf | hf
 ·obtain ⟨j,hj⟩:=List.mem_iff_getElem?.1 hf
  rw [List.getElem?_take] at hj
  split at hj
  ·have:=Pg h.asc hj hy1' (e.trans hy2.symm); omega
  ·cases hj
 ·obtain ⟨j,hj⟩:=List.mem_iff_getElem?.1 hf
  rw [List.getElem?_drop] at hj
  have:=Pg h.asc hj hy1' (e.trans hy2.symm)
  omega
theorem WV.mg {w:Wld}(h:WV w){i:Int}(hn:Ak w.disk i≠[]):∃ x y,MgD w.disk i.toNat x y∧i=(i.toNat:Int)∧Ak w.disk i=Ak w.disk i.toNat∧Ag w.disk i=Ak w.disk i:=by
 have e:=D8 (a:=i) h.dk
 have h0:¬ ((Ag w.disk i).length:Int)=0:=by
  rw [e]
  intro h0
  exact hn (List.length_eq_zero_iff.1 AB)
 obtain ⟨x,y,q,e2,i0⟩:=MgD.of h.dd h0
 exact ⟨x,y,q,i0,by rw [← e,e2],e⟩
theorem Ic {s:Sto}{a:Nat}(hl:a+2≤s.parts.length):BC s (a:Int)=(CA s a,true):=by
 unfold BC CA
 rw [if_pos (by unfold inR; simp; omega)]
 simp
theorem Ky {d:Dsk}{a:Nat}{x y:Int}(q:MgD d a x y){c:Int}(hc:¬ c< 4):toD d (Ak d a) c=⟨Dp ⟨Dp (mgD d a x y) x,(mgD d a x y).list,(mgD d a x y).names,(mgD d a x y).next⟩ y,(mgD d a x y).list,(mgD d a x y).names,(mgD d a x y).next⟩:=by
 have e2:doD (⟨d.files++[⟨d.next,BB (Au d x) (Au d y)⟩],d.list,d.names,d.next+1⟩:Dsk) ⟨2,0,⟨[],[]⟩,d.list.take a++[d.next]++d.list.drop (a+2),d.names⟩=mgD d a x y:=Gf rfl
 rw [q.e,C3 AB,Ex rfl,C3 AB,e2,C3 AB,FA rfl,C3 AB,FA rfl,KF]
theorem FH {d:Dsk}{a:Nat}{x y:Int}(q:MgD d a x y):((Ak d a).length:Int)=4:=by rw [q.e]; rfl
theorem WV.open {w:Wld}(h:WV w):(Ao w.disk).parts=w.store.parts:=h.p.symm
theorem WV.T5 {w:Wld}(h:WV w){a:Nat}{x y:Int}(q:MgD w.disk a x y){c:Int}(hc:¬ c< 4) (hw:WD ⟨CA w.store a,toD w.disk (Ak w.disk a) c⟩):WV ⟨CA w.store a,toD w.disk (Ak w.disk a) c⟩:=by
 obtain ⟨v,o⟩:=q.to c
 rw [if_neg AB] at o
 have e:=Ky q hc
 have hl:a+2≤w.store.parts.length:=by rw [← h.open,q.open.2.2]; exact q.l
 refine ⟨hw,v,Fi h.sd h.k hl,?_,?_,fun f hf=>?_⟩
 ·have:=congrArg Sto.parts o
  have e3:(CA (Ao w.disk) a).parts=(CA w.store a).parts:=by show Fx (Ao w.disk).parts a=Fx w.store.parts a; rw [h.open]
  rw [e3] at this
  exact this.symm
 ·have:(toD w.disk (Ak w.disk a) c).names=w.disk.names:=congrArg (fun s=>s.idx.names) o
  show (toD w.disk (Ak w.disk a) c).names=w.store.idx.names.take (toD w.disk (Ak w.disk a) c).names.length
  rw [this]
  exact h.m
 ·have hf2:f∈(toD w.disk (Ak w.disk a) c).files:=hf
  show f.num∈(toD w.disk (Ak w.disk a) c).list
  rw [e] at hf2 ⊢
  obtain ⟨v2,_⟩:=q.v2
  obtain ⟨v3,_⟩:=v2.gone x
  have hnd:=q.v.nd
  rw [q.list] at hnd
  rw [List.nodup_append,List.nodup_cons,List.nodup_cons] at hnd
  have mx:x∉(mgD w.disk a x y).list:=fun hm=>by
   rcases q.mem x hm with hm | hm
   ·exact hm.2.1 rfl
   ·have:=q.v.lt x (AV q.hx); omega
  have my:y∉(mgD w.disk a x y).list:=fun hm=>by
   rcases q.mem y hm with hm | hm
   ·exact hm.2.2 rfl
   ·have:=q.v.lt y (AV q.hy); omega
  have ny:=Ph v3 my hf2
  have hf3:=Gs f hf2
  have nx:=Ph v2 mx hf3
  have hf4:=Gs f hf3
  rcases List.mem_append.1 hf4 with hf5 | hf5
  ·have hm:=h.tf f hf5
   rw [q.list] at hm
   show f.num∈w.disk.list.take a++[w.disk.next]++w.disk.list.drop (a+2)
   simp only [List.mem_append,List.mem_cons,List.not_mem_nil,or_false] at hm ⊢
   rcases hm with hm | hm | hm | hm
   ·exact .inl (.inl hm)
   ·exact absurd hm nx
   ·exact absurd hm ny
   ·exact .inr hm
  ·simp at hf5
   subst hf5
   show w.disk.next∈w.disk.list.take a++[w.disk.next]++w.disk.list.drop (a+2)
   simp
theorem Nv {w:Wld}(h:WV w) (q:FlD w.disk w.store) (c:Int):DD (toD w.disk (Aw w.disk w.store) c):=by
 have e:Af w.disk w.store=Aw w.disk w.store:=E2 h.fits
 have:=(JH h.dd h.sd).1
 rw [e] at this
 exact this.ok c.toNat
theorem Kz {w:Wld}(h:WV w) (i:Int) (c:Int):DD (toD w.disk (Ak w.disk i) c):=by
 have:=(JI h.dd i).1
 rw [D8 h.dk] at this
 exact this.ok c.toNat
theorem WV.do {w:Wld}(h:WV w){e:Evt}(he:NmD e.name):WV (doW w e):=by
 have hw:=h.wd.do he
 by_cases k1:e.kind=1
 ·cases hn:Aq e.name with
  | false=>rw [F1 k1 hn]; exact h
  | true=>rw [HR k1 hn] at hw ⊢; exact h.add hw
 ·by_cases k2:e.kind=2
  ·rw [HS k2] at hw ⊢
   by_cases hs:((Aw w.disk w.store).length:Int)=0∨e.cut< 0
   ·rw [Cm hs]; exact h
   ·have q:=h.fl (fun e0=>hs (.inl (by rw [e0]; rfl)))
    by_cases hc:e.cut< (Aw w.disk w.store).length
    ·rw [ES (fun e0=>hs (.inl e0)) (fun e0=>hs (.inr e0)) hc] at hw ⊢
     exact WV.Oo (Nv h q _) (q.to _).1 hw
    ·rw [DJ (fun e0=>hs (.inl e0)) (fun e0=>hs (.inr e0)) hc,(Fl h.sd h.k q.m q.parts).1] at hw ⊢
     exact h.T4 q (by rw [FG q] at hc; exact hc) hw
  ·by_cases k3:e.kind=3
   ·rw [GC k3] at hw ⊢
    by_cases hs:((Ak w.disk e.at_).length:Int)=0∨e.cut< 0
    ·rw [Cm hs]; exact h
    ·obtain ⟨x,y,q,i0,e3,_⟩:=h.mg (i:=e.at_) (fun e0=>hs (.inl (by rw [e0]; rfl)))
     have hl:e.at_.toNat+2≤w.store.parts.length:=by rw [← h.open,q.open.2.2]; exact q.l
     by_cases hc:e.cut< (Ak w.disk e.at_).length
     ·rw [ES (fun e0=>hs (.inl e0)) (fun e0=>hs (.inr e0)) hc] at hw ⊢
      exact WV.Oo (Kz h _ _) (by rw [e3]; exact (q.to _).1) hw
     ·have em:(BC w.store e.at_).1=CA w.store e.at_.toNat:=by
       have:=Ic hl
       rw [← i0] at this
       rw [this]
      rw [DJ (fun e0=>hs (.inl e0)) (fun e0=>hs (.inr e0)) hc,em,e3] at hw ⊢
      exact h.T5 q (by rw [e3,FH q] at hc; exact hc) hw
   ·by_cases k4:e.kind=4
    ·rw [NA k4] at hw ⊢
     exact WV.Oo (s:=w.store) h.dd h.v hw
    ·rw [LZ k1 k2 k3 k4]; exact h
theorem WV.copy {w:Wld}(h:WV w):Cb w=w:=by
 unfold Cb
 rw [h.sd.copy,h.dd.UN h.dk]
def CB (es:List Evt):Wld:=es.foldl doW CR
def WH:Wld:=⟨⟨⟨[],[]⟩,[],[]⟩,⟨[],[],[],0⟩⟩
def Cr (es:List Evt):Wld × Bool:=if es.length≤50 then (CB es,true) else (WH,false)
def EsD (es:List Evt):Prop:=∀ e∈es,EvD e
theorem WV.foldl:∀ (es:List Evt) (w:Wld),WV w→EsD es→WV (es.foldl doW w):=by
 intro es
 induction es with
 | nil=>intro w h _; exact h
 | cons e es ih=>intro w h he; exact ih _ (h.do (he e AD).1) (fun x hx=>he x (by simp [hx]))
theorem WV.T6 {es:List Evt}(h:EsD es):WV (CB es):=WV.foldl es _ WV.new h
theorem K0 {es:List Evt}(h:¬ (es.length:Int) > 50):Cr es=(CB es,true):=by unfold Cr; rw [if_pos AB]
theorem K1 {es:List Evt}(h:(es.length:Int) > 50):Cr es=(WH,false):=by unfold Cr; rw [if_neg AB]
theorem Nw {es:List Evt}{k:Nat}{w Y:Wld}{e:Evt}(h:(es.drop k).foldl doW w=Y) (hd:es.drop k=e::es.drop (k+1)):(es.drop (k+1)).foldl doW (doW w e)=Y:=by
 rw [hd] at h
 exact h
theorem Pj {es:List Evt}{k:Nat}{w Y:Wld}(h:(es.drop k).foldl doW w=Y) (hk:es.length≤k):w=Y:=by
 rw [Aa hk] at h
 exact h
theorem EsD.nil:EsD []:=fun e h=>by cases h
theorem EsD.snoc {es:List Evt}{e:Evt}(h:EsD es) (he:EvD e):EsD (es++[e]):=fun x hx=>by
 rcases List.mem_append.1 hx with hx | hx
 ·exact h x hx
 ·simp at hx; subst hx; exact he
theorem VV {a b:Wld}(h:(a.store==b.store)=false):false=(a==b):=(beq_eq_false_iff_ne.2 (fun e=>by subst e; simp at h)).symm
theorem VW {a b:Wld}(h:(a.store==b.store)=true):(a.disk==b.disk)=(a==b):=by
 have h:=eq_of_beq h
 cases a with
 | mk s d =>
   cases b with
   | mk s' d' =>
     simp only at h
     subst h
     by_cases e:d=d'
     ·subst e; simp
     ·rw [beq_eq_false_iff_ne.2 (fun e2:d=d'=>e e2),beq_eq_false_iff_ne.2 (fun e2:(⟨s,d⟩:Wld)=⟨s,d'⟩=>e (congrArg Wld.disk e2))]
section
variable {w:Wld} {e:Evt}
theorem VX (hd:DD w.disk) (hk:Ax w.disk=true):BA w=⟨Cf (CE w.disk),CE w.disk⟩:=by
 rw [HB hd (Cq.1 hk),T3 hk,KD hk,KE hk]
theorem Wf (h:e.kind=4):doW w e=BA w:=NA h
theorem Sc (h:WV w) (hn:Aq e.name=true):BQ w.store e.name e.row=By w.store e.name e.row:=by
 unfold BQ
 rw [if_pos ⟨h.k,hn⟩,h.sd.copy]
theorem do_1 (h:WV w) (h1:e.kind=1) (h2:(BQ w.store e.name e.row).2=true):doW w e=⟨(BQ w.store e.name e.row).1,w.disk⟩:=by
 have hn:=(Tf h2).2.1
 rw [HR h1 hn,Sc h hn]
theorem UT (h:WV w) (h1:e.kind=1) (h2:(BQ w.store e.name e.row).2=false):doW w e=w:=by
 cases hn:Aq e.name with
 | false=>exact F1 h1 hn
 | true =>
   rw [HR h1 hn]
   rw [Sc h hn] at h2
   have e2:(By w.store e.name e.row).1=w.store:=by
    unfold By at h2 ⊢
    split at h2
    ·rename_i hc; rw [if_pos hc]
    ·rename_i hc
     rw [if_neg hc]
     split at h2
     ·rename_i hc2; rw [if_pos hc2]
     ·cases h2
   rw [e2]
theorem UU (h:WV w) (h1:e.kind=2) (h2:((Af w.disk w.store).length:Int)=0∨e.cut< 0):doW w e=w:=by
 rw [HS h1]
 rw [E2 h.fits] at h2
 exact Cm h2
theorem Mf (h:WV w) (h2:¬ ((Af w.disk w.store).length:Int)=0) (h3:¬ e.cut< 0):Aj w.disk (Af w.disk w.store) e.cut=toD w.disk (Aw w.disk w.store) e.cut∧DD (Aj w.disk (Af w.disk w.store) e.cut)∧Ax (Aj w.disk (Af w.disk w.store) e.cut)=true:=by
 obtain ⟨e1,o⟩:=WE h.sd h2 (by omega:0≤e.cut)
 exact ⟨e1,SX h.dd (fun _=>(JH h.dd h.sd).1),o⟩
theorem WJ (h:WV w) (h1:e.kind=2) (h2:¬ ((Af w.disk w.store).length:Int)=0) (h3:¬ e.cut< 0) (h4:e.cut< (Af w.disk w.store).length):doW w e=BA ⟨w.store,Aj w.disk (Af w.disk w.store) e.cut⟩:=by
 rw [(Mf h h2 h3).1,HS h1]
 rw [E2 h.fits] at h2 h4
 exact ES h2 h3 h4
theorem WK (h:WV w) (h1:e.kind=2) (h2:¬ ((Af w.disk w.store).length:Int)=0) (h3:¬ e.cut< 0) (h4:¬ e.cut< (Af w.disk w.store).length):doW w e=⟨(Bg w.store).1,Aj w.disk (Af w.disk w.store) e.cut⟩:=by
 rw [(Mf h h2 h3).1,HS h1]
 have h20:=h2
 rw [E2 h.fits] at h2 h4
 have q:=h.fl (fun e0=>h2 (by rw [e0]; rfl))
 rw [DJ h2 h3 h4,(Fl h.sd h.k q.m q.parts).1,(Fl h.sd h.k q.m q.parts).2]
theorem UW (h:WV w) (h1:e.kind=3) (h2:((Ag w.disk e.at_).length:Int)=0∨e.cut< 0):doW w e=w:=by
 rw [GC h1]
 rw [D8 h.dk] at h2
 exact Cm h2
theorem Mg (h:WV w) (h2:¬ ((Ag w.disk e.at_).length:Int)=0) (h3:¬ e.cut< 0):Aj w.disk (Ag w.disk e.at_) e.cut=toD w.disk (Ak w.disk e.at_) e.cut∧DD (Aj w.disk (Ag w.disk e.at_) e.cut)∧Ax (Aj w.disk (Ag w.disk e.at_) e.cut)=true:=by
 obtain ⟨e1,o⟩:=WG h.dd h2 (by omega:0≤e.cut)
 obtain ⟨x,y,q,e2,i0⟩:=MgD.of h.dd h2
 refine ⟨?_,SX h.dd (fun _=>(JI h.dd _).1),o⟩
 rw [e1,← e2,D8 h.dk]
theorem WL (h:WV w) (h1:e.kind=3) (h2:¬ ((Ag w.disk e.at_).length:Int)=0) (h3:¬ e.cut< 0) (h4:e.cut< (Ag w.disk e.at_).length):doW w e=BA ⟨w.store,Aj w.disk (Ag w.disk e.at_) e.cut⟩:=by
 rw [(Mg h h2 h3).1,GC h1]
 rw [D8 h.dk] at h2 h4
 exact ES h2 h3 h4
theorem WM (h:WV w) (h1:e.kind=3) (h2:¬ ((Ag w.disk e.at_).length:Int)=0) (h3:¬ e.cut< 0) (h4:¬ e.cut< (Ag w.disk e.at_).length):doW w e=⟨(BL w.store e.at_).1,Aj w.disk (Ag w.disk e.at_) e.cut⟩:=by
 rw [(Mg h h2 h3).1,GC h1]
 rw [D8 h.dk] at h2 h4
 have em:BL w.store e.at_=BC w.store e.at_:=by rw [F5 h.k,h.sd.copy]
 rw [DJ h2 h3 h4,em]
end
end Go.Proofs.YtckdhcbbgmiccaaGreat
