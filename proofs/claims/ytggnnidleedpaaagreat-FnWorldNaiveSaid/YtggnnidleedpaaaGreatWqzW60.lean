/- walks; pruned haves; hints pruned; squeezed -/
import Derived.Test.YtggnnidleedpaaaGreatWqzMod42
open Go.Proofs.Tryz
set_option linter.unusedVariables false
set_option linter.unusedSimpArgs false
namespace Go.Proofs.YtggnnidleedpaaaGreat
set_option maxRecDepth 100000
set_option maxHeartbeats 4000000
variable {w:World} {F:Nat→Prop} {a1 a2 a3 a4:Option Addr} {n1 c1 n2 c2 n3 c3 n4 c4:Nat}
theorem JL (d:Dsk) (s:Stp){bx rb0:Nat}{nb0 cb0:Nat}(hob0:Own w rb0 50 (nin F [bx,rb0]) nb0 cb0 d.files){ab1:Option Addr}{nb1 cb1:Nat}(hrb1:RepS w (nin F [bx,rb0]) ab1 nb1 cb1 d.list){ab2:Option Addr}{nb2 cb2:Nat}(hrb2:RepS w (nin F [bx,rb0]) ab2 nb2 cb2 d.names) (hbx:Box w bx 36 [.slice (some ⟨rb0,0,none⟩) nb0 cb0,.slice ab1 nb1 cb1,.slice ab2 nb2 cb2,.int .i64 d.next]) (hnb0:Nb rb0 bx) (h1:RepS w (nin F [bx,rb0]) a1 n1 c1 s.part.ids) (h2:RepS w (nin F [bx,rb0]) a2 n2 c2 s.part.blocks) (h3:RepS w (nin F [bx,rb0]) a3 n3 c3 s.list) (h4:RepS w (nin F [bx,rb0]) a4 n4 c4 s.names) (p0:d.files.length≤1000) (p1:JQ s) (p2:Cv s.part):Calls Tryz.prog 102 [.pointer (some ⟨bx,0,none⟩),.agg #[.int .i64 s.kind,.int .i64 s.num,.slice a1 n1 c1,.slice a2 n2 c2,.slice a3 n3 c3,.slice a4 n4 c4]].toArray w (Am fun rv w'=>(rv=.tuple #[]∧(∃ (ro0 no0 co0:Nat) (ao1:Option Addr) (no1 co1:Nat) (ao2:Option Addr) (no2 co2:Nat),Box w' bx 36 [.slice (some ⟨ro0,0,none⟩) no0 co0,.slice ao1 no1 co1,.slice ao2 no2 co2,.int .i64 (((doD d s)).next)]∧Own w' ro0 50 (nin (fo F w.heap.size) [bx,ro0]) no0 co0 (((doD d s)).files)∧OrB ro0 rb0 w.heap.size∧Nb ro0 bx∧RepS w' (nin (fo F w.heap.size) [bx,ro0]) ao1 no1 co1 (((doD d s)).list)∧RepS w' (nin (fo F w.heap.size) [bx,ro0]) ao2 no2 co2 (((doD d s)).names)))∧Chg (ins [bx,rb0]) w w'):=by
 refine goT func102 ?_
 have hcv_bx:Cov (ins [bx,rb0]) w bx:=Cov.mkI AI
 have hcv_rb0:Cov (ins [bx,rb0]) w rb0:=Cov.mkI AJ
 replace hob0:=hob0.base (G':=fo F w.heap.size) (fun _ _ h=>.inl h)
 have cQ:=hob0.len
 obtain rfl:=hrb1.len
 replace hrb1:=hrb1.IZ (s:=w.heap.size)
 obtain rfl:=hrb2.len
 replace hrb2:=hrb2.IZ (s:=w.heap.size)
 obtain rfl:=h1.len
 replace h1:=h1.IZ (s:=w.heap.size)
 obtain rfl:=h2.len
 replace h2:=h2.IZ (s:=w.heap.size)
 obtain rfl:=h3.len
 replace h3:=h3.IZ (s:=w.heap.size)
 have cW:=h3.max
 obtain rfl:=h4.len
 replace h4:=h4.IZ (s:=w.heap.size)
 have cX:=h4.max
 refine .s<|.g<|.np 137 [vI s.kind,vI s.num,.slice a1 s.part.ids.length c1,.slice a2 s.part.blocks.length c2,.slice a3 s.list.length c3,.slice a4 s.names.length c4] fun ab aF aD aH aa ci=>?_
 have bt:=Ab aD hob0.lt
 have cY:=Ab aD hbx.lt
 replace ⟨hob0,hrb1,hrb2,hbx,h1,h2,h3,h4⟩:=(sn [bx,rb0] aH aD).g8 hob0 hrb1 hrb2 hbx h1 h2 h3 h4
 have E:Chg (ins [bx,rb0]) w aF:=Chg.GX (Chg.refl (ins [bx,rb0]) w) aH
 refine .d<|.s<|.g<|.r 1<|.lb aa<|.d<|.b 0<|.s<|.g<|.eq s.kind 1 (fun cj=>?_) (fun cj=>?_)
 ·refine .r 1<|.d<|.ct<|.s ?_
  replace hrb1:=hrb1.Cn
  replace hrb2:=hrb2.Cn
  replace h1:=h1.Cn
  replace h2:=h2.Cn
  replace h3:=h3.Cn
  replace h4:=h4.Cn
  have bC:Cov (mtb [rb0] aF.heap.size) aF rb0:=⟨.inl (.inl AI)⟩
  have bD:Gb (bx+1) aF.heap.size:=hbx.lt
  have aI:Gb (ab+1) aF.heap.size:=aa.lt
  refine .gd (mtb [rb0] aF.heap.size) 13 fun cZ aJ=>?_
  replace ⟨hob0,hrb1,hrb2,hbx,h1,h2,h3,h4,aa,E⟩:=(se [ab,bx,rb0] aJ).g10 hob0 hrb1 hrb2 hbx h1 h2 h3 h4 aa E
  refine .r [0,1,2,3]<|.lb 4 hbx (Cz (all_cons (Nb.symm hnb0) all_nil) bD)<|.r [5]<|.lb 6 aa (Cz (all_cons bt all_nil) aI)<|.r [7]<|.ln 8 aa (Cz (all_cons bt all_nil) aI)<|.go 9<|.cl (fun aK ax=>Ar s.part (h1.ta.ext ax) (h2.ta.ext ax) p2 (w:=aK) (F:=all)) ?_
  intro aK ax
  replace ⟨hob0,hrb1,hrb2,hbx,h3,h4,aa,E⟩:=(se [ab,bx,rb0] ax).g8 hob0 hrb1 hrb2 hbx h3 h4 aa E
  rintro c7 c8 ⟨⟨_,rfl,⟨ck,c9,cm,co,da,cp,rfl,ag,ah⟩⟩,az⟩
  have aA:=al3 aa.lt hbx.lt hob0.lt
  have aL:Gb w.heap.size aK.heap.size:=E.size
  have hkeep_:=az
  replace ⟨hob0,hrb1,hrb2,hbx,h3,h4,aa,E⟩:=(se [ab,bx,rb0] az).g8 hob0 hrb1 hrb2 hbx h3 h4 aa E
  refine ⟨Ext.chg hkeep_,?_⟩
  have ag:=ag.fr aA aL
  replace ag:=ag.base (G':=fo F w.heap.size) (fun _ _ h=>.inr h)
  have cx:=ag.max
  have ah:=ah.fr aA aL
  replace ah:=ah.base (G':=fo F w.heap.size) (fun _ _ h=>.inr h)
  have cy:=ah.max
  have bE:=ag.len
  subst bE
  have bF:=ah.len
  subst bF
  refine .r [10]<|.go 11<|.ns 1 50 [vI s.num,.slice ck s.part.ids.length cm,.slice co s.part.blocks.length cp] fun db aM=>?_
  replace ⟨hob0,hrb1,hrb2,hbx,h3,h4,aa,ag,ah,E⟩:=(se [ab,bx,rb0] aM).g10 hob0 hrb1 hrb2 hbx h3 h4 aa ag ah E
  intro aN de ao aO aB bG
  have aP:=Ab ao hob0.lt
  have bH:=Ab ao hbx.lt
  have bI:=Ab ao aa.lt
  have bJ:=BV ao E.size
  replace ⟨hob0,hrb1,hrb2,hbx,h3,h4,aa,ag,ah,E⟩:=(se [ab,bx,rb0] aO).g10 hob0 hrb1 hrb2 hbx h3 h4 aa ag ah E
  refine .go 12<|GE.append (T:=33) (ty:=33) (args:=[vS rb0 nb0 cb0,vS aN 1 1]) AA fun df aQ=>?_
  replace ⟨hob0,hrb1,hrb2,hbx,h3,h4,aa,ag,ah,aB,E⟩:=(se [ab,bx,rb0] aQ).g11 hob0 hrb1 hrb2 hbx h3 h4 aa ag ah aB E
  have aG:nin (fo F w.heap.size) [ab,bx,rb0] aN∧aN≠rb0:=Dw (.inr bJ) (all_cons bI (all_cons bH (all_cons aP all_nil))) aP
  obtain ⟨ay,bu,dh,aR,ae,am,aC,bK⟩:=hob0.CW (P:=Tryz.prog) (T:=33) (ty:=33) (y:=(⟨s.num,(⟨s.part.ids,s.part.blocks⟩:Prt)⟩:Fil)) AA aB ⟨_,_,_,_,_,_,rfl,ag.oi,ah.oi⟩ aG AB
  refine ⟨_,_,aR,Chg.toS aC (Cov.toS bC),?_⟩
  have aS:=Bh am hnb0 hbx.lt
  have bL:=GW am hcv_rb0 E.size
  replace ⟨hrb1,hrb2,hbx,h3,h4,aa,E⟩:=(sa [ab,bx,rb0] aC am).g7 hrb1 hrb2 hbx h3 h4 aa E
  replace ae:=ae.rn rb0
  refine .d fun dj aT=>?_
  replace ⟨ae,hrb1,hrb2,hbx,h3,h4,aa,E⟩:=(se [ab,bx,ay] aT).g8 ae hrb1 hrb2 hbx h3 h4 aa E
  replace hrb1:=hrb1.BL
  replace hrb2:=hrb2.BL
  replace h3:=h3.BL
  replace h4:=h4.BL
  refine .r 2<|.ss 0 (vS ay (nb0+1) bu) hbx fun dm aU bM bN=>?_
  replace ⟨ae,hrb1,hrb2,h3,h4,aa,E⟩:=(so [ab,bx,ay] aU).g7 ae hrb1 hrb2 h3 h4 aa E
  refine .d<|.g<|.r 2<|.lb aa<|RG.int (s.num+1) AA (by have q1:=p1.2.2.2; omega)<|.r 2<|.ss 3 (vI (s.num+1)) bM fun dp aV bO bP=>?_
  replace ⟨ae,hrb1,hrb2,h3,h4,aa,E⟩:=(so [ab,bx,ay] aV).g7 ae hrb1 hrb2 h3 h4 aa E
  refine .d<|.ib 0<|T.FR func102 results102 ?_
  rw [show (doD d s)=(⟨(d.files++[(⟨s.num,(⟨s.part.ids,s.part.blocks⟩:Prt)⟩:Fil)]),d.list,d.names,s.num+1⟩:Dsk) from by (rw [E2 ‹_›]; done)]
  exact ⟨⟨rfl,ay,(nb0+1),bu,ab1,d.list.length,cb1,ab2,d.names.length,cb2,bO,(Own.Ao ae (all_cons AJ (all_cons AK all_nil))),(JG bL aS),aS,(RepS.Ao hrb1 (all_cons AJ (all_cons AK all_nil))),(RepS.Ao hrb2 (all_cons AJ (all_cons AK all_nil)))⟩,E⟩
 refine .r 1<|.d<|.cf<|.s<|.g<|.eq s.kind 2 (fun bQ=>?_) (fun bQ=>?_)
 ·refine .r 1<|.d<|.ct<|.s<|.g<|.r 1<|.ns 0 3 [] fun aE cq aj aW bR bS=>?_
  have bT:=Ab aj hob0.lt
  have bU:=Ab aj hbx.lt
  have bV:=Ab aj aa.lt
  have bW:=BV aj E.size
  have cB:=E.cn aj
  replace ⟨hob0,hrb1,hrb2,hbx,h3,h4,aa,E⟩:=(sn [ab,bx,rb0] aW aj).g8 hob0 hrb1 hrb2 hbx h3 h4 aa E
  have bX:Own (α:=Int) cq aE 3 (nin (fo F w.heap.size) [aE,ab,bx,rb0]) 0 0 []:=Own.BN bR
  refine .r 1<|.lb aa<|RG.DO (T:=34) (ty:=34) Aw bX h3 AA AA (fun b h e=>h.2 (e▸AI)) (by (have:=p1.1; omega)) fun al bv dq ac ai aX=>?_
  have cC:=Bh ai bT hob0.lt
  have cD:=Bh ai bU hbx.lt
  have cE:=Bh ai bV aa.lt
  have bY:=ES ai bW E.size
  replace ⟨hob0,hrb1,hrb2,hbx,h4,aa,E⟩:=(sa [aE,ab,bx,rb0] aX ai).g7 hob0 hrb1 hrb2 hbx h4 aa E
  replace ac:=ac.rn aE
  refine .r 2<|.ss 1 (vS al (0+s.list.length) bv) hbx fun bw aY aq bZ=>?_
  replace ⟨hob0,hrb1,hrb2,h4,aa,ac,E⟩:=(so [al,ab,bx,rb0] aY).g7 hob0 hrb1 hrb2 h4 aa ac E
  refine .d<|.g<|.r 2<|.lb aa<|.cl (Ae s.names h4.ta (by have:=p1.2.1; omega) (by (intro n hn; have:=p1.2.2.1 n hn; omega)) (w:=bw) (F:=all)) ?_
  rintro dt du ⟨⟨au,bz,bA,rfl,af,ak⟩,aZ⟩
  have ba:=al4 ac.lt aa.lt aq.lt hob0.lt
  have b0:Gb w.heap.size bw.heap.size:=E.size
  have cH:=CD ak hob0.lt
  have cI:=CD ak aq.lt
  have cJ:=CD ak aa.lt
  have cK:=CD ak ac.lt
  have b6:=FV ak E.size
  replace ⟨hob0,hrb1,hrb2,aq,aa,ac,E⟩:=(sz [al,ab,bx,rb0] aZ ak).g7 hob0 hrb1 hrb2 aq aa ac E
  replace af:=Own.take (s0:=w.heap.size) (M:=[al,ab,bx,rb0]) af ba b0
  replace af:=af.base (G':=fo F w.heap.size) (fun _ _ h=>.inr h)
  refine .r 2<|.ss 2 (vS au bz bA) aq fun bB bd b7 b8=>?_
  replace ⟨hob0,hrb1,hrb2,aa,ac,af,E⟩:=(so [au,al,ab,bx,rb0] bd).g7 hob0 hrb1 hrb2 aa ac af E
  refine .d<|.ib 0 ?_
  have bg:=ac.sl (.inr bY)
  replace ⟨hob0,hrb1,hrb2,af⟩:=(sd bB [au,al,ab,bx,rb0] al).g4 hob0 hrb1 hrb2 af
  have cr:=af.sl (.inr b6)
  replace ⟨hob0,hrb1,hrb2,bg⟩:=(sd bB [au,ab,bx,rb0] au).g4 hob0 hrb1 hrb2 bg
  refine T.FR func102 results102 ?_
  rw [show (doD d s)=(⟨d.files,([]++s.list),s.names,d.next⟩:Dsk) from by (rw [Gg ‹_›]; rfl)]
  exact ⟨⟨rfl,rb0,nb0,cb0,(some ⟨al,0,none⟩),(0+s.list.length),bv,(some ⟨au,0,none⟩),bz,bA,b7,(Own.Ao hob0 (all_cons AJ (all_cons AK all_nil))),(JG hcv_rb0 hnb0),hnb0,(RepS.Ao bg (all_cons AJ (all_cons AK all_nil))),(RepS.Ao cr (all_cons AJ (all_cons AK all_nil)))⟩,E⟩
 refine .r 1<|.d<|.cf<|.s<|.g<|.eq s.kind 3 (fun b9=>?_) (fun b9=>?_)
 ·refine .r 1<|.d<|.ct<|.s<|.gd nil 5 fun dv bh=>?_
  replace ⟨hob0,hrb1,hrb2,hbx,aa,E⟩:=(se [ab,bx,rb0] bh).g6 hob0 hrb1 hrb2 hbx aa E
  refine .r [0,1]<|.ln 2 hbx id<|.r [3]<|.lb 4 aa id<|.d fun cu bi=>?_
  replace ⟨hob0,hrb1,hrb2,hbx,aa,E⟩:=(se [ab,bx,rb0] bi).g6 hob0 hrb1 hrb2 hbx aa E
  refine .cl (Cq d s.num (hob0.rep) hrb1.ta hrb2.ta (w:=cu) (F:=all)) ?_
  rintro dw dx ⟨rfl,bj⟩
  replace ⟨hob0,hrb1,hrb2,hbx,aa,E⟩:=(se [ab,bx,rb0] bj).g6 hob0 hrb1 hrb2 hbx aa E
  refine .r 1<|.d<|.s<|.gd nil 9 fun dy bk=>?_
  replace ⟨hob0,hrb1,hrb2,hbx,aa,E⟩:=(se [ab,bx,rb0] bk).g6 hob0 hrb1 hrb2 hbx aa E
  refine .r [0]<|GA.F6 (i:=1) (At d s.num≥0) AA (fun cd=>?_) (fun cd=>?_)
  ·refine .r [2,3,4,5]<|.lb 6 hbx id<|.r [7]<|.lb 8 aa id<|.d fun cw bm=>?_
   replace ⟨hob0,hrb1,hrb2,hbx,E⟩:=(se [ab,bx,rb0] bm).g5 hob0 hrb1 hrb2 hbx E
   refine .cl (Cb d.list s.num hrb1.ta (w:=cw) (F:=all)) ?_
   rintro dz dA ⟨rfl,bn⟩
   replace ⟨hob0,hrb1,hrb2,hbx,E⟩:=(se [ab,bx,rb0] bn).g5 hob0 hrb1 hrb2 hbx E
   cases cN:(d.list.contains s.num)
   ·refine .r 2<|.d<|.ct<|.g<|.r 4<|.lb hbx<|.r 2<|RG.int (At d s.num+1) AA (by have q1:=p1.2.2.2; (have:=Cf d s.num; omega))<|.cl (JK (i:=(At d s.num).toNat) (a:=At d s.num) (b:=At d s.num+1) hob0 (by have:=Cf d s.num; have:=H4 d s.num; omega) (by have:=Cf d s.num; have:=H4 d s.num; omega) (by have:=Cf d s.num; have:=H4 d s.num; omega) (by have:=Cf d s.num; have:=H4 d s.num; omega)) ?_
    rintro dB dC ⟨⟨rfl,ar⟩,bo⟩
    replace ⟨hrb1,hrb2,hbx,E⟩:=(so [ab,bx,rb0] bo).g4 hrb1 hrb2 hbx E
    refine .r 2<|.ss 0 (vS rb0 (nb0 - 1) cb0) hbx fun dD bq ce cg=>?_
    replace ⟨ar,hrb1,hrb2,E⟩:=(so [ab,bx,rb0] bq).g4 ar hrb1 hrb2 E
    refine .d<|.ib 0<|T.FR func102 results102 ?_
    rw [show (doD d s)=(⟨(d.files.take ((At d s.num).toNat)++d.files.drop ((At d s.num).toNat+1)),d.list,d.names,d.next⟩:Dsk) from by (rw [FC ‹_›,OO ‹_› ‹_›]; done)]
    exact ⟨⟨rfl,rb0,(nb0 - 1),cb0,ab1,d.list.length,cb1,ab2,d.names.length,cb2,ce,(Own.Ao ar (all_cons AJ (all_cons AK all_nil))),(JG hcv_rb0 hnb0),hnb0,(RepS.Ao hrb1 (all_cons AJ (all_cons AK all_nil))),(RepS.Ao hrb2 (all_cons AJ (all_cons AK all_nil)))⟩,E⟩
   refine .r 2<|.d<|.cf<|.sk<|.ib 0<|T.FR func102 results102 ?_
   rw [show (doD d s)=d from by (rw [FC ‹_›,MS (.inr ‹_›)]; done)]
   exact ⟨⟨rfl,rb0,nb0,cb0,ab1,d.list.length,cb1,ab2,d.names.length,cb2,hbx,(Own.Ao hob0 (all_cons AJ (all_cons AK all_nil))),(JG hcv_rb0 hnb0),hnb0,(RepS.Ao hrb1 (all_cons AJ (all_cons AK all_nil))),(RepS.Ao hrb2 (all_cons AJ (all_cons AK all_nil)))⟩,E⟩
  refine .r [2]<|GA.skip AA fun dE br=>?_
  replace ⟨hob0,hrb1,hrb2,hbx,E⟩:=(se [ab,bx,rb0] br).g5 hob0 hrb1 hrb2 hbx E
  refine .r 3<|.d<|.cf<|.sk<|.ib 0<|T.FR func102 results102 ?_
  rw [show (doD d s)=d from by (rw [FC ‹_›,MS (.inl ‹_›)]; done)]
  exact ⟨⟨rfl,rb0,nb0,cb0,ab1,d.list.length,cb1,ab2,d.names.length,cb2,hbx,(Own.Ao hob0 (all_cons AJ (all_cons AK all_nil))),(JG hcv_rb0 hnb0),hnb0,(RepS.Ao hrb1 (all_cons AJ (all_cons AK all_nil))),(RepS.Ao hrb2 (all_cons AJ (all_cons AK all_nil)))⟩,E⟩
 refine .r 1<|.d<|.cf<|.sk<|.ib 0<|T.FR func102 results102 ?_
 rw [show (doD d s)=d from by (rw [UN ‹_› ‹_› ‹_›]; done)]
 exact ⟨⟨rfl,rb0,nb0,cb0,ab1,d.list.length,cb1,ab2,d.names.length,cb2,hbx,(Own.Ao hob0 (all_cons AJ (all_cons AK all_nil))),(JG hcv_rb0 hnb0),hnb0,(RepS.Ao hrb1 (all_cons AJ (all_cons AK all_nil))),(RepS.Ao hrb2 (all_cons AJ (all_cons AK all_nil)))⟩,E⟩
theorem CQ (d:Dsk) (h1:RepS w F a1 n1 c1 d.files) (h2:RepS w F a2 n2 c2 d.list) (h3:RepS w F a3 n3 c3 d.names) (p0:d.files.length≤1000) (p1:∀ f∈d.files,Cv f.part) (p2:d.list.length≤1000) (p3:d.names.length≤1000) (p4:∀ n∈d.names,n.length≤1000):Calls Tryz.prog 42 [.agg #[.slice a1 n1 c1,.slice a2 n2 c2,.slice a3 n3 c3,.int .i64 d.next]].toArray w (Am fun rv w'=>(∃ (r0 n0 c0:Nat) (a1:Option Addr) (n1 c1:Nat) (a2:Option Addr) (n2 c2:Nat),rv=.agg #[.slice (some ⟨r0,0,none⟩) n0 c0,.slice a1 n1 c1,.slice a2 n2 c2,.int .i64 (d.next)]∧Own w' r0 50 (nin (ge w.heap.size) [r0]) n0 c0 (d.files)∧w.heap.size≤r0∧RepS w' (nin (ge w.heap.size) [r0]) a1 n1 c1 (d.list)∧RepS w' (nin (ge w.heap.size) [r0]) a2 n2 c2 (d.names))∧Ext w w'):=by
 cases h1.len
 cases h2.len
 cases h3.len
 refine goT func42 ?_
 have Z:=(((St.i0 F w).p h1).p h2).p h3
 refine .s<|.g<|RG.Np Z fun af w Z=>RG.Np Z fun ae w Z=>.d<|.s<|T.GS 12 [ae,af] Z fun _ w Z=>.r [2]<|GA.Lb (q:=1) 3 1 Z<|.r [5]<|GA.Lb (q:=1) 6 1 Z<|.r [8]<|GA.Lb (q:=1) 9 1 Z<|GE.many [0,1,11] AA (all_cons ?_ (all_cons ?_ (all_cons ?_ all_nil)))
 ·refine GE.N0 Fil 0 Z fun bP w Z=>.tw 1 11 ?_ ?_
  ·refine GE.N0 Int 0 Z fun nt w Z=>.tw 4 11 ?_ ?_
   ·refine GE.An (hf:=.inr Aw) 0 1 ([]:List Int) d.list [2,3] Z fun cB cC w Z=>.tw 7 11 ?_ ?_
    ·refine GE.CO 0 (fun w Z=>Ae d.names (Z.a 0) AB (fun n hn=>by have:=p4 n hn; omega)) Z fun fw fA w Z=>.r [10]<|.go 11<|GE.Np Z fun bZ w Z=>GA.Do Z fun w Z=>RG.Ss 0 Z fun w Z=>.d<|.s<|.s<|.g<|.r 1<|RG.Lb 5 Z<|.r 2<|.d<|.b 0<|T.Lp ((0:Nat),([]:List Fil),bP,(0:Nat),(([]++d.list):List Int),cB,cC,(d.names:List (List Tag)),fw,fA,d.next) (fun (k,E,r_out_0,c_out_0,aa,r_out_1,c_out_1,ab,r_out_2,c_out_2,ac)=>([(2,vP ae),(3,vP bZ),(18,.slice a1 d.files.length c1),(19,vI (d.files.length:Int)),(20,vI (k:Int))],[(0,.box bZ 36 [vS r_out_0 E.length c_out_0,vS r_out_1 aa.length c_out_1,vS r_out_2 ab.length c_out_2,vI ac]),(1,.own 0 r_out_2 43 c_out_2 ab),(2,.own 0 r_out_1 3 c_out_1 aa),(3,.own 0 r_out_0 50 c_out_0 E)],[],d.files.length - k,(k≤d.files.length)∧(E.length≤k)∧(E++d.files.drop k=d.files)∧(aa=d.list)∧(ab=d.names)∧(ac=d.next))) [] Z ⟨AB,AD,AF,AF,AF,AB⟩ ?_
     rintro ⟨k,E,r_out_0,c_out_0,aa,r_out_1,c_out_1,ab,r_out_2,c_out_2,ac⟩ nu w Z ⟨ji,jj,jk,jl,jm,jn⟩ bh
     refine .s<|.g<|.bp ((k:Int)< (d.files.length:Int)) (fun cD=>?_) (fun cD=>?_)
     ·exact .d<|.s<|.ct<|.sk<|.s<|.b 1<|.s<|.g<|gxb d.files k fun b0 aJ jo fu=>RG.Ix 2 aJ Z<|Z.el 2 aJ fun nv nz nA nB Z=>RG.Lg 0 0 Z<|RG.Np Z fun fB w Z=>RG.Ss 0 Z fun w Z=>.d<|T.GS 9 [fB,bZ,ae,af] Z fun _ w Z=>.r [0]<|GA.Lb (q:=1) 1 1 Z<|.r [2]<|GA.Lb 3 0 Z<|.r [4]<|GA.Ln 5 0 Z<|.go 6<|GE.CS (fun w Z=>Ar b0.part (Z.a 1) (Z.a 2) (p1 _ ‹_›)) Z fun nC nD nE nF w Z=>.r [7]<|.go 8<|GE.Nb 1 Z fun nG w Z=>GA.Do Z fun w Z=>RG.Ap 4 0 E b0 [0,1] Z fun fC fD w Z=>.r 1<|RG.Ss 1 Z fun w Z=>.d<|.ib 1<|.g<|.it ((k:Int)+1)<|.r 1<|.d<|bh (k+1,(E++[b0]),fC,fD,aa,r_out_1,c_out_1,ab,r_out_2,c_out_2,ac) _ _ AA (Z.to 1 [] 5) ⟨AB,(by (simp; omega)),(by exact Cr ‹_› ‹_›),‹_›,‹_›,‹_›⟩ (by (simp only []; omega))
     refine .d<|.s<|.cf<|.x 0 rfl<|.s<|.g<|RG.Ln 0 Z<|RG.Ss 4 Z fun w Z=>.d ?_
     have Z:=(Z.sl 2).sl 1
     exact T.Rb 2 func42 results42 Z ⟨⟨r_out_0,E.length,c_out_0,(some ⟨r_out_1,0,none⟩),aa.length,c_out_1,(some ⟨r_out_2,0,none⟩),ab.length,c_out_2,(by rw [show d.next=ac from Eq.symm ‹_›]; kernel_rfl),Z.qo [1] 1 E (by exact CG ‹_› AB),Z.qb 1,Z.qr [1] 1 aa ‹_›,Z.qr [1] 0 ab ‹_›⟩,Z.xt⟩
    refine GE.Np Z fun b6 w Z=>.go 7<|GE.CO 0 (fun w Z=>Ae d.names (Z.a 0) AB (fun n hn=>by have:=p4 n hn; omega)) Z fun fE fF w Z=>.r [10]<|GA.Do Z fun w Z=>RG.Ss 1 Z fun w Z=>.d<|.s<|.s<|.g<|.r 1<|RG.Lb 5 Z<|.r 2<|.d<|.b 0<|T.Lp ((0:Nat),([]:List Fil),bP,(0:Nat),(([]++d.list):List Int),cB,cC,(d.names:List (List Tag)),fE,fF,d.next) (fun (k,E,r_out_0,c_out_0,aa,r_out_1,c_out_1,ab,r_out_2,c_out_2,ac)=>([(2,vP ae),(3,vP b6),(18,.slice a1 d.files.length c1),(19,vI (d.files.length:Int)),(20,vI (k:Int))],[(0,.own 0 r_out_2 43 c_out_2 ab),(1,.box b6 36 [vS r_out_0 E.length c_out_0,vS r_out_1 aa.length c_out_1,vS r_out_2 ab.length c_out_2,vI ac]),(2,.own 0 r_out_1 3 c_out_1 aa),(3,.own 0 r_out_0 50 c_out_0 E)],[],d.files.length - k,(k≤d.files.length)∧(E.length≤k)∧(E++d.files.drop k=d.files)∧(aa=d.list)∧(ab=d.names)∧(ac=d.next))) [] Z ⟨AB,AD,AF,AF,AF,AB⟩ ?_
    rintro ⟨k,E,r_out_0,c_out_0,aa,r_out_1,c_out_1,ab,r_out_2,c_out_2,ac⟩ nH w Z ⟨jp,jq,jr,jt,ju,jv⟩ bi
    refine .s<|.g<|.bp ((k:Int)< (d.files.length:Int)) (fun cE=>?_) (fun cE=>?_)
    ·exact .d<|.s<|.ct<|.sk<|.s<|.b 1<|.s<|.g<|gxb d.files k fun b7 aK jw fv=>RG.Ix 2 aK Z<|Z.el 2 aK fun nI nJ nK nL Z=>RG.Lg 0 0 Z<|RG.Np Z fun fG w Z=>RG.Ss 0 Z fun w Z=>.d<|T.GS 9 [fG,b6,ae,af] Z fun _ w Z=>.r [0]<|GA.Lb (q:=1) 1 2 Z<|.r [2]<|GA.Lb 3 0 Z<|.r [4]<|GA.Ln 5 0 Z<|.go 6<|GE.CS (fun w Z=>Ar b7.part (Z.a 1) (Z.a 2) (p1 _ ‹_›)) Z fun nM nN nO nP w Z=>.r [7]<|.go 8<|GE.Nb 1 Z fun nQ w Z=>GA.Do Z fun w Z=>RG.Ap 4 0 E b7 [0,1] Z fun fH fI w Z=>.r 1<|RG.Ss 2 Z fun w Z=>.d<|.ib 1<|.g<|.it ((k:Int)+1)<|.r 1<|.d<|bi (k+1,(E++[b7]),fH,fI,aa,r_out_1,c_out_1,ab,r_out_2,c_out_2,ac) _ _ AA (Z.to 1 [] 5) ⟨AB,(by (simp; omega)),(by exact Cr ‹_› ‹_›),‹_›,‹_›,‹_›⟩ (by (simp only []; omega))
    refine .d<|.s<|.cf<|.x 0 rfl<|.s<|.g<|RG.Ln 1 Z<|RG.Ss 4 Z fun w Z=>.d ?_
    have Z:=(Z.sl 2).sl 0
    exact T.Rb 2 func42 results42 Z ⟨⟨r_out_0,E.length,c_out_0,(some ⟨r_out_1,0,none⟩),aa.length,c_out_1,(some ⟨r_out_2,0,none⟩),ab.length,c_out_2,(by rw [show d.next=ac from Eq.symm ‹_›]; kernel_rfl),Z.qo [1] 1 E (by exact CG ‹_› AB),Z.qb 1,Z.qr [1] 1 aa ‹_›,Z.qr [1] 0 ab ‹_›⟩,Z.xt⟩
   refine GE.Np Z fun b8 w Z=>.go 4<|GE.An (hf:=.inr Aw) 1 1 ([]:List Int) d.list [3,4] Z fun fJ fK w Z=>.go 7<|GE.CO 0 (fun w Z=>Ae d.names (Z.a 0) AB (fun n hn=>by have:=p4 n hn; omega)) Z fun fL fM w Z=>.r [10]<|GA.Do Z fun w Z=>RG.Ss 1 Z fun w Z=>.d<|.s<|.s<|.g<|.r 1<|RG.Lb 5 Z<|.r 2<|.d<|.b 0<|T.Lp ((0:Nat),([]:List Fil),bP,(0:Nat),(([]++d.list):List Int),fJ,fK,(d.names:List (List Tag)),fL,fM,d.next) (fun (k,E,r_out_0,c_out_0,aa,r_out_1,c_out_1,ab,r_out_2,c_out_2,ac)=>([(2,vP ae),(3,vP b8),(18,.slice a1 d.files.length c1),(19,vI (d.files.length:Int)),(20,vI (k:Int))],[(0,.own 0 r_out_2 43 c_out_2 ab),(1,.box b8 36 [vS r_out_0 E.length c_out_0,vS r_out_1 aa.length c_out_1,vS r_out_2 ab.length c_out_2,vI ac]),(2,.own 0 r_out_1 3 c_out_1 aa),(3,.own 0 r_out_0 50 c_out_0 E)],[],d.files.length - k,(k≤d.files.length)∧(E.length≤k)∧(E++d.files.drop k=d.files)∧(aa=d.list)∧(ab=d.names)∧(ac=d.next))) [] Z ⟨AB,AD,AF,AF,AF,AB⟩ ?_
   rintro ⟨k,E,r_out_0,c_out_0,aa,r_out_1,c_out_1,ab,r_out_2,c_out_2,ac⟩ jx w Z ⟨jy,jz,jA,jB,jC,jD⟩ aL
   refine .s<|.g<|.bp ((k:Int)< (d.files.length:Int)) (fun b9=>?_) (fun b9=>?_)
   ·exact .d<|.s<|.ct<|.sk<|.s<|.b 1<|.s<|.g<|gxb d.files k fun bj al fN cF=>RG.Ix 2 al Z<|Z.el 2 al fun jE jF jG jH Z=>RG.Lg 0 0 Z<|RG.Np Z fun cG w Z=>RG.Ss 0 Z fun w Z=>.d<|T.GS 9 [cG,b8,ae,af] Z fun _ w Z=>.r [0]<|GA.Lb (q:=1) 1 2 Z<|.r [2]<|GA.Lb 3 0 Z<|.r [4]<|GA.Ln 5 0 Z<|.go 6<|GE.CS (fun w Z=>Ar bj.part (Z.a 1) (Z.a 2) (p1 _ ‹_›)) Z fun jI jJ jK jL w Z=>.r [7]<|.go 8<|GE.Nb 1 Z fun jM w Z=>GA.Do Z fun w Z=>RG.Ap 4 0 E bj [0,1] Z fun cH cI w Z=>.r 1<|RG.Ss 2 Z fun w Z=>.d<|.ib 1<|.g<|.it ((k:Int)+1)<|.r 1<|.d<|aL (k+1,(E++[bj]),cH,cI,aa,r_out_1,c_out_1,ab,r_out_2,c_out_2,ac) _ _ AA (Z.to 1 [] 5) ⟨AB,(by (simp; omega)),(by exact Cr ‹_› ‹_›),‹_›,‹_›,‹_›⟩ (by (simp only []; omega))
   refine .d<|.s<|.cf<|.x 0 rfl<|.s<|.g<|RG.Ln 1 Z<|RG.Ss 4 Z fun w Z=>.d ?_
   have Z:=(Z.sl 2).sl 0
   exact T.Rb 2 func42 results42 Z ⟨⟨r_out_0,E.length,c_out_0,(some ⟨r_out_1,0,none⟩),aa.length,c_out_1,(some ⟨r_out_2,0,none⟩),ab.length,c_out_2,(by rw [show d.next=ac from Eq.symm ‹_›]; kernel_rfl),Z.qo [1] 1 E (by exact CG ‹_› AB),Z.qb 1,Z.qr [1] 1 aa ‹_›,Z.qr [1] 0 ab ‹_›⟩,Z.xt⟩
  refine GE.Np Z fun bk w Z=>.go 1<|GE.N0 Int 0 Z fun jN w Z=>.go 4<|GE.An (hf:=.inr Aw) 0 1 ([]:List Int) d.list [3,4] Z fun cJ cK w Z=>.go 7<|GE.CO 0 (fun w Z=>Ae d.names (Z.a 0) AB (fun n hn=>by have:=p4 n hn; omega)) Z fun cL cM w Z=>.r [10]<|GA.Do Z fun w Z=>RG.Ss 2 Z fun w Z=>.d<|.s<|.s<|.g<|.r 1<|RG.Lb 5 Z<|.r 2<|.d<|.b 0<|T.Lp ((0:Nat),([]:List Fil),bP,(0:Nat),(([]++d.list):List Int),cJ,cK,(d.names:List (List Tag)),cL,cM,d.next) (fun (k,E,r_out_0,c_out_0,aa,r_out_1,c_out_1,ab,r_out_2,c_out_2,ac)=>([(2,vP ae),(3,vP bk),(18,.slice a1 d.files.length c1),(19,vI (d.files.length:Int)),(20,vI (k:Int))],[(0,.own 0 r_out_2 43 c_out_2 ab),(1,.own 0 r_out_1 3 c_out_1 aa),(2,.box bk 36 [vS r_out_0 E.length c_out_0,vS r_out_1 aa.length c_out_1,vS r_out_2 ab.length c_out_2,vI ac]),(3,.own 0 r_out_0 50 c_out_0 E)],[],d.files.length - k,(k≤d.files.length)∧(E.length≤k)∧(E++d.files.drop k=d.files)∧(aa=d.list)∧(ab=d.names)∧(ac=d.next))) [] Z ⟨AB,AD,AF,AF,AF,AB⟩ ?_
  rintro ⟨k,E,r_out_0,c_out_0,aa,r_out_1,c_out_1,ab,r_out_2,c_out_2,ac⟩ jO w Z ⟨fO,fP,fQ,fR,fS,fT⟩ aM
  refine .s<|.g<|.bp ((k:Int)< (d.files.length:Int)) (fun cd=>?_) (fun cd=>?_)
  ·exact .d<|.s<|.ct<|.sk<|.s<|.b 1<|.s<|.g<|gxb d.files k fun bm am fU cN=>RG.Ix 2 am Z<|Z.el 2 am fun jP jQ jR jS Z=>RG.Lg 0 0 Z<|RG.Np Z fun cO w Z=>RG.Ss 0 Z fun w Z=>.d<|T.GS 9 [cO,bk,ae,af] Z fun _ w Z=>.r [0]<|GA.Lb (q:=1) 1 3 Z<|.r [2]<|GA.Lb 3 0 Z<|.r [4]<|GA.Ln 5 0 Z<|.go 6<|GE.CS (fun w Z=>Ar bm.part (Z.a 1) (Z.a 2) (p1 _ ‹_›)) Z fun jT jU jV jW w Z=>.r [7]<|.go 8<|GE.Nb 1 Z fun jX w Z=>GA.Do Z fun w Z=>RG.Ap 4 0 E bm [0,1] Z fun cP cQ w Z=>.r 1<|RG.Ss 3 Z fun w Z=>.d<|.ib 1<|.g<|.it ((k:Int)+1)<|.r 1<|.d<|aM (k+1,(E++[bm]),cP,cQ,aa,r_out_1,c_out_1,ab,r_out_2,c_out_2,ac) _ _ AA (Z.to 1 [] 5) ⟨AB,(by (simp; omega)),(by exact Cr ‹_› ‹_›),‹_›,‹_›,‹_›⟩ (by (simp only []; omega))
  refine .d<|.s<|.cf<|.x 0 rfl<|.s<|.g<|RG.Ln 2 Z<|RG.Ss 4 Z fun w Z=>.d ?_
  have Z:=(Z.sl 1).sl 0
  exact T.Rb 2 func42 results42 Z ⟨⟨r_out_0,E.length,c_out_0,(some ⟨r_out_1,0,none⟩),aa.length,c_out_1,(some ⟨r_out_2,0,none⟩),ab.length,c_out_2,(by rw [show d.next=ac from Eq.symm ‹_›]; kernel_rfl),Z.qo [1] 1 E (by exact CG ‹_› AB),Z.qb 1,Z.qr [1] 1 aa ‹_›,Z.qr [1] 0 ab ‹_›⟩,Z.xt⟩
 ·refine GE.N0 Int 0 Z fun jY w Z=>GE.many [0,4,11] AA (all_cons ?_ (all_cons ?_ (all_cons ?_ all_nil)))
  ·refine GE.N0 Fil 0 Z fun bn w Z=>.tw 4 11 ?_ ?_
   ·refine GE.An (hf:=.inr Aw) 1 1 ([]:List Int) d.list [2,3] Z fun bQ bR w Z=>.tw 7 11 ?_ ?_
    ·refine GE.CO 0 (fun w Z=>Ae d.names (Z.a 0) AB (fun n hn=>by have:=p4 n hn; omega)) Z fun cR cS w Z=>.r [10]<|.go 11<|GE.Np Z fun bo w Z=>GA.Do Z fun w Z=>RG.Ss 0 Z fun w Z=>.d<|.s<|.s<|.g<|.r 1<|RG.Lb 5 Z<|.r 2<|.d<|.b 0<|T.Lp ((0:Nat),([]:List Fil),bn,(0:Nat),(([]++d.list):List Int),bQ,bR,(d.names:List (List Tag)),cR,cS,d.next) (fun (k,E,r_out_0,c_out_0,aa,r_out_1,c_out_1,ab,r_out_2,c_out_2,ac)=>([(2,vP ae),(3,vP bo),(18,.slice a1 d.files.length c1),(19,vI (d.files.length:Int)),(20,vI (k:Int))],[(0,.box bo 36 [vS r_out_0 E.length c_out_0,vS r_out_1 aa.length c_out_1,vS r_out_2 ab.length c_out_2,vI ac]),(1,.own 0 r_out_2 43 c_out_2 ab),(2,.own 0 r_out_0 50 c_out_0 E),(3,.own 0 r_out_1 3 c_out_1 aa)],[],d.files.length - k,(k≤d.files.length)∧(E.length≤k)∧(E++d.files.drop k=d.files)∧(aa=d.list)∧(ab=d.names)∧(ac=d.next))) [] Z ⟨AB,AD,AF,AF,AF,AB⟩ ?_
     rintro ⟨k,E,r_out_0,c_out_0,aa,r_out_1,c_out_1,ab,r_out_2,c_out_2,ac⟩ jZ w Z ⟨fV,fW,fX,fY,fZ,f0⟩ aN
     refine .s<|.g<|.bp ((k:Int)< (d.files.length:Int)) (fun ce=>?_) (fun ce=>?_)
     ·exact .d<|.s<|.ct<|.sk<|.s<|.b 1<|.s<|.g<|gxb d.files k fun bq ao f5 cT=>RG.Ix 2 ao Z<|Z.el 2 ao fun j0 j1 j2 j3 Z=>RG.Lg 0 0 Z<|RG.Np Z fun cU w Z=>RG.Ss 0 Z fun w Z=>.d<|T.GS 9 [cU,bo,ae,af] Z fun _ w Z=>.r [0]<|GA.Lb (q:=1) 1 1 Z<|.r [2]<|GA.Lb 3 0 Z<|.r [4]<|GA.Ln 5 0 Z<|.go 6<|GE.CS (fun w Z=>Ar bq.part (Z.a 1) (Z.a 2) (p1 _ ‹_›)) Z fun j4 j5 j6 j7 w Z=>.r [7]<|.go 8<|GE.Nb 1 Z fun j8 w Z=>GA.Do Z fun w Z=>RG.Ap 3 0 E bq [0,1] Z fun cV cW w Z=>.r 1<|RG.Ss 1 Z fun w Z=>.d<|.ib 1<|.g<|.it ((k:Int)+1)<|.r 1<|.d<|aN (k+1,(E++[bq]),cV,cW,aa,r_out_1,c_out_1,ab,r_out_2,c_out_2,ac) _ _ AA (Z.to 1 [] 5) ⟨AB,(by (simp; omega)),(by exact Cr ‹_› ‹_›),‹_›,‹_›,‹_›⟩ (by (simp only []; omega))
     refine .d<|.s<|.cf<|.x 0 rfl<|.s<|.g<|RG.Ln 0 Z<|RG.Ss 4 Z fun w Z=>.d ?_
     have Z:=(Z.sl 3).sl 1
     exact T.Rb 2 func42 results42 Z ⟨⟨r_out_0,E.length,c_out_0,(some ⟨r_out_1,0,none⟩),aa.length,c_out_1,(some ⟨r_out_2,0,none⟩),ab.length,c_out_2,(by rw [show d.next=ac from Eq.symm ‹_›]; kernel_rfl),Z.qo [1] 1 E (by exact CG ‹_› AB),Z.qb 1,Z.qr [1] 1 aa ‹_›,Z.qr [1] 0 ab ‹_›⟩,Z.xt⟩
    refine GE.Np Z fun br w Z=>.go 7<|GE.CO 0 (fun w Z=>Ae d.names (Z.a 0) AB (fun n hn=>by have:=p4 n hn; omega)) Z fun cX cY w Z=>.r [10]<|GA.Do Z fun w Z=>RG.Ss 1 Z fun w Z=>.d<|.s<|.s<|.g<|.r 1<|RG.Lb 5 Z<|.r 2<|.d<|.b 0<|T.Lp ((0:Nat),([]:List Fil),bn,(0:Nat),(([]++d.list):List Int),bQ,bR,(d.names:List (List Tag)),cX,cY,d.next) (fun (k,E,r_out_0,c_out_0,aa,r_out_1,c_out_1,ab,r_out_2,c_out_2,ac)=>([(2,vP ae),(3,vP br),(18,.slice a1 d.files.length c1),(19,vI (d.files.length:Int)),(20,vI (k:Int))],[(0,.own 0 r_out_2 43 c_out_2 ab),(1,.box br 36 [vS r_out_0 E.length c_out_0,vS r_out_1 aa.length c_out_1,vS r_out_2 ab.length c_out_2,vI ac]),(2,.own 0 r_out_0 50 c_out_0 E),(3,.own 0 r_out_1 3 c_out_1 aa)],[],d.files.length - k,(k≤d.files.length)∧(E.length≤k)∧(E++d.files.drop k=d.files)∧(aa=d.list)∧(ab=d.names)∧(ac=d.next))) [] Z ⟨AB,AD,AF,AF,AF,AB⟩ ?_
    rintro ⟨k,E,r_out_0,c_out_0,aa,r_out_1,c_out_1,ab,r_out_2,c_out_2,ac⟩ j9 w Z ⟨f6,f7,f8,f9,gb,gf⟩ aO
    refine .s<|.g<|.bp ((k:Int)< (d.files.length:Int)) (fun cg=>?_) (fun cg=>?_)
    ·exact .d<|.s<|.ct<|.sk<|.s<|.b 1<|.s<|.g<|gxb d.files k fun bt aq gh cZ=>RG.Ix 2 aq Z<|Z.el 2 aq fun ka kb kd ke Z=>RG.Lg 0 0 Z<|RG.Np Z fun c7 w Z=>RG.Ss 0 Z fun w Z=>.d<|T.GS 9 [c7,br,ae,af] Z fun _ w Z=>.r [0]<|GA.Lb (q:=1) 1 2 Z<|.r [2]<|GA.Lb 3 0 Z<|.r [4]<|GA.Ln 5 0 Z<|.go 6<|GE.CS (fun w Z=>Ar bt.part (Z.a 1) (Z.a 2) (p1 _ ‹_›)) Z fun kf kg kh ki w Z=>.r [7]<|.go 8<|GE.Nb 1 Z fun kj w Z=>GA.Do Z fun w Z=>RG.Ap 3 0 E bt [0,1] Z fun c8 c9 w Z=>.r 1<|RG.Ss 2 Z fun w Z=>.d<|.ib 1<|.g<|.it ((k:Int)+1)<|.r 1<|.d<|aO (k+1,(E++[bt]),c8,c9,aa,r_out_1,c_out_1,ab,r_out_2,c_out_2,ac) _ _ AA (Z.to 1 [] 5) ⟨AB,(by (simp; omega)),(by exact Cr ‹_› ‹_›),‹_›,‹_›,‹_›⟩ (by (simp only []; omega))
    refine .d<|.s<|.cf<|.x 0 rfl<|.s<|.g<|RG.Ln 1 Z<|RG.Ss 4 Z fun w Z=>.d ?_
    have Z:=(Z.sl 3).sl 0
    exact T.Rb 2 func42 results42 Z ⟨⟨r_out_0,E.length,c_out_0,(some ⟨r_out_1,0,none⟩),aa.length,c_out_1,(some ⟨r_out_2,0,none⟩),ab.length,c_out_2,(by rw [show d.next=ac from Eq.symm ‹_›]; kernel_rfl),Z.qo [1] 1 E (by exact CG ‹_› AB),Z.qb 1,Z.qr [1] 1 aa ‹_›,Z.qr [1] 0 ab ‹_›⟩,Z.xt⟩
   refine GE.Np Z fun bu w Z=>.go 4<|GE.An (hf:=.inr Aw) 2 1 ([]:List Int) d.list [3,4] Z fun da db w Z=>.go 7<|GE.CO 0 (fun w Z=>Ae d.names (Z.a 0) AB (fun n hn=>by have:=p4 n hn; omega)) Z fun de df w Z=>.r [10]<|GA.Do Z fun w Z=>RG.Ss 1 Z fun w Z=>.d<|.s<|.s<|.g<|.r 1<|RG.Lb 5 Z<|.r 2<|.d<|.b 0<|T.Lp ((0:Nat),([]:List Fil),bn,(0:Nat),(([]++d.list):List Int),da,db,(d.names:List (List Tag)),de,df,d.next) (fun (k,E,r_out_0,c_out_0,aa,r_out_1,c_out_1,ab,r_out_2,c_out_2,ac)=>([(2,vP ae),(3,vP bu),(18,.slice a1 d.files.length c1),(19,vI (d.files.length:Int)),(20,vI (k:Int))],[(0,.own 0 r_out_2 43 c_out_2 ab),(1,.box bu 36 [vS r_out_0 E.length c_out_0,vS r_out_1 aa.length c_out_1,vS r_out_2 ab.length c_out_2,vI ac]),(2,.own 0 r_out_0 50 c_out_0 E),(3,.own 0 r_out_1 3 c_out_1 aa)],[],d.files.length - k,(k≤d.files.length)∧(E.length≤k)∧(E++d.files.drop k=d.files)∧(aa=d.list)∧(ab=d.names)∧(ac=d.next))) [] Z ⟨AB,AD,AF,AF,AF,AB⟩ ?_
   rintro ⟨k,E,r_out_0,c_out_0,aa,r_out_1,c_out_1,ab,r_out_2,c_out_2,ac⟩ kk w Z ⟨gi,gj,gk,gl,gm,gn⟩ aP
   refine .s<|.g<|.bp ((k:Int)< (d.files.length:Int)) (fun ci=>?_) (fun ci=>?_)
   ·exact .d<|.s<|.ct<|.sk<|.s<|.b 1<|.s<|.g<|gxb d.files k fun bv ar gp dh=>RG.Ix 2 ar Z<|Z.el 2 ar fun kl km ko kr Z=>RG.Lg 0 0 Z<|RG.Np Z fun dj w Z=>RG.Ss 0 Z fun w Z=>.d<|T.GS 9 [dj,bu,ae,af] Z fun _ w Z=>.r [0]<|GA.Lb (q:=1) 1 2 Z<|.r [2]<|GA.Lb 3 0 Z<|.r [4]<|GA.Ln 5 0 Z<|.go 6<|GE.CS (fun w Z=>Ar bv.part (Z.a 1) (Z.a 2) (p1 _ ‹_›)) Z fun ks kt ku kv w Z=>.r [7]<|.go 8<|GE.Nb 1 Z fun kw w Z=>GA.Do Z fun w Z=>RG.Ap 3 0 E bv [0,1] Z fun dm dp w Z=>.r 1<|RG.Ss 2 Z fun w Z=>.d<|.ib 1<|.g<|.it ((k:Int)+1)<|.r 1<|.d<|aP (k+1,(E++[bv]),dm,dp,aa,r_out_1,c_out_1,ab,r_out_2,c_out_2,ac) _ _ AA (Z.to 1 [] 5) ⟨AB,(by (simp; omega)),(by exact Cr ‹_› ‹_›),‹_›,‹_›,‹_›⟩ (by (simp only []; omega))
   refine .d<|.s<|.cf<|.x 0 rfl<|.s<|.g<|RG.Ln 1 Z<|RG.Ss 4 Z fun w Z=>.d ?_
   have Z:=(Z.sl 3).sl 0
   exact T.Rb 2 func42 results42 Z ⟨⟨r_out_0,E.length,c_out_0,(some ⟨r_out_1,0,none⟩),aa.length,c_out_1,(some ⟨r_out_2,0,none⟩),ab.length,c_out_2,(by rw [show d.next=ac from Eq.symm ‹_›]; kernel_rfl),Z.qo [1] 1 E (by exact CG ‹_› AB),Z.qb 1,Z.qr [1] 1 aa ‹_›,Z.qr [1] 0 ab ‹_›⟩,Z.xt⟩
  ·refine GE.An (hf:=.inr Aw) 0 1 ([]:List Int) d.list [1,2] Z fun ai aj w Z=>GE.many [0,7,11] AA (all_cons ?_ (all_cons ?_ (all_cons ?_ all_nil)))
   ·refine GE.N0 Fil 0 Z fun bS w Z=>.tw 7 11 ?_ ?_
    ·refine GE.CO 0 (fun w Z=>Ae d.names (Z.a 0) AB (fun n hn=>by have:=p4 n hn; omega)) Z fun dq dt w Z=>.r [10]<|.go 11<|GE.Np Z fun bw w Z=>GA.Do Z fun w Z=>RG.Ss 0 Z fun w Z=>.d<|.s<|.s<|.g<|.r 1<|RG.Lb 5 Z<|.r 2<|.d<|.b 0<|T.Lp ((0:Nat),([]:List Fil),bS,(0:Nat),(([]++d.list):List Int),ai,aj,(d.names:List (List Tag)),dq,dt,d.next) (fun (k,E,r_out_0,c_out_0,aa,r_out_1,c_out_1,ab,r_out_2,c_out_2,ac)=>([(2,vP ae),(3,vP bw),(18,.slice a1 d.files.length c1),(19,vI (d.files.length:Int)),(20,vI (k:Int))],[(0,.box bw 36 [vS r_out_0 E.length c_out_0,vS r_out_1 aa.length c_out_1,vS r_out_2 ab.length c_out_2,vI ac]),(1,.own 0 r_out_2 43 c_out_2 ab),(2,.own 0 r_out_0 50 c_out_0 E),(3,.own 0 r_out_1 3 c_out_1 aa)],[],d.files.length - k,(k≤d.files.length)∧(E.length≤k)∧(E++d.files.drop k=d.files)∧(aa=d.list)∧(ab=d.names)∧(ac=d.next))) [] Z ⟨AB,AD,AF,AF,AF,AB⟩ ?_
     rintro ⟨k,E,r_out_0,c_out_0,aa,r_out_1,c_out_1,ab,r_out_2,c_out_2,ac⟩ kx w Z ⟨gq,gr,gs,gt,gu,gv⟩ aQ
     refine .s<|.g<|.bp ((k:Int)< (d.files.length:Int)) (fun cj=>?_) (fun cj=>?_)
     ·exact .d<|.s<|.ct<|.sk<|.s<|.b 1<|.s<|.g<|gxb d.files k fun bz au gw du=>RG.Ix 2 au Z<|Z.el 2 au fun ky kz kA kB Z=>RG.Lg 0 0 Z<|RG.Np Z fun dv w Z=>RG.Ss 0 Z fun w Z=>.d<|T.GS 9 [dv,bw,ae,af] Z fun _ w Z=>.r [0]<|GA.Lb (q:=1) 1 1 Z<|.r [2]<|GA.Lb 3 0 Z<|.r [4]<|GA.Ln 5 0 Z<|.go 6<|GE.CS (fun w Z=>Ar bz.part (Z.a 1) (Z.a 2) (p1 _ ‹_›)) Z fun kC kD kE kF w Z=>.r [7]<|.go 8<|GE.Nb 1 Z fun kG w Z=>GA.Do Z fun w Z=>RG.Ap 3 0 E bz [0,1] Z fun dw dx w Z=>.r 1<|RG.Ss 1 Z fun w Z=>.d<|.ib 1<|.g<|.it ((k:Int)+1)<|.r 1<|.d<|aQ (k+1,(E++[bz]),dw,dx,aa,r_out_1,c_out_1,ab,r_out_2,c_out_2,ac) _ _ AA (Z.to 1 [] 5) ⟨AB,(by (simp; omega)),(by exact Cr ‹_› ‹_›),‹_›,‹_›,‹_›⟩ (by (simp only []; omega))
     refine .d<|.s<|.cf<|.x 0 rfl<|.s<|.g<|RG.Ln 0 Z<|RG.Ss 4 Z fun w Z=>.d ?_
     have Z:=(Z.sl 3).sl 1
     exact T.Rb 2 func42 results42 Z ⟨⟨r_out_0,E.length,c_out_0,(some ⟨r_out_1,0,none⟩),aa.length,c_out_1,(some ⟨r_out_2,0,none⟩),ab.length,c_out_2,(by rw [show d.next=ac from Eq.symm ‹_›]; kernel_rfl),Z.qo [1] 1 E (by exact CG ‹_› AB),Z.qb 1,Z.qr [1] 1 aa ‹_›,Z.qr [1] 0 ab ‹_›⟩,Z.xt⟩
    refine GE.Np Z fun bA w Z=>.go 7<|GE.CO 0 (fun w Z=>Ae d.names (Z.a 0) AB (fun n hn=>by have:=p4 n hn; omega)) Z fun dy dz w Z=>.r [10]<|GA.Do Z fun w Z=>RG.Ss 1 Z fun w Z=>.d<|.s<|.s<|.g<|.r 1<|RG.Lb 5 Z<|.r 2<|.d<|.b 0<|T.Lp ((0:Nat),([]:List Fil),bS,(0:Nat),(([]++d.list):List Int),ai,aj,(d.names:List (List Tag)),dy,dz,d.next) (fun (k,E,r_out_0,c_out_0,aa,r_out_1,c_out_1,ab,r_out_2,c_out_2,ac)=>([(2,vP ae),(3,vP bA),(18,.slice a1 d.files.length c1),(19,vI (d.files.length:Int)),(20,vI (k:Int))],[(0,.own 0 r_out_2 43 c_out_2 ab),(1,.box bA 36 [vS r_out_0 E.length c_out_0,vS r_out_1 aa.length c_out_1,vS r_out_2 ab.length c_out_2,vI ac]),(2,.own 0 r_out_0 50 c_out_0 E),(3,.own 0 r_out_1 3 c_out_1 aa)],[],d.files.length - k,(k≤d.files.length)∧(E.length≤k)∧(E++d.files.drop k=d.files)∧(aa=d.list)∧(ab=d.names)∧(ac=d.next))) [] Z ⟨AB,AD,AF,AF,AF,AB⟩ ?_
    rintro ⟨k,E,r_out_0,c_out_0,aa,r_out_1,c_out_1,ab,r_out_2,c_out_2,ac⟩ kH w Z ⟨gy,gz,gA,gC,gD,gE⟩ aR
    refine .s<|.g<|.bp ((k:Int)< (d.files.length:Int)) (fun ck=>?_) (fun ck=>?_)
    ·exact .d<|.s<|.ct<|.sk<|.s<|.b 1<|.s<|.g<|gxb d.files k fun bB ax gF dA=>RG.Ix 2 ax Z<|Z.el 2 ax fun kI kJ kK kL Z=>RG.Lg 0 0 Z<|RG.Np Z fun dB w Z=>RG.Ss 0 Z fun w Z=>.d<|T.GS 9 [dB,bA,ae,af] Z fun _ w Z=>.r [0]<|GA.Lb (q:=1) 1 2 Z<|.r [2]<|GA.Lb 3 0 Z<|.r [4]<|GA.Ln 5 0 Z<|.go 6<|GE.CS (fun w Z=>Ar bB.part (Z.a 1) (Z.a 2) (p1 _ ‹_›)) Z fun kM kN kO kP w Z=>.r [7]<|.go 8<|GE.Nb 1 Z fun kQ w Z=>GA.Do Z fun w Z=>RG.Ap 3 0 E bB [0,1] Z fun dC dD w Z=>.r 1<|RG.Ss 2 Z fun w Z=>.d<|.ib 1<|.g<|.it ((k:Int)+1)<|.r 1<|.d<|aR (k+1,(E++[bB]),dC,dD,aa,r_out_1,c_out_1,ab,r_out_2,c_out_2,ac) _ _ AA (Z.to 1 [] 5) ⟨AB,(by (simp; omega)),(by exact Cr ‹_› ‹_›),‹_›,‹_›,‹_›⟩ (by (simp only []; omega))
    refine .d<|.s<|.cf<|.x 0 rfl<|.s<|.g<|RG.Ln 1 Z<|RG.Ss 4 Z fun w Z=>.d ?_
    have Z:=(Z.sl 3).sl 0
    exact T.Rb 2 func42 results42 Z ⟨⟨r_out_0,E.length,c_out_0,(some ⟨r_out_1,0,none⟩),aa.length,c_out_1,(some ⟨r_out_2,0,none⟩),ab.length,c_out_2,(by rw [show d.next=ac from Eq.symm ‹_›]; kernel_rfl),Z.qo [1] 1 E (by exact CG ‹_› AB),Z.qb 1,Z.qr [1] 1 aa ‹_›,Z.qr [1] 0 ab ‹_›⟩,Z.xt⟩
   ·refine GE.CO 0 (fun w Z=>Ae d.names (Z.a 0) AB (fun n hn=>by have:=p4 n hn; omega)) Z fun bT bU w Z=>.tw 0 11 ?_ ?_
    ·refine GE.N0 Fil 0 Z fun dE w Z=>.r [10]<|.go 11<|GE.Np Z fun bC w Z=>GA.Do Z fun w Z=>RG.Ss 0 Z fun w Z=>.d<|.s<|.s<|.g<|.r 1<|RG.Lb 5 Z<|.r 2<|.d<|.b 0<|T.Lp ((0:Nat),([]:List Fil),dE,(0:Nat),(([]++d.list):List Int),ai,aj,(d.names:List (List Tag)),bT,bU,d.next) (fun (k,E,r_out_0,c_out_0,aa,r_out_1,c_out_1,ab,r_out_2,c_out_2,ac)=>([(2,vP ae),(3,vP bC),(18,.slice a1 d.files.length c1),(19,vI (d.files.length:Int)),(20,vI (k:Int))],[(0,.box bC 36 [vS r_out_0 E.length c_out_0,vS r_out_1 aa.length c_out_1,vS r_out_2 ab.length c_out_2,vI ac]),(1,.own 0 r_out_0 50 c_out_0 E),(2,.own 0 r_out_2 43 c_out_2 ab),(3,.own 0 r_out_1 3 c_out_1 aa)],[],d.files.length - k,(k≤d.files.length)∧(E.length≤k)∧(E++d.files.drop k=d.files)∧(aa=d.list)∧(ab=d.names)∧(ac=d.next))) [] Z ⟨AB,AD,AF,AF,AF,AB⟩ ?_
     rintro ⟨k,E,r_out_0,c_out_0,aa,r_out_1,c_out_1,ab,r_out_2,c_out_2,ac⟩ kR w Z ⟨gG,gH,gI,gJ,gK,gL⟩ aS
     refine .s<|.g<|.bp ((k:Int)< (d.files.length:Int)) (fun cm=>?_) (fun cm=>?_)
     ·exact .d<|.s<|.ct<|.sk<|.s<|.b 1<|.s<|.g<|gxb d.files k fun bD ay gM dF=>RG.Ix 2 ay Z<|Z.el 2 ay fun kS kT kU kV Z=>RG.Lg 0 0 Z<|RG.Np Z fun dG w Z=>RG.Ss 0 Z fun w Z=>.d<|T.GS 9 [dG,bC,ae,af] Z fun _ w Z=>.r [0]<|GA.Lb (q:=1) 1 1 Z<|.r [2]<|GA.Lb 3 0 Z<|.r [4]<|GA.Ln 5 0 Z<|.go 6<|GE.CS (fun w Z=>Ar bD.part (Z.a 1) (Z.a 2) (p1 _ ‹_›)) Z fun kW kX kY kZ w Z=>.r [7]<|.go 8<|GE.Nb 1 Z fun k5 w Z=>GA.Do Z fun w Z=>RG.Ap 2 0 E bD [0,1] Z fun dH dI w Z=>.r 1<|RG.Ss 1 Z fun w Z=>.d<|.ib 1<|.g<|.it ((k:Int)+1)<|.r 1<|.d<|aS (k+1,(E++[bD]),dH,dI,aa,r_out_1,c_out_1,ab,r_out_2,c_out_2,ac) _ _ AA (Z.to 1 [] 5) ⟨AB,(by (simp; omega)),(by exact Cr ‹_› ‹_›),‹_›,‹_›,‹_›⟩ (by (simp only []; omega))
     refine .d<|.s<|.cf<|.x 0 rfl<|.s<|.g<|RG.Ln 0 Z<|RG.Ss 4 Z fun w Z=>.d ?_
     have Z:=(Z.sl 3).sl 2
     exact T.Rb 2 func42 results42 Z ⟨⟨r_out_0,E.length,c_out_0,(some ⟨r_out_1,0,none⟩),aa.length,c_out_1,(some ⟨r_out_2,0,none⟩),ab.length,c_out_2,(by rw [show d.next=ac from Eq.symm ‹_›]; kernel_rfl),Z.qo [1] 1 E (by exact CG ‹_› AB),Z.qb 1,Z.qr [1] 1 aa ‹_›,Z.qr [1] 0 ab ‹_›⟩,Z.xt⟩
    refine GE.Np Z fun bE w Z=>.go 0<|GE.N0 Fil 0 Z fun dJ w Z=>.r [10]<|GA.Do Z fun w Z=>RG.Ss 1 Z fun w Z=>.d<|.s<|.s<|.g<|.r 1<|RG.Lb 5 Z<|.r 2<|.d<|.b 0<|T.Lp ((0:Nat),([]:List Fil),dJ,(0:Nat),(([]++d.list):List Int),ai,aj,(d.names:List (List Tag)),bT,bU,d.next) (fun (k,E,r_out_0,c_out_0,aa,r_out_1,c_out_1,ab,r_out_2,c_out_2,ac)=>([(2,vP ae),(3,vP bE),(18,.slice a1 d.files.length c1),(19,vI (d.files.length:Int)),(20,vI (k:Int))],[(0,.own 0 r_out_0 50 c_out_0 E),(1,.box bE 36 [vS r_out_0 E.length c_out_0,vS r_out_1 aa.length c_out_1,vS r_out_2 ab.length c_out_2,vI ac]),(2,.own 0 r_out_2 43 c_out_2 ab),(3,.own 0 r_out_1 3 c_out_1 aa)],[],d.files.length - k,(k≤d.files.length)∧(E.length≤k)∧(E++d.files.drop k=d.files)∧(aa=d.list)∧(ab=d.names)∧(ac=d.next))) [] Z ⟨AB,AD,AF,AF,AF,AB⟩ ?_
    rintro ⟨k,E,r_out_0,c_out_0,aa,r_out_1,c_out_1,ab,r_out_2,c_out_2,ac⟩ k6 w Z ⟨gN,gO,gP,gQ,gR,gS⟩ aT
    refine .s<|.g<|.bp ((k:Int)< (d.files.length:Int)) (fun co=>?_) (fun co=>?_)
    ·exact .d<|.s<|.ct<|.sk<|.s<|.b 1<|.s<|.g<|gxb d.files k fun bF az gT dK=>RG.Ix 2 az Z<|Z.el 2 az fun k7 k8 k9 lc Z=>RG.Lg 0 0 Z<|RG.Np Z fun dL w Z=>RG.Ss 0 Z fun w Z=>.d<|T.GS 9 [dL,bE,ae,af] Z fun _ w Z=>.r [0]<|GA.Lb (q:=1) 1 2 Z<|.r [2]<|GA.Lb 3 0 Z<|.r [4]<|GA.Ln 5 0 Z<|.go 6<|GE.CS (fun w Z=>Ar bF.part (Z.a 1) (Z.a 2) (p1 _ ‹_›)) Z fun ld lf li lj w Z=>.r [7]<|.go 8<|GE.Nb 1 Z fun lk w Z=>GA.Do Z fun w Z=>RG.Ap 1 0 E bF [0,1] Z fun dM dN w Z=>.r 1<|RG.Ss 2 Z fun w Z=>.d<|.ib 1<|.g<|.it ((k:Int)+1)<|.r 1<|.d<|aT (k+1,(E++[bF]),dM,dN,aa,r_out_1,c_out_1,ab,r_out_2,c_out_2,ac) _ _ AA (Z.to 1 [] 5) ⟨AB,(by (simp; omega)),(by exact Cr ‹_› ‹_›),‹_›,‹_›,‹_›⟩ (by (simp only []; omega))
    refine .d<|.s<|.cf<|.x 0 rfl<|.s<|.g<|RG.Ln 1 Z<|RG.Ss 4 Z fun w Z=>.d ?_
    have Z:=(Z.sl 3).sl 2
    exact T.Rb 2 func42 results42 Z ⟨⟨r_out_0,E.length,c_out_0,(some ⟨r_out_1,0,none⟩),aa.length,c_out_1,(some ⟨r_out_2,0,none⟩),ab.length,c_out_2,(by rw [show d.next=ac from Eq.symm ‹_›]; kernel_rfl),Z.qo [0] 0 E (by exact CG ‹_› AB),Z.qb 0,Z.qr [0] 1 aa ‹_›,Z.qr [0] 0 ab ‹_›⟩,Z.xt⟩
   refine GE.Np Z fun ak w Z=>.tw 0 7 ?_ ?_
   ·refine GE.N0 Fil 0 Z fun dO w Z=>.go 7<|GE.CO 0 (fun w Z=>Ae d.names (Z.a 0) AB (fun n hn=>by have:=p4 n hn; omega)) Z fun dP dQ w Z=>.r [10]<|GA.Do Z fun w Z=>RG.Ss 2 Z fun w Z=>.d<|.s<|.s<|.g<|.r 1<|RG.Lb 5 Z<|.r 2<|.d<|.b 0<|T.Lp ((0:Nat),([]:List Fil),dO,(0:Nat),(([]++d.list):List Int),ai,aj,(d.names:List (List Tag)),dP,dQ,d.next) (fun (k,E,r_out_0,c_out_0,aa,r_out_1,c_out_1,ab,r_out_2,c_out_2,ac)=>([(2,vP ae),(3,vP ak),(18,.slice a1 d.files.length c1),(19,vI (d.files.length:Int)),(20,vI (k:Int))],[(0,.own 0 r_out_2 43 c_out_2 ab),(1,.own 0 r_out_0 50 c_out_0 E),(2,.box ak 36 [vS r_out_0 E.length c_out_0,vS r_out_1 aa.length c_out_1,vS r_out_2 ab.length c_out_2,vI ac]),(3,.own 0 r_out_1 3 c_out_1 aa)],[],d.files.length - k,(k≤d.files.length)∧(E.length≤k)∧(E++d.files.drop k=d.files)∧(aa=d.list)∧(ab=d.names)∧(ac=d.next))) [] Z ⟨AB,AD,AF,AF,AF,AB⟩ ?_
    rintro ⟨k,E,r_out_0,c_out_0,aa,r_out_1,c_out_1,ab,r_out_2,c_out_2,ac⟩ ll w Z ⟨gU,gV,gW,gX,gY,gZ⟩ aU
    refine .s<|.g<|.bp ((k:Int)< (d.files.length:Int)) (fun cp=>?_) (fun cp=>?_)
    ·exact .d<|.s<|.ct<|.sk<|.s<|.b 1<|.s<|.g<|gxb d.files k fun bG aA g0 dR=>RG.Ix 2 aA Z<|Z.el 2 aA fun lm lp lq ls Z=>RG.Lg 0 0 Z<|RG.Np Z fun dS w Z=>RG.Ss 0 Z fun w Z=>.d<|T.GS 9 [dS,ak,ae,af] Z fun _ w Z=>.r [0]<|GA.Lb (q:=1) 1 3 Z<|.r [2]<|GA.Lb 3 0 Z<|.r [4]<|GA.Ln 5 0 Z<|.go 6<|GE.CS (fun w Z=>Ar bG.part (Z.a 1) (Z.a 2) (p1 _ ‹_›)) Z fun lu lv lw ly w Z=>.r [7]<|.go 8<|GE.Nb 1 Z fun lz w Z=>GA.Do Z fun w Z=>RG.Ap 2 0 E bG [0,1] Z fun dT dU w Z=>.r 1<|RG.Ss 3 Z fun w Z=>.d<|.ib 1<|.g<|.it ((k:Int)+1)<|.r 1<|.d<|aU (k+1,(E++[bG]),dT,dU,aa,r_out_1,c_out_1,ab,r_out_2,c_out_2,ac) _ _ AA (Z.to 1 [] 5) ⟨AB,(by (simp; omega)),(by exact Cr ‹_› ‹_›),‹_›,‹_›,‹_›⟩ (by (simp only []; omega))
    refine .d<|.s<|.cf<|.x 0 rfl<|.s<|.g<|RG.Ln 2 Z<|RG.Ss 4 Z fun w Z=>.d ?_
    have Z:=(Z.sl 3).sl 0
    exact T.Rb 2 func42 results42 Z ⟨⟨r_out_0,E.length,c_out_0,(some ⟨r_out_1,0,none⟩),aa.length,c_out_1,(some ⟨r_out_2,0,none⟩),ab.length,c_out_2,(by rw [show d.next=ac from Eq.symm ‹_›]; kernel_rfl),Z.qo [0] 0 E (by exact CG ‹_› AB),Z.qb 0,Z.qr [0] 1 aa ‹_›,Z.qr [0] 0 ab ‹_›⟩,Z.xt⟩
   refine GE.CO 0 (fun w Z=>Ae d.names (Z.a 0) AB (fun n hn=>by have:=p4 n hn; omega)) Z fun dV dW w Z=>.go 0<|GE.N0 Fil 0 Z fun dX w Z=>.r [10]<|GA.Do Z fun w Z=>RG.Ss 2 Z fun w Z=>.d<|.s<|.s<|.g<|.r 1<|RG.Lb 5 Z<|.r 2<|.d<|.b 0<|T.Lp ((0:Nat),([]:List Fil),dX,(0:Nat),(([]++d.list):List Int),ai,aj,(d.names:List (List Tag)),dV,dW,d.next) (fun (k,E,r_out_0,c_out_0,aa,r_out_1,c_out_1,ab,r_out_2,c_out_2,ac)=>([(2,vP ae),(3,vP ak),(18,.slice a1 d.files.length c1),(19,vI (d.files.length:Int)),(20,vI (k:Int))],[(0,.own 0 r_out_0 50 c_out_0 E),(1,.own 0 r_out_2 43 c_out_2 ab),(2,.box ak 36 [vS r_out_0 E.length c_out_0,vS r_out_1 aa.length c_out_1,vS r_out_2 ab.length c_out_2,vI ac]),(3,.own 0 r_out_1 3 c_out_1 aa)],[],d.files.length - k,(k≤d.files.length)∧(E.length≤k)∧(E++d.files.drop k=d.files)∧(aa=d.list)∧(ab=d.names)∧(ac=d.next))) [] Z ⟨AB,AD,AF,AF,AF,AB⟩ ?_
   rintro ⟨k,E,r_out_0,c_out_0,aa,r_out_1,c_out_1,ab,r_out_2,c_out_2,ac⟩ lA w Z ⟨hC,hE,hH,hN,hO,hQ⟩ aV
   refine .s<|.g<|.bp ((k:Int)< (d.files.length:Int)) (fun cq=>?_) (fun cq=>?_)
   ·exact .d<|.s<|.ct<|.sk<|.s<|.b 1<|.s<|.g<|gxb d.files k fun bH aB hV dY=>RG.Ix 2 aB Z<|Z.el 2 aB fun lB lC lD lE Z=>RG.Lg 0 0 Z<|RG.Np Z fun dZ w Z=>RG.Ss 0 Z fun w Z=>.d<|T.GS 9 [dZ,ak,ae,af] Z fun _ w Z=>.r [0]<|GA.Lb (q:=1) 1 3 Z<|.r [2]<|GA.Lb 3 0 Z<|.r [4]<|GA.Ln 5 0 Z<|.go 6<|GE.CS (fun w Z=>Ar bH.part (Z.a 1) (Z.a 2) (p1 _ ‹_›)) Z fun lF lG lH lI w Z=>.r [7]<|.go 8<|GE.Nb 1 Z fun lJ w Z=>GA.Do Z fun w Z=>RG.Ap 1 0 E bH [0,1] Z fun d0 d3 w Z=>.r 1<|RG.Ss 3 Z fun w Z=>.d<|.ib 1<|.g<|.it ((k:Int)+1)<|.r 1<|.d<|aV (k+1,(E++[bH]),d0,d3,aa,r_out_1,c_out_1,ab,r_out_2,c_out_2,ac) _ _ AA (Z.to 1 [] 5) ⟨AB,(by (simp; omega)),(by exact Cr ‹_› ‹_›),‹_›,‹_›,‹_›⟩ (by (simp only []; omega))
   refine .d<|.s<|.cf<|.x 0 rfl<|.s<|.g<|RG.Ln 2 Z<|RG.Ss 4 Z fun w Z=>.d ?_
   have Z:=(Z.sl 3).sl 1
   exact T.Rb 2 func42 results42 Z ⟨⟨r_out_0,E.length,c_out_0,(some ⟨r_out_1,0,none⟩),aa.length,c_out_1,(some ⟨r_out_2,0,none⟩),ab.length,c_out_2,(by rw [show d.next=ac from Eq.symm ‹_›]; kernel_rfl),Z.qo [0] 0 E (by exact CG ‹_› AB),Z.qb 0,Z.qr [0] 1 aa ‹_›,Z.qr [0] 0 ab ‹_›⟩,Z.xt⟩
  refine GE.Np Z fun ah w Z=>.tw 0 4 ?_ ?_
  ·refine GE.N0 Fil 0 Z fun d4 w Z=>.go 4<|GE.An (hf:=.inr Aw) 2 1 ([]:List Int) d.list [3,4] Z fun d5 d6 w Z=>.go 7<|GE.CO 0 (fun w Z=>Ae d.names (Z.a 0) AB (fun n hn=>by have:=p4 n hn; omega)) Z fun d7 d8 w Z=>.r [10]<|GA.Do Z fun w Z=>RG.Ss 2 Z fun w Z=>.d<|.s<|.s<|.g<|.r 1<|RG.Lb 5 Z<|.r 2<|.d<|.b 0<|T.Lp ((0:Nat),([]:List Fil),d4,(0:Nat),(([]++d.list):List Int),d5,d6,(d.names:List (List Tag)),d7,d8,d.next) (fun (k,E,r_out_0,c_out_0,aa,r_out_1,c_out_1,ab,r_out_2,c_out_2,ac)=>([(2,vP ae),(3,vP ah),(18,.slice a1 d.files.length c1),(19,vI (d.files.length:Int)),(20,vI (k:Int))],[(0,.own 0 r_out_2 43 c_out_2 ab),(1,.own 0 r_out_0 50 c_out_0 E),(2,.box ah 36 [vS r_out_0 E.length c_out_0,vS r_out_1 aa.length c_out_1,vS r_out_2 ab.length c_out_2,vI ac]),(3,.own 0 r_out_1 3 c_out_1 aa)],[],d.files.length - k,(k≤d.files.length)∧(E.length≤k)∧(E++d.files.drop k=d.files)∧(aa=d.list)∧(ab=d.names)∧(ac=d.next))) [] Z ⟨AB,AD,AF,AF,AF,AB⟩ ?_
   rintro ⟨k,E,r_out_0,c_out_0,aa,r_out_1,c_out_1,ab,r_out_2,c_out_2,ac⟩ lK w Z ⟨hW,ia,ic,ie,ig,ii⟩ aW
   refine .s<|.g<|.bp ((k:Int)< (d.files.length:Int)) (fun cr=>?_) (fun cr=>?_)
   ·exact .d<|.s<|.ct<|.sk<|.s<|.b 1<|.s<|.g<|gxb d.files k fun bI aC ij d9=>RG.Ix 2 aC Z<|Z.el 2 aC fun lL lM lN lO Z=>RG.Lg 0 0 Z<|RG.Np Z fun ec w Z=>RG.Ss 0 Z fun w Z=>.d<|T.GS 9 [ec,ah,ae,af] Z fun _ w Z=>.r [0]<|GA.Lb (q:=1) 1 3 Z<|.r [2]<|GA.Lb 3 0 Z<|.r [4]<|GA.Ln 5 0 Z<|.go 6<|GE.CS (fun w Z=>Ar bI.part (Z.a 1) (Z.a 2) (p1 _ ‹_›)) Z fun lP lQ lR lS w Z=>.r [7]<|.go 8<|GE.Nb 1 Z fun lT w Z=>GA.Do Z fun w Z=>RG.Ap 2 0 E bI [0,1] Z fun ee ef w Z=>.r 1<|RG.Ss 3 Z fun w Z=>.d<|.ib 1<|.g<|.it ((k:Int)+1)<|.r 1<|.d<|aW (k+1,(E++[bI]),ee,ef,aa,r_out_1,c_out_1,ab,r_out_2,c_out_2,ac) _ _ AA (Z.to 1 [] 5) ⟨AB,(by (simp; omega)),(by exact Cr ‹_› ‹_›),‹_›,‹_›,‹_›⟩ (by (simp only []; omega))
   refine .d<|.s<|.cf<|.x 0 rfl<|.s<|.g<|RG.Ln 2 Z<|RG.Ss 4 Z fun w Z=>.d ?_
   have Z:=(Z.sl 3).sl 0
   exact T.Rb 2 func42 results42 Z ⟨⟨r_out_0,E.length,c_out_0,(some ⟨r_out_1,0,none⟩),aa.length,c_out_1,(some ⟨r_out_2,0,none⟩),ab.length,c_out_2,(by rw [show d.next=ac from Eq.symm ‹_›]; kernel_rfl),Z.qo [0] 0 E (by exact CG ‹_› AB),Z.qb 0,Z.qr [0] 1 aa ‹_›,Z.qr [0] 0 ab ‹_›⟩,Z.xt⟩
  refine GE.An (hf:=.inr Aw) 1 1 ([]:List Int) d.list [2,3] Z fun bV bW w Z=>.tw 0 7 ?_ ?_
  ·refine GE.N0 Fil 0 Z fun eg w Z=>.go 7<|GE.CO 0 (fun w Z=>Ae d.names (Z.a 0) AB (fun n hn=>by have:=p4 n hn; omega)) Z fun eh ej w Z=>.r [10]<|GA.Do Z fun w Z=>RG.Ss 2 Z fun w Z=>.d<|.s<|.s<|.g<|.r 1<|RG.Lb 5 Z<|.r 2<|.d<|.b 0<|T.Lp ((0:Nat),([]:List Fil),eg,(0:Nat),(([]++d.list):List Int),bV,bW,(d.names:List (List Tag)),eh,ej,d.next) (fun (k,E,r_out_0,c_out_0,aa,r_out_1,c_out_1,ab,r_out_2,c_out_2,ac)=>([(2,vP ae),(3,vP ah),(18,.slice a1 d.files.length c1),(19,vI (d.files.length:Int)),(20,vI (k:Int))],[(0,.own 0 r_out_2 43 c_out_2 ab),(1,.own 0 r_out_0 50 c_out_0 E),(2,.box ah 36 [vS r_out_0 E.length c_out_0,vS r_out_1 aa.length c_out_1,vS r_out_2 ab.length c_out_2,vI ac]),(3,.own 0 r_out_1 3 c_out_1 aa)],[],d.files.length - k,(k≤d.files.length)∧(E.length≤k)∧(E++d.files.drop k=d.files)∧(aa=d.list)∧(ab=d.names)∧(ac=d.next))) [] Z ⟨AB,AD,AF,AF,AF,AB⟩ ?_
   rintro ⟨k,E,r_out_0,c_out_0,aa,r_out_1,c_out_1,ab,r_out_2,c_out_2,ac⟩ lU w Z ⟨ik,il,im,io,ip,iq⟩ aX
   refine .s<|.g<|.bp ((k:Int)< (d.files.length:Int)) (fun cu=>?_) (fun cu=>?_)
   ·exact .d<|.s<|.ct<|.sk<|.s<|.b 1<|.s<|.g<|gxb d.files k fun bJ aD ir ek=>RG.Ix 2 aD Z<|Z.el 2 aD fun lV lW lX lY Z=>RG.Lg 0 0 Z<|RG.Np Z fun en w Z=>RG.Ss 0 Z fun w Z=>.d<|T.GS 9 [en,ah,ae,af] Z fun _ w Z=>.r [0]<|GA.Lb (q:=1) 1 3 Z<|.r [2]<|GA.Lb 3 0 Z<|.r [4]<|GA.Ln 5 0 Z<|.go 6<|GE.CS (fun w Z=>Ar bJ.part (Z.a 1) (Z.a 2) (p1 _ ‹_›)) Z fun lZ l0 l3 l4 w Z=>.r [7]<|.go 8<|GE.Nb 1 Z fun l6 w Z=>GA.Do Z fun w Z=>RG.Ap 2 0 E bJ [0,1] Z fun ey ez w Z=>.r 1<|RG.Ss 3 Z fun w Z=>.d<|.ib 1<|.g<|.it ((k:Int)+1)<|.r 1<|.d<|aX (k+1,(E++[bJ]),ey,ez,aa,r_out_1,c_out_1,ab,r_out_2,c_out_2,ac) _ _ AA (Z.to 1 [] 5) ⟨AB,(by (simp; omega)),(by exact Cr ‹_› ‹_›),‹_›,‹_›,‹_›⟩ (by (simp only []; omega))
   refine .d<|.s<|.cf<|.x 0 rfl<|.s<|.g<|RG.Ln 2 Z<|RG.Ss 4 Z fun w Z=>.d ?_
   have Z:=(Z.sl 3).sl 0
   exact T.Rb 2 func42 results42 Z ⟨⟨r_out_0,E.length,c_out_0,(some ⟨r_out_1,0,none⟩),aa.length,c_out_1,(some ⟨r_out_2,0,none⟩),ab.length,c_out_2,(by rw [show d.next=ac from Eq.symm ‹_›]; kernel_rfl),Z.qo [0] 0 E (by exact CG ‹_› AB),Z.qb 0,Z.qr [0] 1 aa ‹_›,Z.qr [0] 0 ab ‹_›⟩,Z.xt⟩
  refine GE.CO 0 (fun w Z=>Ae d.names (Z.a 0) AB (fun n hn=>by have:=p4 n hn; omega)) Z fun eA eB w Z=>.go 0<|GE.N0 Fil 0 Z fun eC w Z=>.r [10]<|GA.Do Z fun w Z=>RG.Ss 2 Z fun w Z=>.d<|.s<|.s<|.g<|.r 1<|RG.Lb 5 Z<|.r 2<|.d<|.b 0<|T.Lp ((0:Nat),([]:List Fil),eC,(0:Nat),(([]++d.list):List Int),bV,bW,(d.names:List (List Tag)),eA,eB,d.next) (fun (k,E,r_out_0,c_out_0,aa,r_out_1,c_out_1,ab,r_out_2,c_out_2,ac)=>([(2,vP ae),(3,vP ah),(18,.slice a1 d.files.length c1),(19,vI (d.files.length:Int)),(20,vI (k:Int))],[(0,.own 0 r_out_0 50 c_out_0 E),(1,.own 0 r_out_2 43 c_out_2 ab),(2,.box ah 36 [vS r_out_0 E.length c_out_0,vS r_out_1 aa.length c_out_1,vS r_out_2 ab.length c_out_2,vI ac]),(3,.own 0 r_out_1 3 c_out_1 aa)],[],d.files.length - k,(k≤d.files.length)∧(E.length≤k)∧(E++d.files.drop k=d.files)∧(aa=d.list)∧(ab=d.names)∧(ac=d.next))) [] Z ⟨AB,AD,AF,AF,AF,AB⟩ ?_
  rintro ⟨k,E,r_out_0,c_out_0,aa,r_out_1,c_out_1,ab,r_out_2,c_out_2,ac⟩ l7 w Z ⟨iu,iw,iy,iz,iA,iB⟩ aY
  refine .s<|.g<|.bp ((k:Int)< (d.files.length:Int)) (fun cw=>?_) (fun cw=>?_)
  ·exact .d<|.s<|.ct<|.sk<|.s<|.b 1<|.s<|.g<|gxb d.files k fun bK aE iC eD=>RG.Ix 2 aE Z<|Z.el 2 aE fun l8 l9 ma mb Z=>RG.Lg 0 0 Z<|RG.Np Z fun eE w Z=>RG.Ss 0 Z fun w Z=>.d<|T.GS 9 [eE,ah,ae,af] Z fun _ w Z=>.r [0]<|GA.Lb (q:=1) 1 3 Z<|.r [2]<|GA.Lb 3 0 Z<|.r [4]<|GA.Ln 5 0 Z<|.go 6<|GE.CS (fun w Z=>Ar bK.part (Z.a 1) (Z.a 2) (p1 _ ‹_›)) Z fun mh mj ml mp w Z=>.r [7]<|.go 8<|GE.Nb 1 Z fun mq w Z=>GA.Do Z fun w Z=>RG.Ap 1 0 E bK [0,1] Z fun eF eG w Z=>.r 1<|RG.Ss 3 Z fun w Z=>.d<|.ib 1<|.g<|.it ((k:Int)+1)<|.r 1<|.d<|aY (k+1,(E++[bK]),eF,eG,aa,r_out_1,c_out_1,ab,r_out_2,c_out_2,ac) _ _ AA (Z.to 1 [] 5) ⟨AB,(by (simp; omega)),(by exact Cr ‹_› ‹_›),‹_›,‹_›,‹_›⟩ (by (simp only []; omega))
  refine .d<|.s<|.cf<|.x 0 rfl<|.s<|.g<|RG.Ln 2 Z<|RG.Ss 4 Z fun w Z=>.d ?_
  have Z:=(Z.sl 3).sl 1
  exact T.Rb 2 func42 results42 Z ⟨⟨r_out_0,E.length,c_out_0,(some ⟨r_out_1,0,none⟩),aa.length,c_out_1,(some ⟨r_out_2,0,none⟩),ab.length,c_out_2,(by rw [show d.next=ac from Eq.symm ‹_›]; kernel_rfl),Z.qo [0] 0 E (by exact CG ‹_› AB),Z.qb 0,Z.qr [0] 1 aa ‹_›,Z.qr [0] 0 ab ‹_›⟩,Z.xt⟩
 refine GE.Np Z fun ag w Z=>.tw 0 1 ?_ ?_
 ·refine GE.N0 Fil 0 Z fun eH w Z=>.go 1<|GE.N0 Int 0 Z fun mr w Z=>.go 4<|GE.An (hf:=.inr Aw) 0 1 ([]:List Int) d.list [3,4] Z fun eI eJ w Z=>.go 7<|GE.CO 0 (fun w Z=>Ae d.names (Z.a 0) AB (fun n hn=>by have:=p4 n hn; omega)) Z fun eK eL w Z=>.r [10]<|GA.Do Z fun w Z=>RG.Ss 3 Z fun w Z=>.d<|.s<|.s<|.g<|.r 1<|RG.Lb 5 Z<|.r 2<|.d<|.b 0<|T.Lp ((0:Nat),([]:List Fil),eH,(0:Nat),(([]++d.list):List Int),eI,eJ,(d.names:List (List Tag)),eK,eL,d.next) (fun (k,E,r_out_0,c_out_0,aa,r_out_1,c_out_1,ab,r_out_2,c_out_2,ac)=>([(2,vP ae),(3,vP ag),(18,.slice a1 d.files.length c1),(19,vI (d.files.length:Int)),(20,vI (k:Int))],[(0,.own 0 r_out_2 43 c_out_2 ab),(1,.own 0 r_out_1 3 c_out_1 aa),(2,.own 0 r_out_0 50 c_out_0 E),(3,.box ag 36 [vS r_out_0 E.length c_out_0,vS r_out_1 aa.length c_out_1,vS r_out_2 ab.length c_out_2,vI ac])],[],d.files.length - k,(k≤d.files.length)∧(E.length≤k)∧(E++d.files.drop k=d.files)∧(aa=d.list)∧(ab=d.names)∧(ac=d.next))) [] Z ⟨AB,AD,AF,AF,AF,AB⟩ ?_
  rintro ⟨k,E,r_out_0,c_out_0,aa,r_out_1,c_out_1,ab,r_out_2,c_out_2,ac⟩ mt w Z ⟨iD,iE,iF,iG,iH,iI⟩ aZ
  refine .s<|.g<|.bp ((k:Int)< (d.files.length:Int)) (fun cx=>?_) (fun cx=>?_)
  ·exact .d<|.s<|.ct<|.sk<|.s<|.b 1<|.s<|.g<|gxb d.files k fun bL aF iJ eM=>RG.Ix 2 aF Z<|Z.el 2 aF fun mu mw mz mA Z=>RG.Lg 0 0 Z<|RG.Np Z fun eN w Z=>RG.Ss 0 Z fun w Z=>.d<|T.GS 9 [eN,ag,ae,af] Z fun _ w Z=>.r [0]<|GA.Lb (q:=1) 1 4 Z<|.r [2]<|GA.Lb 3 0 Z<|.r [4]<|GA.Ln 5 0 Z<|.go 6<|GE.CS (fun w Z=>Ar bL.part (Z.a 1) (Z.a 2) (p1 _ ‹_›)) Z fun mB mC mD mE w Z=>.r [7]<|.go 8<|GE.Nb 1 Z fun mF w Z=>GA.Do Z fun w Z=>RG.Ap 3 0 E bL [0,1] Z fun eO eP w Z=>.r 1<|RG.Ss 4 Z fun w Z=>.d<|.ib 1<|.g<|.it ((k:Int)+1)<|.r 1<|.d<|aZ (k+1,(E++[bL]),eO,eP,aa,r_out_1,c_out_1,ab,r_out_2,c_out_2,ac) _ _ AA (Z.to 1 [] 5) ⟨AB,(by (simp; omega)),(by exact Cr ‹_› ‹_›),‹_›,‹_›,‹_›⟩ (by (simp only []; omega))
  refine .d<|.s<|.cf<|.x 0 rfl<|.s<|.g<|RG.Ln 3 Z<|RG.Ss 4 Z fun w Z=>.d ?_
  have Z:=(Z.sl 1).sl 0
  exact T.Rb 2 func42 results42 Z ⟨⟨r_out_0,E.length,c_out_0,(some ⟨r_out_1,0,none⟩),aa.length,c_out_1,(some ⟨r_out_2,0,none⟩),ab.length,c_out_2,(by rw [show d.next=ac from Eq.symm ‹_›]; kernel_rfl),Z.qo [0] 0 E (by exact CG ‹_› AB),Z.qb 0,Z.qr [0] 1 aa ‹_›,Z.qr [0] 0 ab ‹_›⟩,Z.xt⟩
 refine GE.N0 Int 0 Z fun mG w Z=>.tw 0 4 ?_ ?_
 ·refine GE.N0 Fil 0 Z fun eQ w Z=>.go 4<|GE.An (hf:=.inr Aw) 1 1 ([]:List Int) d.list [3,4] Z fun eR eS w Z=>.go 7<|GE.CO 0 (fun w Z=>Ae d.names (Z.a 0) AB (fun n hn=>by have:=p4 n hn; omega)) Z fun eT eU w Z=>.r [10]<|GA.Do Z fun w Z=>RG.Ss 3 Z fun w Z=>.d<|.s<|.s<|.g<|.r 1<|RG.Lb 5 Z<|.r 2<|.d<|.b 0<|T.Lp ((0:Nat),([]:List Fil),eQ,(0:Nat),(([]++d.list):List Int),eR,eS,(d.names:List (List Tag)),eT,eU,d.next) (fun (k,E,r_out_0,c_out_0,aa,r_out_1,c_out_1,ab,r_out_2,c_out_2,ac)=>([(2,vP ae),(3,vP ag),(18,.slice a1 d.files.length c1),(19,vI (d.files.length:Int)),(20,vI (k:Int))],[(0,.own 0 r_out_2 43 c_out_2 ab),(1,.own 0 r_out_0 50 c_out_0 E),(2,.own 0 r_out_1 3 c_out_1 aa),(3,.box ag 36 [vS r_out_0 E.length c_out_0,vS r_out_1 aa.length c_out_1,vS r_out_2 ab.length c_out_2,vI ac])],[],d.files.length - k,(k≤d.files.length)∧(E.length≤k)∧(E++d.files.drop k=d.files)∧(aa=d.list)∧(ab=d.names)∧(ac=d.next))) [] Z ⟨AB,AD,AF,AF,AF,AB⟩ ?_
  rintro ⟨k,E,r_out_0,c_out_0,aa,r_out_1,c_out_1,ab,r_out_2,c_out_2,ac⟩ mH w Z ⟨iK,iL,iM,iN,iO,iP⟩ ba
  refine .s<|.g<|.bp ((k:Int)< (d.files.length:Int)) (fun cy=>?_) (fun cy=>?_)
  ·exact .d<|.s<|.ct<|.sk<|.s<|.b 1<|.s<|.g<|gxb d.files k fun bM aG iQ eV=>RG.Ix 2 aG Z<|Z.el 2 aG fun mI mJ mK mL Z=>RG.Lg 0 0 Z<|RG.Np Z fun eW w Z=>RG.Ss 0 Z fun w Z=>.d<|T.GS 9 [eW,ag,ae,af] Z fun _ w Z=>.r [0]<|GA.Lb (q:=1) 1 4 Z<|.r [2]<|GA.Lb 3 0 Z<|.r [4]<|GA.Ln 5 0 Z<|.go 6<|GE.CS (fun w Z=>Ar bM.part (Z.a 1) (Z.a 2) (p1 _ ‹_›)) Z fun mM mN mO mP w Z=>.r [7]<|.go 8<|GE.Nb 1 Z fun mQ w Z=>GA.Do Z fun w Z=>RG.Ap 2 0 E bM [0,1] Z fun eX eY w Z=>.r 1<|RG.Ss 4 Z fun w Z=>.d<|.ib 1<|.g<|.it ((k:Int)+1)<|.r 1<|.d<|ba (k+1,(E++[bM]),eX,eY,aa,r_out_1,c_out_1,ab,r_out_2,c_out_2,ac) _ _ AA (Z.to 1 [] 5) ⟨AB,(by (simp; omega)),(by exact Cr ‹_› ‹_›),‹_›,‹_›,‹_›⟩ (by (simp only []; omega))
  refine .d<|.s<|.cf<|.x 0 rfl<|.s<|.g<|RG.Ln 3 Z<|RG.Ss 4 Z fun w Z=>.d ?_
  have Z:=(Z.sl 2).sl 0
  exact T.Rb 2 func42 results42 Z ⟨⟨r_out_0,E.length,c_out_0,(some ⟨r_out_1,0,none⟩),aa.length,c_out_1,(some ⟨r_out_2,0,none⟩),ab.length,c_out_2,(by rw [show d.next=ac from Eq.symm ‹_›]; kernel_rfl),Z.qo [0] 0 E (by exact CG ‹_› AB),Z.qb 0,Z.qr [0] 1 aa ‹_›,Z.qr [0] 0 ab ‹_›⟩,Z.xt⟩
 refine GE.An (hf:=.inr Aw) 0 1 ([]:List Int) d.list [2,3] Z fun bX bY w Z=>.tw 0 7 ?_ ?_
 ·refine GE.N0 Fil 0 Z fun eZ w Z=>.go 7<|GE.CO 0 (fun w Z=>Ae d.names (Z.a 0) AB (fun n hn=>by have:=p4 n hn; omega)) Z fun e7 e8 w Z=>.r [10]<|GA.Do Z fun w Z=>RG.Ss 3 Z fun w Z=>.d<|.s<|.s<|.g<|.r 1<|RG.Lb 5 Z<|.r 2<|.d<|.b 0<|T.Lp ((0:Nat),([]:List Fil),eZ,(0:Nat),(([]++d.list):List Int),bX,bY,(d.names:List (List Tag)),e7,e8,d.next) (fun (k,E,r_out_0,c_out_0,aa,r_out_1,c_out_1,ab,r_out_2,c_out_2,ac)=>([(2,vP ae),(3,vP ag),(18,.slice a1 d.files.length c1),(19,vI (d.files.length:Int)),(20,vI (k:Int))],[(0,.own 0 r_out_2 43 c_out_2 ab),(1,.own 0 r_out_0 50 c_out_0 E),(2,.own 0 r_out_1 3 c_out_1 aa),(3,.box ag 36 [vS r_out_0 E.length c_out_0,vS r_out_1 aa.length c_out_1,vS r_out_2 ab.length c_out_2,vI ac])],[],d.files.length - k,(k≤d.files.length)∧(E.length≤k)∧(E++d.files.drop k=d.files)∧(aa=d.list)∧(ab=d.names)∧(ac=d.next))) [] Z ⟨AB,AD,AF,AF,AF,AB⟩ ?_
  rintro ⟨k,E,r_out_0,c_out_0,aa,r_out_1,c_out_1,ab,r_out_2,c_out_2,ac⟩ mR w Z ⟨iR,iS,iT,iU,iV,iW⟩ bd
  refine .s<|.g<|.bp ((k:Int)< (d.files.length:Int)) (fun cz=>?_) (fun cz=>?_)
  ·exact .d<|.s<|.ct<|.sk<|.s<|.b 1<|.s<|.g<|gxb d.files k fun bN aH iX fa=>RG.Ix 2 aH Z<|Z.el 2 aH fun mS mT mU mV Z=>RG.Lg 0 0 Z<|RG.Np Z fun fb w Z=>RG.Ss 0 Z fun w Z=>.d<|T.GS 9 [fb,ag,ae,af] Z fun _ w Z=>.r [0]<|GA.Lb (q:=1) 1 4 Z<|.r [2]<|GA.Lb 3 0 Z<|.r [4]<|GA.Ln 5 0 Z<|.go 6<|GE.CS (fun w Z=>Ar bN.part (Z.a 1) (Z.a 2) (p1 _ ‹_›)) Z fun mW mX mY mZ w Z=>.r [7]<|.go 8<|GE.Nb 1 Z fun m0 w Z=>GA.Do Z fun w Z=>RG.Ap 2 0 E bN [0,1] Z fun fd fe w Z=>.r 1<|RG.Ss 4 Z fun w Z=>.d<|.ib 1<|.g<|.it ((k:Int)+1)<|.r 1<|.d<|bd (k+1,(E++[bN]),fd,fe,aa,r_out_1,c_out_1,ab,r_out_2,c_out_2,ac) _ _ AA (Z.to 1 [] 5) ⟨AB,(by (simp; omega)),(by exact Cr ‹_› ‹_›),‹_›,‹_›,‹_›⟩ (by (simp only []; omega))
  refine .d<|.s<|.cf<|.x 0 rfl<|.s<|.g<|RG.Ln 3 Z<|RG.Ss 4 Z fun w Z=>.d ?_
  have Z:=(Z.sl 2).sl 0
  exact T.Rb 2 func42 results42 Z ⟨⟨r_out_0,E.length,c_out_0,(some ⟨r_out_1,0,none⟩),aa.length,c_out_1,(some ⟨r_out_2,0,none⟩),ab.length,c_out_2,(by rw [show d.next=ac from Eq.symm ‹_›]; kernel_rfl),Z.qo [0] 0 E (by exact CG ‹_› AB),Z.qb 0,Z.qr [0] 1 aa ‹_›,Z.qr [0] 0 ab ‹_›⟩,Z.xt⟩
 refine GE.CO 0 (fun w Z=>Ae d.names (Z.a 0) AB (fun n hn=>by have:=p4 n hn; omega)) Z fun ff fg w Z=>.go 0<|GE.N0 Fil 0 Z fun fi w Z=>.r [10]<|GA.Do Z fun w Z=>RG.Ss 3 Z fun w Z=>.d<|.s<|.s<|.g<|.r 1<|RG.Lb 5 Z<|.r 2<|.d<|.b 0<|T.Lp ((0:Nat),([]:List Fil),fi,(0:Nat),(([]++d.list):List Int),bX,bY,(d.names:List (List Tag)),ff,fg,d.next) (fun (k,E,r_out_0,c_out_0,aa,r_out_1,c_out_1,ab,r_out_2,c_out_2,ac)=>([(2,vP ae),(3,vP ag),(18,.slice a1 d.files.length c1),(19,vI (d.files.length:Int)),(20,vI (k:Int))],[(0,.own 0 r_out_0 50 c_out_0 E),(1,.own 0 r_out_2 43 c_out_2 ab),(2,.own 0 r_out_1 3 c_out_1 aa),(3,.box ag 36 [vS r_out_0 E.length c_out_0,vS r_out_1 aa.length c_out_1,vS r_out_2 ab.length c_out_2,vI ac])],[],d.files.length - k,(k≤d.files.length)∧(E.length≤k)∧(E++d.files.drop k=d.files)∧(aa=d.list)∧(ab=d.names)∧(ac=d.next))) [] Z ⟨AB,AD,AF,AF,AF,AB⟩ ?_
 rintro ⟨k,E,r_out_0,c_out_0,aa,r_out_1,c_out_1,ab,r_out_2,c_out_2,ac⟩ m5 w Z ⟨iY,iZ,ja,jb,jc,jd⟩ bg
 refine .s<|.g<|.bp ((k:Int)< (d.files.length:Int)) (fun cA=>?_) (fun cA=>?_)
 ·exact .d<|.s<|.ct<|.sk<|.s<|.b 1<|.s<|.g<|gxb d.files k fun bO aI je fj=>RG.Ix 2 aI Z<|Z.el 2 aI fun m6 m7 m8 m9 Z=>RG.Lg 0 0 Z<|RG.Np Z fun fm w Z=>RG.Ss 0 Z fun w Z=>.d<|T.GS 9 [fm,ag,ae,af] Z fun _ w Z=>.r [0]<|GA.Lb (q:=1) 1 4 Z<|.r [2]<|GA.Lb 3 0 Z<|.r [4]<|GA.Ln 5 0 Z<|.go 6<|GE.CS (fun w Z=>Ar bO.part (Z.a 1) (Z.a 2) (p1 _ ‹_›)) Z fun nc nh ni nj w Z=>.r [7]<|.go 8<|GE.Nb 1 Z fun nq w Z=>GA.Do Z fun w Z=>RG.Ap 1 0 E bO [0,1] Z fun fp fq w Z=>.r 1<|RG.Ss 4 Z fun w Z=>.d<|.ib 1<|.g<|.it ((k:Int)+1)<|.r 1<|.d<|bg (k+1,(E++[bO]),fp,fq,aa,r_out_1,c_out_1,ab,r_out_2,c_out_2,ac) _ _ AA (Z.to 1 [] 5) ⟨AB,(by (simp; omega)),(by exact Cr ‹_› ‹_›),‹_›,‹_›,‹_›⟩ (by (simp only []; omega))
 refine .d<|.s<|.cf<|.x 0 rfl<|.s<|.g<|RG.Ln 3 Z<|RG.Ss 4 Z fun w Z=>.d ?_
 have Z:=(Z.sl 2).sl 1
 exact T.Rb 2 func42 results42 Z ⟨⟨r_out_0,E.length,c_out_0,(some ⟨r_out_1,0,none⟩),aa.length,c_out_1,(some ⟨r_out_2,0,none⟩),ab.length,c_out_2,(by rw [show d.next=ac from Eq.symm ‹_›]; kernel_rfl),Z.qo [0] 0 E (by exact CG ‹_› AB),Z.qb 0,Z.qr [0] 1 aa ‹_›,Z.qr [0] 0 ab ‹_›⟩,Z.xt⟩
end Go.Proofs.YtggnnidleedpaaaGreat
namespace Go.Proofs.YtggnnidleedpaaaGreat
set_option maxRecDepth 100000
set_option maxHeartbeats 4000000
variable {w:World} {F:Nat→Prop} {a1 a2 a3 a4 a5 a6:Option Addr} {n1 c1 n2 c2 n3 c3 n4 c4 n5 c5 n6 c6:Nat}
theorem LM (a:Dsk) (b:Dsk) (h1:RepS w F a1 n1 c1 a.files) (h2:RepS w F a2 n2 c2 a.list) (h3:RepS w F a3 n3 c3 a.names) (h4:RepS w F a4 n4 c4 b.files) (h5:RepS w F a5 n5 c5 b.list) (h6:RepS w F a6 n6 c6 b.names)  : Calls Tryz.prog 38 [.agg #[.slice a1 n1 c1,.slice a2 n2 c2,.slice a3 n3 c3,.int .i64 a.next],.agg #[.slice a4 n4 c4,.slice a5 n5 c5,.slice a6 n6 c6,.int .i64 b.next]].toArray w (Am fun rv w'=>rv=.bool ((a==b))∧Ext w w'):=by
 cases h1.len
 cases h2.len
 cases h3.len
 cases h4.len
 cases h5.len
 cases h6.len
 refine goT func38 ?_
 have Z:=((((((St.i0 F w).p h1).p h2).p h3).p h4).p h5).p h6
 have aC:=h1.max
 have aE:=h3.max
 refine .s<|.g<|RG.Np Z fun ai w Z=>RG.Np Z fun aj w Z=>.r 1<|.d<|.s<|.s<|.g<|.r 1<|RG.Lb 1 Z<|.r 2<|RG.Lb 0 Z<|.r 1<|.ne (a.files.length:Int) (b.files.length:Int) (fun ak=>.r 24<|.d<|.ct<|.s<|.g<|.r 1<|.d<|T.rt func38 results38 (.bool false) ⟨(AG (by exact Hn (.inl (SW ‹_›)))),Z.xt⟩) fun ak=>.r 2<|RG.Lb 1 Z<|.r 1<|RG.Lb 0 Z<|RG.C0 (FL a.list b.list (Z.a 4) (Z.a 1)) Z fun w Z=>?_
 cases aI:(a.list==b.list)
 ·exact .r 18<|.d<|.ct<|.s<|.g<|.r 1<|.d<|T.rt func38 results38 (.bool false) ⟨(AG (by exact Hn (.inr (.inl (Vc ‹_›))))),Z.xt⟩
 refine .r 4<|RG.Lb 1 Z<|.r 2<|RG.Lb 0 Z<|.r 1<|.ne (a.names.length:Int) (b.names.length:Int) (fun al=>.r 8<|.d<|.ct<|.s<|.g<|.r 1<|.d<|T.rt func38 results38 (.bool false) ⟨(AG (by exact Hn (.inr (.inr (.inl (SW ‹_›)))))),Z.xt⟩) fun al=>.r 3<|RG.Lb 1 Z<|.r 1<|RG.Lb 0 Z<|.ne a.next b.next (fun am=>.r 1<|.d<|.ct<|.s<|.g<|.r 1<|.d<|T.rt func38 results38 (.bool false) ⟨(AG (by exact Hn (.inr (.inr (.inr ‹_›))))),Z.xt⟩) fun am=>.r 1<|.d<|.cf<|.sk<|.s<|.s<|.g<|.r 1<|.d<|.b 0<|T.Lp (0:Nat) (fun k=>([(2,vP ai),(3,vP aj),(5,vI (k:Int))],[],[],a.files.length - k,(k≤a.files.length)∧(a.files.drop k=b.files.drop k↔a.files=b.files))) [] Z ⟨AB,(by exact Iff.rfl)⟩ ?_
 rintro k aU w Z ⟨aJ,aK⟩ ae
 refine .s<|.s<|.g<|.r 2<|RG.Lb 1 Z<|.r 1<|.bp ((k:Int)< (a.files.length:Int)) (fun ao=>?_) (fun ao=>?_)
 ·refine .d<|.ct<|.sk<|.s<|.b 1<|.s<|T.Gd 26 Z fun w Z=>.r [0]<|GA.Lb 1 1 Z<|.r [2]<|gxd a.files k fun ag E aL=>GA.Ix 3 5 E Z<|.r [4]<|Z.el 5 E fun aV aW aX aY Z=>GA.Lh 5 0 0 Z<|.r [6]<|GA.Lb 7 0 Z<|.r [8]<|gxd b.files k fun ah aa aM=>GA.Ix 9 5 aa Z<|.r [10]<|Z.el 5 aa fun aZ ba bd bg Z=>GA.Lh 11 0 0 Z<|GA.neI (i:=12) (a:=ag.num) (b:=ah.num) AA (fun aq=>.r [13]<|GA.Sk Z fun w Z=>.r 3<|.d<|.ct<|.s<|.g<|.r 1<|.d<|T.rt func38 results38 (.bool false) ⟨(AG (by exact Hn (.inl (SV ‹_› ‹_› ‹_› (.inl ‹_›))))),Z.xt⟩) fun aq=>.r [13,14]<|GA.Lb 15 1 Z<|.r [16]<|GA.Ix 17 11 E Z<|.r [18]<|GA.Lg 19 3 1 Z<|.r [20]<|GA.Lb 21 0 Z<|.r [22]<|GA.Ix 23 8 aa Z<|.r [24]<|GA.Lg 25 0 1 Z<|GA.Dn Z fun w Z=>RG.C0 (HT ag.part ah.part (Z.a 4) (Z.a 5) (Z.a 1) (Z.a 2)) Z fun w Z=>?_
  cases aN:(ag.part==ah.part)
  ·exact .r 2<|.d<|.ct<|.s<|.g<|.r 1<|.d<|T.rt func38 results38 (.bool false) ⟨(AG (by exact Hn (.inl (SV ‹_› ‹_› ‹_› (.inr ‹_›))))),Z.xt⟩
  exact .r 2<|.d<|.cf<|.sk<|.ib 1<|.g<|.r 1<|.it ((k:Int)+1)<|.r 1<|.d<|ae (k+1) _ _ AA (Z.to 0 [] 6) ⟨AB,(by exact Va ‹_› ‹_› ‹_› ‹_› ‹_›)⟩ (by (simp only []; omega))
 refine .d<|.cf<|.x 0 rfl<|.s<|.s<|.g<|.r 1<|.d<|.b 2<|T.Lp (0:Nat) (fun k=>([(2,vP ai),(3,vP aj),(6,vI (k:Int))],[],[],a.names.length - k,(k≤a.names.length)∧(a.files=b.files)∧(a.names.drop k=b.names.drop k↔a.names=b.names))) [] Z ⟨AB,(by exact Nz ‹_› AB AB),(by exact Iff.rfl)⟩ ?_
 rintro k bh w Z ⟨aO,aP,aQ⟩ af
 refine .s<|.s<|.g<|.r 2<|RG.Lb 1 Z<|.r 1<|.bp ((k:Int)< (a.names.length:Int)) (fun ar=>?_) (fun ar=>.d<|.cf<|.x 2 rfl<|.s<|.g<|.r 1<|.d<|T.rt func38 results38 (.bool true) ⟨(AG (by exact Vb ‹_› ‹_› (Nz ‹_› AB AB) ‹_›)),Z.xt⟩)
 refine .d<|.ct<|.sk<|.s<|.b 3<|.s<|T.Gd 10 Z fun w Z=>.r [0]<|GA.Lb 1 1 Z<|.r [2]<|gxd a.names k fun au ab aR=>GA.Ix 3 3 ab Z<|Z.el 3 ab fun bi bj Z=>GA.Lh 4 0 0 Z<|.r [5]<|GA.Lb 6 0 Z<|.r [7]<|gxd b.names k fun ax ac aS=>GA.Ix 8 2 ac Z<|Z.el 2 ac fun bk bm Z=>GA.Lh 9 0 0 Z<|GA.Dn Z fun w Z=>RG.C0 (HQ au ax (Z.a 3) (Z.a 1)) Z fun w Z=>?_
 cases aT:(au==ax)
 ·exact .r 1<|.d<|.ct<|.s<|.g<|.r 1<|.d<|T.rt func38 results38 (.bool false) ⟨(AG (by exact Hn (.inr (.inr (.inl (WL ‹_› ‹_› ‹_› ‹_›)))))),Z.xt⟩
 exact .r 1<|.d<|.cf<|.sk<|.ib 3<|.g<|.r 1<|.it ((k:Int)+1)<|.r 1<|.d<|af (k+1) _ _ AA (Z.to 0 [] 4) ⟨AB,‹_›,(by exact WK ‹_› ‹_› ‹_› ‹_›)⟩ (by (simp only []; omega))
theorem HV (d:Dsk) (steps:List Stp) (cut:Int) (h1:RepS w F a1 n1 c1 d.files) (h2:RepS w F a2 n2 c2 d.list) (h3:RepS w F a3 n3 c3 d.names) (h4:RepS w F a4 n4 c4 steps) (p0:DD d) (p1:Ax d=true→StW d steps):Calls Tryz.prog 60 [.agg #[.slice a1 n1 c1,.slice a2 n2 c2,.slice a3 n3 c3,.int .i64 d.next],.slice a4 n4 c4,.int .i64 cut].toArray w (Am fun rv w'=>VS (fo F w.heap.size) w' (Ak d steps cut:Dsk) rv∧Ext w w'):=by
 refine goT func60 ?_
 obtain ⟨rfl,ee,h1⟩:=h1.tp
 obtain ⟨rfl,ef,h2⟩:=h2.tp
 obtain ⟨rfl,eg,h3⟩:=h3.tp
 obtain ⟨rfl,eh,h4⟩:=h4.tp
 refine .s<|.g<|.np 36 [.slice a1 d.files.length c1,.slice a2 d.list.length c2,.slice a3 d.names.length c3,vI d.next] fun ae eT bC bj aa co=>?_
 replace ⟨h1,h2,h3,h4⟩:=(sn [] bj bC).g4 h1 h2 h3 h4
 have E:=bj
 refine .np 36 [AH,AH,AH,vI 0] fun af dt bd bD ab cp=>?_
 have ej:=Ab bd aa.lt
 have ek:=E.cn bd
 replace ⟨h1,h2,h3,h4,aa,E⟩:=(sn [ae] bD bd).g6 h1 h2 h3 h4 aa E
 refine .d<|.s<|.s<|.g<|.ln aa<|.cl (C5 d h1.ta h2.ta h3.ta (by exact p0) (w:=dt) (F:=all)) ?_
 rintro eU cq ⟨rfl,bE⟩
 replace ⟨h1,h2,h3,h4,aa,ab,E⟩:=(se [af,ae] bE).g7 h1 h2 h3 h4 aa ab E
 cases en:(Ax d)
 ·refine .r 5<|.d<|.ct<|.s<|.g<|.r 1<|.sc [AH,AH,AH,vI 0] ab fun eV bF cr cu=>?_
  replace ⟨h1,h2,h3,h4,aa,E⟩:=(so [af,ae] bF).g6 h1 h2 h3 h4 aa E
  exact .d<|.rb func60 results60 cr ⟨(VS.of (y:=(⟨([]:List Fil),([]:List Int),([]:List (List Tag)),0⟩:Dsk)) ⟨_,rfl,⟨_,_,_,_,_,_,_,_,_,rfl,(RepS.BN _ _ none 0 AE),(RepS.BN _ _ none 0 AE),(RepS.BN _ _ none 0 AE)⟩⟩ (by exact SU (.inl ‹_›))),E⟩
 refine .r 3<|.bp (cut< 0) (fun cw=>?_) (fun cw=>?_)
 ·refine .r 1<|.d<|.ct<|.s<|.g<|.r 1<|.sc [AH,AH,AH,vI 0] ab fun eW bG cx cy=>?_
  replace ⟨h1,h2,h3,h4,aa,E⟩:=(so [af,ae] bG).g6 h1 h2 h3 h4 aa E
  exact .d<|.rb func60 results60 cx ⟨(VS.of (y:=(⟨([]:List Fil),([]:List Int),([]:List (List Tag)),0⟩:Dsk)) ⟨_,rfl,⟨_,_,_,_,_,_,_,_,_,rfl,(RepS.BN _ _ none 0 AE),(RepS.BN _ _ none 0 AE),(RepS.BN _ _ none 0 AE)⟩⟩ (by exact SU (.inr (.inl ‹_›)))),E⟩
 refine .r 1<|.d<|.cf<|.sk<|.s<|.g<|.ln aa<|.cl (CQ d h1.ta h2.ta h3.ta (by exact Qc p0) (by exact Qd p0) (by exact Qe p0) (by exact Qf p0) (by exact Qg p0) (w:=cq) (F:=all)) ?_
 rintro eX bM ⟨⟨aD,cz,cA,cB,eY,cC,cD,eZ,cE,rfl,ax,aW,aJ,aK⟩,bH⟩
 have bg:=al2 ab.lt aa.lt
 have bk:Gb w.heap.size cq.heap.size:=E.size
 have cF:=CD aW aa.lt
 have cG:=CD aW ab.lt
 have cH:Cov nil w aD:=KN aW E.size
 replace ⟨h4,aa,ab,E⟩:=(sz [af,ae] bH aW).g4 h4 aa ab E
 replace ax:Own bM aD 50 (nin (ge w.heap.size) [aD,af,ae]) _ _ _:=Own.Ck (s0:=w.heap.size) (M:=[af,ae]) ax bg bk
 replace ax:=ax.base (G':=fo F w.heap.size) (fun _ _ h=>.inr h)
 have ez:=ax.len
 replace aJ:RepS bM (nin (ge w.heap.size) [aD,af,ae]) _ _ _ _:=RepS.Ck (s0:=w.heap.size) (M:=[af,ae]) aJ bg bk
 replace aJ:=aJ.base (G':=fo F w.heap.size) (fun _ _ h=>.inr h)
 have eA:=aJ.max
 replace aK:RepS bM (nin (ge w.heap.size) [aD,af,ae]) _ _ _ _:=RepS.Ck (s0:=w.heap.size) (M:=[af,ae]) aK bg bk
 replace aK:=aK.base (G':=fo F w.heap.size) (fun _ _ h=>.inr h)
 have eB:=aK.max
 have cI:=aJ.len
 subst cI
 have cJ:=aK.len
 subst cJ
 refine .np 36 [AH,AH,AH,vI 0] fun aj e7 aR bI cK cL=>?_
 have eC:=Ab aR aa.lt
 have eD:=Ab aR ab.lt
 have cM:=Ab aR ax.lt
 have eE:=E.cn aR
 replace ⟨h4,aa,ab,ax,aJ,aK,E⟩:=(sn [aD,af,ae] bI aR).g7 h4 aa ab ax aJ aK E
 refine .sc [vS aD cz cA,.slice cB d.list.length cC,.slice cD d.names.length cE,vI d.next] cK fun bm bJ bK bN=>?_
 replace ⟨h4,aa,ab,ax,aJ,aK,E⟩:=(so [aj,aD,af,ae] bJ).g7 h4 aa ab ax aJ aK E
 refine .d<|.s<|.s<|.g<|.r 5<|RG.sub (t:=99) (lo:=none) (hi:=some (vI (if (steps.length:Int)< cut then (steps.length:Int) else cut))) h4 0 (((if (steps.length:Int)< cut then (steps.length:Int) else cut)).toNat) AA AA (.inl ⟨rfl,rfl⟩) (.inr ⟨_,_,rfl,by omega⟩) (by split <;> omega) (by split <;> omega) fun cN cO aS=>?_
 have du:=aS.len; have dv:=aS.max
 refine .r 2<|.d<|.b 0<|T.loop (X:=Nat × (List Fil) × Nat × Nat × Nat × (List Int) × (Option Addr) × Nat × Nat × (List (List Tag)) × (Option Addr) × Nat × Nat × Int) (0,(d.files:List Fil),aD,cz,cA,(d.list:List Int),cB,d.list.length,cC,(d.names:List (List Tag)),cD,d.names.length,cE,d.next) (fun (k,ac,r_out_0,n_out_0,c_out_0,ag,a_out_1,n_out_1,c_out_1,ah,a_out_2,n_out_2,c_out_2,ai)=>[(6,.pointer (some ⟨af,0,none⟩)),(7,.pointer (some ⟨aj,0,none⟩)),(25,.slice cN (((if (steps.length:Int)< cut then (steps.length:Int) else cut)).toNat - 0) cO),(26,vI (((((if (steps.length:Int)< cut then (steps.length:Int) else cut)).toNat - 0)):Int)),(27,vI (k:Int))]) (fun (k,ac,r_out_0,n_out_0,c_out_0,ag,a_out_1,n_out_1,c_out_1,ah,a_out_2,n_out_2,c_out_2,ai) aH=>Chg (ins [aD,aj]) bm aH∧Own aH r_out_0 50 (nin (fo F w.heap.size) [aj,r_out_0,af,ae]) n_out_0 c_out_0 ac∧OrB r_out_0 aD bm.heap.size∧RepS aH (nin (fo F w.heap.size) [aj,r_out_0,af,ae]) a_out_1 n_out_1 c_out_1 ag∧RepS aH (nin (fo F w.heap.size) [aj,r_out_0,af,ae]) a_out_2 n_out_2 c_out_2 ah∧Box aH aj 36 [vS r_out_0 n_out_0 c_out_0,.slice a_out_1 n_out_1 c_out_1,.slice a_out_2 n_out_2 c_out_2,vI ai]∧(k≤((steps.take (if (steps.length:Int)< cut then (steps.length:Int) else cut).toNat).drop 0).length)∧(ac.length≤d.files.length+k)∧((List.drop k ((steps.take (if (steps.length:Int)< cut then (steps.length:Int) else cut).toNat).drop 0)).foldl doD (⟨ac,ag,ah,ai⟩:Dsk)=toD d steps cut)) (fun (k,ac,r_out_0,n_out_0,c_out_0,ag,a_out_1,n_out_1,c_out_1,ah,a_out_2,n_out_2,c_out_2,ai)=>((steps.take (if (steps.length:Int)< cut then (steps.length:Int) else cut).toNat).drop 0).length - k) AA ⟨AA,AA,AA,AA,AA,trivial⟩ ⟨Chg.refl _ _,ax,Dv,aJ,aK,bK,AB,AB,(by exact VY ‹_›)⟩ ?_
 rintro ⟨k,ac,r_out_0,n_out_0,c_out_0,ag,a_out_1,n_out_1,c_out_1,ah,a_out_2,n_out_2,c_out_2,ai⟩ eF aH ⟨aq,ak,aE,al,am,ao,dw,dx,dy⟩ bi
 have dz:=CZ aE cF aa.lt
 have dA:=CZ aE cG ab.lt
 have bO:=CZ aE (Nb.symm cM) bK.lt
 have dB:=Cm aE cH E.size
 have bP:Cov (ins [aD,aj]) bm aD:=⟨.inl AI⟩
 have dC:Cov (ins [aD,aj]) bm aj:=⟨.inl AJ⟩
 have dD:=Cm aE bP (Nat.le_refl _)
 have bn:Mv [aj,aD,af,ae] [aj,r_out_0,af,ae] bm aH:=Mv.inl aq (all_cons AJ (all_cons AI all_nil)) (all_cons (.inl AI) (all_cons (FA aE AJ) (all_cons (.inl AK) (all_cons (.inl AL) all_nil))))
 replace ⟨aa,ab,aS,E⟩:=(sp bn aq).g4 aa ab aS E
 have dE:=ak.len; have dF:=ak.max
 refine .s<|.g<|.bp ((k:Int)< (((((if (steps.length:Int)< cut then (steps.length:Int) else cut)).toNat - 0)):Int)) (fun bQ=>?_) (fun bQ=>?_)
 ·refine .d<|.s<|.ct<|.sk<|.s<|.b 1<|.s<|.g ?_
  have bR:k< (((if (steps.length:Int)< cut then (steps.length:Int) else cut)).toNat - 0):=AB
  refine .ix k 6 aS bR ?_
  obtain ⟨ar,aX⟩:∃ y,((steps.take (((if (steps.length:Int)< cut then (steps.length:Int) else cut)).toNat)).drop 0)[k]? = some y:=⟨_,AU AB⟩
  have dK:=Be aX; have cP:=AV aX
  obtain ⟨_,⟨cQ,eG,cR,cS,eH,cT,cU,eI,cV,cW,eJ,cX,rfl,aL,aM,aN,aO⟩,bS⟩:=aS.elem k ar aX
  have bT:=aL.len
  subst bT
  have bU:=aM.len
  subst bU
  have bV:=aN.len
  subst bV
  have bW:=aO.len
  subst bW
  refine .lg 0 bS<|.np 137 [vI 0,vI 0,AH,AH,AH,AH] fun ay eK az bo bX bY=>?_
  have dP:=Ab az aa.lt
  have dQ:=Ab az ab.lt
  have dR:=Ab az ak.lt
  have dS:=Ab az ao.lt
  have dT:=E.cn az
  have dU:=aq.cn az
  replace ⟨aa,ab,ak,ao,al,am,aL,aM,aN,aO,E,aq⟩:=(sn [aj,r_out_0,af,ae] bo az).g12 aa ab ak ao al am aL aM aN aO E aq
  refine .sc [vI ar.kind,vI ar.num,.slice cQ ar.part.ids.length cR,.slice cS ar.part.blocks.length cT,.slice cU ar.list.length cV,.slice cW ar.names.length cX] bX fun bq br bt bZ=>?_
  replace ⟨aa,ab,ak,ao,al,am,aL,aM,aN,aO,E,aq⟩:=(so [ay,aj,r_out_0,af,ae] br).g12 aa ab ak ao al am aL aM aN aO E aq
  refine .d<|.g<|.ln bt<|.cl (JL (⟨ac,ag,ah,ai⟩:Dsk) ar (Own.toM ak (all_cons AJ (all_cons AK all_nil))) (RepS.toM al (all_cons AJ (all_cons AK all_nil))) (RepS.toM am (all_cons AJ (all_cons AK all_nil))) ao bO (RepS.toM aL (all_cons AJ (all_cons AK all_nil))) (RepS.toM aM (all_cons AJ (all_cons AK all_nil))) (RepS.toM aN (all_cons AJ (all_cons AK all_nil))) (RepS.toM aO (all_cons AJ (all_cons AK all_nil))) (by have:=p0.nf; have q2:=(p1 ‹_›).len; have q3:=WQ (st:=steps) (c:=cut) ‹_›; show ac.length≤1000; omega) ((p1 ‹_›).sz _ (List.mem_of_mem_take (List.mem_of_mem_drop ‹_›))) ((p1 ‹_›).pt _ (List.mem_of_mem_take (List.mem_of_mem_drop ‹_›))) (w:=bq) (F:=nin (fo F w.heap.size) [ay,aj,r_out_0,af,ae])) ?_
  rintro eL aT ⟨⟨rfl,aA,cY,cZ,c7,eM,c8,c9,eN,da,b0,aF,bh,dV,aP,aQ⟩,aY⟩
  have aU:=al5 bt.lt ao.lt ak.lt ab.lt aa.lt
  have aZ:Gb w.heap.size bq.heap.size:=E.size
  have b6:=TB bh aE aq.size
  have bu:Mv [ay,aj,r_out_0,af,ae] [ay,aj,aA,af,ae] bq aT:=Mv.inl aY (all_cons AJ (all_cons AK all_nil)) (all_cons (.inl AI) (all_cons (.inl AJ) (all_cons (FA bh AK) (all_cons (.inl AL) (all_cons (.inl AM) all_nil)))))
  replace ⟨aa,ab,al,am,E,aq⟩:=(sp bu aY).g6 aa ab al am E aq
  replace aF:Own aT aA 50 (nin (fo F w.heap.size) [ay,aj,aA,af,ae]) _ _ _:=Own.bxM (M2:=[ay,aj,aA,af,ae]) aF aU (fun _ h=>.inr (Nat.le_trans aZ h)) (all_cons (.inr AI) (all_cons (.inl AI) (all_cons (.inl AJ) (all_cons (.inr AL) (all_cons (.inr AM) all_nil)))))
  replace aP:RepS aT (nin (fo F w.heap.size) [ay,aj,aA,af,ae]) _ _ _ _:=RepS.bxM (M2:=[ay,aj,aA,af,ae]) aP aU (fun _ h=>.inr (Nat.le_trans aZ h)) (all_cons (.inr AI) (all_cons (.inl AI) (all_cons (.inl AJ) (all_cons (.inr AL) (all_cons (.inr AM) all_nil)))))
  replace aQ:RepS aT (nin (fo F w.heap.size) [ay,aj,aA,af,ae]) _ _ _ _:=RepS.bxM (M2:=[ay,aj,aA,af,ae]) aQ aU (fun _ h=>.inr (Nat.le_trans aZ h)) (all_cons (.inr AI) (all_cons (.inl AI) (all_cons (.inl AJ) (all_cons (.inr AL) (all_cons (.inr AM) all_nil)))))
  have b7:=aP.len
  subst b7
  have b8:=aQ.len
  subst b8
  refine .d<|.ib 1<|.g<|.it ((k:Int)+1)<|.r 1<|.d ?_
  have b9:Mv [ay,aj,aA,af,ae] [aj,aA,af,ae] aT aT:=Mv.less (all_cons AJ (all_cons AK (all_cons AL (all_cons AM all_nil))))
  replace ⟨aF,al,am,aP,aQ⟩:=(sp b9 (Chg.refl nil _)).g5 aF al am aP aQ
  exact bi (k+1,((doD (⟨ac,ag,ah,ai⟩:Dsk) ar)).files,aA,cY,cZ,((doD (⟨ac,ag,ah,ai⟩:Dsk) ar)).list,c7,(((doD (⟨ac,ag,ah,ai⟩:Dsk) ar)).list).length,c8,((doD (⟨ac,ag,ah,ai⟩:Dsk) ar)).names,c9,(((doD (⟨ac,ag,ah,ai⟩:Dsk) ar)).names).length,da,((doD (⟨ac,ag,ah,ai⟩:Dsk) ar)).next) _ _ ⟨AA,AA,AA,AA,AA,trivial⟩ ⟨aq,aF,b6,aP,aQ,b0,AB,(by exact Nat.le_trans (SS _) (by show ac.length+1≤_; omega)),(by exact T5 ‹_› ‹_›)⟩ (by (simp only []; omega))
 refine .d<|.s<|.cf<|.x 0 rfl<|.s<|.s<|.g<|.ln ao<|.cl (C5 (⟨ac,ag,ah,ai⟩:Dsk) (ak.rep) al.ta am.ta (by exact JJ ‹_› AB (p1 ‹_›)) (w:=aH) (F:=all)) ?_
 rintro eO bL ⟨rfl,bv⟩
 replace ⟨aa,ab,ak,ao,al,am,E⟩:=(se [aj,r_out_0,af,ae] bv).g7 aa ab ak ao al am E
 cases d0:(Ax (⟨ac,ag,ah,ai⟩:Dsk))
 ·refine .r 1<|.d<|.ct<|.s<|.g<|.r 1<|.sc [AH,AH,AH,vI 0] ab fun eP bw cd ce=>?_
  replace ⟨aa,ak,ao,al,am,E⟩:=(so [aj,r_out_0,af,ae] bw).g6 aa ak ao al am E
  exact .d<|.rb func60 results60 cd ⟨(VS.of (y:=(⟨([]:List Fil),([]:List Int),([]:List (List Tag)),0⟩:Dsk)) ⟨_,rfl,⟨_,_,_,_,_,_,_,_,_,rfl,(RepS.BN _ _ none 0 AE),(RepS.BN _ _ none 0 AE),(RepS.BN _ _ none 0 AE)⟩⟩ (by exact T6 ‹_› AB ‹_›)),E⟩
 refine .r 1<|.d<|.cf<|.sk<|.s<|.g<|.ln ao<|.cl (CQ (⟨ac,ag,ah,ai⟩:Dsk) (ak.rep) al.ta am.ta (by exact Qc (JJ ‹_› AB (p1 ‹_›))) (by exact Qd (JJ ‹_› AB (p1 ‹_›))) (by exact Qe (JJ ‹_› AB (p1 ‹_›))) (by exact Qf (JJ ‹_› AB (p1 ‹_›))) (by exact Qg (JJ ‹_› AB (p1 ‹_›))) (w:=bL) (F:=all)) ?_
 rintro eQ bz ⟨⟨aI,db,de,df,eR,dh,dj,eS,dm,rfl,au,aG,aB,aC⟩,bA⟩
 have aV:=al4 ao.lt ak.lt ab.lt aa.lt
 have ba:Gb w.heap.size bL.heap.size:=E.size
 have d3:=CD aG aa.lt
 have d4:=CD aG ab.lt
 have d5:=CD aG ak.lt
 have d6:=CD aG ao.lt
 have cg:=FV aG E.size
 replace ⟨ab,E⟩:=(se [] bA).g2 ab E
 replace au:Own bz aI 50 (nin (ge w.heap.size) [aI,aj,r_out_0,af,ae]) _ _ _:=Own.Ck (s0:=w.heap.size) (M:=[aj,r_out_0,af,ae]) au aV ba
 replace au:=au.base (G':=fo F w.heap.size) (fun _ _ h=>.inr h)
 replace aB:RepS bz (nin (ge w.heap.size) [aI,aj,r_out_0,af,ae]) _ _ _ _:=RepS.Ck (s0:=w.heap.size) (M:=[aj,r_out_0,af,ae]) aB aV ba
 replace aB:=aB.base (G':=fo F w.heap.size) (fun _ _ h=>.inr h)
 have d9:=aB.max
 replace aC:RepS bz (nin (ge w.heap.size) [aI,aj,r_out_0,af,ae]) _ _ _ _:=RepS.Ck (s0:=w.heap.size) (M:=[aj,r_out_0,af,ae]) aC aV ba
 replace aC:=aC.base (G':=fo F w.heap.size) (fun _ _ h=>.inr h)
 have ec:=aC.max
 have ci:=aB.len
 subst ci
 have cj:=aC.len
 subst cj
 refine .sc [vS aI db de,.slice df ((((⟨ac,ag,ah,ai⟩:Dsk)).list).length) dh,.slice dj ((((⟨ac,ag,ah,ai⟩:Dsk)).names).length) dm,vI (((⟨ac,ag,ah,ai⟩:Dsk)).next)] ab fun dp bB ck cm=>?_
 replace ⟨au,aB,aC,E⟩:=(so [aI,aj,r_out_0,af,ae] bB).g4 au aB aC E
 refine .d ?_
 have dq:=au.sl (.inr cg)
 replace ⟨aB,aC⟩:=(sd dp [aI,aj,r_out_0,af,ae] aI).g2 aB aC
 exact .rb func60 results60 ck ⟨(VS.of (y:=((⟨ac,ag,ah,ai⟩:Dsk))) ⟨_,rfl,⟨_,_,_,_,_,_,_,_,_,rfl,dq.w1,aB.w1,aC.w1⟩⟩ (by exact T7 ‹_› AB ‹_› ‹_› ‹_›)),E⟩
end Go.Proofs.YtggnnidleedpaaaGreat
namespace Go.Proofs.YtggnnidleedpaaaGreat
set_option maxRecDepth 100000
set_option maxHeartbeats 4000000
variable {w:World} {F:Nat→Prop} {a1 a2 a3:Option Addr} {n1 c1 n2 c2 n3 c3:Nat}
theorem FH (f:Fil) (d:Dsk) (h1:RepS w F a1 n1 c1 f.part.ids) (h2:RepS w F a2 n2 c2 f.part.blocks){bq_d:Nat}{a3:Option Addr}{c3:Nat}{a4:Option Addr}{c4:Nat}{a5:Option Addr}{c5:Nat}(hb_d:Box w bq_d 36 [.slice a3 d.files.length c3,.slice a4 d.list.length c4,.slice a5 d.names.length c5,.int .i64 d.next]) (h3:RepS w F a3 d.files.length c3 d.files) (h4:RepS w F a4 d.list.length c4 d.list) (h5:RepS w F a5 d.names.length c5 d.names)  : Calls Tryz.prog 142 [.agg #[.int .i64 f.num,.slice a1 n1 c1,.slice a2 n2 c2],.pointer (some ⟨bq_d,0,none⟩)].toArray w (Am fun rv w'=>rv=.bool ((!(d.list.contains f.num)))∧Ext w w'):=by
 cases h1.len
 cases h2.len
 refine goT func142 ?_
 have Z:=((((((St.i0 F w).p h1).p h2).p h3).p h4).p h5).pb' hb_d
 exact .s<|.g<|RG.Np Z fun af w Z=>.r 1<|.d<|.s<|.g<|.r 1<|RG.Lh 0 1 Z<|.r 1<|RG.Lb 0 Z<|RG.C0 (Cb d.list f.num (Z.a 2)) Z fun w Z=>.r 2<|.d<|T.rt func142 results142 (.bool (!(d.list.contains f.num))) ⟨(AG AF),Z.xt⟩
theorem JM (s:List Fil) (d:Dsk) (h1:RepS w F a1 n1 c1 s){bq_d:Nat}{a2:Option Addr}{c2:Nat}{a3:Option Addr}{c3:Nat}{a4:Option Addr}{c4:Nat}(hb_d:Box w bq_d 36 [.slice a2 d.files.length c2,.slice a3 d.list.length c3,.slice a4 d.names.length c4,.int .i64 d.next]) (h2:RepS w F a2 d.files.length c2 d.files) (h3:RepS w F a3 d.list.length c3 d.list) (h4:RepS w F a4 d.names.length c4 d.names)  : Calls Tryz.prog 126 [.slice a1 n1 c1,.func (.func 142) #[] #[.pointer (some ⟨bq_d,0,none⟩)]].toArray w (Am fun rv w'=>rv=.int .i64 (Dc d.list 0 s)∧Ext w w'):=by
 refine goT func126 ?_
 obtain ⟨rfl,au,h1⟩:=h1.tp
 replace h2:=h2.top (s:=w.heap.size)
 replace h3:=h3.top (s:=w.heap.size)
 replace h4:=h4.top (s:=w.heap.size)
 refine .s<|.g<|.r 1<|.d<|.s<|.s<|.g<|.r 3<|.d<|.b 0<|T.loop (X:=Nat) 0 (fun k=>[(0,.slice a1 s.length c1),(1,.func (.func 142) #[] #[.pointer (some ⟨bq_d,0,none⟩)]),(7,vI (s.length:Int)),(8,vI (k:Int))]) (fun k ab=>Chg (ins []) w ab∧(k≤s.length)∧(Dc d.list k (s.drop k)=Dc d.list 0 s)) (fun k=>s.length - k) AA ⟨AA,AA,AA,AA,trivial⟩ ⟨Chg.refl _ _,AD,AD⟩ ?_
 rintro k aG ab ⟨E,aA,aB⟩ ac
 have af:Mv [] [] w ab:=Mv.inl E all_nil all_nil
 replace ⟨h1,h2,h3,h4,hb_d⟩:=(sp af E).g5 h1 h2 h3 h4 hb_d
 have aa:Chg nil w ab:=Chg.LQ (Chg.refl nil w) E all_nil
 refine .s<|.g<|.bp ((k:Int)< (s.length:Int)) (fun ak=>?_) (fun ak=>.d<|.s<|.cf<|.x 0 rfl<|.s<|.g<|.r 1<|.d<|.rt func126 results126 (vI (-1)) ⟨(congrArg (Value.int .i64) (by exact SZ ‹_› AB)),aa⟩)
 refine .d<|.s<|.ct<|.sk<|.s<|.b 1<|.s<|.g<|.r 2<|.d<|.s<|.g<|.r 3 ?_
 have al:k< s.length:=AB
 refine .ix k 3 h1 al ?_
 obtain ⟨ah,ae⟩:∃ y,s[k]? = some y:=⟨_,AU AB⟩
 have aC:=Be ae
 obtain ⟨_,⟨aH,aI,aJ,aK,aL,aM,rfl,ai,aj⟩,am⟩:=h1.elem k ah ae
 have ao:=ai.len
 subst ao
 have aq:=aj.len
 subst aq
 refine .lg 0 am<|.cl (FH ah d ai.ta aj.ta hb_d h2.ta h3.ta h4.ta (w:=ab) (F:=all)) ?_
 rintro aN aO ⟨rfl,ag⟩
 replace ⟨hb_d,aa,E⟩:=(se [] ag).g3 hb_d aa E
 cases aF:(!(d.list.contains ah.num))
 ·exact .d<|.cf<|.sk<|.ib 1<|.g<|.it ((k:Int)+1)<|.r 1<|.d<|ac (k+1) _ _ ⟨AA,AA,AA,AA,trivial⟩ ⟨E,AB,(by exact Vd ‹_› ‹_› ‹_›)⟩ AB
 exact .d<|.ct<|.s<|.g<|.r 2<|.d<|.rt func126 results126 (vI (k:Int)) ⟨(congrArg (Value.int .i64) (by exact SY ‹_› ‹_› ‹_›)),aa⟩
theorem HI (d:Dsk){r n c bq c1 c2 c3:Nat}{a1 a2 a3:Option Addr}{xs0:List Fil}(ho:Own w r 50 F n c xs0) (hb:Box w bq 36 [.slice a1 d.files.length c1,.slice a2 d.list.length c2,.slice a3 d.names.length c3,.int .i64 d.next]) (h1:RepS w (nin all [r]) a1 d.files.length c1 d.files) (h2:RepS w (nin all [r]) a2 d.list.length c2 d.list) (h3:RepS w (nin all [r]) a3 d.names.length c3 d.names) (hne:Nb r bq) (hn:n≤1000000):Calls Tryz.prog 141 [.slice (some ⟨r,0,none⟩) n c,.func (.func 142) #[] #[.pointer (some ⟨bq,0,none⟩)]].toArray w (Am fun rv w'=>(∃ m,rv=.slice (some ⟨r,0,none⟩) m c∧Own w' r 50 F m c (xs0.filter (fun f=>d.list.contains f.num)))∧Chg (one r) w w'):=by
 refine goT func141 ?_
 replace ho:=ho.PV; have hnl:=ho.len; have hle:=ho.le
 refine .s<|.g<|.r 1<|.d<|.s<|.g<|.r 2<|.cl (JM xs0 d (ho.rep) hb h1.ta h2.ta h3.ta (w:=w) (F:=all)) ?_
 rintro bT ay ⟨rfl,am⟩
 replace ⟨ho,h1,h2,h3,hb⟩:=(se [r] am).g5 ho h1 h2 h3 hb
 have aa:Chg (one r) w ay:=Chg.GX (Chg.refl (one r) w) am
 refine .r 1<|.d<|.s<|.s<|.g<|.r 1<|.eq (Dc d.list 0 xs0) (-1) (fun aQ=>.d<|.ct<|.s<|.g<|.r 2<|.d<|.rt func141 results141 (vS r n c) ⟨⟨_,rfl,(Own.NS ho).eqx (T9 ‹_›)⟩,aa⟩) fun aQ=>.d<|.cf<|.sk<|.s<|.s<|.g<|.r 1<|RG.int (Dc d.list 0 xs0+1) AA (by (have q1:=Pk (by assumption:¬ Dc d.list 0 xs0 = -1); have q2:=Pl d.list xs0; omega))<|.r 1<|.d<|.b 0<|T.loop (X:=Int × Int × (List Fil)) (Dc d.list 0 xs0,Dc d.list 0 xs0+1,xs0) (fun (i,j,xs)=>[(0,vS r n c),(1,.func (.func 142) #[] #[.pointer (some ⟨bq,0,none⟩)]),(5,vI i),(6,vI j)]) (fun (i,j,xs) ao=>Chg (ins [r]) ay ao∧Own ao r 50 (nin F [r]) n c xs∧(0≤i)∧(i< j)∧(j≤n)∧(xs.take i.toNat=(xs0.take j.toNat).filter (fun f=>d.list.contains f.num))∧(xs.drop j.toNat=xs0.drop j.toNat)) (fun (i,j,xs)=>n - j.toNat) AA ⟨AA,AA,AA,AA,trivial⟩ ⟨Chg.refl _ _,ho,(by exact Pk ‹_›),AB,(by have:=Pl d.list xs0; omega),(by exact Qh ‹_›),AF⟩ ?_
 rintro ⟨i,j,xs⟩ bU ao ⟨ab,E,bv,bw,bz,bA,bB⟩ ah
 have bC:Cov (ins [r]) ay r:=⟨.inl AI⟩
 have aC:Mv [r] [r] ay ao:=Mv.inl ab (all_cons AI all_nil) (all_cons (.inl AI) all_nil)
 replace ⟨h1,h2,h3,hb,aa⟩:=(sp aC ab).g5 h1 h2 h3 hb aa
 have bD:=E.len
 refine .s<|.s<|.g<|.r 3<|.bp (j< (n:Int)) (fun aR=>?_) (fun aR=>?_)
 ·refine .d<|.ct<|.sk<|.s<|.b 1<|.s<|.g<|.r 2 ?_
  have aS:j.toNat< n:=AB
  refine RG.idx (b:=r) (o:=0) (j.toNat) (len:=n) (i:=j) (sz:=3) AA AB aS rfl ?_
  obtain ⟨ac,aq⟩:∃ y,xs[j.toNat]? = some y:=⟨_,AU AB⟩
  obtain ⟨_,⟨aH,bV,aI,aJ,bW,aK,rfl,ae,af⟩,ar⟩:=E.elem (j.toNat) ac aq
  replace ae:=ae.Bl (fun _ _ h=>h.1)
  replace af:=af.Bl (fun _ _ h=>h.1)
  have aT:=ae.len
  subst aT
  have aU:=af.len
  subst aU
  replace ar:Has ao ⟨r,0+(j.toNat) * Rep.sz Fil,none⟩ [vI ac.num,.slice aH ac.part.ids.length aI,.slice aJ ac.part.blocks.length aK]:=by rw [Nat.zero_add]; exact ar
  refine .lg 0 ar<|.np 50 [vI 0,AH,AH] fun az bX ag aD aV aW=>?_
  have bI:=Ab ag E.lt
  have bJ:=Ab ag hb.lt
  have bK:=aa.cn ag
  have bL:=ab.cn ag
  replace ⟨E,h1,h2,h3,hb,ae,af,aa,ab⟩:=(sn [r] aD ag).g9 E h1 h2 h3 hb ae af aa ab
  refine .sc [vI ac.num,.slice aH ac.part.ids.length aI,.slice aJ ac.part.blocks.length aK] aV fun br aE ak aX=>?_
  replace ⟨E,h1,h2,h3,hb,ae,af,aa,ab⟩:=(so [az,r] aE).g9 E h1 h2 h3 hb ae af aa ab
  refine .d<|.s<|.g<|.r 1<|.ln ak<|.cl (FH ac d ae.ta af.ta hb h1.ta h2.ta h3.ta (w:=br) (F:=all)) ?_
  rintro bY aL ⟨rfl,aF⟩
  replace ⟨E,hb,ae,af,ak,aa,ab⟩:=(se [az,r] aF).g7 E hb ae af ak aa ab
  cases bM:(!(d.list.contains ac.num))
  ·refine .r 1<|.d<|.ct<|.s<|.g<|.r 2<|.ln ak ?_
   have aY:i.toNat< n:=AB
   refine RG.idx (b:=r) (o:=0) (i.toNat) (len:=n) (i:=i) (sz:=3) AA AB aY rfl ?_
   obtain ⟨ai,al⟩:∃ y,xs[i.toNat]? = some y:=⟨_,AU AB⟩
   obtain ⟨_,⟨aZ,bZ,ba,bd,b0,bg,rfl,aA,aB⟩,au⟩:=E.elem (i.toNat) ai al
   replace aA:=aA.Bl (fun _ _ h=>h.1)
   replace aB:=aB.Bl (fun _ _ h=>h.1)
   have bh:=aA.len
   subst bh
   have bi:=aB.len
   subst bi
   replace au:Has aL ⟨r,0+(i.toNat) * Rep.sz Fil,none⟩ [vI ai.num,.slice aZ ai.part.ids.length ba,.slice bd ai.part.blocks.length bg]:=by rw [Nat.zero_add]; exact au
   refine RG.EH (t':=50) (i:=(i.toNat)) (k:=0) (v:=.agg #[vI ac.num,.slice aH ac.part.ids.length aI,.slice aJ ac.part.blocks.length aK]) (cs:=[vI ai.num,.slice aZ ai.part.ids.length ba,.slice bd ai.part.blocks.length bg]) ac E al au AA AA AA ⟨_,_,_,_,_,_,rfl,ae.oi,af.oi⟩ fun aG aj ax aM=>?_
   replace ⟨hb,aa,ab⟩:=(s1 ax).g3 hb aa ab
   refine .d<|.g<|.r 1<|RG.int (i+1) AA AB<|.r 1<|.d<|.ib 1<|.g<|.r 1<|RG.int (j+1) AA AB<|.r 1<|.d ?_
   have aN:Mv [az,r] [r] aG aG:=Mv.less (all_cons AJ all_nil)
   replace aj:=(sp aN (Chg.refl nil _)).g1 aj
   exact ah (i+1,j+1,(xs.set (i.toNat) ac)) _ _ ⟨AA,AA,AA,AA,trivial⟩ ⟨ab,aj,AB,AB,AB,(by exact Sa ‹_› ‹_› ‹_› AB AB AB ‹_›),(by exact Qi ‹_› AB AB AB)⟩ (by (simp only []; omega))
  refine .r 1<|.d<|.cf<|.sk<|.ib 1<|.g<|.r 1<|RG.int (j+1) AA AB<|.r 1<|.d ?_
  have aO:Mv [az,r] [r] aL aL:=Mv.less (all_cons AJ all_nil)
  replace E:=(sp aO (Chg.refl nil _)).g1 E
  exact ah (i,j+1,xs) _ _ ⟨AA,AA,AA,AA,trivial⟩ ⟨ab,E,AB,AB,AB,(by exact Sc ‹_› ‹_› ‹_› AB ‹_›),(by exact Sd ‹_› AB)⟩ (by (simp only []; omega))
 refine .d<|.cf<|.x 0 rfl<|.s<|.g<|.r 2 ?_
 refine RG.HH (t:=33) (r:=r) (o:=0) (len:=n) (cap:=c) (lo:=some (vI i)) (hi:=none) (sz:=3) (i.toNat) n AA AA (.inr ⟨_,_,rfl,by omega⟩) (.inl ⟨rfl,rfl⟩) AB AB AB ?_
 obtain ⟨cs_,hB_,hl_⟩:=Own.VG E; have hz_:Rep.sz Fil=3:=rfl; rw [hz_] at hl_
 obtain ⟨vs_,w5,bt,b7,bj,aP⟩:=SO (P:=Tryz.prog) (T:=33) (ty:=0) (t:=50) (sz:=3) (o:=0+(i.toNat) * 3) (m:=n - i.toNat) (c:=c - i.toNat) AA hB_ AB AB
 rw [Nat.zero_add] at bj
 have hsl_:(BA cs_ ((i.toNat) * 3) vs_).length=c * Rep.sz Fil:=by rw [D3 AB,hz_]; exact hl_
 have bu:=Own.VX E aP hB_ bj hsl_ (i:=i.toNat) AB (fun p hp=>Qb (by rw [hz_] at hp; exact hp) AB)
 refine RG.clear (ats:=[33]) (ty:=0) (args:=[.slice (some ⟨r,0+(i.toNat) * 3,none⟩) (n - i.toNat) (c - i.toNat)]) AA bt ?_
 replace ⟨hb,aa⟩:=(s1 aP).g2 hb aa
 exact .d<|.s<|.g<|.r 2<|RG.HH (t:=33) (r:=r) (o:=0) (len:=n) (cap:=c) (lo:=none) (hi:=some (vI i)) (sz:=3) 0 (i.toNat) AA AA (.inl ⟨rfl,rfl⟩) (.inr ⟨_,_,rfl,by omega⟩) AB AB AB<|.r 1<|.d<|.rt func141 results141 (vS r (i.toNat) c) ⟨⟨_,rfl,(Own.NS bu).eqx (UA ‹_› ‹_› AB AB)⟩,aa⟩
theorem Jy (d:Dsk) (h1:RepS w F a1 n1 c1 d.files) (h2:RepS w F a2 n2 c2 d.list) (h3:RepS w F a3 n3 c3 d.names) (p0:DD d):Calls Tryz.prog 101 [.agg #[.slice a1 n1 c1,.slice a2 n2 c2,.slice a3 n3 c3,.int .i64 d.next]].toArray w (Am fun rv w'=>VS (ge w.heap.size) w' (CF d:Dsk) rv∧Ext w w'):=by
 refine goT func101 ?_
 obtain ⟨rfl,bW,h1⟩:=h1.tp
 obtain ⟨rfl,bX,h2⟩:=h2.tp
 obtain ⟨rfl,bY,h3⟩:=h3.tp
 refine .s<|.g<|.np 36 [.slice a1 d.files.length c1,.slice a2 d.list.length c2,.slice a3 d.names.length c3,vI d.next] fun af cr aK aD aa bn=>?_
 replace ⟨h1,h2,h3⟩:=(sn [] aD aK).g3 h1 h2 h3
 have E:=aD
 refine .np 36 [AH,AH,AH,vI 0] fun ag bL aA aL ab bo=>?_
 have bZ:=Ab aA aa.lt
 have b0:=E.cn aA
 replace ⟨h1,h2,h3,aa,E⟩:=(sn [af] aL aA).g5 h1 h2 h3 aa E
 refine .d<|.s<|.s<|.g<|.ln aa<|.cl (C5 d h1.ta h2.ta h3.ta p0 (w:=bL) (F:=all)) ?_
 rintro cu bq ⟨rfl,aM⟩
 replace ⟨h1,h2,h3,aa,ab,E⟩:=(se [ag,af] aM).g6 h1 h2 h3 aa ab E
 cases b6:(Ax d)
 ·refine .r 1<|.d<|.ct<|.s<|.g<|.r 1<|.sc [AH,AH,AH,vI 0] ab fun cw aN br bt=>?_
  replace ⟨h1,h2,h3,aa,E⟩:=(so [ag,af] aN).g5 h1 h2 h3 aa E
  exact .d<|.rb func101 results101 br ⟨(VS.of (y:=(⟨([]:List Fil),([]:List Int),([]:List (List Tag)),0⟩:Dsk)) ⟨_,rfl,⟨_,_,_,_,_,_,_,_,_,rfl,(RepS.BN _ _ none 0 AE),(RepS.BN _ _ none 0 AE),(RepS.BN _ _ none 0 AE)⟩⟩ (by exact T8 ‹_›)),E⟩
 refine .r 1<|.d<|.cf<|.sk<|.s<|.g<|.ln aa<|.cl (CQ d h1.ta h2.ta h3.ta (by exact Qc p0) (by exact Qd p0) (by exact Qe p0) (by exact Qf p0) (by exact Qg p0) (w:=bq) (F:=all)) ?_
 rintro cx aU ⟨⟨am,bM,bu,bv,cy,bw,bz,cz,bA,rfl,ai,ar,ac,ae⟩,aO⟩
 have aB:=al2 ab.lt aa.lt
 have aE:Gb w.heap.size bq.heap.size:=E.size
 have bB:=CD ar aa.lt
 have b7:=CD ar ab.lt
 have bC:=FV ar E.size
 have b8:Cov nil w am:=KN ar E.size
 replace ⟨h1,h2,h3,aa,ab,E⟩:=(sz [ag,af] aO ar).g6 h1 h2 h3 aa ab E
 replace ai:Own aU am 50 (nin (ge w.heap.size) [am,ag,af]) _ _ _:=Own.Ck (s0:=w.heap.size) (M:=[ag,af]) ai aB aE
 have b9:=ai.max
 have cd:=ai.len
 replace ac:RepS aU (nin (ge w.heap.size) [am,ag,af]) _ _ _ _:=RepS.Ck (s0:=w.heap.size) (M:=[ag,af]) ac aB aE
 have ce:=ac.max
 replace ae:RepS aU (nin (ge w.heap.size) [am,ag,af]) _ _ _ _:=RepS.Ck (s0:=w.heap.size) (M:=[ag,af]) ae aB aE
 have cg:=ae.max
 have bD:=ac.len
 subst bD
 have bE:=ae.len
 subst bE
 refine .np 36 [AH,AH,AH,vI 0] fun aq cA au aP bF bG=>?_
 have ci:=Ab au aa.lt
 have cj:=Ab au ab.lt
 have ck:=Ab au ai.lt
 have cm:=E.cn au
 replace ⟨h1,h2,h3,aa,ab,ai,ac,ae,E⟩:=(sn [am,ag,af] aP au).g9 h1 h2 h3 aa ab ai ac ae E
 refine .sc [vS am bM bu,.slice bv d.list.length bw,.slice bz d.names.length bA,vI d.next] bF fun cB aQ aC bH=>?_
 replace ⟨h1,h2,h3,aa,ab,ai,ac,ae,E⟩:=(so [aq,am,ag,af] aQ).g9 h1 h2 h3 aa ab ai ac ae E
 refine .d<|.s<|.g<|.r 1<|.lb aC<|.r 1 ?_
 refine .cl (HI d ai aa (RepS.CU h1 AJ) (RepS.CU h2 AJ) (RepS.CU h3 AJ) bB (by have:=p0.nf; have:=List.length_filter_le (fun f:Fil=>d.list.contains f.num) d.files; omega)) ?_
 rintro cC cD ⟨⟨aV,rfl,ao⟩,aR⟩
 replace ⟨aa,ab,ac,ae,aC,E⟩:=(so [aq,am,ag,af] aR).g6 aa ab ac ae aC E
 have bN:=ao.len; have bO:=ao.max
 refine .r 1<|.ss 0 (vS am aV bu) aC fun co aF aj aW=>?_
 replace ⟨aa,ab,ao,ac,ae,E⟩:=(so [aq,am,ag,af] aF).g6 aa ab ao ac ae E
 refine .d<|.s<|.g<|.ns 0 50 [] fun ay aS ak aG aX aY=>?_
 have aZ:=Ab ak aa.lt
 have ba:=Ab ak ab.lt
 have bP:=Ab ak ao.lt
 have bd:=Ab ak aj.lt
 have bg:=BV ak E.size
 have bQ:=E.cn ak
 replace ⟨aa,ab,ao,ac,ae,aj,E⟩:=(sn [aq,am,ag,af] aG ak).g7 aa ab ao ac ae aj E
 have az:Own (α:=Fil) aS ay 50 (nin (ge w.heap.size) [ay,aq,am,ag,af]) 0 0 []:=Own.BN aX
 refine .r 1<|.lb aj ?_
 have bI:=ao.sl bC
 replace ⟨ac,ae,az⟩:=(sd aS [ay,aq,am,ag,af] am).g3 ac ae az
 refine RG.O8 (T:=33) (ty:=33) az bI AA AA (fun b _ h=>OE AI h) (by have:=p0.nf; have:=List.length_filter_le (fun f:Fil=>d.list.contains f.num) d.files; omega) fun ax aT cp ah al aH=>?_
 have bR:=Bh al aZ aa.lt
 have bS:=Bh al ba ab.lt
 have bT:=Bh al bd aj.lt
 have bh:=ES al bg E.size
 replace ⟨ab,ac,ae,aj,E⟩:=(sa [ay,aq,ag,af] aH al).g5 ab ac ae aj E
 replace ah:=ah.rn ay
 refine .r 1<|.ss 0 (vS ax (0+aV) aT) aj fun cq aI bi bj=>?_
 replace ⟨ab,ac,ae,ah,E⟩:=(so [ax,aq,ag,af] aI).g5 ab ac ae ah E
 refine .d<|.s<|.g<|.ln bi<|.sc [vS ax (0+aV) aT,.slice bv d.list.length bw,.slice bz d.names.length bA,vI d.next] ab fun bJ aJ bk bm=>?_
 replace ⟨ac,ae,ah,E⟩:=(so [ax,aq,ag,af] aJ).g4 ac ae ah E
 refine .d ?_
 have bK:=ah.sl bh
 replace ⟨ac,ae⟩:=(sd bJ [ax,aq,ag,af] ax).g2 ac ae
 exact .rb func101 results101 bk ⟨(VS.of (y:=(⟨([]++(d.files.filter (fun f=>d.list.contains f.num))),d.list,d.names,d.next⟩:Dsk)) ⟨_,rfl,⟨_,_,_,_,_,_,_,_,_,rfl,bK.w1,ac.w1,ae.w1⟩⟩ (by (rw [KE ‹_›]; rfl))),E⟩
theorem Ic (d:Dsk) (at_:Int) (h1:RepS w F a1 n1 c1 d.files) (h2:RepS w F a2 n2 c2 d.list) (h3:RepS w F a3 n3 c3 d.names) (p0:DD d):Calls Tryz.prog 57 [.agg #[.slice a1 n1 c1,.slice a2 n2 c2,.slice a3 n3 c3,.int .i64 d.next],.int .i64 at_].toArray w (Am fun rv w'=>VL (ge w.heap.size) w' (Ag d at_:List Stp) rv∧Ext w w'):=by
 refine goT func57 ?_
 obtain ⟨rfl,iB,h1⟩:=h1.tp
 obtain ⟨rfl,iC,h2⟩:=h2.tp
 obtain ⟨rfl,iD,h3⟩:=h3.tp
 refine .s<|.g<|.np 36 [.slice a1 d.files.length c1,.slice a2 d.list.length c2,.slice a3 d.names.length c3,vI d.next] fun ai gl dF cd E fE=>?_
 replace ⟨h1,h2,h3⟩:=(sn [] cd dF).g3 h1 h2 h3
 have aa:=cd
 refine .r 1<|.d<|.s<|.s<|.g<|.ln E<|.cl (C5 d h1.ta h2.ta h3.ta p0 (w:=gl) (F:=all)) ?_
 rintro j0 gm ⟨rfl,dG⟩
 replace ⟨h1,h2,h3,E,aa⟩:=(se [ai] dG).g5 h1 h2 h3 E aa
 cases iE:(Ax d)
 ·refine .r 14<|.d<|.ct<|.s<|.g<|.ns 0 137 [] fun ce fF bS dH fG fH=>?_
  have iF:=Ab bS E.lt
  have fI:=BV bS aa.size
  replace ⟨h1,h2,h3,E,aa⟩:=(sn [ai] dH bS).g5 h1 h2 h3 E aa
  have fJ:Own (α:=Stp) fF ce 137 (nin (ge w.heap.size) [ce,ai]) 0 0 []:=Own.BN fG
  refine .r 1<|.d ?_
  have gn:=fJ.sl fI
  replace ⟨h1,h2,h3⟩:=(sd fF [ce,ai] ce).g3 h1 h2 h3
  exact .rt func57 results57 (vS ce 0 0) ⟨(gn.vl (by exact (Ny ‹_›).symm) (fun _ _ h=>h.1)),aa⟩
 refine .r 4<|.lb E<|.r 1<|RG.int ((d.list.length:Int) - 2) AA (by have:=p0.nl; omega)<|.cl (Bv at_ 0 ((d.list.length:Int) - 2) (w:=gm) (F:=all)) ?_
 rintro j1 gp ⟨rfl,dI⟩
 replace ⟨h1,h2,h3,E,aa⟩:=(se [ai] dI).g5 h1 h2 h3 E aa
 cases dJ:(inR at_ 0 ((d.list.length:Int) - 2))
 ·refine .r 6<|.d<|.ct<|.s<|.g<|.ns 0 137 [] fun cg fK bT dK fL fM=>?_
  have iH:=Ab bT E.lt
  have fN:=BV bT aa.size
  replace ⟨h1,h2,h3,E,aa⟩:=(sn [ai] dK bT).g5 h1 h2 h3 E aa
  have fO:Own (α:=Stp) fK cg 137 (nin (ge w.heap.size) [cg,ai]) 0 0 []:=Own.BN fL
  refine .r 1<|.d ?_
  have gq:=fO.sl fN
  replace ⟨h1,h2,h3⟩:=(sd fK [cg,ai] cg).g3 h1 h2 h3
  exact .rt func57 results57 (vS cg 0 0) ⟨(gq.vl (by exact Ud ‹_› (.inl ‹_›)) (fun _ _ h=>h.1)),aa⟩
 have iI:=By dJ
 refine .r 3<|.ln E<|.cl (Fm d h1.ta h2.ta h3.ta (w:=gp) (F:=all)) ?_
 rintro j2 j3 ⟨rfl,dL⟩
 replace ⟨h1,h2,h3,E,aa⟩:=(se [ai] dL).g5 h1 h2 h3 E aa
 cases iJ:(Ej d)
 ·refine .r 1<|.d<|.cf<|.sk<|.s<|.gd nil 12 fun j4 dM=>?_
  replace ⟨h1,h2,h3,E,aa⟩:=(se [ai] dM).g5 h1 h2 h3 E aa
  refine .r [0]<|.lb 1 E id<|.r [2] ?_
  have dN:at_.toNat< d.list.length:=AB
  refine GA.idx (i:=3) (at_.toNat) (len:=d.list.length) (z:=at_) (sz:=1) AA AB dN (h2.addr (Nat.zero_lt_of_lt dN)) ?_
  obtain ⟨bd,cj⟩:∃ y,d.list[at_.toNat]? = some y:=⟨_,AU AB⟩
  have gi:=AV cj
  obtain ⟨_,rfl,fP⟩:=h2.elem (at_.toNat) bd cj
  refine .lh 4 0 fP id<|.r [5]<|.lb 6 E id<|.r [7]<|GA.int (i:=8) (at_+1) AA (by have:=p0.nl; omega) ?_
  have dO:(at_+1).toNat< d.list.length:=AB
  refine GA.idx (i:=9) ((at_+1).toNat) (len:=d.list.length) (z:=at_+1) (sz:=1) AA AB dO (h2.addr (Nat.zero_lt_of_lt dO)) ?_
  obtain ⟨bg,ck⟩:∃ y,d.list[(at_+1).toNat]? = some y:=⟨_,AU AB⟩
  have gj:=AV ck
  obtain ⟨_,rfl,fQ⟩:=h2.elem ((at_+1).toNat) bg ck
  refine .lh 10 0 fQ id<|.r [11]<|.d fun b7 dP=>?_
  replace ⟨h1,h2,h3,E,aa⟩:=(se [ai] dP).g5 h1 h2 h3 E aa
  refine .r 1<|.d<|.s ?_
  replace h1:=h1.Cn
  replace h2:=h2.Cn
  replace h3:=h3.Cn
  have bU:Gb (ai+1) b7.heap.size:=E.lt
  refine .gd (mtb [] b7.heap.size) 22 fun gr cm=>?_
  replace ⟨h1,h2,h3,E,aa⟩:=(se [ai] cm).g5 h1 h2 h3 E aa
  have aA:Chg (mtb [] b7.heap.size) b7 gr:=Chg.GX (Chg.refl (mtb [] b7.heap.size) b7) cm
  refine .r [0]<|.lb 1 E (Cz all_nil bU)<|.ln 2 E (Cz all_nil bU)<|.r [3]<|GA.O7 (i:=4) AA (fun gs co=>Cq d bd (h1.Pw co all_nil) (h2.Pw co all_nil) (h3.Pw co all_nil) (w:=gs) (F:=all)) ?_
  have dQ:(At d bd).toNat< d.files.length:=(by exact (HB (EY (C2 ‹_›).2.2.2 _ ‹_›)).1)
  refine GA.idx (i:=5) ((At d bd).toNat) (len:=d.files.length) (z:=At d bd) (sz:=3) AA (by exact (HB (EY (C2 ‹_›).2.2.2 _ ‹_›)).2) dQ (h1.addr (Nat.zero_lt_of_lt dQ))<|.r [6] ?_
  obtain ⟨aG,bV⟩:∃ y,d.files[(At d bd).toNat]? = some y:=⟨_,AU AB⟩
  have gk:=AV bV
  obtain ⟨_,⟨iN,iO,iP,iQ,iR,iS,rfl,ab,ac⟩,dR⟩:=h1.elem ((At d bd).toNat) aG bV
  have dS:=ab.len
  subst dS
  have dT:=ac.len
  subst dT
  refine .lg 7 1 dR (h1.nS (KM bV) all_nil)<|.r [8]<|.lb 9 E (Cz all_nil bU)<|.ln 10 E (Cz all_nil bU)<|.r [11]<|GA.O7 (i:=12) AA (fun fR bt=>Cq d bg (h1.Pw bt all_nil) (h2.Pw bt all_nil) (h3.Pw bt all_nil) (w:=fR) (F:=all)) ?_
  have cp:(At d bg).toNat< d.files.length:=(by exact (HB (EY (C2 ‹_›).2.2.2 _ ‹_›)).1)
  refine GA.idx (i:=13) ((At d bg).toNat) (len:=d.files.length) (z:=At d bg) (sz:=3) AA (by exact (HB (EY (C2 ‹_›).2.2.2 _ ‹_›)).2) cp (h1.addr (Nat.zero_lt_of_lt cp))<|.r [14] ?_
  obtain ⟨ax,bq⟩:∃ y,d.files[(At d bg).toNat]? = some y:=⟨_,AU AB⟩
  have fS:=AV bq
  obtain ⟨_,⟨iT,iU,iV,iW,iX,iY,rfl,ae,af⟩,dU⟩:=h1.elem ((At d bg).toNat) ax bq
  have dV:=ae.len
  subst dV
  have dW:=af.len
  subst dW
  refine .lg 15 1 dU (h1.nS (KM bq) all_nil)<|.tw 16 20 ?_ ?_
  ·refine .cl (fun cq aU=>EM aG.part ax.part (ab.ta.ext aU) (ac.ta.ext aU) (ae.ta.ext aU) (af.ta.ext aU) (by exact (p0.file _ ‹_›).sz) (by exact (p0.file _ ‹_›).sz) (w:=cq) (F:=all)) ?_
   intro cq aU
   replace ⟨h2,h3,E,ab,ac,ae,af,aa,aA⟩:=(se [ai] aU).g9 h2 h3 E ab ac ae af aa aA
   rintro iZ ja ⟨⟨jb,rfl,⟨_,rfl,⟨cr,jc,cu,cw,jd,cx,rfl,ag,ah⟩⟩⟩,bu⟩
   have bv:=al1 E.lt
   have cy:Gb w.heap.size cq.heap.size:=aa.size
   have hkeep_:=bu
   replace ⟨h2,h3,E,ab,ac,ae,af,aa,aA⟩:=(se [ai] bu).g9 h2 h3 E ab ac ae af aa aA
   refine ⟨Ext.chg hkeep_,?_⟩
   have ag:=ag.fr bv cy
   have gz:=ag.max
   have ah:=ah.fr bv cy
   have gA:=ah.max
   have dX:=ag.len
   subst dX
   have dY:=ah.len
   subst dY
   refine .r [17,18,19]<|.go 20<|.nw (fun b=>.pointer (some ⟨b,0,none⟩)) 48 [AH,AH] fun je cz=>?_
   replace ⟨h2,h3,E,ab,ac,ae,af,ag,ah,aa,aA⟩:=(se [ai] cz).g11 h2 h3 E ab ac ae af ag ah aa aA
   intro ao jf bh cA dZ d0
   have gC:=Ab bh E.lt
   have gD:=aa.cn bh
   have d3:=aA.cn bh
   replace ⟨h2,h3,E,ab,ac,ae,af,ag,ah,aa,aA⟩:=(sn [ai] cA bh).g11 h2 h3 E ab ac ae af ag ah aa aA
   refine .go 21<|GE.Ew (t':=48) (o:=0) (v:=.agg #[.slice cr ((CB aG.part ax.part).1.ids.length) cu,.slice cw ((CB aG.part ax.part).1.blocks.length) cx]) [.slice cr ((CB aG.part ax.part).1.ids.length) cu,.slice cw ((CB aG.part ax.part).1.blocks.length) cx] dZ AA AA AA fun jg cB=>?_
   replace ⟨h2,h3,E,ab,ac,ae,af,ag,ah,aa,aA⟩:=(se [ao,ai] cB).g11 h2 h3 E ab ac ae af ag ah aa aA
   intro jh bw aj d4
   have hkeep_:=Chg.toS bw (Cov.toS d3)
   replace ⟨h2,h3,E,ab,ac,ae,af,ag,ah,aa,aA⟩:=(so [ao,ai] bw).g11 h2 h3 E ab ac ae af ag ah aa aA
   refine ⟨hkeep_,?_⟩
   refine .d fun ji cC=>?_
   replace ⟨h2,h3,E,ab,ac,ae,af,ag,ah,aj,aa,aA⟩:=(se [ao,ai] cC).g12 h2 h3 E ab ac ae af ag ah aj aa aA
   replace h2:=h2.BL
   replace h3:=h3.BL
   replace ab:=ab.BL
   replace ac:=ac.BL
   replace ae:=ae.BL
   replace af:=af.BL
   refine .r 1<|.d<|.s<|.g<|.ns 0 3 [] fun bW fT aV cD d5 d6=>?_
   have d7:=Ab aV E.lt
   have d8:=Ab aV aj.lt
   have d9:=BV aV aa.size
   have ec:=aa.cn aV
   replace ⟨h2,h3,E,ab,ac,ae,af,ag,ah,aj,aa⟩:=(sn [ao,ai] cD aV).g11 h2 h3 E ab ac ae af ag ah aj aa
   have ee:Own (α:=Int) fT bW 3 (nin (ge w.heap.size) [bW,ao,ai]) 0 0 []:=Own.BN d5
   refine .r 1<|.lb E<|.r 1<|RG.sub (t:=34) (lo:=none) (hi:=some (vI at_)) h2 0 (at_.toNat) AA AA (.inl ⟨rfl,rfl⟩) (.inr ⟨_,_,rfl,by omega⟩) (by have:=p0.nl; omega) (by have:=p0.nl; omega) fun jj jk cE=>?_
   have gE:=cE.len; have gF:=cE.max
   refine RG.DO (T:=34) (ty:=34) Aw ee cE AA AA (fun b h e=>h.2 (e▸AI)) (by have:=p0.nl; omega) fun aD fU bX ay aI cF=>?_
   have bz:=Bh aI d7 E.lt
   have ef:=Bh aI d8 aj.lt
   have eg:=ES aI d9 aa.size
   have eh:=GW aI ec aa.size
   replace ⟨h2,h3,E,ab,ac,ae,af,ag,ah,aj,aa⟩:=(sa [bW,ao,ai] cF aI).g11 h2 h3 E ab ac ae af ag ah aj aa
   replace ay:=ay.rn bW
   have gG:=ay.len
   refine .r 1<|.d<|.s ?_
   replace h2:=h2.Cn
   replace h3:=h3.Cn
   replace ab:=ab.Cn
   replace ac:=ac.Cn
   replace ae:=ae.Cn
   replace af:=af.Cn
   replace ag:=ag.Cn
   replace ah:=ah.Cn
   have cG:Gb (ai+1) bX.heap.size:=E.lt
   have ej:Cov (mtb [aD] bX.heap.size) bX aD:=⟨.inl (.inl AI)⟩
   refine .gd (mtb [aD] bX.heap.size) 10 fun jl cH=>?_
   replace ⟨h2,h3,E,ab,ac,ae,af,ag,ah,aj,ay,aa⟩:=(se [aD,ao,ai] cH).g12 h2 h3 E ab ac ae af ag ah aj ay aa
   refine .r [0,1]<|.lb 2 E (Cz (all_cons (Nb.symm bz) all_nil) cG)<|.r [5]<|.lb 6 E (Cz (all_cons (Nb.symm bz) all_nil) cG)<|.r [7]<|GA.int (i:=8) (at_+2) AA (by have:=p0.nl; omega)<|GA.sub (i:=9) (t:=34) (lo:=some (vI (at_+2))) (hi:=none) AA h2 ((at_+2).toNat) d.list.length AA AA (.inr ⟨_,_,rfl,by omega⟩) (.inl ⟨rfl,rfl⟩) (by have:=p0.nl; omega) (by have:=p0.nl; omega) fun jm jn aE=>?_
   have gI:=aE.len
   refine .go 3<|.ns 1 3 [vI d.next] fun jo bA=>?_
   replace ⟨h2,h3,E,ab,ac,ae,af,ag,ah,aj,ay,aE⟩:=(se [aD,ao,ai] bA).g12 h2 h3 E ab ac ae af ag ah aj ay aE
   replace aa:=(se [aD,ao,ai] bA).g1 aa
   intro cI jp bi bB bC ek
   have en:=Ab bi E.lt
   have ey:=Ab bi aj.lt
   have cJ:=Ab bi ay.lt
   have ez:=BV bi aa.size
   replace ⟨h2,h3,E,ab,ac,ae,af,ag,ah,aj,ay,aE⟩:=(se [aD,ao,ai] bB).g12 h2 h3 E ab ac ae af ag ah aj ay aE
   replace aa:=(se [aD,ao,ai] bB).g1 aa
   refine .go 4<|GE.append (T:=34) (ty:=34) (args:=[vS aD (0+(at_.toNat - 0)) fU,vS cI 1 1]) AA fun jq bD=>?_
   replace ⟨h2,h3,E,ab,ac,ae,af,ag,ah,aj,ay,aE⟩:=(se [aD,ao,ai] bD).g12 h2 h3 E ab ac ae af ag ah aj ay aE
   replace ⟨bC,aa⟩:=(se [aD,ao,ai] bD).g2 bC aa
   have b8:nin (ge w.heap.size) [aD,ao,ai] cI∧cI≠aD:=Dw ez (all_cons cJ (all_cons ey (all_cons en all_nil))) cJ
   obtain ⟨bY,jr,jt,cK,aN,aJ,bE,eA⟩:=ay.CW (P:=Tryz.prog) (T:=34) (ty:=34) (y:=d.next) AA bC rfl b8 (by have:=p0.nl; omega)
   refine ⟨_,_,cK,Chg.toS bE (Cov.toS ej),?_⟩
   have eB:=Bh aJ bz E.lt
   have eC:=Bh aJ ef aj.lt
   have eD:=ES aJ eg aa.size
   have gK:=GW aJ eh aa.size
   replace ⟨h2,h3,E,ab,ac,ae,af,ag,ah,aj,aE,aa⟩:=(sa [aD,ao,ai] bE aJ).g12 h2 h3 E ab ac ae af ag ah aj aE aa
   replace aN:=aN.rn aD
   have gL:=aN.len
   refine .d fun ju bF=>?_
   replace ⟨h2,h3,E,ab,ac,ae,af,ag,ah,aj,aN,aE⟩:=(se [bY,ao,ai] bF).g12 h2 h3 E ab ac ae af ag ah aj aN aE
   replace aa:=(se [bY,ao,ai] bF).g1 aa
   replace h2:=h2.BL
   replace h3:=h3.BL
   replace ab:=ab.BL
   replace ac:=ac.BL
   replace ae:=ae.BL
   replace af:=af.BL
   replace ag:=ag.BL
   replace ah:=ah.BL
   replace aE:=aE.BL
   refine RG.DO (T:=34) (ty:=34) Aw aN aE AA AA (fun b h e=>h.2 (e▸AI)) (by have:=p0.nl; omega) fun aM fV jv ar aR cL=>?_
   have gN:=Bh aR eB E.lt
   have gO:=Bh aR eC aj.lt
   have eE:=ES aR eD aa.size
   replace ⟨h2,h3,E,ab,ac,ae,af,ag,ah,aj,aa⟩:=(sa [bY,ao,ai] cL aR).g11 h2 h3 E ab ac ae af ag ah aj aa
   replace ar:=ar.rn bY
   refine .r 1<|.d<|.s<|.gd nil 13 fun jw cM=>?_
   replace ⟨h2,h3,E,ab,ac,ae,af,ag,ah,aj,ar,aa⟩:=(se [aM,ao,ai] cM).g12 h2 h3 E ab ac ae af ag ah aj ar aa
   refine .r [0]<|.lb 1 E id<|.ln 2 aj id<|.r [3,4,5]<|.lb 6 E id<|.r [9,10,11,12]<|.go 7<|.cl (fun cN bG=>Ae d.names (h3.ta.ext bG) (by have:=p0.g.len; omega) (by (intro n hn; have:=(p0.g.sz n hn).1; omega)) (w:=cN) (F:=all)) ?_
   intro cN bG
   replace ⟨h2,h3,E,ab,ac,ae,af,ag,ah,aj,ar,aa⟩:=(se [aM,ao,ai] bG).g12 h2 h3 E ab ac ae af ag ah aj ar aa
   rintro jx jy ⟨⟨bj,fW,fX,rfl,aB,aW⟩,bH⟩
   have cO:=al3 ar.lt aj.lt E.lt
   have eF:Gb w.heap.size cN.heap.size:=aa.size
   have hkeep_:=bH
   have gR:=CD aW E.lt
   have gS:=CD aW aj.lt
   have gT:=CD aW ar.lt
   have eG:=FV aW aa.size
   replace ⟨h2,h3,E,ab,ac,ae,af,ag,ah,aj,ar,aa⟩:=(sz [aM,ao,ai] bH aW).g12 h2 h3 E ab ac ae af ag ah aj ar aa
   refine ⟨Ext.chg hkeep_,?_⟩
   replace aB:=Own.take (s0:=w.heap.size) (M:=[aM,ao,ai]) aB cO eF
   refine .r [8]<|.d fun jz bI=>?_
   replace ⟨h2,h3,E,ab,ac,ae,af,ag,ah,aj,ar,aB⟩:=(se [bj,aM,ao,ai] bI).g12 h2 h3 E ab ac ae af ag ah aj ar aB
   replace aa:=(se [bj,aM,ao,ai] bI).g1 aa
   refine .ns 4 137 [vI 1,vI d.next,.slice cr ((CB aG.part ax.part).1.ids.length) cu,.slice cw ((CB aG.part ax.part).1.blocks.length) cx,AH,AH,vI 2,vI 0,AH,AH,vS aM (0+(at_.toNat - 0)+1+(d.list.length - (at_+2).toNat)) fV,vS bj fW fX,vI 3,vI bd,AH,AH,AH,AH,vI 3,vI bg,AH,AH,AH,AH] fun bk bZ aO cP eH eI=>?_
   have gW:=Ab aO E.lt
   have gX:=Ab aO aj.lt
   have gY:=Ab aO ar.lt
   have gZ:=Ab aO aB.lt
   have eJ:=BV aO aa.size
   replace ⟨h2,h3,E,ab,ac,ae,af,ag,ah,ar,aB,aa⟩:=(sn [bj,aM,ao,ai] cP aO).g12 h2 h3 E ab ac ae af ag ah ar aB aa
   have cQ:=ar.sl eE
   replace ⟨h2,h3,ab,ac,ae,af,ag,ah,aB⟩:=(sd bZ [bk,bj,aM,ao,ai] aM).g9 h2 h3 ab ac ae af ag ah aB
   have fY:=aB.sl eG
   replace ⟨h2,h3,ab,ac,ae,af,ag,ah,cQ⟩:=(sd bZ [bk,bj,ao,ai] bj).g9 h2 h3 ab ac ae af ag ah cQ
   have eK:Own (α:=Stp) bZ bk 137 (nin (ge w.heap.size) [bk,ao,ai]) 4 4 [(⟨1,d.next,(⟨(CB aG.part ax.part).1.ids,(CB aG.part ax.part).1.blocks⟩:Prt),([]:List Int),([]:List (List Tag))⟩:Stp),(⟨2,0,(⟨([]:List Int),([]:List (List Row))⟩:Prt),((([]++((d.list.take (at_.toNat)).drop 0))++[d.next])++((d.list.take d.list.length).drop ((at_+2).toNat))),d.names⟩:Stp),(⟨3,bd,(⟨([]:List Int),([]:List (List Row))⟩:Prt),([]:List Int),([]:List (List Tag))⟩:Stp),(⟨3,bg,(⟨([]:List Int),([]:List (List Row))⟩:Prt),([]:List Int),([]:List (List Tag))⟩:Stp)]:=Own.lit eH rfl AE ⟨⟨_,_,_,_,_,_,_,_,_,_,_,_,rfl,ag.oi,ah.oi,(RepS.BN _ _ none 0 AE),(RepS.BN _ _ none 0 AE)⟩,⟨_,_,_,_,_,_,_,_,_,_,_,_,rfl,(RepS.BN _ _ none 0 AE),(RepS.BN _ _ none 0 AE),cQ.oi,fY.oi⟩,⟨_,_,_,_,_,_,_,_,_,_,_,_,rfl,(RepS.BN _ _ none 0 AE),(RepS.BN _ _ none 0 AE),(RepS.BN _ _ none 0 AE),(RepS.BN _ _ none 0 AE)⟩,⟨_,_,_,_,_,_,_,_,_,_,_,_,rfl,(RepS.BN _ _ none 0 AE),(RepS.BN _ _ none 0 AE),(RepS.BN _ _ none 0 AE),(RepS.BN _ _ none 0 AE)⟩,rfl⟩
   refine .r 1<|.d ?_
   have fZ:=eK.sl eJ
   replace ⟨h2,h3,ab,ac,ae,af⟩:=(sd bZ [bk,ao,ai] bk).g6 h2 h3 ab ac ae af
   exact .rt func57 results57 (vS bk 4 4) ⟨(fZ.vl (by exact SX p0 ‹_› ‹_› ‹_› ‹_› ‹_› ‹_› ‹_›) (fun _ _ h=>h.1)),aa⟩
  refine .nw (fun b=>.pointer (some ⟨b,0,none⟩)) 48 [AH,AH] fun jA cR=>?_
  replace ⟨h2,h3,E,ab,ac,ae,af,aa,aA⟩:=(se [ai] cR).g9 h2 h3 E ab ac ae af aa aA
  intro aq jB bm cS aX eL
  have g0:=Ab bm E.lt
  have hC:=aa.cn bm
  have eM:=aA.cn bm
  replace ⟨h2,h3,E,ab,ac,ae,af,aa⟩:=(sn [ai] cS bm).g8 h2 h3 E ab ac ae af aa
  refine .go 16<|.cl (fun cT aY=>EM aG.part ax.part (ab.ta.ext aY) (ac.ta.ext aY) (ae.ta.ext aY) (af.ta.ext aY) (by exact (p0.file _ ‹_›).sz) (by exact (p0.file _ ‹_›).sz) (w:=cT) (F:=all)) ?_
  intro cT aY
  replace ⟨h2,h3,E,aX,aa⟩:=(se [aq,ai] aY).g5 h2 h3 E aX aa
  rintro jC jD ⟨⟨jE,rfl,⟨_,rfl,⟨cU,jF,cV,cW,jG,cX,rfl,al,am⟩⟩⟩,bJ⟩
  have bK:=al2 aX.lt E.lt
  have cY:Gb w.heap.size cT.heap.size:=aa.size
  have hkeep_:=bJ
  replace ⟨h2,h3,E,aX,aa⟩:=(se [aq,ai] bJ).g5 h2 h3 E aX aa
  refine ⟨Ext.chg hkeep_,?_⟩
  have al:=al.fr bK cY
  have hE:=al.max
  have am:=am.fr bK cY
  have hH:=am.max
  have eN:=al.len
  subst eN
  have eO:=am.len
  subst eO
  refine .r [17,18,19]<|.go 21<|GE.Ew (t':=48) (o:=0) (v:=.agg #[.slice cU ((CB aG.part ax.part).1.ids.length) cV,.slice cW ((CB aG.part ax.part).1.blocks.length) cX]) [.slice cU ((CB aG.part ax.part).1.ids.length) cV,.slice cW ((CB aG.part ax.part).1.blocks.length) cX] aX AA AA AA fun jH cZ=>?_
  replace ⟨h2,h3,E,al,am,aa⟩:=(se [aq,ai] cZ).g6 h2 h3 E al am aa
  intro jI bL ak eP
  have hkeep_:=Chg.toS bL (Cov.toS eM)
  replace ⟨h2,h3,E,al,am,aa⟩:=(so [aq,ai] bL).g6 h2 h3 E al am aa
  refine ⟨hkeep_,?_⟩
  refine .d fun jJ c7=>?_
  replace ⟨h2,h3,E,ak,al,am,aa⟩:=(se [aq,ai] c7).g7 h2 h3 E ak al am aa
  replace h2:=h2.BL
  replace h3:=h3.BL
  refine .r 1<|.d<|.s<|.g<|.ns 0 3 [] fun b0 f0 aZ c8 eQ eR=>?_
  have eS:=Ab aZ E.lt
  have eT:=Ab aZ ak.lt
  have eU:=BV aZ aa.size
  have eV:=aa.cn aZ
  replace ⟨h2,h3,E,ak,al,am,aa⟩:=(sn [aq,ai] c8 aZ).g7 h2 h3 E ak al am aa
  have eW:Own (α:=Int) f0 b0 3 (nin (ge w.heap.size) [b0,aq,ai]) 0 0 []:=Own.BN eQ
  refine .r 1<|.lb E<|.r 1<|RG.sub (t:=34) (lo:=none) (hi:=some (vI at_)) h2 0 (at_.toNat) AA AA (.inl ⟨rfl,rfl⟩) (.inr ⟨_,_,rfl,by omega⟩) (by have:=p0.nl; omega) (by have:=p0.nl; omega) fun jK jL c9=>?_
  have hN:=c9.len; have hO:=c9.max
  refine RG.DO (T:=34) (ty:=34) Aw eW c9 AA AA (fun b h e=>h.2 (e▸AI)) (by have:=p0.nl; omega) fun aH f5 b6 az aK da=>?_
  have bM:=Bh aK eS E.lt
  have eX:=Bh aK eT ak.lt
  have eY:=ES aK eU aa.size
  have eZ:=GW aK eV aa.size
  replace ⟨h2,h3,E,ak,al,am,aa⟩:=(sa [b0,aq,ai] da aK).g7 h2 h3 E ak al am aa
  replace az:=az.rn b0
  have hQ:=az.len
  refine .r 1<|.d<|.s ?_
  replace h2:=h2.Cn
  replace h3:=h3.Cn
  replace al:=al.Cn
  replace am:=am.Cn
  have db:Gb (ai+1) b6.heap.size:=E.lt
  have e7:Cov (mtb [aH] b6.heap.size) b6 aH:=⟨.inl (.inl AI)⟩
  refine .gd (mtb [aH] b6.heap.size) 10 fun jM de=>?_
  replace ⟨h2,h3,E,ak,al,am,az,aa⟩:=(se [aH,aq,ai] de).g8 h2 h3 E ak al am az aa
  refine .r [0,1]<|.lb 2 E (Cz (all_cons (Nb.symm bM) all_nil) db)<|.r [5]<|.lb 6 E (Cz (all_cons (Nb.symm bM) all_nil) db)<|.r [7]<|GA.int (i:=8) (at_+2) AA (by have:=p0.nl; omega)<|GA.sub (i:=9) (t:=34) (lo:=some (vI (at_+2))) (hi:=none) AA h2 ((at_+2).toNat) d.list.length AA AA (.inr ⟨_,_,rfl,by omega⟩) (.inl ⟨rfl,rfl⟩) (by have:=p0.nl; omega) (by have:=p0.nl; omega) fun jN jO aF=>?_
  have hW:=aF.len
  refine .go 3<|.ns 1 3 [vI d.next] fun jP df=>?_
  replace ⟨h3,E,ak,al,am,az,aF,aa⟩:=(se [aH,aq,ai] df).g8 h3 E ak al am az aF aa
  intro dh jQ bn dj bN e8
  have fa:=Ab bn E.lt
  have fb:=Ab bn ak.lt
  have dm:=Ab bn az.lt
  have fd:=BV bn aa.size
  replace ⟨h3,E,ak,al,am,az,aF,aa⟩:=(se [aH,aq,ai] dj).g8 h3 E ak al am az aF aa
  refine .go 4<|GE.append (T:=34) (ty:=34) (args:=[vS aH (0+(at_.toNat - 0)) f5,vS dh 1 1]) AA fun jR dp=>?_
  replace ⟨h3,E,ak,al,am,az,aF,bN,aa⟩:=(se [aH,aq,ai] dp).g9 h3 E ak al am az aF bN aa
  have b9:nin (ge w.heap.size) [aH,aq,ai] dh∧dh≠aH:=Dw fd (all_cons dm (all_cons fb (all_cons fa all_nil))) dm
  obtain ⟨dq,jS,jT,dt,aP,aL,bO,fe⟩:=az.CW (P:=Tryz.prog) (T:=34) (ty:=34) (y:=d.next) AA bN rfl b9 (by have:=p0.nl; omega)
  refine ⟨_,_,dt,Chg.toS bO (Cov.toS e7),?_⟩
  have ff:=Bh aL bM E.lt
  have fg:=Bh aL eX ak.lt
  have fi:=ES aL eY aa.size
  have ic:=GW aL eZ aa.size
  replace ⟨h3,E,ak,al,am,aF,aa⟩:=(sa [aH,aq,ai] bO aL).g7 h3 E ak al am aF aa
  replace aP:=aP.rn aH
  have ie:=aP.len
  refine .d fun jU du=>?_
  replace ⟨h3,E,ak,al,am,aP,aF,aa⟩:=(se [dq,aq,ai] du).g8 h3 E ak al am aP aF aa
  replace h3:=h3.BL
  replace al:=al.BL
  replace am:=am.BL
  replace aF:=aF.BL
  refine RG.DO (T:=34) (ty:=34) Aw aP aF AA AA (fun b h e=>h.2 (e▸AI)) (by have:=p0.nl; omega) fun aS f6 jV au aT dv=>?_
  have ii:=Bh aT ff E.lt
  have ij:=Bh aT fg ak.lt
  have fj:=ES aT fi aa.size
  replace ⟨h3,E,ak,al,am,aa⟩:=(sa [dq,aq,ai] dv aT).g6 h3 E ak al am aa
  replace au:=au.rn dq
  refine .r 1<|.d<|.s<|.gd nil 13 fun jW dw=>?_
  replace ⟨h3,E,ak,al,am,au,aa⟩:=(se [aS,aq,ai] dw).g7 h3 E ak al am au aa
  refine .r [0]<|.lb 1 E id<|.ln 2 ak id<|.r [3,4,5]<|.lb 6 E id<|.r [9,10,11,12]<|.go 7<|.cl (fun dx bP=>Ae d.names (h3.ta.ext bP) (by have:=p0.g.len; omega) (by (intro n hn; have:=(p0.g.sz n hn).1; omega)) (w:=dx) (F:=all)) ?_
  intro dx bP
  replace ⟨E,ak,al,am,au,aa⟩:=(se [aS,aq,ai] bP).g6 E ak al am au aa
  rintro jX jY ⟨⟨bo,f7,f8,rfl,aC,ba⟩,bQ⟩
  have dy:=al3 au.lt ak.lt E.lt
  have fm:Gb w.heap.size dx.heap.size:=aa.size
  have hkeep_:=bQ
  have im:=CD ba E.lt
  have io:=CD ba ak.lt
  have ip:=CD ba au.lt
  have fp:=FV ba aa.size
  replace ⟨E,ak,al,am,au,aa⟩:=(sz [aS,aq,ai] bQ ba).g6 E ak al am au aa
  refine ⟨Ext.chg hkeep_,?_⟩
  replace aC:=Own.take (s0:=w.heap.size) (M:=[aS,aq,ai]) aC dy fm
  refine .r [8]<|.d fun jZ dz=>?_
  replace ⟨E,ak,al,am,au,aC,aa⟩:=(se [bo,aS,aq,ai] dz).g7 E ak al am au aC aa
  refine .ns 4 137 [vI 1,vI d.next,.slice cU ((CB aG.part ax.part).1.ids.length) cV,.slice cW ((CB aG.part ax.part).1.blocks.length) cX,AH,AH,vI 2,vI 0,AH,AH,vS aS (0+(at_.toNat - 0)+1+(d.list.length - (at_+2).toNat)) f6,vS bo f7 f8,vI 3,vI bd,AH,AH,AH,AH,vI 3,vI bg,AH,AH,AH,AH] fun br dA aQ dB fq fu=>?_
  have iu:=Ab aQ E.lt
  have iw:=Ab aQ ak.lt
  have iy:=Ab aQ au.lt
  have iz:=Ab aQ aC.lt
  have fv:=BV aQ aa.size
  replace ⟨E,al,am,au,aC,aa⟩:=(sn [bo,aS,aq,ai] dB aQ).g6 E al am au aC aa
  have dC:=au.sl fj
  replace ⟨al,am,aC⟩:=(sd dA [br,bo,aS,aq,ai] aS).g3 al am aC
  have f9:=aC.sl fp
  replace ⟨al,am,dC⟩:=(sd dA [br,bo,aq,ai] bo).g3 al am dC
  have fw:Own (α:=Stp) dA br 137 (nin (ge w.heap.size) [br,aq,ai]) 4 4 [(⟨1,d.next,(⟨(CB aG.part ax.part).1.ids,(CB aG.part ax.part).1.blocks⟩:Prt),([]:List Int),([]:List (List Tag))⟩:Stp),(⟨2,0,(⟨([]:List Int),([]:List (List Row))⟩:Prt),((([]++((d.list.take (at_.toNat)).drop 0))++[d.next])++((d.list.take d.list.length).drop ((at_+2).toNat))),d.names⟩:Stp),(⟨3,bd,(⟨([]:List Int),([]:List (List Row))⟩:Prt),([]:List Int),([]:List (List Tag))⟩:Stp),(⟨3,bg,(⟨([]:List Int),([]:List (List Row))⟩:Prt),([]:List Int),([]:List (List Tag))⟩:Stp)]:=Own.lit fq rfl AE ⟨⟨_,_,_,_,_,_,_,_,_,_,_,_,rfl,al.oi,am.oi,(RepS.BN _ _ none 0 AE),(RepS.BN _ _ none 0 AE)⟩,⟨_,_,_,_,_,_,_,_,_,_,_,_,rfl,(RepS.BN _ _ none 0 AE),(RepS.BN _ _ none 0 AE),dC.oi,f9.oi⟩,⟨_,_,_,_,_,_,_,_,_,_,_,_,rfl,(RepS.BN _ _ none 0 AE),(RepS.BN _ _ none 0 AE),(RepS.BN _ _ none 0 AE),(RepS.BN _ _ none 0 AE)⟩,⟨_,_,_,_,_,_,_,_,_,_,_,_,rfl,(RepS.BN _ _ none 0 AE),(RepS.BN _ _ none 0 AE),(RepS.BN _ _ none 0 AE),(RepS.BN _ _ none 0 AE)⟩,rfl⟩
  refine .r 1<|.d ?_
  have gb:=fw.sl fv
  exact .rt func57 results57 (vS br 4 4) ⟨(gb.vl (by exact SX p0 ‹_› ‹_› ‹_› ‹_› ‹_› ‹_› ‹_›) (fun _ _ h=>h.1)),aa⟩
 refine .r 1<|.d<|.ct<|.s<|.g<|.ns 0 137 [] fun dD gf bR dE fA fB=>?_
 have iA:=Ab bR E.lt
 have fC:=BV bR aa.size
 replace aa:=(se [] dE).g1 aa
 have fD:Own (α:=Stp) gf dD 137 (nin (ge w.heap.size) [dD,ai]) 0 0 []:=Own.BN fA
 refine .r 1<|.d ?_
 have gh:=fD.sl fC
 exact .rt func57 results57 (vS dD 0 0) ⟨(gh.vl (by exact Ud ‹_› (.inr ‹_›)) (fun _ _ h=>h.1)),aa⟩
end Go.Proofs.YtggnnidleedpaaaGreat
namespace Go.Proofs.YtggnnidleedpaaaGreat
theorem Pm:∀ (fs:List Fil) (n:Int) (i:Nat),0≤DB n i fs→∃ f,fs[(DB n i fs).toNat - i]? = some f∧f.num=n∧i≤(DB n i fs).toNat:=by
 intro fs
 induction fs with
 | nil=>intro n i h; exact absurd h (by unfold DB; omega)
 | cons x xs ih =>
   intro n i h
   unfold DB at h ⊢
   split at h
   ·next e =>
    rw [if_pos e]
    exact ⟨x,by simp,by simpa using e,by simp⟩
   ·next e =>
    rw [if_neg e]
    obtain ⟨f,h1,h2,h3⟩:=ih n (i+1) h
    refine ⟨f,?_,h2,by omega⟩
    rw [show (DB n (i+1) xs).toNat - i=((DB n (i+1) xs).toNat - (i+1))+1 by omega,List.getElem?_cons_succ]
    exact h1
end Go.Proofs.YtggnnidleedpaaaGreat
namespace Go.Proofs.YtggnnidleedpaaaGreat
theorem L2 (nx:Int):∀ (fs:List Fil) (o:Option Int),Db nx o fs=true↔(∀ f∈fs,1≤f.num∧f.num≤nx - 1∧Au f.part=true)∧fs.Pairwise (fun a b=>a.num< b.num)∧∀ q,o=some q→∀ f∈fs,q< f.num:=by
 intro fs
 induction fs with
 | nil=>intro o; simp [Db]
 | cons x xs ih =>
   intro o
   unfold Db
   simp only [AW]
   rw [ih]
   constructor
   ·rintro ⟨⟨⟨h1,h2⟩,h3⟩,h4,h5,h6⟩
    have h1:=By h1
    refine ⟨fun f hf=>?_,List.pairwise_cons.2 ⟨fun f hf=>h6 _ rfl f hf,h5⟩,fun q hq f hf=>?_⟩
    ·rcases List.mem_cons.1 hf with rfl | hf
     ·exact ⟨h1.1,h1.2,h3⟩
     ·exact h4 f hf
    ·subst hq
     have hx:q< x.num:=by simpa using h2
     rcases List.mem_cons.1 hf with rfl | hf
     ·exact hx
     ·have:=h6 _ rfl f hf; omega
   ·rintro ⟨h1,h2,h3⟩
    obtain ⟨h4,h5⟩:=List.pairwise_cons.1 h2
    have hx:=h1 x AD
    refine ⟨⟨⟨?_,?_⟩,hx.2.2⟩,fun f hf=>h1 f (by simp [hf]),h5,fun q hq f hf=>?_⟩
    ·unfold inR; rw [decide_eq_true hx.1,decide_eq_true hx.2.1]; rfl
    ·cases o with
     | none=>rfl
     | some q=>simpa using h3 q rfl x AD
    ·cases hq
     exact h4 f hf
theorem Pn:∀ (fs:List Fil) (i:Nat) (f:Fil),fs.Pairwise (fun a b=>a.num< b.num)→f∈fs→∃ k:Nat,DB f.num i fs=((i+k:Nat):Int)∧fs[k]? = some f:=by
 intro fs
 induction fs with
 | nil=>intro i f _ hf; cases hf
 | cons x xs ih =>
   intro i f hp hf
   obtain ⟨h1,h2⟩:=List.pairwise_cons.1 hp
   unfold DB
   rcases List.mem_cons.1 hf with rfl | hf
   ·exact ⟨0,by simp,rfl⟩
   ·have:=h1 f hf
    rw [if_neg (by simp; omega)]
    obtain ⟨k,g1,g2⟩:=ih (i+1) f h2 hf
    exact ⟨k+1,by rw [g1]; omega,by rw [List.getElem?_cons_succ]; exact g2⟩
theorem EZ {d:Dsk}(hp:d.files.Pairwise (fun a b=>a.num< b.num)){f:Fil}(hf:f∈d.files):Av d f.num=f.part∧0≤At d f.num:=by
 obtain ⟨k,h1,h2⟩:=Pn d.files 0 f hp hf
 have h3:At d f.num=(k:Int):=by unfold At; rw [h1]; simp
 refine ⟨Er (by rw [h3]; exact h2),by omega⟩
structure DskV (d:Dsk):Prop where
 next:1≤d.next∧d.next≤999
 nf:d.files.length≤20
 nl:d.list.length≤6
 file:∀ f∈d.files,1≤f.num∧f.num≤d.next - 1∧Au f.part=true
 asc:d.files.Pairwise (fun a b=>a.num< b.num)
 at_:∀ n∈d.list,∃ f∈d.files,f.num=n
 nd:d.list.Nodup
 nm:nmB d.names=true
 so:Ac (Al d)=true
theorem Cs {d:Dsk}:Ax d=true↔DskV d:=by
 unfold Ax
 simp only [AW,decide_eq_true_eq]
 constructor
 ·rintro ⟨⟨⟨⟨⟨h1,h2⟩,h3⟩,h4⟩,h5⟩,h6,h7⟩
  obtain ⟨g1,g2,_⟩:=(L2 _ _ _).1 h4
  unfold Du at h5
  simp only [AW,decide_eq_true_eq,List.all_eq_true] at h5
  exact ⟨By h1,h2,h3,g1,g2,fun n hn=>(E4 d n).1 (h5.1 n hn),h5.2,h6,h7⟩
 ·rintro ⟨h1,h2,h3,h4,h5,h6,h7,h8,h9⟩
  refine ⟨⟨⟨⟨⟨?_,h2⟩,h3⟩,(L2 _ _ _).2 ⟨h4,h5,by simp⟩⟩,?_⟩,h8,h9⟩
  ·unfold inR; rw [decide_eq_true h1.1,decide_eq_true h1.2]; rfl
  ·unfold Du
   simp only [AW,decide_eq_true_eq,List.all_eq_true]
   exact ⟨fun n hn=>(E4 d n).2 (h6 n hn),h7⟩
theorem DskV.lt {d:Dsk}(h:DskV d):∀ n∈d.list,1≤n∧n< d.next:=fun n hn=>by
 obtain ⟨f,hf,rfl⟩:=h.at_ n hn
 have:=h.file f hf
 omega
theorem UB {d e:Dsk}(hn:e.names=d.names) (hl:e.list=d.list) (hp:∀ n∈d.list,Av e n=Av d n):Al e=Al d:=by
 unfold Al
 rw [hn,hl,List.map_congr_left hp]
theorem DskV.files {d:Dsk}(h:DskV d){fs:List Fil}{nx:Int}(h1:1≤nx∧nx≤999) (h2:fs.length≤20) (h3:∀ f∈fs,1≤f.num∧f.num≤nx - 1∧Au f.part=true) (h4:fs.Pairwise (fun a b=>a.num< b.num)) (h5:∀ f∈d.files,f.num∈d.list→f∈fs) :
 DskV ⟨fs,d.list,d.names,nx⟩∧Al ⟨fs,d.list,d.names,nx⟩=Al d:=by
 have e:Al ⟨fs,d.list,d.names,nx⟩=Al d:=UB rfl rfl (fun n hn=>by
  obtain ⟨f,hf,rfl⟩:=h.at_ n hn
  rw [(EZ h.asc hf).1,(EZ (d:=⟨fs,d.list,d.names,nx⟩) h4 (h5 f hf hn)).1])
 refine ⟨⟨h1,h2,h.nl,h3,h4,fun n hn=>?_,h.nd,h.nm,by rw [e]; exact h.so⟩,e⟩
 obtain ⟨f,hf,rfl⟩:=h.at_ n hn
 exact ⟨f,h5 f hf hn,rfl⟩
theorem DskV.add {d:Dsk}(h:DskV d){p:Prt}(hp:Au p=true) (h1:d.next< 999) (h2:d.files.length< 20):DskV ⟨d.files++[⟨d.next,p⟩],d.list,d.names,d.next+1⟩∧Al ⟨d.files++[⟨d.next,p⟩],d.list,d.names,d.next+1⟩=Al d:=by
 have hn:=h.next
 refine h.files AB (by simp; omega) (fun f hf=>?_) ?_ (fun f hf _=>List.mem_append.2 (.inl hf))
 ·rcases List.mem_append.1 hf with hf | hf
  ·have:=h.file f hf
   exact ⟨this.1,by omega,this.2.2⟩
  ·simp at hf
   subst hf
   exact ⟨hn.1,by simp,hp⟩
 ·rw [List.pairwise_append]
  refine ⟨h.asc,by simp,fun a ha b hb=>?_⟩
  simp at hb
  subst hb
  have:=h.file a ha
  show a.num< d.next
  omega
theorem DskV.gone {d:Dsk}(h:DskV d) (n:Int):DskV ⟨Ds d n,d.list,d.names,d.next⟩∧Al ⟨Ds d n,d.list,d.names,d.next⟩=Al d:=by
 refine h.files h.next (Nat.le_trans Kw h.nf) (fun f hf=>h.file f (Gw f hf)) ?_ (fun f hf hm=>?_)
 ·refine h.asc.sublist ?_
  unfold Ds
  split
  ·have e:=List.take_append_drop (At d n).toNat d.files
   conv=>rhs; rw [← e]
   refine List.Sublist.append (List.Sublist.refl _) ?_
   rw [← List.drop_drop]
   exact List.drop_sublist 1 _
  ·exact List.Sublist.refl _
 ·unfold Ds
  split
  ·rename_i hc
   obtain ⟨k,g1,g2⟩:=Pn d.files 0 f h.asc hf
   have g3:At d f.num=(k:Int):=by unfold At; rw [g1]; simp
   by_cases hk:k< (At d n).toNat
   ·refine List.mem_append.2 (.inl (List.mem_iff_getElem?.2 ⟨k,?_⟩))
    rw [List.getElem?_take,if_pos hk]
    exact g2
   ·by_cases hk2:k=(At d n).toNat
    ·obtain ⟨y,hy1,hy2,_⟩:=(fun hh=>Pm d.files n 0 hh) hc.1
     have hy1':d.files[(At d n).toNat]? = some y:=hy1
     rw [← hk2,g2] at hy1'
     cases hy1'
     rw [hy2] at hm
     have:=hc.2
     rw [List.contains_iff_mem.2 hm] at this
     cases this
    ·refine List.mem_append.2 (.inr (List.mem_iff_getElem?.2 ⟨k - ((At d n).toNat+1),?_⟩))
     rw [List.getElem?_drop,show (At d n).toNat+1+(k - ((At d n).toNat+1))=k by omega]
     exact g2
  ·exact hf
theorem DskV.tidy {d:Dsk}(h:DskV d):DskV (BK d)∧Al (BK d)=Al d:=by
 refine h.files h.next (Nat.le_trans (List.length_filter_le _ _) h.nf) (fun f hf=>h.file f (List.mem_filter.1 hf).1) (h.asc.sublist List.filter_sublist) (fun f hf hm=>List.mem_filter.2 ⟨hf,?_⟩)
 simpa using hm
theorem DskV.Sf {d:Dsk}(h:DskV d):(BK d).files.length=d.list.length:=by
 have h1:((BK d).files.map Fil.num).Nodup:=by
  unfold List.Nodup
  rw [List.pairwise_map]
  exact (h.asc.sublist List.filter_sublist).imp (fun hab=>by omega)
 have h2:∀ n∈(BK d).files.map Fil.num,n∈d.list:=fun n hn=>by
  obtain ⟨f,hf,rfl⟩:=List.mem_map.1 hn
  have:=(List.mem_filter.1 hf).2
  simpa using this
 have h3:∀ n∈d.list,n∈(BK d).files.map Fil.num:=fun n hn=>by
  obtain ⟨f,hf,rfl⟩:=h.at_ n hn
  exact List.mem_map.2 ⟨f,List.mem_filter.2 ⟨hf,by simpa using hn⟩,rfl⟩
 have a:=I7 _ _ h1 h2
 have b:=I7 _ _ h.nd h3
 rw [List.length_map] at a b
 omega
theorem L3 {d:Dsk}{st:List Stp}{c:Int}(h:c≤0):toD d st c=d:=by
 unfold toD
 rw [show c.toNat=0 by omega]
 rfl
theorem C3 {d:Dsk}{x:Stp}{st:List Stp}{c:Int}(h:1≤c):toD d (x::st) c=toD (doD d x) st (c - 1):=by
 unfold toD
 rw [show c.toNat=(c - 1).toNat+1 by omega]
 rfl
theorem KF {d:Dsk}{c:Int}:toD d [] c=d:=by
 unfold toD
 simp
theorem Sh {s:Sto}(h:s.idx=idxOf s.idx.names){ps:List Prt}{m:List Smp}:(⟨idxOf s.idx.names,ps,m⟩:Sto)=⟨s.idx,ps,m⟩:=by rw [← h]
structure FlD (d:Dsk) (s:Sto):Prop where
 v:DskV d
 sd:SD s
 k:Ac s=true
 nb:nmB s.idx.names=true
 p:s.parts=d.list.map (Av d)
 m:s.mem≠[]
 l:d.list.length< 6
 n:d.next< 999
 f:d.files.length< 20
theorem Ow {s:Sto}(h:SD s) (hk:Ac s=true) (h1:s.mem≠[]) (h2:s.parts.length< 6):Au (Ai s.mem)=true:=by
 have h5:=IJ h hk h1 h2
 unfold Ac at h5
 simp only [AW,decide_eq_true_eq,List.all_eq_true] at h5
 exact Et (h5.1.1.2 (Ai s.mem) (by unfold Ci; simp))
theorem FlD.to {d:Dsk}{s:Sto}(q:FlD d s) (c:Int):DskV (toD d (As d s) c)∧Al (toD d (As d s) c)=if c< 2 then Al d else Ci s:=by
 have hpl:s.parts.length< 6:=by rw [q.p,List.length_map]; exact q.l
 have e:=DJ (d:=d) (s:=s) (by have:=q.m; rw [← List.length_pos_iff] at this; omega) (by have:=q.l; omega) (by have:=q.n; omega) (by have:=q.f; omega)
 rw [e]
 by_cases h0:c≤0
 ·rw [L3 h0,if_pos AB]
  exact ⟨q.v,rfl⟩
 ·have hp:=Ow q.sd q.k q.m hpl
  obtain ⟨v1,o1⟩:=q.v.add hp q.n q.f
  rw [C3 AB,E2 rfl]
  by_cases h1:c≤1
  ·rw [L3 AB,if_pos AB]
   exact ⟨v1,o1⟩
  ·rw [C3 AB,Gg rfl,KF,if_neg AB]
   have hnew:Av ⟨d.files++[⟨d.next,Ai s.mem⟩],d.list++[d.next],s.idx.names,d.next+1⟩ d.next=Ai s.mem:=(EZ (d:=⟨d.files++[⟨d.next,Ai s.mem⟩],d.list++[d.next],s.idx.names,d.next+1⟩) v1.asc (f:=⟨d.next,Ai s.mem⟩) AD).1
   have hold:∀ n∈d.list,Av ⟨d.files++[⟨d.next,Ai s.mem⟩],d.list++[d.next],s.idx.names,d.next+1⟩ n=Av d n:=fun n hn=>by
    obtain ⟨f,hf,rfl⟩:=q.v.at_ n hn
    rw [(EZ q.v.asc hf).1,(EZ (d:=⟨d.files++[⟨d.next,Ai s.mem⟩],d.list++[d.next],s.idx.names,d.next+1⟩) v1.asc (f:=f) (List.mem_append.2 (.inl hf))).1]
   have eo:Al ⟨d.files++[⟨d.next,Ai s.mem⟩],d.list++[d.next],s.idx.names,d.next+1⟩=Ci s:=by
    unfold Al Ci
    rw [Sh q.sd.idx]
    simp only [List.map_append,List.map_cons,List.map_nil]
    rw [hnew,List.map_congr_left hold,q.p]
   refine ⟨⟨v1.next,v1.nf,by have:=q.l; simp; omega,v1.file,v1.asc,fun n hn=>?_,?_,q.nb,by rw [eo]; exact IJ q.sd q.k q.m hpl⟩,eo⟩
   ·rcases List.mem_append.1 hn with hn | hn
    ·exact v1.at_ n hn
    ·simp at hn
     exact ⟨⟨d.next,Ai s.mem⟩,by simp,hn.symm⟩
   ·rw [List.nodup_append]
    refine ⟨q.v.nd,by simp,fun a ha b hb=>?_⟩
    simp at hb
    subst hb
    have:=q.v.lt a ha
    omega
theorem FlD.of {d:Dsk}{s:Sto}(hs:SD s) (h:¬ ((Af d s).length:Int)=0):FlD d s∧Af d s=As d s:=by
 cases hf:CY d s with
 | false=>rw [Nw hf] at h; exact absurd rfl h
 | true =>
   have q:=DA hf
   have e:=E7 hf
   by_cases hc:s.mem.length=0∨d.list.length≥6∨d.next≥999∨d.files.length≥20
   ·have e2:As d s=[]:=by unfold As; rw [if_pos hc]
    rw [e,e2] at h; exact absurd rfl h
   ·exact ⟨⟨Cs.1 q.dk,hs,q.sk,q.nm,q.p,fun e2=>hc (.inl (by rw [e2]; rfl)),by omega,by omega,by omega⟩,e⟩
structure MgD (d:Dsk) (a:Nat) (x y:Int):Prop where
 v:DskV d
 dd:DD d
 l:a+2≤d.list.length
 hx:d.list[a]? = some x
 hy:d.list[a+1]? = some y
 n:d.next< 999
 f:d.files.length< 20
 e:Aj d a=[⟨1,d.next,BC (Av d x) (Av d y),[],[]⟩,⟨2,0,⟨[],[]⟩,d.list.take a++[d.next]++d.list.drop (a+2),d.names⟩,⟨3,x,⟨[],[]⟩,[],[]⟩,⟨3,y,⟨[],[]⟩,[],[]⟩]
theorem MgD.of {d:Dsk}{i:Int}(hd:DD d) (h:¬ ((Ag d i).length:Int)=0):∃ x y,MgD d i.toNat x y∧Ag d i=Aj d i.toNat∧i=(i.toNat:Int):=by
 cases hk:Ax d with
 | false=>rw [Ny hk] at h; exact absurd rfl h
 | true =>
   rw [EB hk] at h ⊢
   by_cases hc:(!(inR i 0 ((d.list.length:Int) - 2)) || decide (d.next≥999) || decide (d.files.length≥20))=true
   ·unfold Aj at h
    rw [if_pos hc] at h
    exact absurd rfl h
   ·have hc2:=hc
    simp only [Bool.or_eq_true,not_or,Bool.not_eq_true,Bool.not_eq_false',decide_eq_true_eq] at hc2
    obtain ⟨⟨h1,h3⟩,h4⟩:=hc2
    have h0:=By (by simpa using h1)
    have ei:i=(i.toNat:Int):=by omega
    have hx:=AU (l:=d.list) (i:=i.toNat) AB
    have hy:=AU (l:=d.list) (i:=i.toNat+1) AB
    refine ⟨_,_,⟨Cs.1 hk,hd,by omega,hx,hy,by omega,by omega,?_⟩,by rw [← ei],ei⟩
    rw [← ei]
    unfold Aj
    rw [if_neg hc]
    simp only [List.getD_eq_getElem?_getD,hx,hy,Option.getD_some]
section
variable {d:Dsk} {a:Nat} {x y:Int}
theorem MgD.list (q:MgD d a x y):d.list=d.list.take a++x::y::d.list.drop (a+2):=by
 have e:=List.take_append_drop a d.list
 rw [Be q.hx,Be q.hy] at e
 exact e.symm
theorem MgD.open (q:MgD d a x y):(Al d).parts[a]? = some (Av d x)∧(Al d).parts[a+1]? = some (Av d y)∧(Al d).parts.length=d.list.length:=by
 unfold Al
 simp only [List.getElem?_map,q.hx,q.hy,List.length_map]
 exact ⟨rfl,rfl,trivial⟩
theorem MgD.sd (q:MgD d a x y):SD (Al d):=q.dd.sd (Cs.2 q.v)
theorem MgD.part (q:MgD d a x y):Au (BC (Av d x) (Av d y))=true:=by
 have hl:a+2≤(Al d).parts.length:=by rw [q.open.2.2]; exact q.l
 have h:=Fk q.sd q.v.so hl
 obtain ⟨u,w,hu,hw,e⟩:=Eu hl
 rw [q.open.1] at hu
 rw [q.open.2.1] at hw
 cases hu
 cases hw
 unfold Ac at h
 simp only [AW,decide_eq_true_eq,List.all_eq_true] at h
 exact Et (h.1.1.2 _ (by rw [e]; simp))
theorem MgD.mem (q:MgD d a x y):∀ n∈d.list.take a++[d.next]++d.list.drop (a+2),n∈d.list∧n≠x∧n≠y∨n=d.next:=fun n hn=>by
 have hnd:=q.v.nd
 rw [q.list] at hnd
 rw [List.nodup_append,List.nodup_cons,List.nodup_cons] at hnd
 obtain ⟨n1,⟨n2,n3,n4⟩,n5⟩:=hnd
 rcases List.mem_append.1 hn with hn | hn
 ·rcases List.mem_append.1 hn with hn | hn
  ·exact .inl ⟨List.mem_of_mem_take hn,n5 n hn x AD,n5 n hn y AD⟩
  ·simp at hn; exact .inr hn
 ·exact .inl ⟨List.mem_of_mem_drop hn,fun e=>n2 (by rw [← e]; simp [hn]),fun e=>n3 (by rw [← e]; exact hn)⟩
def mgD (d:Dsk) (a:Nat) (x y:Int):Dsk:=⟨d.files++[⟨d.next,BC (Av d x) (Av d y)⟩],d.list.take a++[d.next]++d.list.drop (a+2),d.names,d.next+1⟩
theorem MgD.v2 (q:MgD d a x y):DskV (mgD d a x y)∧Al (mgD d a x y)=CI (Al d) a:=by
 obtain ⟨v1,o1⟩:=q.v.add q.part q.n q.f
 have hnew:Av (mgD d a x y) d.next=BC (Av d x) (Av d y):=(EZ (d:=mgD d a x y) v1.asc (f:=⟨d.next,BC (Av d x) (Av d y)⟩) (by unfold mgD; simp)).1
 have hold:∀ n∈d.list,Av (mgD d a x y) n=Av d n:=fun n hn=>by
  obtain ⟨f,hf,rfl⟩:=q.v.at_ n hn
  rw [(EZ q.v.asc hf).1,(EZ (d:=mgD d a x y) v1.asc (f:=f) (List.mem_append.2 (.inl hf))).1]
 have hl:a+2≤(Al d).parts.length:=by rw [q.open.2.2]; exact q.l
 have eo:Al (mgD d a x y)=CI (Al d) a:=by
  obtain ⟨u,w,hu,hw,e⟩:=Eu hl
  rw [q.open.1] at hu
  rw [q.open.2.1] at hw
  cases hu
  cases hw
  have h1:(Al (mgD d a x y)).parts=(CI (Al d) a).parts:=by
   rw [e]
   show (d.list.take a++[d.next]++d.list.drop (a+2)).map (Av (mgD d a x y))=(d.list.map (Av d)).take a++[_]++(d.list.map (Av d)).drop (a+2)
   simp only [List.map_append,List.map_cons,List.map_nil]
   rw [hnew,List.map_congr_left (fun n hn=>hold n (List.mem_of_mem_take hn)),List.map_congr_left (l:=d.list.drop (a+2)) (fun n hn=>hold n (List.mem_of_mem_drop hn)),List.map_take,List.map_drop]
  show (⟨_,_,_⟩:Sto)=⟨_,_,_⟩
  have h2:(Al (mgD d a x y)).parts=Fx (Al d).parts a:=h1
  unfold Al at h2 ⊢
  simp only [] at h2 ⊢
  rw [h2]
  rfl
 refine ⟨⟨v1.next,v1.nf,?_,v1.file,v1.asc,fun n hn=>?_,?_,q.v.nm,by rw [eo]; exact Fk q.sd q.v.so hl⟩,eo⟩
 ·have:=q.v.nl
  show (d.list.take a++[d.next]++d.list.drop (a+2)).length≤6
  simp only [List.length_append,List.length_take,List.length_drop,List.length_cons,List.length_nil]
  have:=q.l
  omega
 ·rcases q.mem n hn with hn | rfl
  ·exact v1.at_ n hn.1
  ·exact ⟨⟨d.next,BC (Av d x) (Av d y)⟩,by unfold mgD; simp,rfl⟩
 ·show (d.list.take a++[d.next]++d.list.drop (a+2)).Nodup
  have hnd:=q.v.nd
  rw [q.list] at hnd
  rw [List.nodup_append,List.nodup_cons,List.nodup_cons] at hnd
  obtain ⟨n1,⟨n2,n3,n4⟩,n5⟩:=hnd
  have hlt:=q.v.lt
  rw [List.append_assoc,List.nodup_append]
  refine ⟨n1,?_,fun u hu w hw=>?_⟩
  ·rw [List.singleton_append,List.nodup_cons]
   exact ⟨fun hm=>by have:=hlt _ (List.mem_of_mem_drop hm); omega,n4⟩
  ·have hu2:=hlt u (List.mem_of_mem_take hu)
   rcases List.mem_append.1 hw with hw | hw
   ·simp at hw; omega
   ·exact n5 u hu w (by simp [hw])
theorem MgD.to (q:MgD d a x y) (c:Int):DskV (toD d (Aj d a) c)∧Al (toD d (Aj d a) c)=if c< 2 then Al d else CI (Al d) a:=by
 rw [q.e]
 by_cases h0:c≤0
 ·rw [L3 h0,if_pos AB]
  exact ⟨q.v,rfl⟩
 ·obtain ⟨v1,o1⟩:=q.v.add q.part q.n q.f
  rw [C3 AB,E2 rfl]
  by_cases h1:c≤1
  ·rw [L3 AB,if_pos AB]
   exact ⟨v1,o1⟩
  ·obtain ⟨v2,o2⟩:=q.v2
   have e2:doD (⟨d.files++[⟨d.next,BC (Av d x) (Av d y)⟩],d.list,d.names,d.next+1⟩:Dsk) ⟨2,0,⟨[],[]⟩,d.list.take a++[d.next]++d.list.drop (a+2),d.names⟩=mgD d a x y:=Gg rfl
   rw [C3 AB,e2,if_neg AB]
   by_cases h2:c≤2
   ·rw [L3 AB]
    exact ⟨v2,o2⟩
   ·obtain ⟨v3,o3⟩:=v2.gone x
    rw [C3 AB,FC rfl]
    by_cases h3:c≤3
    ·rw [L3 AB]
     exact ⟨v3,o3.trans o2⟩
    ·obtain ⟨v4,o4⟩:=v3.gone y
     rw [C3 AB,FC rfl,KF]
     exact ⟨v4,(o4.trans o3).trans o2⟩
end
end Go.Proofs.YtggnnidleedpaaaGreat
namespace Go.Proofs.YtggnnidleedpaaaGreat
theorem Si {d:Dsk}{st:List Stp}{c:Int}(h:DD d) (hw:Ax d=true→StW d st):DD (Ak d st c):=by
 unfold Ak
 split
 ·rename_i hc
  exact VZ c (hw hc.1)
 ·exact SJ
theorem Sj {d:Dsk}{st:List Stp}{c:Int}(h:Ax d=true) (h1:0≤c) (h2:Ax (toD d st c)=true):Ak d st c=toD d st c:=Uc h AB h2
section
variable {d:Dsk}
theorem UC (h:DD d):DD (CF d):=by
 unfold CF
 split
 ·exact h.tidy
 ·exact SJ
theorem UD (h:Ax d=true):Ax (CF d)=true:=by
 rw [KE h]
 exact Cs.2 (Cs.1 h).tidy.1
theorem UE (h:Ax d=true):Bg (CF d)=Bg d:=by
 rw [F4 h,F4 (UD h),KE h]
 exact (Cs.1 h).tidy.2
end
theorem WR {d:Dsk}{s:Sto}(hs:SD s) (h:¬ ((Af d s).length:Int)=0){c:Int}(hc:0≤c):Ak d (Af d s) c=toD d (As d s) c∧Ax (Ak d (Af d s) c)=true:=by
 obtain ⟨q,e⟩:=FlD.of hs h
 have o:=Cs.2 (q.to c).1
 rw [e,Sj (Cs.2 q.v) hc o]
 exact ⟨rfl,o⟩
theorem JY {s:Sto}(h:SD s) (hk:Ac s=true){k:Nat}(hl:k+2≤s.parts.length):Bd (CI s k) [] 0 99=Bd s [] 0 99 :=
 IS (x:=CI s k) (s:=s) rfl (hk.trans (Fk h hk hl).symm) (fun _ id a b=>(EX (StoK.of h hk) hl a (by have:=h.nm.len; omega)).2) _ _
section
variable {d:Dsk} {i:Int}
theorem WS (hd:DD d) (h:¬ ((Ag d i).length:Int)=0){c:Int}(hc:0≤c):Ak d (Ag d i) c=toD d (Aj d i.toNat) c∧Ax (Ak d (Ag d i) c)=true:=by
 obtain ⟨x,y,q,e,_⟩:=MgD.of hd h
 have o:=Cs.2 (q.to c).1
 rw [e,Sj (Cs.2 q.v) hc o]
 exact ⟨rfl,o⟩
end
end Go.Proofs.YtggnnidleedpaaaGreat
namespace Go.Proofs.YtggnnidleedpaaaGreat
structure WV (w:Wld):Prop where
 wd:WD w
 v:DskV w.disk
 k:Ac w.store=true
 p:w.store.parts=w.disk.list.map (Av w.disk)
 m:w.disk.names=w.store.idx.names.take w.disk.names.length
 tf:∀ f∈w.disk.files,f.num∈w.disk.list
theorem WV.sd {w:Wld}(h:WV w):SD w.store:=h.wd.sd
theorem WV.dd {w:Wld}(h:WV w):DD w.disk:=h.wd.dd
theorem WV.dk {w:Wld}(h:WV w):Ax w.disk=true:=Cs.2 h.v
theorem WV.nb {w:Wld}(h:WV w):nmB w.store.idx.names=true:=D4.2 h.wd.wi.sto.nm
theorem WV.fits {w:Wld}(h:WV w):CY w.disk w.store=true:=(Nv h.dk (by rw [h.nb,h.k]; rfl) h.p h.m).symm
def Cu:Wld:=⟨⟨⟨[],[]⟩,[],[]⟩,⟨[],[],[],1⟩⟩
theorem WV.new:WV Cu:=⟨WD.new,⟨by simp [Cu],by simp [Cu],by simp [Cu],by simp [Cu],by simp [Cu],by simp [Cu],by simp [Cu],by decide,by decide⟩,by decide,rfl,rfl,by simp [Cu]⟩
theorem F5 {w:Wld}(hd:DD w.disk) (hv:DskV w.disk):BB w=⟨Al w.disk,BK w.disk⟩:=by
 obtain ⟨v,e⟩:=hv.tidy
 have hk:=Cs.2 v
 have e1:=hd.tidy.UY hk
 have e2:=(hd.tidy.sd hk).copy
 unfold BB
 rw [e1,e2,e]
theorem Ox {d e:Dsk}(h:Al d=Al e):d.list.map (Av d)=e.list.map (Av e):=congrArg Sto.parts h
theorem WV.Oy {s:Sto}{d:Dsk}(hd:DD d) (hv:DskV d) (hw:WD (BB ⟨s,d⟩)):WV (BB ⟨s,d⟩):=by
 have e:=F5 (w:=⟨s,d⟩) hd hv
 rw [e] at hw ⊢
 obtain ⟨v,eo⟩:=hv.tidy
 refine ⟨hw,v,hv.so,(Ox eo).symm,?_,fun f hf=>?_⟩
 ·show d.names=d.names.take d.names.length
  rw [List.take_length]
 ·have:=(List.mem_filter.1 hf).2
  show f.num∈d.list
  simpa using this
theorem Sl (x:Idx) (n:List Tag):∃ l,(BQ x n).1.names=x.names++l:=by
 unfold BQ
 split
 ·exact ⟨[],by simp⟩
 ·split
  ·exact ⟨[],by simp⟩
  ·exact ⟨[n],rfl⟩
theorem Sm {α:Type}{a l m:List α}(h:a=l.take a.length):a=(l++m).take a.length:=by
 have hl:a.length≤l.length:=by
  have:=congrArg List.length h
  rw [List.length_take] at this
  omega
 rw [List.take_append_of_le_length hl]
 exact h
theorem WV.add {w:Wld}(h:WV w){n:List Tag}{r:Row}(hw:WD ⟨(CA w.store n r).1,w.disk⟩):WV ⟨(CA w.store n r).1,w.disk⟩:=by
 cases hb:(CA w.store n r).2 with
 | false =>
   have e:(CA w.store n r).1=w.store:=by
    unfold CA at hb ⊢
    split at hb
    ·rename_i hc; rw [if_pos hc]
    ·rename_i hc
     rw [if_neg hc]
     split at hb
     ·rename_i hc2; rw [if_pos hc2]
     ·cases hb
   rw [e] at hw ⊢
   exact h
 | true =>
   obtain ⟨a1,a2,a3,a4,e⟩:=Mh hb
   rw [e] at hw ⊢
   obtain ⟨l,hl⟩:=Sl w.store.idx n
   refine ⟨hw,h.v,Tr h.sd h.k a1 a2 a3 a4,h.p,?_,h.tf⟩
   show w.disk.names=(BQ w.store.idx n).1.names.take w.disk.names.length
   rw [hl]
   exact Sm h.m
theorem Ho {d:Dsk}{s:Sto}(q:FlD d s){c:Int}(hc:¬ c< 2):As d s=[⟨1,d.next,Ai s.mem,[],[]⟩,⟨2,0,⟨[],[]⟩,d.list++[d.next],s.idx.names⟩]∧toD d (As d s) c=⟨d.files++[⟨d.next,Ai s.mem⟩],d.list++[d.next],s.idx.names,d.next+1⟩:=by
 have e:=DJ (d:=d) (s:=s) (by have:=q.m; rw [← List.length_pos_iff] at this; omega) (by have:=q.l; omega) (by have:=q.n; omega) (by have:=q.f; omega)
 refine ⟨e,?_⟩
 rw [e,C3 AB,E2 rfl,C3 AB,Gg rfl,KF]
theorem FI {d:Dsk}{s:Sto}(q:FlD d s):((As d s).length:Int)=2:=by rw [(Ho q (c:=2) AB).1]; rfl
theorem Gx {s:Sto}(h:SD s) (hk:Ac s=true) (hm:s.mem≠[]) (hl:s.parts.length< 6):(BE s).1=Ci s∧(Bj s).1=Ci s:=by
 rw [← List.length_pos_iff] at hm
 have f1:=IK h hk AB AB
 have f2:(Bj s).2=true:=by rw [f1]
 have f3:=(QW h f2).1
 refine ⟨?_,f3⟩
 have f4:Bj s=BE s:=by rw [Hk hk,h.copy]
 rw [← f4]
 exact f3
theorem WV.fl {w:Wld}(h:WV w) (hn:As w.disk w.store≠[]):FlD w.disk w.store:=by
 by_cases hc:w.store.mem.length=0∨w.disk.list.length≥6∨w.disk.next≥999∨w.disk.files.length≥20
 ·exact absurd (by unfold As; rw [if_pos hc]) hn
 ·exact ⟨h.v,h.sd,h.k,h.nb,h.p,fun e=>hc (.inl (by rw [e]; rfl)),by omega,by omega,by omega⟩
theorem FlD.parts {d:Dsk}{s:Sto}(q:FlD d s):s.parts.length< 6:=by rw [q.p,List.length_map]; exact q.l
theorem WV.UF {w:Wld}(h:WV w) (q:FlD w.disk w.store){c:Int}(hc:¬ c< 2) (hw:WD ⟨Ci w.store,toD w.disk (As w.disk w.store) c⟩):WV ⟨Ci w.store,toD w.disk (As w.disk w.store) c⟩:=by
 obtain ⟨v,o⟩:=q.to c
 rw [if_neg hc] at o
 have e:=(Ho q hc).2
 refine ⟨hw,v,IJ q.sd q.k q.m q.parts,?_,?_,fun f hf=>?_⟩
 ·exact (congrArg Sto.parts o).symm
 ·have:(toD w.disk (As w.disk w.store) c).names=w.store.idx.names:=congrArg (fun s=>s.idx.names) o
  show (toD w.disk (As w.disk w.store) c).names=w.store.idx.names.take (toD w.disk (As w.disk w.store) c).names.length
  rw [this,List.take_length]
 ·have hf2:f∈(toD w.disk (As w.disk w.store) c).files:=hf
  show f.num∈(toD w.disk (As w.disk w.store) c).list
  rw [e] at hf2 ⊢
  rcases List.mem_append.1 hf2 with hf2 | hf2
  ·exact List.mem_append.2 (.inl (h.tf f hf2))
  ·simp at hf2
   subst hf2
   simp
theorem Po {fs:List Fil}(h:fs.Pairwise (fun a b=>a.num< b.num)){i j:Nat}{a b:Fil}(ha:fs[i]? = some a) (hb:fs[j]? = some b) (e:a.num=b.num):i=j:=by
 rw [List.pairwise_iff_getElem] at h
 obtain ⟨h1,h2⟩:=List.getElem?_eq_some_iff.1 ha
 obtain ⟨h3,h4⟩:=List.getElem?_eq_some_iff.1 hb
 rcases Nat.lt_trichotomy i j with hij | hij | hij
 ·have:=h i j h1 h3 hij; rw [h2,h4] at this; omega
 ·exact hij
 ·have:=h j i h3 h1 hij; rw [h2,h4] at this; omega
theorem Pp {d:Dsk}(h:DskV d){n:Int}(hn:n∉d.list){f:Fil}(hf:f∈Ds d n):f.num≠n:=fun e=>by
 have hm:=Gw f hf
 have h1:0≤At d n:=(E4 d n).2 ⟨f,hm,e⟩
 have h3:d.list.contains n=false:=by
  cases hc:d.list.contains n with
  | false=>rfl
  | true=>exact absurd (List.contains_iff_mem.1 hc) hn
 rw [OO h1 h3] at hf
 obtain ⟨y,hy1,hy2,_⟩:=(fun hh=>Pm d.files n 0 hh) h1
 have hy1':d.files[(At d n).toNat]? = some y:=hy1
 rcases List.mem_append.1 hf with hf | hf
 ·obtain ⟨j,hj⟩:=List.mem_iff_getElem?.1 hf
  rw [List.getElem?_take] at hj
  split at hj
  ·have:=Po h.asc hj hy1' (e.trans hy2.symm); omega
  ·cases hj
 ·obtain ⟨j,hj⟩:=List.mem_iff_getElem?.1 hf
  rw [List.getElem?_drop] at hj
  have:=Po h.asc hj hy1' (e.trans hy2.symm)
  omega
theorem WV.mg {w:Wld}(h:WV w){i:Int}(hn:Aj w.disk i≠[]):∃ x y,MgD w.disk i.toNat x y∧i=(i.toNat:Int)∧Aj w.disk i=Aj w.disk i.toNat∧Ag w.disk i=Aj w.disk i:=by
 have e:=EB (a:=i) h.dk
 have h0:¬ ((Ag w.disk i).length:Int)=0:=by
  rw [e]
  intro h0
  exact hn (List.length_eq_zero_iff.1 AB)
 obtain ⟨x,y,q,e2,i0⟩:=MgD.of h.dd h0
 exact ⟨x,y,q,i0,by rw [← e,e2],e⟩
theorem Kx {s:Sto}{a:Nat}(hl:a+2≤s.parts.length):BD s (a:Int)=(CI s a,true):=by
 unfold BD CI
 rw [if_pos (by unfold inR; simp; omega)]
 simp
theorem Ky {d:Dsk}{a:Nat}{x y:Int}(q:MgD d a x y){c:Int}(hc:¬ c< 4):toD d (Aj d a) c=⟨Ds ⟨Ds (mgD d a x y) x,(mgD d a x y).list,(mgD d a x y).names,(mgD d a x y).next⟩ y,(mgD d a x y).list,(mgD d a x y).names,(mgD d a x y).next⟩:=by
 have e2:doD (⟨d.files++[⟨d.next,BC (Av d x) (Av d y)⟩],d.list,d.names,d.next+1⟩:Dsk) ⟨2,0,⟨[],[]⟩,d.list.take a++[d.next]++d.list.drop (a+2),d.names⟩=mgD d a x y:=Gg rfl
 rw [q.e,C3 AB,E2 rfl,C3 AB,e2,C3 AB,FC rfl,C3 AB,FC rfl,KF]
theorem Gy {d:Dsk}{a:Nat}{x y:Int}(q:MgD d a x y):((Aj d a).length:Int)=4:=by rw [q.e]; rfl
theorem WV.open {w:Wld}(h:WV w):(Al w.disk).parts=w.store.parts:=h.p.symm
theorem WV.UG {w:Wld}(h:WV w){a:Nat}{x y:Int}(q:MgD w.disk a x y){c:Int}(hc:¬ c< 4) (hw:WD ⟨CI w.store a,toD w.disk (Aj w.disk a) c⟩):WV ⟨CI w.store a,toD w.disk (Aj w.disk a) c⟩:=by
 obtain ⟨v,o⟩:=q.to c
 rw [if_neg AB] at o
 have e:=Ky q hc
 have hl:a+2≤w.store.parts.length:=by rw [← h.open,q.open.2.2]; exact q.l
 refine ⟨hw,v,Fk h.sd h.k hl,?_,?_,fun f hf=>?_⟩
 ·have:=congrArg Sto.parts o
  have e3:(CI (Al w.disk) a).parts=(CI w.store a).parts:=by show Fx (Al w.disk).parts a=Fx w.store.parts a; rw [h.open]
  rw [e3] at this
  exact this.symm
 ·have:(toD w.disk (Aj w.disk a) c).names=w.disk.names:=congrArg (fun s=>s.idx.names) o
  show (toD w.disk (Aj w.disk a) c).names=w.store.idx.names.take (toD w.disk (Aj w.disk a) c).names.length
  rw [this]
  exact h.m
 ·have hf2:f∈(toD w.disk (Aj w.disk a) c).files:=hf
  show f.num∈(toD w.disk (Aj w.disk a) c).list
  rw [e] at hf2 ⊢
  obtain ⟨v2,_⟩:=q.v2
  obtain ⟨v3,_⟩:=v2.gone x
  have hnd:=q.v.nd
  rw [q.list] at hnd
  rw [List.nodup_append,List.nodup_cons,List.nodup_cons] at hnd
  have mx:x∉(mgD w.disk a x y).list:=fun hm=>by
   rcases q.mem x hm with hm | hm
   ·exact hm.2.1 rfl
   ·have:=q.v.lt x (AV q.hx); omega
  have my:y∉(mgD w.disk a x y).list:=fun hm=>by
   rcases q.mem y hm with hm | hm
   ·exact hm.2.2 rfl
   ·have:=q.v.lt y (AV q.hy); omega
  have ny:=Pp v3 my hf2
  have hf3:=Gw f hf2
  have nx:=Pp v2 mx hf3
  have hf4:=Gw f hf3
  rcases List.mem_append.1 hf4 with hf5 | hf5
  ·have hm:=h.tf f hf5
   rw [q.list] at hm
   show f.num∈w.disk.list.take a++[w.disk.next]++w.disk.list.drop (a+2)
   simp only [List.mem_append,List.mem_cons,List.not_mem_nil,or_false] at hm ⊢
   rcases hm with hm | hm | hm | hm
   ·exact .inl (.inl hm)
   ·exact absurd hm nx
   ·exact absurd hm ny
   ·exact .inr hm
  ·simp at hf5
   subst hf5
   show w.disk.next∈w.disk.list.take a++[w.disk.next]++w.disk.list.drop (a+2)
   simp
theorem Kz {w:Wld}(h:WV w) (q:FlD w.disk w.store) (c:Int):DD (toD w.disk (As w.disk w.store) c):=by
 have e:Af w.disk w.store=As w.disk w.store:=E7 h.fits
 have:=(JH h.dd h.sd).1
 rw [e] at this
 exact this.ok c.toNat
theorem K0 {w:Wld}(h:WV w) (i:Int) (c:Int):DD (toD w.disk (Aj w.disk i) c):=by
 have:=(JI h.dd i).1
 rw [EB h.dk] at this
 exact this.ok c.toNat
theorem WV.do {w:Wld}(h:WV w){e:Evt}(he:NmD e.name):WV (doW w e):=by
 have hw:=h.wd.do he
 by_cases k1:e.kind=1
 ·cases hn:Aq e.name with
  | false=>rw [Gj k1 hn]; exact h
  | true=>rw [Gi k1 hn] at hw ⊢; exact h.add hw
 ·by_cases k2:e.kind=2
  ·rw [Gk k2] at hw ⊢
   by_cases hs:((As w.disk w.store).length:Int)=0∨e.cut< 0
   ·rw [Co hs]; exact h
   ·have q:=h.fl (fun e0=>hs (.inl (by rw [e0]; rfl)))
    by_cases hc:e.cut< (As w.disk w.store).length
    ·rw [DL (fun e0=>hs (.inl e0)) (fun e0=>hs (.inr e0)) hc] at hw ⊢
     exact WV.Oy (Kz h q _) (q.to _).1 hw
    ·rw [DM (fun e0=>hs (.inl e0)) (fun e0=>hs (.inr e0)) hc,(Gx h.sd h.k q.m q.parts).1] at hw ⊢
     exact h.UF q (by rw [FI q] at hc; exact hc) hw
  ·by_cases k3:e.kind=3
   ·rw [GC k3] at hw ⊢
    by_cases hs:((Aj w.disk e.at_).length:Int)=0∨e.cut< 0
    ·rw [Co hs]; exact h
    ·obtain ⟨x,y,q,i0,e3,_⟩:=h.mg (i:=e.at_) (fun e0=>hs (.inl (by rw [e0]; rfl)))
     have hl:e.at_.toNat+2≤w.store.parts.length:=by rw [← h.open,q.open.2.2]; exact q.l
     by_cases hc:e.cut< (Aj w.disk e.at_).length
     ·rw [DL (fun e0=>hs (.inl e0)) (fun e0=>hs (.inr e0)) hc] at hw ⊢
      exact WV.Oy (K0 h _ _) (by rw [e3]; exact (q.to _).1) hw
     ·have em:(BD w.store e.at_).1=CI w.store e.at_.toNat:=by
       have:=Kx hl
       rw [← i0] at this
       rw [this]
      rw [DM (fun e0=>hs (.inl e0)) (fun e0=>hs (.inr e0)) hc,em,e3] at hw ⊢
      exact h.UG q (by rw [e3,Gy q] at hc; exact hc) hw
   ·by_cases k4:e.kind=4
    ·rw [Lc k4] at hw ⊢
     exact WV.Oy (s:=w.store) h.dd h.v hw
    ·rw [Ld k1 k2 k3 k4]; exact h
theorem WV.copy {w:Wld}(h:WV w):Ce w=w:=by
 unfold Ce
 rw [h.sd.copy,h.dd.UY h.dk]
def Bu (es:List Evt):Wld:=es.foldl doW Cu
def WT:Wld:=⟨⟨⟨[],[]⟩,[],[]⟩,⟨[],[],[],0⟩⟩
def Ay (es:List Evt):Wld × Bool:=if es.length≤50 then (Bu es,true) else (WT,false)
def EsD (es:List Evt):Prop:=∀ e∈es,EvD e
theorem WV.foldl:∀ (es:List Evt) (w:Wld),WV w→EsD es→WV (es.foldl doW w):=by
 intro es
 induction es with
 | nil=>intro w h _; exact h
 | cons e es ih=>intro w h he; exact ih _ (h.do (he e AD).1) (fun x hx=>he x (by simp [hx]))
theorem WV.Oz {es:List Evt}(h:EsD es):WV (Bu es):=WV.foldl es _ WV.new h
theorem Gz {es:List Evt}(h:¬ (es.length:Int) > 50):Ay es=(Bu es,true):=by unfold Ay; rw [if_pos AB]
theorem K1 {es:List Evt}(h:(es.length:Int) > 50):Ay es=(WT,false):=by unfold Ay; rw [if_neg AB]
theorem N1 {es:List Evt}{k:Nat}{w Y:Wld}{e:Evt}(h:(es.drop k).foldl doW w=Y) (hd:es.drop k=e::es.drop (k+1)):(es.drop (k+1)).foldl doW (doW w e)=Y:=by
 rw [hd] at h
 exact h
theorem Pq {es:List Evt}{k:Nat}{w Y:Wld}(h:(es.drop k).foldl doW w=Y) (hk:es.length≤k):w=Y:=by
 rw [Aa hk] at h
 exact h
theorem EsD.nil:EsD []:=fun e h=>by cases h
theorem EsD.snoc {es:List Evt}{e:Evt}(h:EsD es) (he:EvD e):EsD (es++[e]):=fun x hx=>by
 rcases List.mem_append.1 hx with hx | hx
 ·exact h x hx
 ·simp at hx; subst hx; exact he
theorem Ve {a b:Wld}(h:(a.store==b.store)=false):false=(a==b):=(beq_eq_false_iff_ne.2 (fun e=>by subst e; simp at h)).symm
theorem Vf {a b:Wld}(h:(a.store==b.store)=true):(a.disk==b.disk)=(a==b):=by
 have h:=eq_of_beq h
 cases a with
 | mk s d =>
   cases b with
   | mk s' d' =>
     simp only at h
     subst h
     by_cases e:d=d'
     ·subst e; simp
     ·rw [beq_eq_false_iff_ne.2 (fun e2:d=d'=>e e2),beq_eq_false_iff_ne.2 (fun e2:(⟨s,d⟩:Wld)=⟨s,d'⟩=>e (congrArg Wld.disk e2))]
section
variable {w:Wld} {e:Evt}
theorem Vg (hd:DD w.disk) (hk:Ax w.disk=true):BB w=⟨Bg (CF w.disk),CF w.disk⟩:=by
 rw [F5 hd (Cs.1 hk),UE hk,F4 hk,KE hk]
theorem Wp (h:e.kind=4):doW w e=BB w:=Lc h
theorem Sn (h:WV w) (hn:Aq e.name=true):BS w.store e.name e.row=CA w.store e.name e.row:=by
 unfold BS
 rw [if_pos ⟨h.k,hn⟩,h.sd.copy]
theorem do_1 (h:WV w) (h1:e.kind=1) (h2:(BS w.store e.name e.row).2=true):doW w e=⟨(BS w.store e.name e.row).1,w.disk⟩:=by
 have hn:=(Tq h2).2.1
 rw [Gi h1 hn,Sn h hn]
theorem Ue (h:WV w) (h1:e.kind=1) (h2:(BS w.store e.name e.row).2=false):doW w e=w:=by
 cases hn:Aq e.name with
 | false=>exact Gj h1 hn
 | true =>
   rw [Gi h1 hn]
   rw [Sn h hn] at h2
   have e2:(CA w.store e.name e.row).1=w.store:=by
    unfold CA at h2 ⊢
    split at h2
    ·rename_i hc; rw [if_pos hc]
    ·rename_i hc
     rw [if_neg hc]
     split at h2
     ·rename_i hc2; rw [if_pos hc2]
     ·cases h2
   rw [e2]
theorem Uf (h:WV w) (h1:e.kind=2) (h2:((Af w.disk w.store).length:Int)=0∨e.cut< 0):doW w e=w:=by
 rw [Gk h1]
 rw [E7 h.fits] at h2
 exact Co h2
theorem Mj (h:WV w) (h2:¬ ((Af w.disk w.store).length:Int)=0) (h3:¬ e.cut< 0):Ak w.disk (Af w.disk w.store) e.cut=toD w.disk (As w.disk w.store) e.cut∧DD (Ak w.disk (Af w.disk w.store) e.cut)∧Ax (Ak w.disk (Af w.disk w.store) e.cut)=true:=by
 obtain ⟨e1,o⟩:=WR h.sd h2 (by omega:0≤e.cut)
 exact ⟨e1,Si h.dd (fun _=>(JH h.dd h.sd).1),o⟩
theorem WU (h:WV w) (h1:e.kind=2) (h2:¬ ((Af w.disk w.store).length:Int)=0) (h3:¬ e.cut< 0) (h4:e.cut< (Af w.disk w.store).length):doW w e=BB ⟨w.store,Ak w.disk (Af w.disk w.store) e.cut⟩:=by
 rw [(Mj h h2 h3).1,Gk h1]
 rw [E7 h.fits] at h2 h4
 exact DL h2 h3 h4
theorem WW (h:WV w) (h1:e.kind=2) (h2:¬ ((Af w.disk w.store).length:Int)=0) (h3:¬ e.cut< 0) (h4:¬ e.cut< (Af w.disk w.store).length):doW w e=⟨(Bj w.store).1,Ak w.disk (Af w.disk w.store) e.cut⟩:=by
 rw [(Mj h h2 h3).1,Gk h1]
 have h20:=h2
 rw [E7 h.fits] at h2 h4
 have q:=h.fl (fun e0=>h2 (by rw [e0]; rfl))
 rw [DM h2 h3 h4,(Gx h.sd h.k q.m q.parts).1,(Gx h.sd h.k q.m q.parts).2]
theorem Ug (h:WV w) (h1:e.kind=3) (h2:((Ag w.disk e.at_).length:Int)=0∨e.cut< 0):doW w e=w:=by
 rw [GC h1]
 rw [EB h.dk] at h2
 exact Co h2
theorem Mk (h:WV w) (h2:¬ ((Ag w.disk e.at_).length:Int)=0) (h3:¬ e.cut< 0):Ak w.disk (Ag w.disk e.at_) e.cut=toD w.disk (Aj w.disk e.at_) e.cut∧DD (Ak w.disk (Ag w.disk e.at_) e.cut)∧Ax (Ak w.disk (Ag w.disk e.at_) e.cut)=true:=by
 obtain ⟨e1,o⟩:=WS h.dd h2 (by omega:0≤e.cut)
 obtain ⟨x,y,q,e2,i0⟩:=MgD.of h.dd h2
 refine ⟨?_,Si h.dd (fun _=>(JI h.dd _).1),o⟩
 rw [e1,← e2,EB h.dk]
theorem WX (h:WV w) (h1:e.kind=3) (h2:¬ ((Ag w.disk e.at_).length:Int)=0) (h3:¬ e.cut< 0) (h4:e.cut< (Ag w.disk e.at_).length):doW w e=BB ⟨w.store,Ak w.disk (Ag w.disk e.at_) e.cut⟩:=by
 rw [(Mk h h2 h3).1,GC h1]
 rw [EB h.dk] at h2 h4
 exact DL h2 h3 h4
theorem WY (h:WV w) (h1:e.kind=3) (h2:¬ ((Ag w.disk e.at_).length:Int)=0) (h3:¬ e.cut< 0) (h4:¬ e.cut< (Ag w.disk e.at_).length):doW w e=⟨(BM w.store e.at_).1,Ak w.disk (Ag w.disk e.at_) e.cut⟩:=by
 rw [(Mk h h2 h3).1,GC h1]
 rw [EB h.dk] at h2 h4
 have em:BM w.store e.at_=BD w.store e.at_:=by rw [F3 h.k,h.sd.copy]
 rw [DM h2 h3 h4,em]
end
end Go.Proofs.YtggnnidleedpaaaGreat
