/- slices.Delete takes one element out of a row in place. Conditions: the row is the call's own, the place is in it. -/
import Derived.Test.YtckdhcbbgmiccaaGreatDoorLdzMod42
open Go.Proofs.Tryz
set_option linter.unusedVariables false
set_option linter.unusedSimpArgs false
namespace Go.Proofs.YtckdhcbbgmiccaaGreatDoor
set_option maxRecDepth 100000
set_option maxHeartbeats 4000000
variable {w:World} {F:Nat→Prop}
theorem Kl {r n c i:Nat}{xs:List Fil}{a b:Int}(ho:Own w r 165 F n c xs) (ha:a=(i:Int)) (hb:b=(i:Int)+1) (hi:i< n) (hn:n≤1000000):Calls Tryz.prog 185 [.slice (some ⟨r,0,none⟩) n c,.int .i64 a,.int .i64 b].toArray w (Al fun rv w'=>(rv=.slice (some ⟨r,0,none⟩) (n - 1) c∧Own w' r 165 F (n - 1) c (xs.take i++xs.drop (i+1)))∧Chg (one r) w w'):=by
 subst ha hb
 refine goT func185 ?_
 have hle:=ho.le
 obtain ⟨cs,hB,hl⟩:=ho.Yg
 have hz:Rep.sz Fil=3:=rfl
 rw [hz] at hl
 refine .s<|.g<|.r 1<|.d<|.s<|.g<|.r 5<|RG.Zy (t:=39) (k:=.i64) (k2:=.i64) (k3:=.i64) (a:=some ⟨r,0,none⟩) (len:=n) (cap:=c) (i1:=(i:Int)) (i2:=(i:Int)+1) (i3:=(n:Int)) (sz:=3) i (i+1) n AA AA rfl AB rfl AB AB hle fun v_=>.d<|.s<|.s<|.g<|.r 2<|.eq (i:Int) ((i:Int)+1) (fun h=>absurd (show False by omega) id) fun _=>.d<|.cf<|.sk<|.s<|.g<|.r 3<|.d<|.s<|.gd (one r) 7 fun w1 hx1=>?_
 refine .r [0,1]<|GA.IH (i:=2) (t:=39) (r:=r) (o:=0) (len:=n) (cap:=c) (lo:=none) (hi:=some (vI (i:Int))) (sz:=3) 0 i AA AA AA (.inl ⟨rfl,rfl⟩) (.inr ⟨_,_,rfl,rfl⟩) AB AB AB<|.r [3,4]<|GA.Zz (i:=5) (t:=39) (r:=r) (len:=n) (cap:=c) (lo:=some (vI ((i:Int)+1))) (hi:=none) (sz:=3) (i+1) n AA AA AA (.inr ⟨_,_,rfl,by omega⟩) (.inl ⟨rfl,rfl⟩) AB AB fun a2 c2 h2=>?_
 refine .go 6<|GE.append (T:=39) (ty:=39) (args:=[.slice (some ⟨r,0,none⟩) i c,.slice a2 (n - (i+1)) c2]) AA fun w2 hx2=>?_
 have hx12:Ext w w2:=hx1.trans hx2
 have m1:(i+1) * 3+(n - (i+1)) * 3=n * 3:=by omega
 have hB2:=hB.ext hx12
 obtain ⟨w3,hr,hB3,hx3⟩:=Pr (P:=Tryz.prog) (T:=39) (ty:=39) (t:=165) (sz:=3) (i:=i) (c:=c) (m:=n - (i+1)) (c':=c2) (a2:=a2) (vs:=(cs.drop ((i+1) * 3)).take ((n - (i+1)) * 3)) AA hB2
  (fun hp=>⟨_,h2 hp,fun k u hu=>by
   rw [add_lit]
   unfold Box at hB2
   simp only [World.cell?,hB2]
   rw [List.getElem?_take] at hu
   split at hu
   ·rw [List.getElem?_drop] at hu
    simpa using hu
   ·cases hu⟩) (by rw [List.length_take,List.length_drop]; omega) AB (by rw [List.length_take,List.length_drop]; omega) (fun v hv=>ho.oX (i:=i+1) hB v AB hv)
 refine ⟨_,w3,hr,hx3,.d fun w4 hx4=>.r 1<|.d<|.s<|.g<|.r 4<|?_⟩
 have hB4:=hB3.ext hx4
 have hlen:i+(n - (i+1))=n - 1:=by omega
 rw [hlen]
 refine RG.IH (t:=39) (r:=r) (o:=0) (len:=n - 1) (cap:=c) (lo:=some (vI ((n - 1:Nat):Int))) (hi:=some (vI (n:Int))) (sz:=3) (n - 1) n AA AA (.inr ⟨_,_,rfl,rfl⟩) (.inr ⟨_,_,rfl,rfl⟩) AB AB AB ?_
 have h1:n - (n - 1)=1:=by omega
 rw [h1]
 have hl4:(BH cs (i * 3) ((cs.drop ((i+1) * 3)).take ((n - (i+1)) * 3))).length=c * 3:=by rw [ET (by rw [List.length_take,List.length_drop]; omega)]; exact hl
 obtain ⟨vs,w5,hr5,hv5,hB5,hx5⟩:=Ps (P:=Tryz.prog) (T:=39) (ty:=0) (t:=165) (sz:=3) (o:=0+(n - 1) * 3) (c:=c - (n - 1)) AA hB4 AB
 rw [Nat.zero_add] at hB5
 have hd:=Nr (sz:=3) hl hi hle rfl hv5
 have hx:Chg (one r) w w5:=(((hx12.chg (S:=one r)).trans hx3).trans hx4.chg).trans hx5
 refine RG.clear (ats:=[39]) (ty:=0) (args:=[.slice (some ⟨r,0+(n - 1) * 3,none⟩) 1 (c - (n - 1))]) AA hr5<|.d<|.s<|.g<|.r 2<|.d<|.rt func185 results185 (.slice (some ⟨r,0,none⟩) (n - 1) c) ⟨⟨rfl,Own.Uu ho hx hB hB5 (by rw [hz]; exact hd.1) hi (by rw [hz]; exact hd.2)⟩,hx⟩
end Go.Proofs.YtckdhcbbgmiccaaGreatDoor
namespace Go.Proofs.YtckdhcbbgmiccaaGreatDoor
set_option maxRecDepth 100000
set_option maxHeartbeats 4000000
variable {w:World} {F:Nat→Prop} {a1 a2 a3 a4:Option Addr} {n1 c1 n2 c2 n3 c3 n4 c4:Nat}
theorem Km (d:Dsk) (s:Stp){bx rb0:Nat}{nb0 cb0:Nat}(hob0:Own w rb0 165 (nin F [bx,rb0]) nb0 cb0 d.files){ab1:Option Addr}{nb1 cb1:Nat}(hrb1:RepS w (nin F [bx,rb0]) ab1 nb1 cb1 d.list){ab2:Option Addr}{nb2 cb2:Nat}(hrb2:RepS w (nin F [bx,rb0]) ab2 nb2 cb2 d.names) (hbx:Box w bx 42 [.slice (some ⟨rb0,0,none⟩) nb0 cb0,.slice ab1 nb1 cb1,.slice ab2 nb2 cb2,.int .i64 d.next]) (hnb0:Nb rb0 bx) (h1:RepS w (nin F [bx,rb0]) a1 n1 c1 s.part.ids) (h2:RepS w (nin F [bx,rb0]) a2 n2 c2 s.part.blocks) (h3:RepS w (nin F [bx,rb0]) a3 n3 c3 s.list) (h4:RepS w (nin F [bx,rb0]) a4 n4 c4 s.names) (p0:d.files.length≤1000) (p1:Kt s) (p2:C9 s.part):Calls Tryz.prog 130 [.pointer (some ⟨bx,0,none⟩),.agg #[.int .i64 s.kind,.int .i64 s.num,.slice a1 n1 c1,.slice a2 n2 c2,.slice a3 n3 c3,.slice a4 n4 c4]].toArray w (Al fun rv w'=>(rv=.tuple #[]∧(∃ (ro0 no0 co0:Nat) (ao1:Option Addr) (no1 co1:Nat) (ao2:Option Addr) (no2 co2:Nat),Box w' bx 42 [.slice (some ⟨ro0,0,none⟩) no0 co0,.slice ao1 no1 co1,.slice ao2 no2 co2,.int .i64 (((doD d s)).next)]∧Own w' ro0 165 (nin (fo F w.heap.size) [bx,ro0]) no0 co0 (((doD d s)).files)∧OrB ro0 rb0 w.heap.size∧Nb ro0 bx∧RepS w' (nin (fo F w.heap.size) [bx,ro0]) ao1 no1 co1 (((doD d s)).list)∧RepS w' (nin (fo F w.heap.size) [bx,ro0]) ao2 no2 co2 (((doD d s)).names)))∧Chg (ins [bx,rb0]) w w'):=by
 refine goT func130 ?_
 have hcv_bx:Cov (ins [bx,rb0]) w bx:=Cov.mkI AI
 have hcv_rb0:Cov (ins [bx,rb0]) w rb0:=Cov.mkI AJ
 replace hob0:=hob0.base (G':=fo F w.heap.size) (fun _ _ h=>.inl h)
 have cR:=hob0.len
 obtain rfl:=hrb1.len
 replace hrb1:=hrb1.Jh (s:=w.heap.size)
 obtain rfl:=hrb2.len
 replace hrb2:=hrb2.Jh (s:=w.heap.size)
 obtain rfl:=h1.len
 replace h1:=h1.Jh (s:=w.heap.size)
 obtain rfl:=h2.len
 replace h2:=h2.Jh (s:=w.heap.size)
 obtain rfl:=h3.len
 replace h3:=h3.Jh (s:=w.heap.size)
 have cX:=h3.max
 obtain rfl:=h4.len
 replace h4:=h4.Jh (s:=w.heap.size)
 have cY:=h4.max
 refine .s<|.g<|.np 160 [vI s.kind,vI s.num,.slice a1 s.part.ids.length c1,.slice a2 s.part.blocks.length c2,.slice a3 s.list.length c3,.slice a4 s.names.length c4] fun ab aG aE aI aa cj=>?_
 have bu:=Ad aE hob0.lt
 have cZ:=Ad aE hbx.lt
 replace ⟨hob0,hrb1,hrb2,hbx,h1,h2,h3,h4⟩:=(sn [bx,rb0] aI aE).g8 hob0 hrb1 hrb2 hbx h1 h2 h3 h4
 have E:Chg (ins [bx,rb0]) w aG:=Chg.I9 (Chg.refl (ins [bx,rb0]) w) aI
 refine .d<|.s<|.g<|.r 1<|.lb aa<|.d<|.b 0<|.s<|.g<|.eq s.kind 1 (fun ck=>?_) (fun ck=>?_)
 ·refine .r 1<|.d<|.ct<|.s ?_
  replace hrb1:=hrb1.C1
  replace hrb2:=hrb2.C1
  replace h1:=h1.C1
  replace h2:=h2.C1
  replace h3:=h3.C1
  replace h4:=h4.C1
  have bD:Cov (mtb [rb0] aG.heap.size) aG rb0:=⟨.inl (.inl AI)⟩
  have bE:Gb (bx+1) aG.heap.size:=hbx.lt
  have aJ:Gb (ab+1) aG.heap.size:=aa.lt
  refine .gd (mtb [rb0] aG.heap.size) 13 fun c7 aK=>?_
  replace ⟨hob0,hrb1,hrb2,hbx,h1,h2,h3,h4,aa,E⟩:=(se [ab,bx,rb0] aK).g10 hob0 hrb1 hrb2 hbx h1 h2 h3 h4 aa E
  refine .r [0,1,2,3]<|.lb 4 hbx (DH (all_cons (Nb.symm hnb0) all_nil) bE)<|.r [5]<|.lb 6 aa (DH (all_cons bu all_nil) aJ)<|.r [7]<|.ln 8 aa (DH (all_cons bu all_nil) aJ)<|.go 9<|.cl (fun aL ay=>Av s.part (h1.ta.ext ay) (h2.ta.ext ay) p2 (w:=aL) (F:=all)) ?_
  intro aL ay
  replace ⟨hob0,hrb1,hrb2,hbx,h3,h4,aa,E⟩:=(se [ab,bx,rb0] ay).g8 hob0 hrb1 hrb2 hbx h3 h4 aa E
  rintro c8 da ⟨⟨_,rfl,⟨cm,db,co,cp,de,cq,rfl,ag,ah⟩⟩,aA⟩
  have aB:=al3 aa.lt hbx.lt hob0.lt
  have aM:Gb w.heap.size aL.heap.size:=E.size
  have hkeep_:=aA
  replace ⟨hob0,hrb1,hrb2,hbx,h3,h4,aa,E⟩:=(se [ab,bx,rb0] aA).g8 hob0 hrb1 hrb2 hbx h3 h4 aa E
  refine ⟨Ext.chg hkeep_,?_⟩
  have ag:=ag.fr aB aM
  replace ag:=ag.base (G':=fo F w.heap.size) (fun _ _ h=>.inr h)
  have cy:=ag.max
  have ah:=ah.fr aB aM
  replace ah:=ah.base (G':=fo F w.heap.size) (fun _ _ h=>.inr h)
  have cz:=ah.max
  have bF:=ag.len
  subst bF
  have bG:=ah.len
  subst bG
  refine .r [10]<|.go 11<|.ns 1 165 [vI s.num,.slice cm s.part.ids.length co,.slice cp s.part.blocks.length cq] fun df aN=>?_
  replace ⟨hob0,hrb1,hrb2,hbx,h3,h4,aa,ag,ah,E⟩:=(se [ab,bx,rb0] aN).g10 hob0 hrb1 hrb2 hbx h3 h4 aa ag ah E
  intro aO dh ao aP aC bH
  have aQ:=Ad ao hob0.lt
  have bI:=Ad ao hbx.lt
  have bJ:=Ad ao aa.lt
  have bK:=Bq ao E.size
  replace ⟨hob0,hrb1,hrb2,hbx,h3,h4,aa,ag,ah,E⟩:=(se [ab,bx,rb0] aP).g10 hob0 hrb1 hrb2 hbx h3 h4 aa ag ah E
  refine .go 12<|GE.append (T:=39) (ty:=39) (args:=[vS rb0 nb0 cb0,vS aO 1 1]) AA fun dj aR=>?_
  replace ⟨hob0,hrb1,hrb2,hbx,h3,h4,aa,ag,ah,aC,E⟩:=(se [ab,bx,rb0] aR).g11 hob0 hrb1 hrb2 hbx h3 h4 aa ag ah aC E
  have aH:nin (fo F w.heap.size) [ab,bx,rb0] aO∧aO≠rb0:=GH (.inr bK) (all_cons bJ (all_cons bI (all_cons aQ all_nil))) aQ
  obtain ⟨az,bv,dm,aS,ae,am,aD,bL⟩:=hob0.DV (P:=Tryz.prog) (T:=39) (ty:=39) (y:=(⟨s.num,(⟨s.part.ids,s.part.blocks⟩:Prt)⟩:Fil)) AA aC ⟨_,_,_,_,_,_,rfl,ag.oi,ah.oi⟩ aH AB
  refine ⟨_,_,aS,Chg.toS aD (Cov.toS bD),?_⟩
  have aT:=CI am hnb0 hbx.lt
  have bM:=Ig am hcv_rb0 E.size
  replace ⟨hrb1,hrb2,hbx,h3,h4,aa,E⟩:=(sa [ab,bx,rb0] aD am).g7 hrb1 hrb2 hbx h3 h4 aa E
  replace ae:=ae.rn rb0
  refine .d fun dp aU=>?_
  replace ⟨ae,hrb1,hrb2,hbx,h3,h4,aa,E⟩:=(se [ab,bx,az] aU).g8 ae hrb1 hrb2 hbx h3 h4 aa E
  replace hrb1:=hrb1.BS
  replace hrb2:=hrb2.BS
  replace h3:=h3.BS
  replace h4:=h4.BS
  refine .r 2<|.ss 0 (vS az (nb0+1) bv) hbx fun dq aV bN bO=>?_
  replace ⟨ae,hrb1,hrb2,h3,h4,aa,E⟩:=(so [ab,bx,az] aV).g7 ae hrb1 hrb2 h3 h4 aa E
  refine .d<|.g<|.r 2<|.lb aa<|RG.int (s.num+1) AA (by have q1:=p1.2.2.2; omega)<|.r 2<|.ss 3 (vI (s.num+1)) bN fun dt aW bP bQ=>?_
  replace ⟨ae,hrb1,hrb2,h3,h4,aa,E⟩:=(so [ab,bx,az] aW).g7 ae hrb1 hrb2 h3 h4 aa E
  refine .d<|.ib 0<|T.GR func130 results130 ?_
  rw [show (doD d s)=(⟨(d.files++[(⟨s.num,(⟨s.part.ids,s.part.blocks⟩:Prt)⟩:Fil)]),d.list,d.names,s.num+1⟩:Dsk) from by (rw [Fa ‹_›]; done)]
  exact ⟨⟨rfl,az,(nb0+1),bv,ab1,d.list.length,cb1,ab2,d.names.length,cb2,bP,(Own.As ae (all_cons AJ (all_cons AK all_nil))),(Kb bM aT),aT,(RepS.As hrb1 (all_cons AJ (all_cons AK all_nil))),(RepS.As hrb2 (all_cons AJ (all_cons AK all_nil)))⟩,E⟩
 refine .r 1<|.d<|.cf<|.s<|.g<|.eq s.kind 2 (fun bR=>?_) (fun bR=>?_)
 ·refine .r 1<|.d<|.ct<|.s<|.g<|.r 1<|.ns 0 3 [] fun aF cr aj aX bS bT=>?_
  have bU:=Ad aj hob0.lt
  have bV:=Ad aj hbx.lt
  have bW:=Ad aj aa.lt
  have bX:=Bq aj E.size
  have cC:=E.cn aj
  replace ⟨hob0,hrb1,hrb2,hbx,h3,h4,aa,E⟩:=(sn [ab,bx,rb0] aX aj).g8 hob0 hrb1 hrb2 hbx h3 h4 aa E
  have bY:Own (α:=Int) cr aF 3 (nin (fo F w.heap.size) [aF,ab,bx,rb0]) 0 0 []:=Own.BX bS
  refine .r 1<|.lb aa<|RG.Dj (T:=40) (ty:=40) BB bY h3 AA AA (fun b h e=>h.2 (e▸AI)) (by (have:=p1.1; omega)) fun al bw du ac ai aY=>?_
  have cD:=CI ai bU hob0.lt
  have cE:=CI ai bV hbx.lt
  have cF:=CI ai bW aa.lt
  have bZ:=Fx ai bX E.size
  replace ⟨hob0,hrb1,hrb2,hbx,h4,aa,E⟩:=(sa [aF,ab,bx,rb0] aY ai).g7 hob0 hrb1 hrb2 hbx h4 aa E
  replace ac:=ac.rn aF
  refine .r 2<|.ss 1 (vS al (0+s.list.length) bw) hbx fun bz aZ aq b0=>?_
  replace ⟨hob0,hrb1,hrb2,h4,aa,ac,E⟩:=(so [al,ab,bx,rb0] aZ).g7 hob0 hrb1 hrb2 h4 aa ac E
  refine .d<|.g<|.r 2<|.lb aa<|.cl (Af s.names h4.ta (by have:=p1.2.1; omega) (by (intro n hn; have:=p1.2.2.1 n hn; omega)) (w:=bz) (F:=all)) ?_
  rintro dv dw ⟨⟨ax,bA,bB,rfl,af,ak⟩,ba⟩
  have bd:=al4 ac.lt aa.lt aq.lt hob0.lt
  have b6:Gb w.heap.size bz.heap.size:=E.size
  have cI:=DG ak hob0.lt
  have cJ:=DG ak aq.lt
  have cK:=DG ak aa.lt
  have cL:=DG ak ac.lt
  have b7:=Ks ak E.size
  replace ⟨hob0,hrb1,hrb2,aq,aa,ac,E⟩:=(sz [al,ab,bx,rb0] ba ak).g7 hob0 hrb1 hrb2 aq aa ac E
  replace af:=Own.take (s0:=w.heap.size) (M:=[al,ab,bx,rb0]) af bd b6
  replace af:=af.base (G':=fo F w.heap.size) (fun _ _ h=>.inr h)
  refine .r 2<|.ss 2 (vS ax bA bB) aq fun bC bg b8 b9=>?_
  replace ⟨hob0,hrb1,hrb2,aa,ac,af,E⟩:=(so [ax,al,ab,bx,rb0] bg).g7 hob0 hrb1 hrb2 aa ac af E
  refine .d<|.ib 0 ?_
  have bh:=ac.sl (.inr bZ)
  replace ⟨hob0,hrb1,hrb2,af⟩:=(sd bC [ax,al,ab,bx,rb0] al).g4 hob0 hrb1 hrb2 af
  have cu:=af.sl (.inr b7)
  replace ⟨hob0,hrb1,hrb2,bh⟩:=(sd bC [ax,ab,bx,rb0] ax).g4 hob0 hrb1 hrb2 bh
  refine T.GR func130 results130 ?_
  rw [show (doD d s)=(⟨d.files,([]++s.list),s.names,d.next⟩:Dsk) from by (rw [HY ‹_›]; rfl)]
  exact ⟨⟨rfl,rb0,nb0,cb0,(some ⟨al,0,none⟩),(0+s.list.length),bw,(some ⟨ax,0,none⟩),bA,bB,b8,(Own.As hob0 (all_cons AJ (all_cons AK all_nil))),(Kb hcv_rb0 hnb0),hnb0,(RepS.As bh (all_cons AJ (all_cons AK all_nil))),(RepS.As cu (all_cons AJ (all_cons AK all_nil)))⟩,E⟩
 refine .r 1<|.d<|.cf<|.s<|.g<|.eq s.kind 3 (fun cd=>?_) (fun cd=>?_)
 ·refine .r 1<|.d<|.ct<|.s<|.gd nil 5 fun dx bi=>?_
  replace ⟨hob0,hrb1,hrb2,hbx,aa,E⟩:=(se [ab,bx,rb0] bi).g6 hob0 hrb1 hrb2 hbx aa E
  refine .r [0,1]<|.ln 2 hbx id<|.r [3]<|.lb 4 aa id<|.d fun cw bj=>?_
  replace ⟨hob0,hrb1,hrb2,hbx,aa,E⟩:=(se [ab,bx,rb0] bj).g6 hob0 hrb1 hrb2 hbx aa E
  refine .cl (C4 d s.num (hob0.rep) hrb1.ta hrb2.ta (w:=cw) (F:=all)) ?_
  rintro dy dz ⟨rfl,bk⟩
  replace ⟨hob0,hrb1,hrb2,hbx,aa,E⟩:=(se [ab,bx,rb0] bk).g6 hob0 hrb1 hrb2 hbx aa E
  refine .r 1<|.d<|.s<|.gd nil 9 fun dA bm=>?_
  replace ⟨hob0,hrb1,hrb2,hbx,aa,E⟩:=(se [ab,bx,rb0] bm).g6 hob0 hrb1 hrb2 hbx aa E
  refine .r [0]<|GA.G5 (i:=1) (Aw d s.num≥0) AA (fun ce=>?_) (fun ce=>?_)
  ·refine .r [2,3,4,5]<|.lb 6 hbx id<|.r [7]<|.lb 8 aa id<|.d fun cx bn=>?_
   replace ⟨hob0,hrb1,hrb2,hbx,E⟩:=(se [ab,bx,rb0] bn).g5 hob0 hrb1 hrb2 hbx E
   refine .cl (Cr d.list s.num hrb1.ta (w:=cx) (F:=all)) ?_
   rintro dB dC ⟨rfl,bo⟩
   replace ⟨hob0,hrb1,hrb2,hbx,E⟩:=(se [ab,bx,rb0] bo).g5 hob0 hrb1 hrb2 hbx E
   cases cO:(d.list.contains s.num)
   ·refine .r 2<|.d<|.ct<|.g<|.r 4<|.lb hbx<|.r 2<|RG.int (Aw d s.num+1) AA (by have q1:=p1.2.2.2; (have:=Cu d s.num; omega))<|.cl (Kl (i:=(Aw d s.num).toNat) (a:=Aw d s.num) (b:=Aw d s.num+1) hob0 (by have:=Cu d s.num; have:=JH d s.num; omega) (by have:=Cu d s.num; have:=JH d s.num; omega) (by have:=Cu d s.num; have:=JH d s.num; omega) (by have:=Cu d s.num; have:=JH d s.num; omega)) ?_
    rintro dD dE ⟨⟨rfl,ar⟩,bq⟩
    replace ⟨hrb1,hrb2,hbx,E⟩:=(so [ab,bx,rb0] bq).g4 hrb1 hrb2 hbx E
    refine .r 2<|.ss 0 (vS rb0 (nb0 - 1) cb0) hbx fun dF br cg ci=>?_
    replace ⟨ar,hrb1,hrb2,E⟩:=(so [ab,bx,rb0] br).g4 ar hrb1 hrb2 E
    refine .d<|.ib 0<|T.GR func130 results130 ?_
    rw [show (doD d s)=(⟨(d.files.take ((Aw d s.num).toNat)++d.files.drop ((Aw d s.num).toNat+1)),d.list,d.names,d.next⟩:Dsk) from by (rw [F3 ‹_›,Qh ‹_› ‹_›]; done)]
    exact ⟨⟨rfl,rb0,(nb0 - 1),cb0,ab1,d.list.length,cb1,ab2,d.names.length,cb2,cg,(Own.As ar (all_cons AJ (all_cons AK all_nil))),(Kb hcv_rb0 hnb0),hnb0,(RepS.As hrb1 (all_cons AJ (all_cons AK all_nil))),(RepS.As hrb2 (all_cons AJ (all_cons AK all_nil)))⟩,E⟩
   refine .r 2<|.d<|.cf<|.sk<|.ib 0<|T.GR func130 results130 ?_
   rw [show (doD d s)=d from by (rw [F3 ‹_›,OU (.inr ‹_›)]; done)]
   exact ⟨⟨rfl,rb0,nb0,cb0,ab1,d.list.length,cb1,ab2,d.names.length,cb2,hbx,(Own.As hob0 (all_cons AJ (all_cons AK all_nil))),(Kb hcv_rb0 hnb0),hnb0,(RepS.As hrb1 (all_cons AJ (all_cons AK all_nil))),(RepS.As hrb2 (all_cons AJ (all_cons AK all_nil)))⟩,E⟩
  refine .r [2]<|GA.skip AA fun dG bt=>?_
  replace ⟨hob0,hrb1,hrb2,hbx,E⟩:=(se [ab,bx,rb0] bt).g5 hob0 hrb1 hrb2 hbx E
  refine .r 3<|.d<|.cf<|.sk<|.ib 0<|T.GR func130 results130 ?_
  rw [show (doD d s)=d from by (rw [F3 ‹_›,OU (.inl ‹_›)]; done)]
  exact ⟨⟨rfl,rb0,nb0,cb0,ab1,d.list.length,cb1,ab2,d.names.length,cb2,hbx,(Own.As hob0 (all_cons AJ (all_cons AK all_nil))),(Kb hcv_rb0 hnb0),hnb0,(RepS.As hrb1 (all_cons AJ (all_cons AK all_nil))),(RepS.As hrb2 (all_cons AJ (all_cons AK all_nil)))⟩,E⟩
 refine .r 1<|.d<|.cf<|.sk<|.ib 0<|T.GR func130 results130 ?_
 rw [show (doD d s)=d from by (rw [Xq ‹_› ‹_› ‹_›]; done)]
 exact ⟨⟨rfl,rb0,nb0,cb0,ab1,d.list.length,cb1,ab2,d.names.length,cb2,hbx,(Own.As hob0 (all_cons AJ (all_cons AK all_nil))),(Kb hcv_rb0 hnb0),hnb0,(RepS.As hrb1 (all_cons AJ (all_cons AK all_nil))),(RepS.As hrb2 (all_cons AJ (all_cons AK all_nil)))⟩,E⟩
theorem Et (d:Dsk) (h1:RepS w F a1 n1 c1 d.files) (h2:RepS w F a2 n2 c2 d.list) (h3:RepS w F a3 n3 c3 d.names) (p0:d.files.length≤1000) (p1:∀ f∈d.files,C9 f.part) (p2:d.list.length≤1000) (p3:d.names.length≤1000) (p4:∀ n∈d.names,n.length≤1000):Calls Tryz.prog 129 [.agg #[.slice a1 n1 c1,.slice a2 n2 c2,.slice a3 n3 c3,.int .i64 d.next]].toArray w (Al fun rv w'=>(∃ (r0 n0 c0:Nat) (a1:Option Addr) (n1 c1:Nat) (a2:Option Addr) (n2 c2:Nat),rv=.agg #[.slice (some ⟨r0,0,none⟩) n0 c0,.slice a1 n1 c1,.slice a2 n2 c2,.int .i64 (d.next)]∧Own w' r0 165 (nin (ge w.heap.size) [r0]) n0 c0 (d.files)∧w.heap.size≤r0∧RepS w' (nin (ge w.heap.size) [r0]) a1 n1 c1 (d.list)∧RepS w' (nin (ge w.heap.size) [r0]) a2 n2 c2 (d.names))∧Ext w w'):=by
 cases h1.len
 cases h2.len
 cases h3.len
 refine goT func129 ?_
 have Z:=(((St.i0 F w).p h1).p h2).p h3
 refine .s<|.g<|RG.Np Z fun af w Z=>RG.Np Z fun ae w Z=>.d<|.s<|T.GS 12 [ae,af] Z fun _ w Z=>.r [2]<|GA.Lb (q:=1) 3 1 Z<|.r [5]<|GA.Lb (q:=1) 6 1 Z<|.r [8]<|GA.Lb (q:=1) 9 1 Z<|GE.many [0,1,11] AA (all_cons ?_ (all_cons ?_ (all_cons ?_ all_nil)))
 ·refine GE.N0 Fil 0 Z fun bQ w Z=>.tw 1 11 ?_ ?_
  ·refine GE.N0 Int 0 Z fun nH w Z=>.tw 4 11 ?_ ?_
   ·refine GE.An (hf:=.inr BB) 0 1 ([]:List Int) d.list [2,3] Z fun cC cD w Z=>.tw 7 11 ?_ ?_
    ·refine GE.CO 0 (fun w Z=>Af d.names (Z.a 0) AB (fun n hn=>by have:=p4 n hn; omega)) Z fun fE fF w Z=>.r [10]<|.go 11<|GE.Np Z fun b0 w Z=>GA.Do Z fun w Z=>RG.Ss 0 Z fun w Z=>.d<|.s<|.s<|.g<|.r 1<|RG.Lb 5 Z<|.r 2<|.d<|.b 0<|T.Lp ((0:Nat),([]:List Fil),bQ,(0:Nat),(([]++d.list):List Int),cC,cD,(d.names:List (List Tag)),fE,fF,d.next) (fun (k,E,r_out_0,c_out_0,aa,r_out_1,c_out_1,ab,r_out_2,c_out_2,ac)=>([(2,vP ae),(3,vP b0),(18,.slice a1 d.files.length c1),(19,vI (d.files.length:Int)),(20,vI (k:Int))],[(0,.box b0 42 [vS r_out_0 E.length c_out_0,vS r_out_1 aa.length c_out_1,vS r_out_2 ab.length c_out_2,vI ac]),(1,.own 0 r_out_2 63 c_out_2 ab),(2,.own 0 r_out_1 3 c_out_1 aa),(3,.own 0 r_out_0 165 c_out_0 E)],[],d.files.length - k,(k≤d.files.length)∧(E.length≤k)∧(E++d.files.drop k=d.files)∧(aa=d.list)∧(ab=d.names)∧(ac=d.next))) [] Z ⟨AB,AD,AF,AF,AF,AB⟩ ?_
     rintro ⟨k,E,r_out_0,c_out_0,aa,r_out_1,c_out_1,ab,r_out_2,c_out_2,ac⟩ nI w Z ⟨jn,jo,jp,jq,jr,jt⟩ bi
     refine .s<|.g<|.bp ((k:Int)< (d.files.length:Int)) (fun cE=>?_) (fun cE=>?_)
     ·exact .d<|.s<|.ct<|.sk<|.s<|.b 1<|.s<|.g<|gxb d.files k fun b6 aK ju fC=>RG.Ix 2 aK Z<|Z.el 2 aK fun nJ nK nL nM Z=>RG.Lg 0 0 Z<|RG.Np Z fun fG w Z=>RG.Ss 0 Z fun w Z=>.d<|T.GS 9 [fG,b0,ae,af] Z fun _ w Z=>.r [0]<|GA.Lb (q:=1) 1 1 Z<|.r [2]<|GA.Lb 3 0 Z<|.r [4]<|GA.Ln 5 0 Z<|.go 6<|GE.CS (fun w Z=>Av b6.part (Z.a 1) (Z.a 2) (p1 _ ‹_›)) Z fun nN nO nP nQ w Z=>.r [7]<|.go 8<|GE.Nb 1 Z fun nR w Z=>GA.Do Z fun w Z=>RG.Ap 4 0 E b6 [0,1] Z fun fH fI w Z=>.r 1<|RG.Ss 1 Z fun w Z=>.d<|.ib 1<|.g<|.it ((k:Int)+1)<|.r 1<|.d<|bi (k+1,(E++[b6]),fH,fI,aa,r_out_1,c_out_1,ab,r_out_2,c_out_2,ac) _ _ AA (Z.to 1 [] 5) ⟨AB,(by (simp; omega)),(by exact C6 ‹_› ‹_›),‹_›,‹_›,‹_›⟩ (by (simp only []; omega))
     refine .d<|.s<|.cf<|.x 0 rfl<|.s<|.g<|RG.Ln 0 Z<|RG.Ss 4 Z fun w Z=>.d ?_
     have Z:=(Z.sl 2).sl 1
     exact T.Rb 2 func129 results129 Z ⟨⟨r_out_0,E.length,c_out_0,(some ⟨r_out_1,0,none⟩),aa.length,c_out_1,(some ⟨r_out_2,0,none⟩),ab.length,c_out_2,(by rw [show d.next=ac from Eq.symm ‹_›]; kernel_rfl),Z.qo [1] 1 E (by exact Cb ‹_› AB),Z.qb 1,Z.qr [1] 1 aa ‹_›,Z.qr [1] 0 ab ‹_›⟩,Z.xt⟩
    refine GE.Np Z fun b7 w Z=>.go 7<|GE.CO 0 (fun w Z=>Af d.names (Z.a 0) AB (fun n hn=>by have:=p4 n hn; omega)) Z fun fJ fK w Z=>.r [10]<|GA.Do Z fun w Z=>RG.Ss 1 Z fun w Z=>.d<|.s<|.s<|.g<|.r 1<|RG.Lb 5 Z<|.r 2<|.d<|.b 0<|T.Lp ((0:Nat),([]:List Fil),bQ,(0:Nat),(([]++d.list):List Int),cC,cD,(d.names:List (List Tag)),fJ,fK,d.next) (fun (k,E,r_out_0,c_out_0,aa,r_out_1,c_out_1,ab,r_out_2,c_out_2,ac)=>([(2,vP ae),(3,vP b7),(18,.slice a1 d.files.length c1),(19,vI (d.files.length:Int)),(20,vI (k:Int))],[(0,.own 0 r_out_2 63 c_out_2 ab),(1,.box b7 42 [vS r_out_0 E.length c_out_0,vS r_out_1 aa.length c_out_1,vS r_out_2 ab.length c_out_2,vI ac]),(2,.own 0 r_out_1 3 c_out_1 aa),(3,.own 0 r_out_0 165 c_out_0 E)],[],d.files.length - k,(k≤d.files.length)∧(E.length≤k)∧(E++d.files.drop k=d.files)∧(aa=d.list)∧(ab=d.names)∧(ac=d.next))) [] Z ⟨AB,AD,AF,AF,AF,AB⟩ ?_
    rintro ⟨k,E,r_out_0,c_out_0,aa,r_out_1,c_out_1,ab,r_out_2,c_out_2,ac⟩ nT w Z ⟨jv,jw,jx,jy,jz,jA⟩ bj
    refine .s<|.g<|.bp ((k:Int)< (d.files.length:Int)) (fun cF=>?_) (fun cF=>?_)
    ·exact .d<|.s<|.ct<|.sk<|.s<|.b 1<|.s<|.g<|gxb d.files k fun b8 aL jB fD=>RG.Ix 2 aL Z<|Z.el 2 aL fun nU nV nW nX Z=>RG.Lg 0 0 Z<|RG.Np Z fun fL w Z=>RG.Ss 0 Z fun w Z=>.d<|T.GS 9 [fL,b7,ae,af] Z fun _ w Z=>.r [0]<|GA.Lb (q:=1) 1 2 Z<|.r [2]<|GA.Lb 3 0 Z<|.r [4]<|GA.Ln 5 0 Z<|.go 6<|GE.CS (fun w Z=>Av b8.part (Z.a 1) (Z.a 2) (p1 _ ‹_›)) Z fun nY nZ n7 n8 w Z=>.r [7]<|.go 8<|GE.Nb 1 Z fun n9 w Z=>GA.Do Z fun w Z=>RG.Ap 4 0 E b8 [0,1] Z fun fM fN w Z=>.r 1<|RG.Ss 2 Z fun w Z=>.d<|.ib 1<|.g<|.it ((k:Int)+1)<|.r 1<|.d<|bj (k+1,(E++[b8]),fM,fN,aa,r_out_1,c_out_1,ab,r_out_2,c_out_2,ac) _ _ AA (Z.to 1 [] 5) ⟨AB,(by (simp; omega)),(by exact C6 ‹_› ‹_›),‹_›,‹_›,‹_›⟩ (by (simp only []; omega))
    refine .d<|.s<|.cf<|.x 0 rfl<|.s<|.g<|RG.Ln 1 Z<|RG.Ss 4 Z fun w Z=>.d ?_
    have Z:=(Z.sl 2).sl 0
    exact T.Rb 2 func129 results129 Z ⟨⟨r_out_0,E.length,c_out_0,(some ⟨r_out_1,0,none⟩),aa.length,c_out_1,(some ⟨r_out_2,0,none⟩),ab.length,c_out_2,(by rw [show d.next=ac from Eq.symm ‹_›]; kernel_rfl),Z.qo [1] 1 E (by exact Cb ‹_› AB),Z.qb 1,Z.qr [1] 1 aa ‹_›,Z.qr [1] 0 ab ‹_›⟩,Z.xt⟩
   refine GE.Np Z fun b9 w Z=>.go 4<|GE.An (hf:=.inr BB) 1 1 ([]:List Int) d.list [3,4] Z fun fO fP w Z=>.go 7<|GE.CO 0 (fun w Z=>Af d.names (Z.a 0) AB (fun n hn=>by have:=p4 n hn; omega)) Z fun fQ fR w Z=>.r [10]<|GA.Do Z fun w Z=>RG.Ss 1 Z fun w Z=>.d<|.s<|.s<|.g<|.r 1<|RG.Lb 5 Z<|.r 2<|.d<|.b 0<|T.Lp ((0:Nat),([]:List Fil),bQ,(0:Nat),(([]++d.list):List Int),fO,fP,(d.names:List (List Tag)),fQ,fR,d.next) (fun (k,E,r_out_0,c_out_0,aa,r_out_1,c_out_1,ab,r_out_2,c_out_2,ac)=>([(2,vP ae),(3,vP b9),(18,.slice a1 d.files.length c1),(19,vI (d.files.length:Int)),(20,vI (k:Int))],[(0,.own 0 r_out_2 63 c_out_2 ab),(1,.box b9 42 [vS r_out_0 E.length c_out_0,vS r_out_1 aa.length c_out_1,vS r_out_2 ab.length c_out_2,vI ac]),(2,.own 0 r_out_1 3 c_out_1 aa),(3,.own 0 r_out_0 165 c_out_0 E)],[],d.files.length - k,(k≤d.files.length)∧(E.length≤k)∧(E++d.files.drop k=d.files)∧(aa=d.list)∧(ab=d.names)∧(ac=d.next))) [] Z ⟨AB,AD,AF,AF,AF,AB⟩ ?_
   rintro ⟨k,E,r_out_0,c_out_0,aa,r_out_1,c_out_1,ab,r_out_2,c_out_2,ac⟩ jC w Z ⟨jD,jE,jF,jG,jH,jI⟩ aM
   refine .s<|.g<|.bp ((k:Int)< (d.files.length:Int)) (fun cd=>?_) (fun cd=>?_)
   ·exact .d<|.s<|.ct<|.sk<|.s<|.b 1<|.s<|.g<|gxb d.files k fun bk al fS cG=>RG.Ix 2 al Z<|Z.el 2 al fun jJ jK jL jM Z=>RG.Lg 0 0 Z<|RG.Np Z fun cH w Z=>RG.Ss 0 Z fun w Z=>.d<|T.GS 9 [cH,b9,ae,af] Z fun _ w Z=>.r [0]<|GA.Lb (q:=1) 1 2 Z<|.r [2]<|GA.Lb 3 0 Z<|.r [4]<|GA.Ln 5 0 Z<|.go 6<|GE.CS (fun w Z=>Av bk.part (Z.a 1) (Z.a 2) (p1 _ ‹_›)) Z fun jN jO jP jQ w Z=>.r [7]<|.go 8<|GE.Nb 1 Z fun jR w Z=>GA.Do Z fun w Z=>RG.Ap 4 0 E bk [0,1] Z fun cI cJ w Z=>.r 1<|RG.Ss 2 Z fun w Z=>.d<|.ib 1<|.g<|.it ((k:Int)+1)<|.r 1<|.d<|aM (k+1,(E++[bk]),cI,cJ,aa,r_out_1,c_out_1,ab,r_out_2,c_out_2,ac) _ _ AA (Z.to 1 [] 5) ⟨AB,(by (simp; omega)),(by exact C6 ‹_› ‹_›),‹_›,‹_›,‹_›⟩ (by (simp only []; omega))
   refine .d<|.s<|.cf<|.x 0 rfl<|.s<|.g<|RG.Ln 1 Z<|RG.Ss 4 Z fun w Z=>.d ?_
   have Z:=(Z.sl 2).sl 0
   exact T.Rb 2 func129 results129 Z ⟨⟨r_out_0,E.length,c_out_0,(some ⟨r_out_1,0,none⟩),aa.length,c_out_1,(some ⟨r_out_2,0,none⟩),ab.length,c_out_2,(by rw [show d.next=ac from Eq.symm ‹_›]; kernel_rfl),Z.qo [1] 1 E (by exact Cb ‹_› AB),Z.qb 1,Z.qr [1] 1 aa ‹_›,Z.qr [1] 0 ab ‹_›⟩,Z.xt⟩
  refine GE.Np Z fun bm w Z=>.go 1<|GE.N0 Int 0 Z fun jS w Z=>.go 4<|GE.An (hf:=.inr BB) 0 1 ([]:List Int) d.list [3,4] Z fun cK cL w Z=>.go 7<|GE.CO 0 (fun w Z=>Af d.names (Z.a 0) AB (fun n hn=>by have:=p4 n hn; omega)) Z fun cM cN w Z=>.r [10]<|GA.Do Z fun w Z=>RG.Ss 2 Z fun w Z=>.d<|.s<|.s<|.g<|.r 1<|RG.Lb 5 Z<|.r 2<|.d<|.b 0<|T.Lp ((0:Nat),([]:List Fil),bQ,(0:Nat),(([]++d.list):List Int),cK,cL,(d.names:List (List Tag)),cM,cN,d.next) (fun (k,E,r_out_0,c_out_0,aa,r_out_1,c_out_1,ab,r_out_2,c_out_2,ac)=>([(2,vP ae),(3,vP bm),(18,.slice a1 d.files.length c1),(19,vI (d.files.length:Int)),(20,vI (k:Int))],[(0,.own 0 r_out_2 63 c_out_2 ab),(1,.own 0 r_out_1 3 c_out_1 aa),(2,.box bm 42 [vS r_out_0 E.length c_out_0,vS r_out_1 aa.length c_out_1,vS r_out_2 ab.length c_out_2,vI ac]),(3,.own 0 r_out_0 165 c_out_0 E)],[],d.files.length - k,(k≤d.files.length)∧(E.length≤k)∧(E++d.files.drop k=d.files)∧(aa=d.list)∧(ab=d.names)∧(ac=d.next))) [] Z ⟨AB,AD,AF,AF,AF,AB⟩ ?_
  rintro ⟨k,E,r_out_0,c_out_0,aa,r_out_1,c_out_1,ab,r_out_2,c_out_2,ac⟩ jT w Z ⟨fT,fU,fV,fW,fX,fY⟩ aN
  refine .s<|.g<|.bp ((k:Int)< (d.files.length:Int)) (fun ce=>?_) (fun ce=>?_)
  ·exact .d<|.s<|.ct<|.sk<|.s<|.b 1<|.s<|.g<|gxb d.files k fun bn am fZ cO=>RG.Ix 2 am Z<|Z.el 2 am fun jU jV jW jX Z=>RG.Lg 0 0 Z<|RG.Np Z fun cP w Z=>RG.Ss 0 Z fun w Z=>.d<|T.GS 9 [cP,bm,ae,af] Z fun _ w Z=>.r [0]<|GA.Lb (q:=1) 1 3 Z<|.r [2]<|GA.Lb 3 0 Z<|.r [4]<|GA.Ln 5 0 Z<|.go 6<|GE.CS (fun w Z=>Av bn.part (Z.a 1) (Z.a 2) (p1 _ ‹_›)) Z fun jY jZ j0 j1 w Z=>.r [7]<|.go 8<|GE.Nb 1 Z fun j2 w Z=>GA.Do Z fun w Z=>RG.Ap 4 0 E bn [0,1] Z fun cQ cR w Z=>.r 1<|RG.Ss 3 Z fun w Z=>.d<|.ib 1<|.g<|.it ((k:Int)+1)<|.r 1<|.d<|aN (k+1,(E++[bn]),cQ,cR,aa,r_out_1,c_out_1,ab,r_out_2,c_out_2,ac) _ _ AA (Z.to 1 [] 5) ⟨AB,(by (simp; omega)),(by exact C6 ‹_› ‹_›),‹_›,‹_›,‹_›⟩ (by (simp only []; omega))
  refine .d<|.s<|.cf<|.x 0 rfl<|.s<|.g<|RG.Ln 2 Z<|RG.Ss 4 Z fun w Z=>.d ?_
  have Z:=(Z.sl 1).sl 0
  exact T.Rb 2 func129 results129 Z ⟨⟨r_out_0,E.length,c_out_0,(some ⟨r_out_1,0,none⟩),aa.length,c_out_1,(some ⟨r_out_2,0,none⟩),ab.length,c_out_2,(by rw [show d.next=ac from Eq.symm ‹_›]; kernel_rfl),Z.qo [1] 1 E (by exact Cb ‹_› AB),Z.qb 1,Z.qr [1] 1 aa ‹_›,Z.qr [1] 0 ab ‹_›⟩,Z.xt⟩
 ·refine GE.N0 Int 0 Z fun j3 w Z=>GE.many [0,4,11] AA (all_cons ?_ (all_cons ?_ (all_cons ?_ all_nil)))
  ·refine GE.N0 Fil 0 Z fun bo w Z=>.tw 4 11 ?_ ?_
   ·refine GE.An (hf:=.inr BB) 1 1 ([]:List Int) d.list [2,3] Z fun bR bS w Z=>.tw 7 11 ?_ ?_
    ·refine GE.CO 0 (fun w Z=>Af d.names (Z.a 0) AB (fun n hn=>by have:=p4 n hn; omega)) Z fun cS cT w Z=>.r [10]<|.go 11<|GE.Np Z fun bq w Z=>GA.Do Z fun w Z=>RG.Ss 0 Z fun w Z=>.d<|.s<|.s<|.g<|.r 1<|RG.Lb 5 Z<|.r 2<|.d<|.b 0<|T.Lp ((0:Nat),([]:List Fil),bo,(0:Nat),(([]++d.list):List Int),bR,bS,(d.names:List (List Tag)),cS,cT,d.next) (fun (k,E,r_out_0,c_out_0,aa,r_out_1,c_out_1,ab,r_out_2,c_out_2,ac)=>([(2,vP ae),(3,vP bq),(18,.slice a1 d.files.length c1),(19,vI (d.files.length:Int)),(20,vI (k:Int))],[(0,.box bq 42 [vS r_out_0 E.length c_out_0,vS r_out_1 aa.length c_out_1,vS r_out_2 ab.length c_out_2,vI ac]),(1,.own 0 r_out_2 63 c_out_2 ab),(2,.own 0 r_out_0 165 c_out_0 E),(3,.own 0 r_out_1 3 c_out_1 aa)],[],d.files.length - k,(k≤d.files.length)∧(E.length≤k)∧(E++d.files.drop k=d.files)∧(aa=d.list)∧(ab=d.names)∧(ac=d.next))) [] Z ⟨AB,AD,AF,AF,AF,AB⟩ ?_
     rintro ⟨k,E,r_out_0,c_out_0,aa,r_out_1,c_out_1,ab,r_out_2,c_out_2,ac⟩ j4 w Z ⟨f0,f5,f6,f7,f8,f9⟩ aO
     refine .s<|.g<|.bp ((k:Int)< (d.files.length:Int)) (fun cg=>?_) (fun cg=>?_)
     ·exact .d<|.s<|.ct<|.sk<|.s<|.b 1<|.s<|.g<|gxb d.files k fun br ao gb cU=>RG.Ix 2 ao Z<|Z.el 2 ao fun j5 j6 j7 j8 Z=>RG.Lg 0 0 Z<|RG.Np Z fun cV w Z=>RG.Ss 0 Z fun w Z=>.d<|T.GS 9 [cV,bq,ae,af] Z fun _ w Z=>.r [0]<|GA.Lb (q:=1) 1 1 Z<|.r [2]<|GA.Lb 3 0 Z<|.r [4]<|GA.Ln 5 0 Z<|.go 6<|GE.CS (fun w Z=>Av br.part (Z.a 1) (Z.a 2) (p1 _ ‹_›)) Z fun j9 ka kb kd w Z=>.r [7]<|.go 8<|GE.Nb 1 Z fun ke w Z=>GA.Do Z fun w Z=>RG.Ap 3 0 E br [0,1] Z fun cW cX w Z=>.r 1<|RG.Ss 1 Z fun w Z=>.d<|.ib 1<|.g<|.it ((k:Int)+1)<|.r 1<|.d<|aO (k+1,(E++[br]),cW,cX,aa,r_out_1,c_out_1,ab,r_out_2,c_out_2,ac) _ _ AA (Z.to 1 [] 5) ⟨AB,(by (simp; omega)),(by exact C6 ‹_› ‹_›),‹_›,‹_›,‹_›⟩ (by (simp only []; omega))
     refine .d<|.s<|.cf<|.x 0 rfl<|.s<|.g<|RG.Ln 0 Z<|RG.Ss 4 Z fun w Z=>.d ?_
     have Z:=(Z.sl 3).sl 1
     exact T.Rb 2 func129 results129 Z ⟨⟨r_out_0,E.length,c_out_0,(some ⟨r_out_1,0,none⟩),aa.length,c_out_1,(some ⟨r_out_2,0,none⟩),ab.length,c_out_2,(by rw [show d.next=ac from Eq.symm ‹_›]; kernel_rfl),Z.qo [1] 1 E (by exact Cb ‹_› AB),Z.qb 1,Z.qr [1] 1 aa ‹_›,Z.qr [1] 0 ab ‹_›⟩,Z.xt⟩
    refine GE.Np Z fun bt w Z=>.go 7<|GE.CO 0 (fun w Z=>Af d.names (Z.a 0) AB (fun n hn=>by have:=p4 n hn; omega)) Z fun cY cZ w Z=>.r [10]<|GA.Do Z fun w Z=>RG.Ss 1 Z fun w Z=>.d<|.s<|.s<|.g<|.r 1<|RG.Lb 5 Z<|.r 2<|.d<|.b 0<|T.Lp ((0:Nat),([]:List Fil),bo,(0:Nat),(([]++d.list):List Int),bR,bS,(d.names:List (List Tag)),cY,cZ,d.next) (fun (k,E,r_out_0,c_out_0,aa,r_out_1,c_out_1,ab,r_out_2,c_out_2,ac)=>([(2,vP ae),(3,vP bt),(18,.slice a1 d.files.length c1),(19,vI (d.files.length:Int)),(20,vI (k:Int))],[(0,.own 0 r_out_2 63 c_out_2 ab),(1,.box bt 42 [vS r_out_0 E.length c_out_0,vS r_out_1 aa.length c_out_1,vS r_out_2 ab.length c_out_2,vI ac]),(2,.own 0 r_out_0 165 c_out_0 E),(3,.own 0 r_out_1 3 c_out_1 aa)],[],d.files.length - k,(k≤d.files.length)∧(E.length≤k)∧(E++d.files.drop k=d.files)∧(aa=d.list)∧(ab=d.names)∧(ac=d.next))) [] Z ⟨AB,AD,AF,AF,AF,AB⟩ ?_
    rintro ⟨k,E,r_out_0,c_out_0,aa,r_out_1,c_out_1,ab,r_out_2,c_out_2,ac⟩ kf w Z ⟨gf,gh,gi,gj,gk,gl⟩ aP
    refine .s<|.g<|.bp ((k:Int)< (d.files.length:Int)) (fun ci=>?_) (fun ci=>?_)
    ·exact .d<|.s<|.ct<|.sk<|.s<|.b 1<|.s<|.g<|gxb d.files k fun bu aq gm c7=>RG.Ix 2 aq Z<|Z.el 2 aq fun kg kh ki kj Z=>RG.Lg 0 0 Z<|RG.Np Z fun c8 w Z=>RG.Ss 0 Z fun w Z=>.d<|T.GS 9 [c8,bt,ae,af] Z fun _ w Z=>.r [0]<|GA.Lb (q:=1) 1 2 Z<|.r [2]<|GA.Lb 3 0 Z<|.r [4]<|GA.Ln 5 0 Z<|.go 6<|GE.CS (fun w Z=>Av bu.part (Z.a 1) (Z.a 2) (p1 _ ‹_›)) Z fun kk kl km ko w Z=>.r [7]<|.go 8<|GE.Nb 1 Z fun kr w Z=>GA.Do Z fun w Z=>RG.Ap 3 0 E bu [0,1] Z fun da db w Z=>.r 1<|RG.Ss 2 Z fun w Z=>.d<|.ib 1<|.g<|.it ((k:Int)+1)<|.r 1<|.d<|aP (k+1,(E++[bu]),da,db,aa,r_out_1,c_out_1,ab,r_out_2,c_out_2,ac) _ _ AA (Z.to 1 [] 5) ⟨AB,(by (simp; omega)),(by exact C6 ‹_› ‹_›),‹_›,‹_›,‹_›⟩ (by (simp only []; omega))
    refine .d<|.s<|.cf<|.x 0 rfl<|.s<|.g<|RG.Ln 1 Z<|RG.Ss 4 Z fun w Z=>.d ?_
    have Z:=(Z.sl 3).sl 0
    exact T.Rb 2 func129 results129 Z ⟨⟨r_out_0,E.length,c_out_0,(some ⟨r_out_1,0,none⟩),aa.length,c_out_1,(some ⟨r_out_2,0,none⟩),ab.length,c_out_2,(by rw [show d.next=ac from Eq.symm ‹_›]; kernel_rfl),Z.qo [1] 1 E (by exact Cb ‹_› AB),Z.qb 1,Z.qr [1] 1 aa ‹_›,Z.qr [1] 0 ab ‹_›⟩,Z.xt⟩
   refine GE.Np Z fun bv w Z=>.go 4<|GE.An (hf:=.inr BB) 2 1 ([]:List Int) d.list [3,4] Z fun de df w Z=>.go 7<|GE.CO 0 (fun w Z=>Af d.names (Z.a 0) AB (fun n hn=>by have:=p4 n hn; omega)) Z fun dh dj w Z=>.r [10]<|GA.Do Z fun w Z=>RG.Ss 1 Z fun w Z=>.d<|.s<|.s<|.g<|.r 1<|RG.Lb 5 Z<|.r 2<|.d<|.b 0<|T.Lp ((0:Nat),([]:List Fil),bo,(0:Nat),(([]++d.list):List Int),de,df,(d.names:List (List Tag)),dh,dj,d.next) (fun (k,E,r_out_0,c_out_0,aa,r_out_1,c_out_1,ab,r_out_2,c_out_2,ac)=>([(2,vP ae),(3,vP bv),(18,.slice a1 d.files.length c1),(19,vI (d.files.length:Int)),(20,vI (k:Int))],[(0,.own 0 r_out_2 63 c_out_2 ab),(1,.box bv 42 [vS r_out_0 E.length c_out_0,vS r_out_1 aa.length c_out_1,vS r_out_2 ab.length c_out_2,vI ac]),(2,.own 0 r_out_0 165 c_out_0 E),(3,.own 0 r_out_1 3 c_out_1 aa)],[],d.files.length - k,(k≤d.files.length)∧(E.length≤k)∧(E++d.files.drop k=d.files)∧(aa=d.list)∧(ab=d.names)∧(ac=d.next))) [] Z ⟨AB,AD,AF,AF,AF,AB⟩ ?_
   rintro ⟨k,E,r_out_0,c_out_0,aa,r_out_1,c_out_1,ab,r_out_2,c_out_2,ac⟩ ku w Z ⟨gn,gp,gq,gr,gs,gt⟩ aQ
   refine .s<|.g<|.bp ((k:Int)< (d.files.length:Int)) (fun cj=>?_) (fun cj=>?_)
   ·exact .d<|.s<|.ct<|.sk<|.s<|.b 1<|.s<|.g<|gxb d.files k fun bw ar gu dm=>RG.Ix 2 ar Z<|Z.el 2 ar fun kv kw kx ky Z=>RG.Lg 0 0 Z<|RG.Np Z fun dp w Z=>RG.Ss 0 Z fun w Z=>.d<|T.GS 9 [dp,bv,ae,af] Z fun _ w Z=>.r [0]<|GA.Lb (q:=1) 1 2 Z<|.r [2]<|GA.Lb 3 0 Z<|.r [4]<|GA.Ln 5 0 Z<|.go 6<|GE.CS (fun w Z=>Av bw.part (Z.a 1) (Z.a 2) (p1 _ ‹_›)) Z fun kz kA kB kC w Z=>.r [7]<|.go 8<|GE.Nb 1 Z fun kD w Z=>GA.Do Z fun w Z=>RG.Ap 3 0 E bw [0,1] Z fun dq dt w Z=>.r 1<|RG.Ss 2 Z fun w Z=>.d<|.ib 1<|.g<|.it ((k:Int)+1)<|.r 1<|.d<|aQ (k+1,(E++[bw]),dq,dt,aa,r_out_1,c_out_1,ab,r_out_2,c_out_2,ac) _ _ AA (Z.to 1 [] 5) ⟨AB,(by (simp; omega)),(by exact C6 ‹_› ‹_›),‹_›,‹_›,‹_›⟩ (by (simp only []; omega))
   refine .d<|.s<|.cf<|.x 0 rfl<|.s<|.g<|RG.Ln 1 Z<|RG.Ss 4 Z fun w Z=>.d ?_
   have Z:=(Z.sl 3).sl 0
   exact T.Rb 2 func129 results129 Z ⟨⟨r_out_0,E.length,c_out_0,(some ⟨r_out_1,0,none⟩),aa.length,c_out_1,(some ⟨r_out_2,0,none⟩),ab.length,c_out_2,(by rw [show d.next=ac from Eq.symm ‹_›]; kernel_rfl),Z.qo [1] 1 E (by exact Cb ‹_› AB),Z.qb 1,Z.qr [1] 1 aa ‹_›,Z.qr [1] 0 ab ‹_›⟩,Z.xt⟩
  ·refine GE.An (hf:=.inr BB) 0 1 ([]:List Int) d.list [1,2] Z fun ai aj w Z=>GE.many [0,7,11] AA (all_cons ?_ (all_cons ?_ (all_cons ?_ all_nil)))
   ·refine GE.N0 Fil 0 Z fun bT w Z=>.tw 7 11 ?_ ?_
    ·refine GE.CO 0 (fun w Z=>Af d.names (Z.a 0) AB (fun n hn=>by have:=p4 n hn; omega)) Z fun du dv w Z=>.r [10]<|.go 11<|GE.Np Z fun bz w Z=>GA.Do Z fun w Z=>RG.Ss 0 Z fun w Z=>.d<|.s<|.s<|.g<|.r 1<|RG.Lb 5 Z<|.r 2<|.d<|.b 0<|T.Lp ((0:Nat),([]:List Fil),bT,(0:Nat),(([]++d.list):List Int),ai,aj,(d.names:List (List Tag)),du,dv,d.next) (fun (k,E,r_out_0,c_out_0,aa,r_out_1,c_out_1,ab,r_out_2,c_out_2,ac)=>([(2,vP ae),(3,vP bz),(18,.slice a1 d.files.length c1),(19,vI (d.files.length:Int)),(20,vI (k:Int))],[(0,.box bz 42 [vS r_out_0 E.length c_out_0,vS r_out_1 aa.length c_out_1,vS r_out_2 ab.length c_out_2,vI ac]),(1,.own 0 r_out_2 63 c_out_2 ab),(2,.own 0 r_out_0 165 c_out_0 E),(3,.own 0 r_out_1 3 c_out_1 aa)],[],d.files.length - k,(k≤d.files.length)∧(E.length≤k)∧(E++d.files.drop k=d.files)∧(aa=d.list)∧(ab=d.names)∧(ac=d.next))) [] Z ⟨AB,AD,AF,AF,AF,AB⟩ ?_
     rintro ⟨k,E,r_out_0,c_out_0,aa,r_out_1,c_out_1,ab,r_out_2,c_out_2,ac⟩ kE w Z ⟨gv,gw,gy,gz,gA,gC⟩ aR
     refine .s<|.g<|.bp ((k:Int)< (d.files.length:Int)) (fun ck=>?_) (fun ck=>?_)
     ·exact .d<|.s<|.ct<|.sk<|.s<|.b 1<|.s<|.g<|gxb d.files k fun bA ax gD dw=>RG.Ix 2 ax Z<|Z.el 2 ax fun kF kG kH kI Z=>RG.Lg 0 0 Z<|RG.Np Z fun dx w Z=>RG.Ss 0 Z fun w Z=>.d<|T.GS 9 [dx,bz,ae,af] Z fun _ w Z=>.r [0]<|GA.Lb (q:=1) 1 1 Z<|.r [2]<|GA.Lb 3 0 Z<|.r [4]<|GA.Ln 5 0 Z<|.go 6<|GE.CS (fun w Z=>Av bA.part (Z.a 1) (Z.a 2) (p1 _ ‹_›)) Z fun kJ kK kL kM w Z=>.r [7]<|.go 8<|GE.Nb 1 Z fun kN w Z=>GA.Do Z fun w Z=>RG.Ap 3 0 E bA [0,1] Z fun dy dz w Z=>.r 1<|RG.Ss 1 Z fun w Z=>.d<|.ib 1<|.g<|.it ((k:Int)+1)<|.r 1<|.d<|aR (k+1,(E++[bA]),dy,dz,aa,r_out_1,c_out_1,ab,r_out_2,c_out_2,ac) _ _ AA (Z.to 1 [] 5) ⟨AB,(by (simp; omega)),(by exact C6 ‹_› ‹_›),‹_›,‹_›,‹_›⟩ (by (simp only []; omega))
     refine .d<|.s<|.cf<|.x 0 rfl<|.s<|.g<|RG.Ln 0 Z<|RG.Ss 4 Z fun w Z=>.d ?_
     have Z:=(Z.sl 3).sl 1
     exact T.Rb 2 func129 results129 Z ⟨⟨r_out_0,E.length,c_out_0,(some ⟨r_out_1,0,none⟩),aa.length,c_out_1,(some ⟨r_out_2,0,none⟩),ab.length,c_out_2,(by rw [show d.next=ac from Eq.symm ‹_›]; kernel_rfl),Z.qo [1] 1 E (by exact Cb ‹_› AB),Z.qb 1,Z.qr [1] 1 aa ‹_›,Z.qr [1] 0 ab ‹_›⟩,Z.xt⟩
    refine GE.Np Z fun bB w Z=>.go 7<|GE.CO 0 (fun w Z=>Af d.names (Z.a 0) AB (fun n hn=>by have:=p4 n hn; omega)) Z fun dA dB w Z=>.r [10]<|GA.Do Z fun w Z=>RG.Ss 1 Z fun w Z=>.d<|.s<|.s<|.g<|.r 1<|RG.Lb 5 Z<|.r 2<|.d<|.b 0<|T.Lp ((0:Nat),([]:List Fil),bT,(0:Nat),(([]++d.list):List Int),ai,aj,(d.names:List (List Tag)),dA,dB,d.next) (fun (k,E,r_out_0,c_out_0,aa,r_out_1,c_out_1,ab,r_out_2,c_out_2,ac)=>([(2,vP ae),(3,vP bB),(18,.slice a1 d.files.length c1),(19,vI (d.files.length:Int)),(20,vI (k:Int))],[(0,.own 0 r_out_2 63 c_out_2 ab),(1,.box bB 42 [vS r_out_0 E.length c_out_0,vS r_out_1 aa.length c_out_1,vS r_out_2 ab.length c_out_2,vI ac]),(2,.own 0 r_out_0 165 c_out_0 E),(3,.own 0 r_out_1 3 c_out_1 aa)],[],d.files.length - k,(k≤d.files.length)∧(E.length≤k)∧(E++d.files.drop k=d.files)∧(aa=d.list)∧(ab=d.names)∧(ac=d.next))) [] Z ⟨AB,AD,AF,AF,AF,AB⟩ ?_
    rintro ⟨k,E,r_out_0,c_out_0,aa,r_out_1,c_out_1,ab,r_out_2,c_out_2,ac⟩ kO w Z ⟨gE,gF,gG,gH,gI,gJ⟩ aS
    refine .s<|.g<|.bp ((k:Int)< (d.files.length:Int)) (fun cm=>?_) (fun cm=>?_)
    ·exact .d<|.s<|.ct<|.sk<|.s<|.b 1<|.s<|.g<|gxb d.files k fun bC ay gK dC=>RG.Ix 2 ay Z<|Z.el 2 ay fun kP kQ kR kS Z=>RG.Lg 0 0 Z<|RG.Np Z fun dD w Z=>RG.Ss 0 Z fun w Z=>.d<|T.GS 9 [dD,bB,ae,af] Z fun _ w Z=>.r [0]<|GA.Lb (q:=1) 1 2 Z<|.r [2]<|GA.Lb 3 0 Z<|.r [4]<|GA.Ln 5 0 Z<|.go 6<|GE.CS (fun w Z=>Av bC.part (Z.a 1) (Z.a 2) (p1 _ ‹_›)) Z fun kT kU kV kW w Z=>.r [7]<|.go 8<|GE.Nb 1 Z fun kX w Z=>GA.Do Z fun w Z=>RG.Ap 3 0 E bC [0,1] Z fun dE dF w Z=>.r 1<|RG.Ss 2 Z fun w Z=>.d<|.ib 1<|.g<|.it ((k:Int)+1)<|.r 1<|.d<|aS (k+1,(E++[bC]),dE,dF,aa,r_out_1,c_out_1,ab,r_out_2,c_out_2,ac) _ _ AA (Z.to 1 [] 5) ⟨AB,(by (simp; omega)),(by exact C6 ‹_› ‹_›),‹_›,‹_›,‹_›⟩ (by (simp only []; omega))
    refine .d<|.s<|.cf<|.x 0 rfl<|.s<|.g<|RG.Ln 1 Z<|RG.Ss 4 Z fun w Z=>.d ?_
    have Z:=(Z.sl 3).sl 0
    exact T.Rb 2 func129 results129 Z ⟨⟨r_out_0,E.length,c_out_0,(some ⟨r_out_1,0,none⟩),aa.length,c_out_1,(some ⟨r_out_2,0,none⟩),ab.length,c_out_2,(by rw [show d.next=ac from Eq.symm ‹_›]; kernel_rfl),Z.qo [1] 1 E (by exact Cb ‹_› AB),Z.qb 1,Z.qr [1] 1 aa ‹_›,Z.qr [1] 0 ab ‹_›⟩,Z.xt⟩
   ·refine GE.CO 0 (fun w Z=>Af d.names (Z.a 0) AB (fun n hn=>by have:=p4 n hn; omega)) Z fun bU bV w Z=>.tw 0 11 ?_ ?_
    ·refine GE.N0 Fil 0 Z fun dG w Z=>.r [10]<|.go 11<|GE.Np Z fun bD w Z=>GA.Do Z fun w Z=>RG.Ss 0 Z fun w Z=>.d<|.s<|.s<|.g<|.r 1<|RG.Lb 5 Z<|.r 2<|.d<|.b 0<|T.Lp ((0:Nat),([]:List Fil),dG,(0:Nat),(([]++d.list):List Int),ai,aj,(d.names:List (List Tag)),bU,bV,d.next) (fun (k,E,r_out_0,c_out_0,aa,r_out_1,c_out_1,ab,r_out_2,c_out_2,ac)=>([(2,vP ae),(3,vP bD),(18,.slice a1 d.files.length c1),(19,vI (d.files.length:Int)),(20,vI (k:Int))],[(0,.box bD 42 [vS r_out_0 E.length c_out_0,vS r_out_1 aa.length c_out_1,vS r_out_2 ab.length c_out_2,vI ac]),(1,.own 0 r_out_0 165 c_out_0 E),(2,.own 0 r_out_2 63 c_out_2 ab),(3,.own 0 r_out_1 3 c_out_1 aa)],[],d.files.length - k,(k≤d.files.length)∧(E.length≤k)∧(E++d.files.drop k=d.files)∧(aa=d.list)∧(ab=d.names)∧(ac=d.next))) [] Z ⟨AB,AD,AF,AF,AF,AB⟩ ?_
     rintro ⟨k,E,r_out_0,c_out_0,aa,r_out_1,c_out_1,ab,r_out_2,c_out_2,ac⟩ kY w Z ⟨gL,gM,gN,gO,gP,gQ⟩ aT
     refine .s<|.g<|.bp ((k:Int)< (d.files.length:Int)) (fun co=>?_) (fun co=>?_)
     ·exact .d<|.s<|.ct<|.sk<|.s<|.b 1<|.s<|.g<|gxb d.files k fun bE az gR dH=>RG.Ix 2 az Z<|Z.el 2 az fun kZ k5 k6 k7 Z=>RG.Lg 0 0 Z<|RG.Np Z fun dI w Z=>RG.Ss 0 Z fun w Z=>.d<|T.GS 9 [dI,bD,ae,af] Z fun _ w Z=>.r [0]<|GA.Lb (q:=1) 1 1 Z<|.r [2]<|GA.Lb 3 0 Z<|.r [4]<|GA.Ln 5 0 Z<|.go 6<|GE.CS (fun w Z=>Av bE.part (Z.a 1) (Z.a 2) (p1 _ ‹_›)) Z fun k8 lc ld lf w Z=>.r [7]<|.go 8<|GE.Nb 1 Z fun li w Z=>GA.Do Z fun w Z=>RG.Ap 2 0 E bE [0,1] Z fun dJ dK w Z=>.r 1<|RG.Ss 1 Z fun w Z=>.d<|.ib 1<|.g<|.it ((k:Int)+1)<|.r 1<|.d<|aT (k+1,(E++[bE]),dJ,dK,aa,r_out_1,c_out_1,ab,r_out_2,c_out_2,ac) _ _ AA (Z.to 1 [] 5) ⟨AB,(by (simp; omega)),(by exact C6 ‹_› ‹_›),‹_›,‹_›,‹_›⟩ (by (simp only []; omega))
     refine .d<|.s<|.cf<|.x 0 rfl<|.s<|.g<|RG.Ln 0 Z<|RG.Ss 4 Z fun w Z=>.d ?_
     have Z:=(Z.sl 3).sl 2
     exact T.Rb 2 func129 results129 Z ⟨⟨r_out_0,E.length,c_out_0,(some ⟨r_out_1,0,none⟩),aa.length,c_out_1,(some ⟨r_out_2,0,none⟩),ab.length,c_out_2,(by rw [show d.next=ac from Eq.symm ‹_›]; kernel_rfl),Z.qo [1] 1 E (by exact Cb ‹_› AB),Z.qb 1,Z.qr [1] 1 aa ‹_›,Z.qr [1] 0 ab ‹_›⟩,Z.xt⟩
    refine GE.Np Z fun bF w Z=>.go 0<|GE.N0 Fil 0 Z fun dL w Z=>.r [10]<|GA.Do Z fun w Z=>RG.Ss 1 Z fun w Z=>.d<|.s<|.s<|.g<|.r 1<|RG.Lb 5 Z<|.r 2<|.d<|.b 0<|T.Lp ((0:Nat),([]:List Fil),dL,(0:Nat),(([]++d.list):List Int),ai,aj,(d.names:List (List Tag)),bU,bV,d.next) (fun (k,E,r_out_0,c_out_0,aa,r_out_1,c_out_1,ab,r_out_2,c_out_2,ac)=>([(2,vP ae),(3,vP bF),(18,.slice a1 d.files.length c1),(19,vI (d.files.length:Int)),(20,vI (k:Int))],[(0,.own 0 r_out_0 165 c_out_0 E),(1,.box bF 42 [vS r_out_0 E.length c_out_0,vS r_out_1 aa.length c_out_1,vS r_out_2 ab.length c_out_2,vI ac]),(2,.own 0 r_out_2 63 c_out_2 ab),(3,.own 0 r_out_1 3 c_out_1 aa)],[],d.files.length - k,(k≤d.files.length)∧(E.length≤k)∧(E++d.files.drop k=d.files)∧(aa=d.list)∧(ab=d.names)∧(ac=d.next))) [] Z ⟨AB,AD,AF,AF,AF,AB⟩ ?_
    rintro ⟨k,E,r_out_0,c_out_0,aa,r_out_1,c_out_1,ab,r_out_2,c_out_2,ac⟩ lj w Z ⟨gS,gT,gU,gV,gW,gX⟩ aU
    refine .s<|.g<|.bp ((k:Int)< (d.files.length:Int)) (fun cp=>?_) (fun cp=>?_)
    ·exact .d<|.s<|.ct<|.sk<|.s<|.b 1<|.s<|.g<|gxb d.files k fun bG aA gY dM=>RG.Ix 2 aA Z<|Z.el 2 aA fun lk ll lm lp Z=>RG.Lg 0 0 Z<|RG.Np Z fun dN w Z=>RG.Ss 0 Z fun w Z=>.d<|T.GS 9 [dN,bF,ae,af] Z fun _ w Z=>.r [0]<|GA.Lb (q:=1) 1 2 Z<|.r [2]<|GA.Lb 3 0 Z<|.r [4]<|GA.Ln 5 0 Z<|.go 6<|GE.CS (fun w Z=>Av bG.part (Z.a 1) (Z.a 2) (p1 _ ‹_›)) Z fun lq lu lv lw w Z=>.r [7]<|.go 8<|GE.Nb 1 Z fun ly w Z=>GA.Do Z fun w Z=>RG.Ap 1 0 E bG [0,1] Z fun dO dP w Z=>.r 1<|RG.Ss 2 Z fun w Z=>.d<|.ib 1<|.g<|.it ((k:Int)+1)<|.r 1<|.d<|aU (k+1,(E++[bG]),dO,dP,aa,r_out_1,c_out_1,ab,r_out_2,c_out_2,ac) _ _ AA (Z.to 1 [] 5) ⟨AB,(by (simp; omega)),(by exact C6 ‹_› ‹_›),‹_›,‹_›,‹_›⟩ (by (simp only []; omega))
    refine .d<|.s<|.cf<|.x 0 rfl<|.s<|.g<|RG.Ln 1 Z<|RG.Ss 4 Z fun w Z=>.d ?_
    have Z:=(Z.sl 3).sl 2
    exact T.Rb 2 func129 results129 Z ⟨⟨r_out_0,E.length,c_out_0,(some ⟨r_out_1,0,none⟩),aa.length,c_out_1,(some ⟨r_out_2,0,none⟩),ab.length,c_out_2,(by rw [show d.next=ac from Eq.symm ‹_›]; kernel_rfl),Z.qo [0] 0 E (by exact Cb ‹_› AB),Z.qb 0,Z.qr [0] 1 aa ‹_›,Z.qr [0] 0 ab ‹_›⟩,Z.xt⟩
   refine GE.Np Z fun ak w Z=>.tw 0 7 ?_ ?_
   ·refine GE.N0 Fil 0 Z fun dQ w Z=>.go 7<|GE.CO 0 (fun w Z=>Af d.names (Z.a 0) AB (fun n hn=>by have:=p4 n hn; omega)) Z fun dR dS w Z=>.r [10]<|GA.Do Z fun w Z=>RG.Ss 2 Z fun w Z=>.d<|.s<|.s<|.g<|.r 1<|RG.Lb 5 Z<|.r 2<|.d<|.b 0<|T.Lp ((0:Nat),([]:List Fil),dQ,(0:Nat),(([]++d.list):List Int),ai,aj,(d.names:List (List Tag)),dR,dS,d.next) (fun (k,E,r_out_0,c_out_0,aa,r_out_1,c_out_1,ab,r_out_2,c_out_2,ac)=>([(2,vP ae),(3,vP ak),(18,.slice a1 d.files.length c1),(19,vI (d.files.length:Int)),(20,vI (k:Int))],[(0,.own 0 r_out_2 63 c_out_2 ab),(1,.own 0 r_out_0 165 c_out_0 E),(2,.box ak 42 [vS r_out_0 E.length c_out_0,vS r_out_1 aa.length c_out_1,vS r_out_2 ab.length c_out_2,vI ac]),(3,.own 0 r_out_1 3 c_out_1 aa)],[],d.files.length - k,(k≤d.files.length)∧(E.length≤k)∧(E++d.files.drop k=d.files)∧(aa=d.list)∧(ab=d.names)∧(ac=d.next))) [] Z ⟨AB,AD,AF,AF,AF,AB⟩ ?_
    rintro ⟨k,E,r_out_0,c_out_0,aa,r_out_1,c_out_1,ab,r_out_2,c_out_2,ac⟩ lz w Z ⟨gZ,g0,hC,hE,hH,hN⟩ aV
    refine .s<|.g<|.bp ((k:Int)< (d.files.length:Int)) (fun cq=>?_) (fun cq=>?_)
    ·exact .d<|.s<|.ct<|.sk<|.s<|.b 1<|.s<|.g<|gxb d.files k fun bH aB hO dT=>RG.Ix 2 aB Z<|Z.el 2 aB fun lA lB lC lD Z=>RG.Lg 0 0 Z<|RG.Np Z fun dU w Z=>RG.Ss 0 Z fun w Z=>.d<|T.GS 9 [dU,ak,ae,af] Z fun _ w Z=>.r [0]<|GA.Lb (q:=1) 1 3 Z<|.r [2]<|GA.Lb 3 0 Z<|.r [4]<|GA.Ln 5 0 Z<|.go 6<|GE.CS (fun w Z=>Av bH.part (Z.a 1) (Z.a 2) (p1 _ ‹_›)) Z fun lE lF lG lH w Z=>.r [7]<|.go 8<|GE.Nb 1 Z fun lI w Z=>GA.Do Z fun w Z=>RG.Ap 2 0 E bH [0,1] Z fun dV dW w Z=>.r 1<|RG.Ss 3 Z fun w Z=>.d<|.ib 1<|.g<|.it ((k:Int)+1)<|.r 1<|.d<|aV (k+1,(E++[bH]),dV,dW,aa,r_out_1,c_out_1,ab,r_out_2,c_out_2,ac) _ _ AA (Z.to 1 [] 5) ⟨AB,(by (simp; omega)),(by exact C6 ‹_› ‹_›),‹_›,‹_›,‹_›⟩ (by (simp only []; omega))
    refine .d<|.s<|.cf<|.x 0 rfl<|.s<|.g<|RG.Ln 2 Z<|RG.Ss 4 Z fun w Z=>.d ?_
    have Z:=(Z.sl 3).sl 0
    exact T.Rb 2 func129 results129 Z ⟨⟨r_out_0,E.length,c_out_0,(some ⟨r_out_1,0,none⟩),aa.length,c_out_1,(some ⟨r_out_2,0,none⟩),ab.length,c_out_2,(by rw [show d.next=ac from Eq.symm ‹_›]; kernel_rfl),Z.qo [0] 0 E (by exact Cb ‹_› AB),Z.qb 0,Z.qr [0] 1 aa ‹_›,Z.qr [0] 0 ab ‹_›⟩,Z.xt⟩
   refine GE.CO 0 (fun w Z=>Af d.names (Z.a 0) AB (fun n hn=>by have:=p4 n hn; omega)) Z fun dX dY w Z=>.go 0<|GE.N0 Fil 0 Z fun dZ w Z=>.r [10]<|GA.Do Z fun w Z=>RG.Ss 2 Z fun w Z=>.d<|.s<|.s<|.g<|.r 1<|RG.Lb 5 Z<|.r 2<|.d<|.b 0<|T.Lp ((0:Nat),([]:List Fil),dZ,(0:Nat),(([]++d.list):List Int),ai,aj,(d.names:List (List Tag)),dX,dY,d.next) (fun (k,E,r_out_0,c_out_0,aa,r_out_1,c_out_1,ab,r_out_2,c_out_2,ac)=>([(2,vP ae),(3,vP ak),(18,.slice a1 d.files.length c1),(19,vI (d.files.length:Int)),(20,vI (k:Int))],[(0,.own 0 r_out_0 165 c_out_0 E),(1,.own 0 r_out_2 63 c_out_2 ab),(2,.box ak 42 [vS r_out_0 E.length c_out_0,vS r_out_1 aa.length c_out_1,vS r_out_2 ab.length c_out_2,vI ac]),(3,.own 0 r_out_1 3 c_out_1 aa)],[],d.files.length - k,(k≤d.files.length)∧(E.length≤k)∧(E++d.files.drop k=d.files)∧(aa=d.list)∧(ab=d.names)∧(ac=d.next))) [] Z ⟨AB,AD,AF,AF,AF,AB⟩ ?_
   rintro ⟨k,E,r_out_0,c_out_0,aa,r_out_1,c_out_1,ab,r_out_2,c_out_2,ac⟩ lJ w Z ⟨hQ,hV,hW,ia,ic,ie⟩ aW
   refine .s<|.g<|.bp ((k:Int)< (d.files.length:Int)) (fun cr=>?_) (fun cr=>?_)
   ·exact .d<|.s<|.ct<|.sk<|.s<|.b 1<|.s<|.g<|gxb d.files k fun bI aC ig d0=>RG.Ix 2 aC Z<|Z.el 2 aC fun lK lL lM lN Z=>RG.Lg 0 0 Z<|RG.Np Z fun d3 w Z=>RG.Ss 0 Z fun w Z=>.d<|T.GS 9 [d3,ak,ae,af] Z fun _ w Z=>.r [0]<|GA.Lb (q:=1) 1 3 Z<|.r [2]<|GA.Lb 3 0 Z<|.r [4]<|GA.Ln 5 0 Z<|.go 6<|GE.CS (fun w Z=>Av bI.part (Z.a 1) (Z.a 2) (p1 _ ‹_›)) Z fun lO lP lQ lR w Z=>.r [7]<|.go 8<|GE.Nb 1 Z fun lS w Z=>GA.Do Z fun w Z=>RG.Ap 1 0 E bI [0,1] Z fun d4 d5 w Z=>.r 1<|RG.Ss 3 Z fun w Z=>.d<|.ib 1<|.g<|.it ((k:Int)+1)<|.r 1<|.d<|aW (k+1,(E++[bI]),d4,d5,aa,r_out_1,c_out_1,ab,r_out_2,c_out_2,ac) _ _ AA (Z.to 1 [] 5) ⟨AB,(by (simp; omega)),(by exact C6 ‹_› ‹_›),‹_›,‹_›,‹_›⟩ (by (simp only []; omega))
   refine .d<|.s<|.cf<|.x 0 rfl<|.s<|.g<|RG.Ln 2 Z<|RG.Ss 4 Z fun w Z=>.d ?_
   have Z:=(Z.sl 3).sl 1
   exact T.Rb 2 func129 results129 Z ⟨⟨r_out_0,E.length,c_out_0,(some ⟨r_out_1,0,none⟩),aa.length,c_out_1,(some ⟨r_out_2,0,none⟩),ab.length,c_out_2,(by rw [show d.next=ac from Eq.symm ‹_›]; kernel_rfl),Z.qo [0] 0 E (by exact Cb ‹_› AB),Z.qb 0,Z.qr [0] 1 aa ‹_›,Z.qr [0] 0 ab ‹_›⟩,Z.xt⟩
  refine GE.Np Z fun ah w Z=>.tw 0 4 ?_ ?_
  ·refine GE.N0 Fil 0 Z fun d6 w Z=>.go 4<|GE.An (hf:=.inr BB) 2 1 ([]:List Int) d.list [3,4] Z fun d7 d8 w Z=>.go 7<|GE.CO 0 (fun w Z=>Af d.names (Z.a 0) AB (fun n hn=>by have:=p4 n hn; omega)) Z fun d9 ec w Z=>.r [10]<|GA.Do Z fun w Z=>RG.Ss 2 Z fun w Z=>.d<|.s<|.s<|.g<|.r 1<|RG.Lb 5 Z<|.r 2<|.d<|.b 0<|T.Lp ((0:Nat),([]:List Fil),d6,(0:Nat),(([]++d.list):List Int),d7,d8,(d.names:List (List Tag)),d9,ec,d.next) (fun (k,E,r_out_0,c_out_0,aa,r_out_1,c_out_1,ab,r_out_2,c_out_2,ac)=>([(2,vP ae),(3,vP ah),(18,.slice a1 d.files.length c1),(19,vI (d.files.length:Int)),(20,vI (k:Int))],[(0,.own 0 r_out_2 63 c_out_2 ab),(1,.own 0 r_out_0 165 c_out_0 E),(2,.box ah 42 [vS r_out_0 E.length c_out_0,vS r_out_1 aa.length c_out_1,vS r_out_2 ab.length c_out_2,vI ac]),(3,.own 0 r_out_1 3 c_out_1 aa)],[],d.files.length - k,(k≤d.files.length)∧(E.length≤k)∧(E++d.files.drop k=d.files)∧(aa=d.list)∧(ab=d.names)∧(ac=d.next))) [] Z ⟨AB,AD,AF,AF,AF,AB⟩ ?_
   rintro ⟨k,E,r_out_0,c_out_0,aa,r_out_1,c_out_1,ab,r_out_2,c_out_2,ac⟩ lT w Z ⟨ii,ij,ik,il,im,io⟩ aX
   refine .s<|.g<|.bp ((k:Int)< (d.files.length:Int)) (fun cu=>?_) (fun cu=>?_)
   ·exact .d<|.s<|.ct<|.sk<|.s<|.b 1<|.s<|.g<|gxb d.files k fun bJ aD ip ee=>RG.Ix 2 aD Z<|Z.el 2 aD fun lU lV lW lX Z=>RG.Lg 0 0 Z<|RG.Np Z fun eg w Z=>RG.Ss 0 Z fun w Z=>.d<|T.GS 9 [eg,ah,ae,af] Z fun _ w Z=>.r [0]<|GA.Lb (q:=1) 1 3 Z<|.r [2]<|GA.Lb 3 0 Z<|.r [4]<|GA.Ln 5 0 Z<|.go 6<|GE.CS (fun w Z=>Av bJ.part (Z.a 1) (Z.a 2) (p1 _ ‹_›)) Z fun lY lZ l0 l3 w Z=>.r [7]<|.go 8<|GE.Nb 1 Z fun l4 w Z=>GA.Do Z fun w Z=>RG.Ap 2 0 E bJ [0,1] Z fun eh ej w Z=>.r 1<|RG.Ss 3 Z fun w Z=>.d<|.ib 1<|.g<|.it ((k:Int)+1)<|.r 1<|.d<|aX (k+1,(E++[bJ]),eh,ej,aa,r_out_1,c_out_1,ab,r_out_2,c_out_2,ac) _ _ AA (Z.to 1 [] 5) ⟨AB,(by (simp; omega)),(by exact C6 ‹_› ‹_›),‹_›,‹_›,‹_›⟩ (by (simp only []; omega))
   refine .d<|.s<|.cf<|.x 0 rfl<|.s<|.g<|RG.Ln 2 Z<|RG.Ss 4 Z fun w Z=>.d ?_
   have Z:=(Z.sl 3).sl 0
   exact T.Rb 2 func129 results129 Z ⟨⟨r_out_0,E.length,c_out_0,(some ⟨r_out_1,0,none⟩),aa.length,c_out_1,(some ⟨r_out_2,0,none⟩),ab.length,c_out_2,(by rw [show d.next=ac from Eq.symm ‹_›]; kernel_rfl),Z.qo [0] 0 E (by exact Cb ‹_› AB),Z.qb 0,Z.qr [0] 1 aa ‹_›,Z.qr [0] 0 ab ‹_›⟩,Z.xt⟩
  refine GE.An (hf:=.inr BB) 1 1 ([]:List Int) d.list [2,3] Z fun bW bX w Z=>.tw 0 7 ?_ ?_
  ·refine GE.N0 Fil 0 Z fun ek w Z=>.go 7<|GE.CO 0 (fun w Z=>Af d.names (Z.a 0) AB (fun n hn=>by have:=p4 n hn; omega)) Z fun en eA w Z=>.r [10]<|GA.Do Z fun w Z=>RG.Ss 2 Z fun w Z=>.d<|.s<|.s<|.g<|.r 1<|RG.Lb 5 Z<|.r 2<|.d<|.b 0<|T.Lp ((0:Nat),([]:List Fil),ek,(0:Nat),(([]++d.list):List Int),bW,bX,(d.names:List (List Tag)),en,eA,d.next) (fun (k,E,r_out_0,c_out_0,aa,r_out_1,c_out_1,ab,r_out_2,c_out_2,ac)=>([(2,vP ae),(3,vP ah),(18,.slice a1 d.files.length c1),(19,vI (d.files.length:Int)),(20,vI (k:Int))],[(0,.own 0 r_out_2 63 c_out_2 ab),(1,.own 0 r_out_0 165 c_out_0 E),(2,.box ah 42 [vS r_out_0 E.length c_out_0,vS r_out_1 aa.length c_out_1,vS r_out_2 ab.length c_out_2,vI ac]),(3,.own 0 r_out_1 3 c_out_1 aa)],[],d.files.length - k,(k≤d.files.length)∧(E.length≤k)∧(E++d.files.drop k=d.files)∧(aa=d.list)∧(ab=d.names)∧(ac=d.next))) [] Z ⟨AB,AD,AF,AF,AF,AB⟩ ?_
   rintro ⟨k,E,r_out_0,c_out_0,aa,r_out_1,c_out_1,ab,r_out_2,c_out_2,ac⟩ l6 w Z ⟨iq,ir,iu,iw,iy,iz⟩ aY
   refine .s<|.g<|.bp ((k:Int)< (d.files.length:Int)) (fun cw=>?_) (fun cw=>?_)
   ·exact .d<|.s<|.ct<|.sk<|.s<|.b 1<|.s<|.g<|gxb d.files k fun bK aE iA eB=>RG.Ix 2 aE Z<|Z.el 2 aE fun l7 l8 l9 mh Z=>RG.Lg 0 0 Z<|RG.Np Z fun eC w Z=>RG.Ss 0 Z fun w Z=>.d<|T.GS 9 [eC,ah,ae,af] Z fun _ w Z=>.r [0]<|GA.Lb (q:=1) 1 3 Z<|.r [2]<|GA.Lb 3 0 Z<|.r [4]<|GA.Ln 5 0 Z<|.go 6<|GE.CS (fun w Z=>Av bK.part (Z.a 1) (Z.a 2) (p1 _ ‹_›)) Z fun mj ml mp mq w Z=>.r [7]<|.go 8<|GE.Nb 1 Z fun mr w Z=>GA.Do Z fun w Z=>RG.Ap 2 0 E bK [0,1] Z fun eD eE w Z=>.r 1<|RG.Ss 3 Z fun w Z=>.d<|.ib 1<|.g<|.it ((k:Int)+1)<|.r 1<|.d<|aY (k+1,(E++[bK]),eD,eE,aa,r_out_1,c_out_1,ab,r_out_2,c_out_2,ac) _ _ AA (Z.to 1 [] 5) ⟨AB,(by (simp; omega)),(by exact C6 ‹_› ‹_›),‹_›,‹_›,‹_›⟩ (by (simp only []; omega))
   refine .d<|.s<|.cf<|.x 0 rfl<|.s<|.g<|RG.Ln 2 Z<|RG.Ss 4 Z fun w Z=>.d ?_
   have Z:=(Z.sl 3).sl 0
   exact T.Rb 2 func129 results129 Z ⟨⟨r_out_0,E.length,c_out_0,(some ⟨r_out_1,0,none⟩),aa.length,c_out_1,(some ⟨r_out_2,0,none⟩),ab.length,c_out_2,(by rw [show d.next=ac from Eq.symm ‹_›]; kernel_rfl),Z.qo [0] 0 E (by exact Cb ‹_› AB),Z.qb 0,Z.qr [0] 1 aa ‹_›,Z.qr [0] 0 ab ‹_›⟩,Z.xt⟩
  refine GE.CO 0 (fun w Z=>Af d.names (Z.a 0) AB (fun n hn=>by have:=p4 n hn; omega)) Z fun eF eG w Z=>.go 0<|GE.N0 Fil 0 Z fun eH w Z=>.r [10]<|GA.Do Z fun w Z=>RG.Ss 2 Z fun w Z=>.d<|.s<|.s<|.g<|.r 1<|RG.Lb 5 Z<|.r 2<|.d<|.b 0<|T.Lp ((0:Nat),([]:List Fil),eH,(0:Nat),(([]++d.list):List Int),bW,bX,(d.names:List (List Tag)),eF,eG,d.next) (fun (k,E,r_out_0,c_out_0,aa,r_out_1,c_out_1,ab,r_out_2,c_out_2,ac)=>([(2,vP ae),(3,vP ah),(18,.slice a1 d.files.length c1),(19,vI (d.files.length:Int)),(20,vI (k:Int))],[(0,.own 0 r_out_0 165 c_out_0 E),(1,.own 0 r_out_2 63 c_out_2 ab),(2,.box ah 42 [vS r_out_0 E.length c_out_0,vS r_out_1 aa.length c_out_1,vS r_out_2 ab.length c_out_2,vI ac]),(3,.own 0 r_out_1 3 c_out_1 aa)],[],d.files.length - k,(k≤d.files.length)∧(E.length≤k)∧(E++d.files.drop k=d.files)∧(aa=d.list)∧(ab=d.names)∧(ac=d.next))) [] Z ⟨AB,AD,AF,AF,AF,AB⟩ ?_
  rintro ⟨k,E,r_out_0,c_out_0,aa,r_out_1,c_out_1,ab,r_out_2,c_out_2,ac⟩ mt w Z ⟨iB,iC,iD,iE,iF,iG⟩ aZ
  refine .s<|.g<|.bp ((k:Int)< (d.files.length:Int)) (fun cx=>?_) (fun cx=>?_)
  ·exact .d<|.s<|.ct<|.sk<|.s<|.b 1<|.s<|.g<|gxb d.files k fun bL aF iH eI=>RG.Ix 2 aF Z<|Z.el 2 aF fun mu mw mz mA Z=>RG.Lg 0 0 Z<|RG.Np Z fun eJ w Z=>RG.Ss 0 Z fun w Z=>.d<|T.GS 9 [eJ,ah,ae,af] Z fun _ w Z=>.r [0]<|GA.Lb (q:=1) 1 3 Z<|.r [2]<|GA.Lb 3 0 Z<|.r [4]<|GA.Ln 5 0 Z<|.go 6<|GE.CS (fun w Z=>Av bL.part (Z.a 1) (Z.a 2) (p1 _ ‹_›)) Z fun mB mC mD mE w Z=>.r [7]<|.go 8<|GE.Nb 1 Z fun mF w Z=>GA.Do Z fun w Z=>RG.Ap 1 0 E bL [0,1] Z fun eK eL w Z=>.r 1<|RG.Ss 3 Z fun w Z=>.d<|.ib 1<|.g<|.it ((k:Int)+1)<|.r 1<|.d<|aZ (k+1,(E++[bL]),eK,eL,aa,r_out_1,c_out_1,ab,r_out_2,c_out_2,ac) _ _ AA (Z.to 1 [] 5) ⟨AB,(by (simp; omega)),(by exact C6 ‹_› ‹_›),‹_›,‹_›,‹_›⟩ (by (simp only []; omega))
  refine .d<|.s<|.cf<|.x 0 rfl<|.s<|.g<|RG.Ln 2 Z<|RG.Ss 4 Z fun w Z=>.d ?_
  have Z:=(Z.sl 3).sl 1
  exact T.Rb 2 func129 results129 Z ⟨⟨r_out_0,E.length,c_out_0,(some ⟨r_out_1,0,none⟩),aa.length,c_out_1,(some ⟨r_out_2,0,none⟩),ab.length,c_out_2,(by rw [show d.next=ac from Eq.symm ‹_›]; kernel_rfl),Z.qo [0] 0 E (by exact Cb ‹_› AB),Z.qb 0,Z.qr [0] 1 aa ‹_›,Z.qr [0] 0 ab ‹_›⟩,Z.xt⟩
 refine GE.Np Z fun ag w Z=>.tw 0 1 ?_ ?_
 ·refine GE.N0 Fil 0 Z fun eM w Z=>.go 1<|GE.N0 Int 0 Z fun mG w Z=>.go 4<|GE.An (hf:=.inr BB) 0 1 ([]:List Int) d.list [3,4] Z fun eN eO w Z=>.go 7<|GE.CO 0 (fun w Z=>Af d.names (Z.a 0) AB (fun n hn=>by have:=p4 n hn; omega)) Z fun eP eQ w Z=>.r [10]<|GA.Do Z fun w Z=>RG.Ss 3 Z fun w Z=>.d<|.s<|.s<|.g<|.r 1<|RG.Lb 5 Z<|.r 2<|.d<|.b 0<|T.Lp ((0:Nat),([]:List Fil),eM,(0:Nat),(([]++d.list):List Int),eN,eO,(d.names:List (List Tag)),eP,eQ,d.next) (fun (k,E,r_out_0,c_out_0,aa,r_out_1,c_out_1,ab,r_out_2,c_out_2,ac)=>([(2,vP ae),(3,vP ag),(18,.slice a1 d.files.length c1),(19,vI (d.files.length:Int)),(20,vI (k:Int))],[(0,.own 0 r_out_2 63 c_out_2 ab),(1,.own 0 r_out_1 3 c_out_1 aa),(2,.own 0 r_out_0 165 c_out_0 E),(3,.box ag 42 [vS r_out_0 E.length c_out_0,vS r_out_1 aa.length c_out_1,vS r_out_2 ab.length c_out_2,vI ac])],[],d.files.length - k,(k≤d.files.length)∧(E.length≤k)∧(E++d.files.drop k=d.files)∧(aa=d.list)∧(ab=d.names)∧(ac=d.next))) [] Z ⟨AB,AD,AF,AF,AF,AB⟩ ?_
  rintro ⟨k,E,r_out_0,c_out_0,aa,r_out_1,c_out_1,ab,r_out_2,c_out_2,ac⟩ mH w Z ⟨iI,iJ,iK,iL,iM,iN⟩ ba
  refine .s<|.g<|.bp ((k:Int)< (d.files.length:Int)) (fun cy=>?_) (fun cy=>?_)
  ·exact .d<|.s<|.ct<|.sk<|.s<|.b 1<|.s<|.g<|gxb d.files k fun bM aG iO eR=>RG.Ix 2 aG Z<|Z.el 2 aG fun mI mJ mK mL Z=>RG.Lg 0 0 Z<|RG.Np Z fun eS w Z=>RG.Ss 0 Z fun w Z=>.d<|T.GS 9 [eS,ag,ae,af] Z fun _ w Z=>.r [0]<|GA.Lb (q:=1) 1 4 Z<|.r [2]<|GA.Lb 3 0 Z<|.r [4]<|GA.Ln 5 0 Z<|.go 6<|GE.CS (fun w Z=>Av bM.part (Z.a 1) (Z.a 2) (p1 _ ‹_›)) Z fun mM mN mO mP w Z=>.r [7]<|.go 8<|GE.Nb 1 Z fun mQ w Z=>GA.Do Z fun w Z=>RG.Ap 3 0 E bM [0,1] Z fun eT eU w Z=>.r 1<|RG.Ss 4 Z fun w Z=>.d<|.ib 1<|.g<|.it ((k:Int)+1)<|.r 1<|.d<|ba (k+1,(E++[bM]),eT,eU,aa,r_out_1,c_out_1,ab,r_out_2,c_out_2,ac) _ _ AA (Z.to 1 [] 5) ⟨AB,(by (simp; omega)),(by exact C6 ‹_› ‹_›),‹_›,‹_›,‹_›⟩ (by (simp only []; omega))
  refine .d<|.s<|.cf<|.x 0 rfl<|.s<|.g<|RG.Ln 3 Z<|RG.Ss 4 Z fun w Z=>.d ?_
  have Z:=(Z.sl 1).sl 0
  exact T.Rb 2 func129 results129 Z ⟨⟨r_out_0,E.length,c_out_0,(some ⟨r_out_1,0,none⟩),aa.length,c_out_1,(some ⟨r_out_2,0,none⟩),ab.length,c_out_2,(by rw [show d.next=ac from Eq.symm ‹_›]; kernel_rfl),Z.qo [0] 0 E (by exact Cb ‹_› AB),Z.qb 0,Z.qr [0] 1 aa ‹_›,Z.qr [0] 0 ab ‹_›⟩,Z.xt⟩
 refine GE.N0 Int 0 Z fun mR w Z=>.tw 0 4 ?_ ?_
 ·refine GE.N0 Fil 0 Z fun eV w Z=>.go 4<|GE.An (hf:=.inr BB) 1 1 ([]:List Int) d.list [3,4] Z fun eW eX w Z=>.go 7<|GE.CO 0 (fun w Z=>Af d.names (Z.a 0) AB (fun n hn=>by have:=p4 n hn; omega)) Z fun eY eZ w Z=>.r [10]<|GA.Do Z fun w Z=>RG.Ss 3 Z fun w Z=>.d<|.s<|.s<|.g<|.r 1<|RG.Lb 5 Z<|.r 2<|.d<|.b 0<|T.Lp ((0:Nat),([]:List Fil),eV,(0:Nat),(([]++d.list):List Int),eW,eX,(d.names:List (List Tag)),eY,eZ,d.next) (fun (k,E,r_out_0,c_out_0,aa,r_out_1,c_out_1,ab,r_out_2,c_out_2,ac)=>([(2,vP ae),(3,vP ag),(18,.slice a1 d.files.length c1),(19,vI (d.files.length:Int)),(20,vI (k:Int))],[(0,.own 0 r_out_2 63 c_out_2 ab),(1,.own 0 r_out_0 165 c_out_0 E),(2,.own 0 r_out_1 3 c_out_1 aa),(3,.box ag 42 [vS r_out_0 E.length c_out_0,vS r_out_1 aa.length c_out_1,vS r_out_2 ab.length c_out_2,vI ac])],[],d.files.length - k,(k≤d.files.length)∧(E.length≤k)∧(E++d.files.drop k=d.files)∧(aa=d.list)∧(ab=d.names)∧(ac=d.next))) [] Z ⟨AB,AD,AF,AF,AF,AB⟩ ?_
  rintro ⟨k,E,r_out_0,c_out_0,aa,r_out_1,c_out_1,ab,r_out_2,c_out_2,ac⟩ mS w Z ⟨iP,iQ,iR,iS,iT,iU⟩ bd
  refine .s<|.g<|.bp ((k:Int)< (d.files.length:Int)) (fun cz=>?_) (fun cz=>?_)
  ·exact .d<|.s<|.ct<|.sk<|.s<|.b 1<|.s<|.g<|gxb d.files k fun bN aH iV e7=>RG.Ix 2 aH Z<|Z.el 2 aH fun mT mU mV mW Z=>RG.Lg 0 0 Z<|RG.Np Z fun e8 w Z=>RG.Ss 0 Z fun w Z=>.d<|T.GS 9 [e8,ag,ae,af] Z fun _ w Z=>.r [0]<|GA.Lb (q:=1) 1 4 Z<|.r [2]<|GA.Lb 3 0 Z<|.r [4]<|GA.Ln 5 0 Z<|.go 6<|GE.CS (fun w Z=>Av bN.part (Z.a 1) (Z.a 2) (p1 _ ‹_›)) Z fun mX mY mZ m0 w Z=>.r [7]<|.go 8<|GE.Nb 1 Z fun m5 w Z=>GA.Do Z fun w Z=>RG.Ap 2 0 E bN [0,1] Z fun fa fb w Z=>.r 1<|RG.Ss 4 Z fun w Z=>.d<|.ib 1<|.g<|.it ((k:Int)+1)<|.r 1<|.d<|bd (k+1,(E++[bN]),fa,fb,aa,r_out_1,c_out_1,ab,r_out_2,c_out_2,ac) _ _ AA (Z.to 1 [] 5) ⟨AB,(by (simp; omega)),(by exact C6 ‹_› ‹_›),‹_›,‹_›,‹_›⟩ (by (simp only []; omega))
  refine .d<|.s<|.cf<|.x 0 rfl<|.s<|.g<|RG.Ln 3 Z<|RG.Ss 4 Z fun w Z=>.d ?_
  have Z:=(Z.sl 2).sl 0
  exact T.Rb 2 func129 results129 Z ⟨⟨r_out_0,E.length,c_out_0,(some ⟨r_out_1,0,none⟩),aa.length,c_out_1,(some ⟨r_out_2,0,none⟩),ab.length,c_out_2,(by rw [show d.next=ac from Eq.symm ‹_›]; kernel_rfl),Z.qo [0] 0 E (by exact Cb ‹_› AB),Z.qb 0,Z.qr [0] 1 aa ‹_›,Z.qr [0] 0 ab ‹_›⟩,Z.xt⟩
 refine GE.An (hf:=.inr BB) 0 1 ([]:List Int) d.list [2,3] Z fun bY bZ w Z=>.tw 0 7 ?_ ?_
 ·refine GE.N0 Fil 0 Z fun fd w Z=>.go 7<|GE.CO 0 (fun w Z=>Af d.names (Z.a 0) AB (fun n hn=>by have:=p4 n hn; omega)) Z fun fe ff w Z=>.r [10]<|GA.Do Z fun w Z=>RG.Ss 3 Z fun w Z=>.d<|.s<|.s<|.g<|.r 1<|RG.Lb 5 Z<|.r 2<|.d<|.b 0<|T.Lp ((0:Nat),([]:List Fil),fd,(0:Nat),(([]++d.list):List Int),bY,bZ,(d.names:List (List Tag)),fe,ff,d.next) (fun (k,E,r_out_0,c_out_0,aa,r_out_1,c_out_1,ab,r_out_2,c_out_2,ac)=>([(2,vP ae),(3,vP ag),(18,.slice a1 d.files.length c1),(19,vI (d.files.length:Int)),(20,vI (k:Int))],[(0,.own 0 r_out_2 63 c_out_2 ab),(1,.own 0 r_out_0 165 c_out_0 E),(2,.own 0 r_out_1 3 c_out_1 aa),(3,.box ag 42 [vS r_out_0 E.length c_out_0,vS r_out_1 aa.length c_out_1,vS r_out_2 ab.length c_out_2,vI ac])],[],d.files.length - k,(k≤d.files.length)∧(E.length≤k)∧(E++d.files.drop k=d.files)∧(aa=d.list)∧(ab=d.names)∧(ac=d.next))) [] Z ⟨AB,AD,AF,AF,AF,AB⟩ ?_
  rintro ⟨k,E,r_out_0,c_out_0,aa,r_out_1,c_out_1,ab,r_out_2,c_out_2,ac⟩ m6 w Z ⟨iW,iX,iY,iZ,ja,jb⟩ bg
  refine .s<|.g<|.bp ((k:Int)< (d.files.length:Int)) (fun cA=>?_) (fun cA=>?_)
  ·exact .d<|.s<|.ct<|.sk<|.s<|.b 1<|.s<|.g<|gxb d.files k fun bO aI jc fg=>RG.Ix 2 aI Z<|Z.el 2 aI fun m7 m8 m9 nc Z=>RG.Lg 0 0 Z<|RG.Np Z fun fi w Z=>RG.Ss 0 Z fun w Z=>.d<|T.GS 9 [fi,ag,ae,af] Z fun _ w Z=>.r [0]<|GA.Lb (q:=1) 1 4 Z<|.r [2]<|GA.Lb 3 0 Z<|.r [4]<|GA.Ln 5 0 Z<|.go 6<|GE.CS (fun w Z=>Av bO.part (Z.a 1) (Z.a 2) (p1 _ ‹_›)) Z fun nh ni nj nq w Z=>.r [7]<|.go 8<|GE.Nb 1 Z fun nt w Z=>GA.Do Z fun w Z=>RG.Ap 2 0 E bO [0,1] Z fun fj fm w Z=>.r 1<|RG.Ss 4 Z fun w Z=>.d<|.ib 1<|.g<|.it ((k:Int)+1)<|.r 1<|.d<|bg (k+1,(E++[bO]),fj,fm,aa,r_out_1,c_out_1,ab,r_out_2,c_out_2,ac) _ _ AA (Z.to 1 [] 5) ⟨AB,(by (simp; omega)),(by exact C6 ‹_› ‹_›),‹_›,‹_›,‹_›⟩ (by (simp only []; omega))
  refine .d<|.s<|.cf<|.x 0 rfl<|.s<|.g<|RG.Ln 3 Z<|RG.Ss 4 Z fun w Z=>.d ?_
  have Z:=(Z.sl 2).sl 0
  exact T.Rb 2 func129 results129 Z ⟨⟨r_out_0,E.length,c_out_0,(some ⟨r_out_1,0,none⟩),aa.length,c_out_1,(some ⟨r_out_2,0,none⟩),ab.length,c_out_2,(by rw [show d.next=ac from Eq.symm ‹_›]; kernel_rfl),Z.qo [0] 0 E (by exact Cb ‹_› AB),Z.qb 0,Z.qr [0] 1 aa ‹_›,Z.qr [0] 0 ab ‹_›⟩,Z.xt⟩
 refine GE.CO 0 (fun w Z=>Af d.names (Z.a 0) AB (fun n hn=>by have:=p4 n hn; omega)) Z fun fp fq w Z=>.go 0<|GE.N0 Fil 0 Z fun fu w Z=>.r [10]<|GA.Do Z fun w Z=>RG.Ss 3 Z fun w Z=>.d<|.s<|.s<|.g<|.r 1<|RG.Lb 5 Z<|.r 2<|.d<|.b 0<|T.Lp ((0:Nat),([]:List Fil),fu,(0:Nat),(([]++d.list):List Int),bY,bZ,(d.names:List (List Tag)),fp,fq,d.next) (fun (k,E,r_out_0,c_out_0,aa,r_out_1,c_out_1,ab,r_out_2,c_out_2,ac)=>([(2,vP ae),(3,vP ag),(18,.slice a1 d.files.length c1),(19,vI (d.files.length:Int)),(20,vI (k:Int))],[(0,.own 0 r_out_0 165 c_out_0 E),(1,.own 0 r_out_2 63 c_out_2 ab),(2,.own 0 r_out_1 3 c_out_1 aa),(3,.box ag 42 [vS r_out_0 E.length c_out_0,vS r_out_1 aa.length c_out_1,vS r_out_2 ab.length c_out_2,vI ac])],[],d.files.length - k,(k≤d.files.length)∧(E.length≤k)∧(E++d.files.drop k=d.files)∧(aa=d.list)∧(ab=d.names)∧(ac=d.next))) [] Z ⟨AB,AD,AF,AF,AF,AB⟩ ?_
 rintro ⟨k,E,r_out_0,c_out_0,aa,r_out_1,c_out_1,ab,r_out_2,c_out_2,ac⟩ nu w Z ⟨jd,je,jf,jg,jh,ji⟩ bh
 refine .s<|.g<|.bp ((k:Int)< (d.files.length:Int)) (fun cB=>?_) (fun cB=>?_)
 ·exact .d<|.s<|.ct<|.sk<|.s<|.b 1<|.s<|.g<|gxb d.files k fun bP aJ jj fv=>RG.Ix 2 aJ Z<|Z.el 2 aJ fun nv nz nA nB Z=>RG.Lg 0 0 Z<|RG.Np Z fun fw w Z=>RG.Ss 0 Z fun w Z=>.d<|T.GS 9 [fw,ag,ae,af] Z fun _ w Z=>.r [0]<|GA.Lb (q:=1) 1 4 Z<|.r [2]<|GA.Lb 3 0 Z<|.r [4]<|GA.Ln 5 0 Z<|.go 6<|GE.CS (fun w Z=>Av bP.part (Z.a 1) (Z.a 2) (p1 _ ‹_›)) Z fun nC nD nE nF w Z=>.r [7]<|.go 8<|GE.Nb 1 Z fun nG w Z=>GA.Do Z fun w Z=>RG.Ap 1 0 E bP [0,1] Z fun fA fB w Z=>.r 1<|RG.Ss 4 Z fun w Z=>.d<|.ib 1<|.g<|.it ((k:Int)+1)<|.r 1<|.d<|bh (k+1,(E++[bP]),fA,fB,aa,r_out_1,c_out_1,ab,r_out_2,c_out_2,ac) _ _ AA (Z.to 1 [] 5) ⟨AB,(by (simp; omega)),(by exact C6 ‹_› ‹_›),‹_›,‹_›,‹_›⟩ (by (simp only []; omega))
 refine .d<|.s<|.cf<|.x 0 rfl<|.s<|.g<|RG.Ln 3 Z<|RG.Ss 4 Z fun w Z=>.d ?_
 have Z:=(Z.sl 2).sl 1
 exact T.Rb 2 func129 results129 Z ⟨⟨r_out_0,E.length,c_out_0,(some ⟨r_out_1,0,none⟩),aa.length,c_out_1,(some ⟨r_out_2,0,none⟩),ab.length,c_out_2,(by rw [show d.next=ac from Eq.symm ‹_›]; kernel_rfl),Z.qo [0] 0 E (by exact Cb ‹_› AB),Z.qb 0,Z.qr [0] 1 aa ‹_›,Z.qr [0] 0 ab ‹_›⟩,Z.xt⟩
end Go.Proofs.YtckdhcbbgmiccaaGreatDoor
namespace Go.Proofs.YtckdhcbbgmiccaaGreatDoor
set_option maxRecDepth 100000
set_option maxHeartbeats 4000000
variable {w:World} {F:Nat→Prop} {a1 a2 a3 a4:Option Addr} {n1 c1 n2 c2 n3 c3 n4 c4:Nat}
theorem IZ (d:Dsk) (steps:List Stp) (cut:Int) (h1:RepS w F a1 n1 c1 d.files) (h2:RepS w F a2 n2 c2 d.list) (h3:RepS w F a3 n3 c3 d.names) (h4:RepS w F a4 n4 c4 steps) (p0:DD d) (p1:BE d=true→StW d steps):Calls Tryz.prog 68 [.agg #[.slice a1 n1 c1,.slice a2 n2 c2,.slice a3 n3 c3,.int .i64 d.next],.slice a4 n4 c4,.int .i64 cut].toArray w (Al fun rv w'=>VS (fo F w.heap.size) w' (Ao d steps cut:Dsk) rv∧Ext w w'):=by
 refine goT func68 ?_
 obtain ⟨rfl,eh,h1⟩:=h1.tp
 obtain ⟨rfl,ej,h2⟩:=h2.tp
 obtain ⟨rfl,ek,h3⟩:=h3.tp
 obtain ⟨rfl,en,h4⟩:=h4.tp
 refine .s<|.g<|.np 42 [.slice a1 d.files.length c1,.slice a2 d.list.length c2,.slice a3 d.names.length c3,vI d.next] fun ae eY bD bk aa cp=>?_
 replace ⟨h1,h2,h3,h4⟩:=(sn [] bk bD).g4 h1 h2 h3 h4
 have E:=bk
 refine .np 42 [AH,AH,AH,vI 0] fun af dv bg bE ab cq=>?_
 have eA:=Ad bg aa.lt
 have eB:=E.cn bg
 replace ⟨h1,h2,h3,h4,aa,E⟩:=(sn [ae] bE bg).g6 h1 h2 h3 h4 aa E
 refine .d<|.s<|.s<|.g<|.ln aa<|.cl (DN d h1.ta h2.ta h3.ta (by exact p0) (w:=dv) (F:=all)) ?_
 rintro eZ cr ⟨rfl,bF⟩
 replace ⟨h1,h2,h3,h4,aa,ab,E⟩:=(se [af,ae] bF).g7 h1 h2 h3 h4 aa ab E
 cases eC:(BE d)
 ·refine .r 5<|.d<|.ct<|.s<|.g<|.r 1<|.sc [AH,AH,AH,vI 0] ab fun e7 bG cu cw=>?_
  replace ⟨h1,h2,h3,h4,aa,E⟩:=(so [af,ae] bG).g6 h1 h2 h3 h4 aa E
  exact .d<|.rb func68 results68 cu ⟨(VS.of (y:=(⟨([]:List Fil),([]:List Int),([]:List (List Tag)),0⟩:Dsk)) ⟨_,rfl,⟨_,_,_,_,_,_,_,_,_,rfl,(RepS.BX _ _ none 0 AE),(RepS.BX _ _ none 0 AE),(RepS.BX _ _ none 0 AE)⟩⟩ (by exact VB (.inl ‹_›))),E⟩
 refine .r 3<|.bp (cut< 0) (fun cx=>?_) (fun cx=>?_)
 ·refine .r 1<|.d<|.ct<|.s<|.g<|.r 1<|.sc [AH,AH,AH,vI 0] ab fun e8 bH cy cz=>?_
  replace ⟨h1,h2,h3,h4,aa,E⟩:=(so [af,ae] bH).g6 h1 h2 h3 h4 aa E
  exact .d<|.rb func68 results68 cy ⟨(VS.of (y:=(⟨([]:List Fil),([]:List Int),([]:List (List Tag)),0⟩:Dsk)) ⟨_,rfl,⟨_,_,_,_,_,_,_,_,_,rfl,(RepS.BX _ _ none 0 AE),(RepS.BX _ _ none 0 AE),(RepS.BX _ _ none 0 AE)⟩⟩ (by exact VB (.inr (.inl ‹_›)))),E⟩
 refine .r 1<|.d<|.cf<|.sk<|.s<|.g<|.ln aa<|.cl (Et d h1.ta h2.ta h3.ta (by exact Yw p0) (by exact Yx p0) (by exact Yy p0) (by exact Yz p0) (by exact Y0 p0) (w:=cr) (F:=all)) ?_
 rintro fa bN ⟨⟨aE,cA,cB,cC,fb,cD,cE,fd,cF,rfl,ay,aX,aK,aL⟩,bI⟩
 have bh:=al2 ab.lt aa.lt
 have bm:Gb w.heap.size cr.heap.size:=E.size
 have cG:=DG aX aa.lt
 have cH:=DG aX ab.lt
 have cI:Cov nil w aE:=OO aX E.size
 replace ⟨h4,aa,ab,E⟩:=(sz [af,ae] bI aX).g4 h4 aa ab E
 replace ay:Own bN aE 165 (nin (ge w.heap.size) [aE,af,ae]) _ _ _:=Own.Fy (s0:=w.heap.size) (M:=[af,ae]) ay bh bm
 replace ay:=ay.base (G':=fo F w.heap.size) (fun _ _ h=>.inr h)
 have eE:=ay.len
 replace aK:RepS bN (nin (ge w.heap.size) [aE,af,ae]) _ _ _ _:=RepS.Fy (s0:=w.heap.size) (M:=[af,ae]) aK bh bm
 replace aK:=aK.base (G':=fo F w.heap.size) (fun _ _ h=>.inr h)
 have eF:=aK.max
 replace aL:RepS bN (nin (ge w.heap.size) [aE,af,ae]) _ _ _ _:=RepS.Fy (s0:=w.heap.size) (M:=[af,ae]) aL bh bm
 replace aL:=aL.base (G':=fo F w.heap.size) (fun _ _ h=>.inr h)
 have eG:=aL.max
 have cJ:=aK.len
 subst cJ
 have cK:=aL.len
 subst cK
 refine .np 42 [AH,AH,AH,vI 0] fun aj fe aS bJ cL cM=>?_
 have eH:=Ad aS aa.lt
 have eI:=Ad aS ab.lt
 have cN:=Ad aS ay.lt
 have eJ:=E.cn aS
 replace ⟨h4,aa,ab,ay,aK,aL,E⟩:=(sn [aE,af,ae] bJ aS).g7 h4 aa ab ay aK aL E
 refine .sc [vS aE cA cB,.slice cC d.list.length cD,.slice cE d.names.length cF,vI d.next] cL fun bn bK bL bO=>?_
 replace ⟨h4,aa,ab,ay,aK,aL,E⟩:=(so [aj,aE,af,ae] bK).g7 h4 aa ab ay aK aL E
 refine .d<|.s<|.s<|.g<|.r 5<|RG.sub (t:=97) (lo:=none) (hi:=some (vI (if (steps.length:Int)< cut then (steps.length:Int) else cut))) h4 0 (((if (steps.length:Int)< cut then (steps.length:Int) else cut)).toNat) AA AA (.inl ⟨rfl,rfl⟩) (.inr ⟨_,_,rfl,by omega⟩) (by split <;> omega) (by split <;> omega) fun cO cP aT=>?_
 have dw:=aT.len; have dx:=aT.max
 refine .r 2<|.d<|.b 0<|T.loop (X:=Nat × (List Fil) × Nat × Nat × Nat × (List Int) × (Option Addr) × Nat × Nat × (List (List Tag)) × (Option Addr) × Nat × Nat × Int) (0,(d.files:List Fil),aE,cA,cB,(d.list:List Int),cC,d.list.length,cD,(d.names:List (List Tag)),cE,d.names.length,cF,d.next) (fun (k,ac,r_out_0,n_out_0,c_out_0,ag,a_out_1,n_out_1,c_out_1,ah,a_out_2,n_out_2,c_out_2,ai)=>[(6,.pointer (some ⟨af,0,none⟩)),(7,.pointer (some ⟨aj,0,none⟩)),(25,.slice cO (((if (steps.length:Int)< cut then (steps.length:Int) else cut)).toNat - 0) cP),(26,vI (((((if (steps.length:Int)< cut then (steps.length:Int) else cut)).toNat - 0)):Int)),(27,vI (k:Int))]) (fun (k,ac,r_out_0,n_out_0,c_out_0,ag,a_out_1,n_out_1,c_out_1,ah,a_out_2,n_out_2,c_out_2,ai) aI=>Chg (ins [aE,aj]) bn aI∧Own aI r_out_0 165 (nin (fo F w.heap.size) [aj,r_out_0,af,ae]) n_out_0 c_out_0 ac∧OrB r_out_0 aE bn.heap.size∧RepS aI (nin (fo F w.heap.size) [aj,r_out_0,af,ae]) a_out_1 n_out_1 c_out_1 ag∧RepS aI (nin (fo F w.heap.size) [aj,r_out_0,af,ae]) a_out_2 n_out_2 c_out_2 ah∧Box aI aj 42 [vS r_out_0 n_out_0 c_out_0,.slice a_out_1 n_out_1 c_out_1,.slice a_out_2 n_out_2 c_out_2,vI ai]∧(k≤((steps.take (if (steps.length:Int)< cut then (steps.length:Int) else cut).toNat).drop 0).length)∧(ac.length≤d.files.length+k)∧((List.drop k ((steps.take (if (steps.length:Int)< cut then (steps.length:Int) else cut).toNat).drop 0)).foldl doD (⟨ac,ag,ah,ai⟩:Dsk)=toD d steps cut)) (fun (k,ac,r_out_0,n_out_0,c_out_0,ag,a_out_1,n_out_1,c_out_1,ah,a_out_2,n_out_2,c_out_2,ai)=>((steps.take (if (steps.length:Int)< cut then (steps.length:Int) else cut).toNat).drop 0).length - k) AA ⟨AA,AA,AA,AA,AA,trivial⟩ ⟨Chg.refl _ _,ay,FX,aK,aL,bL,AB,AB,(by exact Yv ‹_›)⟩ ?_
 rintro ⟨k,ac,r_out_0,n_out_0,c_out_0,ag,a_out_1,n_out_1,c_out_1,ah,a_out_2,n_out_2,c_out_2,ai⟩ eK aI ⟨aq,ak,aF,al,am,ao,dy,dz,dA⟩ bj
 have dB:=D9 aF cG aa.lt
 have dC:=D9 aF cH ab.lt
 have bP:=D9 aF (Nb.symm cN) bL.lt
 have dD:=D2 aF cI E.size
 have bQ:Cov (ins [aE,aj]) bn aE:=⟨.inl AI⟩
 have dE:Cov (ins [aE,aj]) bn aj:=⟨.inl AJ⟩
 have dF:=D2 aF bQ (Nat.le_refl _)
 have bo:Mv [aj,aE,af,ae] [aj,r_out_0,af,ae] bn aI:=Mv.inl aq (all_cons AJ (all_cons AI all_nil)) (all_cons (.inl AI) (all_cons (Gs aF AJ) (all_cons (.inl AK) (all_cons (.inl AL) all_nil))))
 replace ⟨aa,ab,aT,E⟩:=(sp bo aq).g4 aa ab aT E
 have dG:=ak.len; have dH:=ak.max
 refine .s<|.g<|.bp ((k:Int)< (((((if (steps.length:Int)< cut then (steps.length:Int) else cut)).toNat - 0)):Int)) (fun bR=>?_) (fun bR=>?_)
 ·refine .d<|.s<|.ct<|.sk<|.s<|.b 1<|.s<|.g ?_
  have bS:k< (((if (steps.length:Int)< cut then (steps.length:Int) else cut)).toNat - 0):=AB
  refine .ix k 6 aT bS ?_
  obtain ⟨ar,aY⟩:∃ y,((steps.take (((if (steps.length:Int)< cut then (steps.length:Int) else cut)).toNat)).drop 0)[k]? = some y:=⟨_,AU AB⟩
  have dM:=drop_at aY; have cQ:=AV aY
  obtain ⟨_,⟨cR,eL,cS,cT,eM,cU,cV,eN,cW,cX,eO,cY,rfl,aM,aN,aO,aP⟩,bT⟩:=aT.elem k ar aY
  have bU:=aM.len
  subst bU
  have bV:=aN.len
  subst bV
  have bW:=aO.len
  subst bW
  have bX:=aP.len
  subst bX
  refine .lg 0 bT<|.np 160 [vI 0,vI 0,AH,AH,AH,AH] fun az eP aA bq bY bZ=>?_
  have dR:=Ad aA aa.lt
  have dS:=Ad aA ab.lt
  have dT:=Ad aA ak.lt
  have dU:=Ad aA ao.lt
  have dV:=E.cn aA
  have dW:=aq.cn aA
  replace ⟨aa,ab,ak,ao,al,am,aM,aN,aO,aP,E,aq⟩:=(sn [aj,r_out_0,af,ae] bq aA).g12 aa ab ak ao al am aM aN aO aP E aq
  refine .sc [vI ar.kind,vI ar.num,.slice cR ar.part.ids.length cS,.slice cT ar.part.blocks.length cU,.slice cV ar.list.length cW,.slice cX ar.names.length cY] bY fun br bt bu b0=>?_
  replace ⟨aa,ab,ak,ao,al,am,aM,aN,aO,aP,E,aq⟩:=(so [az,aj,r_out_0,af,ae] bt).g12 aa ab ak ao al am aM aN aO aP E aq
  refine .d<|.g<|.ln bu<|.cl (Km (⟨ac,ag,ah,ai⟩:Dsk) ar (Own.toM ak (all_cons AJ (all_cons AK all_nil))) (RepS.toM al (all_cons AJ (all_cons AK all_nil))) (RepS.toM am (all_cons AJ (all_cons AK all_nil))) ao bP (RepS.toM aM (all_cons AJ (all_cons AK all_nil))) (RepS.toM aN (all_cons AJ (all_cons AK all_nil))) (RepS.toM aO (all_cons AJ (all_cons AK all_nil))) (RepS.toM aP (all_cons AJ (all_cons AK all_nil))) (by have:=p0.nf; have q2:=(p1 ‹_›).len; have q3:=Z6 (st:=steps) (c:=cut) ‹_›; show ac.length≤1000; omega) ((p1 ‹_›).sz _ (List.mem_of_mem_take (List.mem_of_mem_drop ‹_›))) ((p1 ‹_›).pt _ (List.mem_of_mem_take (List.mem_of_mem_drop ‹_›))) (w:=br) (F:=nin (fo F w.heap.size) [az,aj,r_out_0,af,ae])) ?_
  rintro eQ aU ⟨⟨rfl,aB,cZ,c7,c8,eR,da,db,eS,de,b6,aG,bi,dX,aQ,aR⟩,aZ⟩
  have aV:=al5 bu.lt ao.lt ak.lt ab.lt aa.lt
  have ba:Gb w.heap.size br.heap.size:=E.size
  have b7:=WM bi aF aq.size
  have bv:Mv [az,aj,r_out_0,af,ae] [az,aj,aB,af,ae] br aU:=Mv.inl aZ (all_cons AJ (all_cons AK all_nil)) (all_cons (.inl AI) (all_cons (.inl AJ) (all_cons (Gs bi AK) (all_cons (.inl AL) (all_cons (.inl AM) all_nil)))))
  replace ⟨aa,ab,al,am,E,aq⟩:=(sp bv aZ).g6 aa ab al am E aq
  replace aG:Own aU aB 165 (nin (fo F w.heap.size) [az,aj,aB,af,ae]) _ _ _:=Own.bxM (M2:=[az,aj,aB,af,ae]) aG aV (fun _ h=>.inr (Nat.le_trans ba h)) (all_cons (.inr AI) (all_cons (.inl AI) (all_cons (.inl AJ) (all_cons (.inr AL) (all_cons (.inr AM) all_nil)))))
  replace aQ:RepS aU (nin (fo F w.heap.size) [az,aj,aB,af,ae]) _ _ _ _:=RepS.bxM (M2:=[az,aj,aB,af,ae]) aQ aV (fun _ h=>.inr (Nat.le_trans ba h)) (all_cons (.inr AI) (all_cons (.inl AI) (all_cons (.inl AJ) (all_cons (.inr AL) (all_cons (.inr AM) all_nil)))))
  replace aR:RepS aU (nin (fo F w.heap.size) [az,aj,aB,af,ae]) _ _ _ _:=RepS.bxM (M2:=[az,aj,aB,af,ae]) aR aV (fun _ h=>.inr (Nat.le_trans ba h)) (all_cons (.inr AI) (all_cons (.inl AI) (all_cons (.inl AJ) (all_cons (.inr AL) (all_cons (.inr AM) all_nil)))))
  have b8:=aQ.len
  subst b8
  have b9:=aR.len
  subst b9
  refine .d<|.ib 1<|.g<|.it ((k:Int)+1)<|.r 1<|.d ?_
  have cd:Mv [az,aj,aB,af,ae] [aj,aB,af,ae] aU aU:=Mv.less (all_cons AJ (all_cons AK (all_cons AL (all_cons AM all_nil))))
  replace ⟨aG,al,am,aQ,aR⟩:=(sp cd (Chg.refl nil _)).g5 aG al am aQ aR
  exact bj (k+1,((doD (⟨ac,ag,ah,ai⟩:Dsk) ar)).files,aB,cZ,c7,((doD (⟨ac,ag,ah,ai⟩:Dsk) ar)).list,c8,(((doD (⟨ac,ag,ah,ai⟩:Dsk) ar)).list).length,da,((doD (⟨ac,ag,ah,ai⟩:Dsk) ar)).names,db,(((doD (⟨ac,ag,ah,ai⟩:Dsk) ar)).names).length,de,((doD (⟨ac,ag,ah,ai⟩:Dsk) ar)).next) _ _ ⟨AA,AA,AA,AA,AA,trivial⟩ ⟨aq,aG,b7,aQ,aR,b6,AB,(by exact Nat.le_trans (VA _) (by show ac.length+1≤_; omega)),(by exact XC ‹_› ‹_›)⟩ (by (simp only []; omega))
 refine .d<|.s<|.cf<|.x 0 rfl<|.s<|.s<|.g<|.ln ao<|.cl (DN (⟨ac,ag,ah,ai⟩:Dsk) (ak.rep) al.ta am.ta (by exact Ke ‹_› AB (p1 ‹_›)) (w:=aI) (F:=all)) ?_
 rintro eT bM ⟨rfl,bw⟩
 replace ⟨aa,ab,ak,ao,al,am,E⟩:=(se [aj,r_out_0,af,ae] bw).g7 aa ab ak ao al am E
 cases d4:(BE (⟨ac,ag,ah,ai⟩:Dsk))
 ·refine .r 1<|.d<|.ct<|.s<|.g<|.r 1<|.sc [AH,AH,AH,vI 0] ab fun eU bz ce cg=>?_
  replace ⟨aa,ak,ao,al,am,E⟩:=(so [aj,r_out_0,af,ae] bz).g6 aa ak ao al am E
  exact .d<|.rb func68 results68 ce ⟨(VS.of (y:=(⟨([]:List Fil),([]:List Int),([]:List (List Tag)),0⟩:Dsk)) ⟨_,rfl,⟨_,_,_,_,_,_,_,_,_,rfl,(RepS.BX _ _ none 0 AE),(RepS.BX _ _ none 0 AE),(RepS.BX _ _ none 0 AE)⟩⟩ (by exact XD ‹_› AB ‹_›)),E⟩
 refine .r 1<|.d<|.cf<|.sk<|.s<|.g<|.ln ao<|.cl (Et (⟨ac,ag,ah,ai⟩:Dsk) (ak.rep) al.ta am.ta (by exact Yw (Ke ‹_› AB (p1 ‹_›))) (by exact Yx (Ke ‹_› AB (p1 ‹_›))) (by exact Yy (Ke ‹_› AB (p1 ‹_›))) (by exact Yz (Ke ‹_› AB (p1 ‹_›))) (by exact Y0 (Ke ‹_› AB (p1 ‹_›))) (w:=bM) (F:=all)) ?_
 rintro eV bA ⟨⟨aJ,df,dh,dj,eW,dm,dp,eX,dq,rfl,ax,aH,aC,aD⟩,bB⟩
 have aW:=al4 ao.lt ak.lt ab.lt aa.lt
 have bd:Gb w.heap.size bM.heap.size:=E.size
 have d5:=DG aH aa.lt
 have d6:=DG aH ab.lt
 have d7:=DG aH ak.lt
 have d8:=DG aH ao.lt
 have ci:=Ks aH E.size
 replace ⟨ab,E⟩:=(se [] bB).g2 ab E
 replace ax:Own bA aJ 165 (nin (ge w.heap.size) [aJ,aj,r_out_0,af,ae]) _ _ _:=Own.Fy (s0:=w.heap.size) (M:=[aj,r_out_0,af,ae]) ax aW bd
 replace ax:=ax.base (G':=fo F w.heap.size) (fun _ _ h=>.inr h)
 replace aC:RepS bA (nin (ge w.heap.size) [aJ,aj,r_out_0,af,ae]) _ _ _ _:=RepS.Fy (s0:=w.heap.size) (M:=[aj,r_out_0,af,ae]) aC aW bd
 replace aC:=aC.base (G':=fo F w.heap.size) (fun _ _ h=>.inr h)
 have ee:=aC.max
 replace aD:RepS bA (nin (ge w.heap.size) [aJ,aj,r_out_0,af,ae]) _ _ _ _:=RepS.Fy (s0:=w.heap.size) (M:=[aj,r_out_0,af,ae]) aD aW bd
 replace aD:=aD.base (G':=fo F w.heap.size) (fun _ _ h=>.inr h)
 have eg:=aD.max
 have cj:=aC.len
 subst cj
 have ck:=aD.len
 subst ck
 refine .sc [vS aJ df dh,.slice dj ((((⟨ac,ag,ah,ai⟩:Dsk)).list).length) dm,.slice dp ((((⟨ac,ag,ah,ai⟩:Dsk)).names).length) dq,vI (((⟨ac,ag,ah,ai⟩:Dsk)).next)] ab fun dt bC cm co=>?_
 replace ⟨ax,aC,aD,E⟩:=(so [aJ,aj,r_out_0,af,ae] bC).g4 ax aC aD E
 refine .d ?_
 have du:=ax.sl (.inr ci)
 replace ⟨aC,aD⟩:=(sd dt [aJ,aj,r_out_0,af,ae] aJ).g2 aC aD
 exact .rb func68 results68 cm ⟨(VS.of (y:=((⟨ac,ag,ah,ai⟩:Dsk))) ⟨_,rfl,⟨_,_,_,_,_,_,_,_,_,rfl,du.w1,aC.w1,aD.w1⟩⟩ (by exact XE ‹_› AB ‹_› ‹_› ‹_›)),E⟩
end Go.Proofs.YtckdhcbbgmiccaaGreatDoor
namespace Go.Proofs.YtckdhcbbgmiccaaGreatDoor
set_option maxRecDepth 100000
set_option maxHeartbeats 4000000
variable {w:World} {F:Nat→Prop} {a1 a2 a3:Option Addr} {n1 c1 n2 c2 n3 c3:Nat}
theorem GF (f:Fil) (d:Dsk) (h1:RepS w F a1 n1 c1 f.part.ids) (h2:RepS w F a2 n2 c2 f.part.blocks){bq_d:Nat}{a3:Option Addr}{c3:Nat}{a4:Option Addr}{c4:Nat}{a5:Option Addr}{c5:Nat}(hb_d:Box w bq_d 42 [.slice a3 d.files.length c3,.slice a4 d.list.length c4,.slice a5 d.names.length c5,.int .i64 d.next]) (h3:RepS w F a3 d.files.length c3 d.files) (h4:RepS w F a4 d.list.length c4 d.list) (h5:RepS w F a5 d.names.length c5 d.names)  : Calls Tryz.prog 184 [.agg #[.int .i64 f.num,.slice a1 n1 c1,.slice a2 n2 c2],.pointer (some ⟨bq_d,0,none⟩)].toArray w (Al fun rv w'=>rv=.bool ((!(d.list.contains f.num)))∧Ext w w'):=by
 cases h1.len
 cases h2.len
 refine goT func184 ?_
 have Z:=((((((St.i0 F w).p h1).p h2).p h3).p h4).p h5).pb' hb_d
 exact .s<|.g<|RG.Np Z fun af w Z=>.r 1<|.d<|.s<|.g<|.r 1<|RG.Lh 0 1 Z<|.r 1<|RG.Lb 0 Z<|RG.C0 (Cr d.list f.num (Z.a 2)) Z fun w Z=>.r 2<|.d<|T.rt func184 results184 (.bool (!(d.list.contains f.num))) ⟨(AG AF),Z.xt⟩
theorem Kn (s:List Fil) (d:Dsk) (h1:RepS w F a1 n1 c1 s){bq_d:Nat}{a2:Option Addr}{c2:Nat}{a3:Option Addr}{c3:Nat}{a4:Option Addr}{c4:Nat}(hb_d:Box w bq_d 42 [.slice a2 d.files.length c2,.slice a3 d.list.length c3,.slice a4 d.names.length c4,.int .i64 d.next]) (h2:RepS w F a2 d.files.length c2 d.files) (h3:RepS w F a3 d.list.length c3 d.list) (h4:RepS w F a4 d.names.length c4 d.names)  : Calls Tryz.prog 181 [.slice a1 n1 c1,.func (.func 184) #[] #[.pointer (some ⟨bq_d,0,none⟩)]].toArray w (Al fun rv w'=>rv=.int .i64 (Dz d.list 0 s)∧Ext w w'):=by
 refine goT func181 ?_
 obtain ⟨rfl,ax,h1⟩:=h1.tp
 replace h2:=h2.top (s:=w.heap.size)
 replace h3:=h3.top (s:=w.heap.size)
 replace h4:=h4.top (s:=w.heap.size)
 refine .s<|.g<|.r 1<|.d<|.s<|.s<|.g<|.r 3<|.d<|.b 0<|T.loop (X:=Nat) 0 (fun k=>[(0,.slice a1 s.length c1),(1,.func (.func 184) #[] #[.pointer (some ⟨bq_d,0,none⟩)]),(7,vI (s.length:Int)),(8,vI (k:Int))]) (fun k ab=>Chg (ins []) w ab∧(k≤s.length)∧(Dz d.list k (s.drop k)=Dz d.list 0 s)) (fun k=>s.length - k) AA ⟨AA,AA,AA,AA,trivial⟩ ⟨Chg.refl _ _,AD,AD⟩ ?_
 rintro k aH ab ⟨E,aB,aC⟩ ac
 have af:Mv [] [] w ab:=Mv.inl E all_nil all_nil
 replace ⟨h1,h2,h3,h4,hb_d⟩:=(sp af E).g5 h1 h2 h3 h4 hb_d
 have aa:Chg nil w ab:=Chg.NN (Chg.refl nil w) E all_nil
 refine .s<|.g<|.bp ((k:Int)< (s.length:Int)) (fun ak=>?_) (fun ak=>.d<|.s<|.cf<|.x 0 rfl<|.s<|.g<|.r 1<|.d<|.rt func181 results181 (vI (-1)) ⟨(congrArg (Value.int .i64) (by exact VE ‹_› AB)),aa⟩)
 refine .d<|.s<|.ct<|.sk<|.s<|.b 1<|.s<|.g<|.r 2<|.d<|.s<|.g<|.r 3 ?_
 have al:k< s.length:=AB
 refine .ix k 3 h1 al ?_
 obtain ⟨ah,ae⟩:∃ y,s[k]? = some y:=⟨_,AU AB⟩
 have aD:=drop_at ae
 obtain ⟨_,⟨aI,aJ,aK,aL,aM,aN,rfl,ai,aj⟩,am⟩:=h1.elem k ah ae
 have ao:=ai.len
 subst ao
 have aq:=aj.len
 subst aq
 refine .lg 0 am<|.cl (GF ah d ai.ta aj.ta hb_d h2.ta h3.ta h4.ta (w:=ab) (F:=all)) ?_
 rintro aO aP ⟨rfl,ag⟩
 replace ⟨hb_d,aa,E⟩:=(se [] ag).g3 hb_d aa E
 cases aG:(!(d.list.contains ah.num))
 ·exact .d<|.cf<|.sk<|.ib 1<|.g<|.it ((k:Int)+1)<|.r 1<|.d<|ac (k+1) _ _ ⟨AA,AA,AA,AA,trivial⟩ ⟨E,AB,(by exact Y2 ‹_› ‹_› ‹_›)⟩ AB
 exact .d<|.ct<|.s<|.g<|.r 2<|.d<|.rt func181 results181 (vI (k:Int)) ⟨(congrArg (Value.int .i64) (by exact VD ‹_› ‹_› ‹_›)),aa⟩
theorem IK (d:Dsk){r n c bq c1 c2 c3:Nat}{a1 a2 a3:Option Addr}{xs0:List Fil}(ho:Own w r 165 F n c xs0) (hb:Box w bq 42 [.slice a1 d.files.length c1,.slice a2 d.list.length c2,.slice a3 d.names.length c3,.int .i64 d.next]) (h1:RepS w (nin all [r]) a1 d.files.length c1 d.files) (h2:RepS w (nin all [r]) a2 d.list.length c2 d.list) (h3:RepS w (nin all [r]) a3 d.names.length c3 d.names) (hne:Nb r bq) (hn:n≤1000000):Calls Tryz.prog 183 [.slice (some ⟨r,0,none⟩) n c,.func (.func 184) #[] #[.pointer (some ⟨bq,0,none⟩)]].toArray w (Al fun rv w'=>(∃ m,rv=.slice (some ⟨r,0,none⟩) m c∧Own w' r 165 F m c (xs0.filter (fun f=>d.list.contains f.num)))∧Chg (one r) w w'):=by
 refine goT func183 ?_
 replace ho:=ho.Rs; have hnl:=ho.len; have hle:=ho.le
 refine .s<|.g<|.r 1<|.d<|.s<|.g<|.r 2<|.cl (Kn xs0 d (ho.rep) hb h1.ta h2.ta h3.ta (w:=w) (F:=all)) ?_
 rintro bU az ⟨rfl,am⟩
 replace ⟨ho,h1,h2,h3,hb⟩:=(se [r] am).g5 ho h1 h2 h3 hb
 have aa:Chg (one r) w az:=Chg.I9 (Chg.refl (one r) w) am
 refine .r 1<|.d<|.s<|.s<|.g<|.r 1<|.eq (Dz d.list 0 xs0) (-1) (fun aR=>.d<|.ct<|.s<|.g<|.r 2<|.d<|.rt func183 results183 (vS r n c) ⟨⟨_,rfl,(Own.Pd ho).eqx (XG ‹_›)⟩,aa⟩) fun aR=>.d<|.cf<|.sk<|.s<|.s<|.g<|.r 1<|RG.int (Dz d.list 0 xs0+1) AA (by (have q1:=SB (by assumption:¬ Dz d.list 0 xs0 = -1); have q2:=SC d.list xs0; omega))<|.r 1<|.d<|.b 0<|T.loop (X:=Int × Int × (List Fil)) (Dz d.list 0 xs0,Dz d.list 0 xs0+1,xs0) (fun (i,j,xs)=>[(0,vS r n c),(1,.func (.func 184) #[] #[.pointer (some ⟨bq,0,none⟩)]),(5,vI i),(6,vI j)]) (fun (i,j,xs) ao=>Chg (ins [r]) az ao∧Own ao r 165 (nin F [r]) n c xs∧(0≤i)∧(i< j)∧(j≤n)∧(xs.take i.toNat=(xs0.take j.toNat).filter (fun f=>d.list.contains f.num))∧(xs.drop j.toNat=xs0.drop j.toNat)) (fun (i,j,xs)=>n - j.toNat) AA ⟨AA,AA,AA,AA,trivial⟩ ⟨Chg.refl _ _,ho,(by exact SB ‹_›),AB,(by have:=SC d.list xs0; omega),(by exact TP ‹_›),AF⟩ ?_
 rintro ⟨i,j,xs⟩ bV ao ⟨ab,E,bw,bz,bA,bB,bC⟩ ah
 have bD:Cov (ins [r]) az r:=⟨.inl AI⟩
 have aD:Mv [r] [r] az ao:=Mv.inl ab (all_cons AI all_nil) (all_cons (.inl AI) all_nil)
 replace ⟨h1,h2,h3,hb,aa⟩:=(sp aD ab).g5 h1 h2 h3 hb aa
 have bE:=E.len
 refine .s<|.s<|.g<|.r 3<|.bp (j< (n:Int)) (fun aS=>?_) (fun aS=>?_)
 ·refine .d<|.ct<|.sk<|.s<|.b 1<|.s<|.g<|.r 2 ?_
  have aT:j.toNat< n:=AB
  refine RG.idx (b:=r) (o:=0) (j.toNat) (len:=n) (i:=j) (sz:=3) AA AB aT rfl ?_
  obtain ⟨ac,aq⟩:∃ y,xs[j.toNat]? = some y:=⟨_,AU AB⟩
  obtain ⟨_,⟨aI,bW,aJ,aK,bX,aL,rfl,ae,af⟩,ar⟩:=E.elem (j.toNat) ac aq
  replace ae:=ae.Bx (fun _ _ h=>h.1)
  replace af:=af.Bx (fun _ _ h=>h.1)
  have aU:=ae.len
  subst aU
  have aV:=af.len
  subst aV
  replace ar:Has ao ⟨r,0+(j.toNat) * Rep.sz Fil,none⟩ [vI ac.num,.slice aI ac.part.ids.length aJ,.slice aK ac.part.blocks.length aL]:=by rw [Nat.zero_add]; exact ar
  refine .lg 0 ar<|.np 165 [vI 0,AH,AH] fun aA bY ag aE aW aX=>?_
  have bJ:=Ad ag E.lt
  have bK:=Ad ag hb.lt
  have bL:=aa.cn ag
  have bM:=ab.cn ag
  replace ⟨E,h1,h2,h3,hb,ae,af,aa,ab⟩:=(sn [r] aE ag).g9 E h1 h2 h3 hb ae af aa ab
  refine .sc [vI ac.num,.slice aI ac.part.ids.length aJ,.slice aK ac.part.blocks.length aL] aW fun bt aF ak aY=>?_
  replace ⟨E,h1,h2,h3,hb,ae,af,aa,ab⟩:=(so [aA,r] aF).g9 E h1 h2 h3 hb ae af aa ab
  refine .d<|.s<|.g<|.r 1<|.ln ak<|.cl (GF ac d ae.ta af.ta hb h1.ta h2.ta h3.ta (w:=bt) (F:=all)) ?_
  rintro bZ aM ⟨rfl,aG⟩
  replace ⟨E,hb,ae,af,ak,aa,ab⟩:=(se [aA,r] aG).g7 E hb ae af ak aa ab
  cases bN:(!(d.list.contains ac.num))
  ·refine .r 1<|.d<|.ct<|.s<|.g<|.r 2<|.ln ak ?_
   have aZ:i.toNat< n:=AB
   refine RG.idx (b:=r) (o:=0) (i.toNat) (len:=n) (i:=i) (sz:=3) AA AB aZ rfl ?_
   obtain ⟨ai,al⟩:∃ y,xs[i.toNat]? = some y:=⟨_,AU AB⟩
   obtain ⟨_,⟨ba,b0,bd,bg,b6,bh,rfl,aB,aC⟩,ax⟩:=E.elem (i.toNat) ai al
   replace aB:=aB.Bx (fun _ _ h=>h.1)
   replace aC:=aC.Bx (fun _ _ h=>h.1)
   have bi:=aB.len
   subst bi
   have bj:=aC.len
   subst bj
   replace ax:Has aM ⟨r,0+(i.toNat) * Rep.sz Fil,none⟩ [vI ai.num,.slice ba ai.part.ids.length bd,.slice bg ai.part.blocks.length bh]:=by rw [Nat.zero_add]; exact ax
   refine RG.FV (t':=165) (i:=(i.toNat)) (k:=0) (v:=.agg #[vI ac.num,.slice aI ac.part.ids.length aJ,.slice aK ac.part.blocks.length aL]) (cs:=[vI ai.num,.slice ba ai.part.ids.length bd,.slice bg ai.part.blocks.length bh]) ac E al ax AA AA AA ⟨_,_,_,_,_,_,rfl,ae.oi,af.oi⟩ fun aH aj ay aN=>?_
   replace ⟨hb,aa,ab⟩:=(s1 ay).g3 hb aa ab
   refine .d<|.g<|.r 1<|RG.int (i+1) AA AB<|.r 1<|.d<|.ib 1<|.g<|.r 1<|RG.int (j+1) AA AB<|.r 1<|.d ?_
   have aO:Mv [aA,r] [r] aH aH:=Mv.less (all_cons AJ all_nil)
   replace aj:=(sp aO (Chg.refl nil _)).g1 aj
   exact ah (i+1,j+1,(xs.set (i.toNat) ac)) _ _ ⟨AA,AA,AA,AA,trivial⟩ ⟨ab,aj,AB,AB,AB,(by exact VF ‹_› ‹_› ‹_› AB AB AB ‹_›),(by exact TQ ‹_› AB AB AB)⟩ (by (simp only []; omega))
  refine .r 1<|.d<|.cf<|.sk<|.ib 1<|.g<|.r 1<|RG.int (j+1) AA AB<|.r 1<|.d ?_
  have aP:Mv [aA,r] [r] aM aM:=Mv.less (all_cons AJ all_nil)
  replace E:=(sp aP (Chg.refl nil _)).g1 E
  exact ah (i,j+1,xs) _ _ ⟨AA,AA,AA,AA,trivial⟩ ⟨ab,E,AB,AB,AB,(by exact VG ‹_› ‹_› ‹_› AB ‹_›),(by exact VH ‹_› AB)⟩ (by (simp only []; omega))
 refine .d<|.cf<|.x 0 rfl<|.s<|.g<|.r 2 ?_
 refine RG.IH (t:=39) (r:=r) (o:=0) (len:=n) (cap:=c) (lo:=some (vI i)) (hi:=none) (sz:=3) (i.toNat) n AA AA (.inr ⟨_,_,rfl,by omega⟩) (.inl ⟨rfl,rfl⟩) AB AB AB ?_
 obtain ⟨cs_,hB_,hl_⟩:=Own.Yg E; have hz_:Rep.sz Fil=3:=rfl; rw [hz_] at hl_
 obtain ⟨vs_,w5,bu,b8,bk,aQ⟩:=U6 (P:=Tryz.prog) (T:=39) (ty:=0) (t:=165) (sz:=3) (o:=0+(i.toNat) * 3) (m:=n - i.toNat) (c:=c - i.toNat) AA hB_ AB AB
 rw [Nat.zero_add] at bk
 have hsl_:(BH cs_ ((i.toNat) * 3) vs_).length=c * Rep.sz Fil:=by rw [ET AB,hz_]; exact hl_
 have bv:=Own.Yu E aQ hB_ bk hsl_ (i:=i.toNat) AB (fun p hp=>TO (by rw [hz_] at hp; exact hp) AB)
 refine RG.clear (ats:=[39]) (ty:=0) (args:=[.slice (some ⟨r,0+(i.toNat) * 3,none⟩) (n - i.toNat) (c - i.toNat)]) AA bu ?_
 replace ⟨hb,aa⟩:=(s1 aQ).g2 hb aa
 exact .d<|.s<|.g<|.r 2<|RG.IH (t:=39) (r:=r) (o:=0) (len:=n) (cap:=c) (lo:=none) (hi:=some (vI i)) (sz:=3) 0 (i.toNat) AA AA (.inl ⟨rfl,rfl⟩) (.inr ⟨_,_,rfl,by omega⟩) AB AB AB<|.r 1<|.d<|.rt func183 results183 (vS r (i.toNat) c) ⟨⟨_,rfl,(Own.Pd bv).eqx (XH ‹_› ‹_› AB AB)⟩,aa⟩
theorem LU (d:Dsk) (h1:RepS w F a1 n1 c1 d.files) (h2:RepS w F a2 n2 c2 d.list) (h3:RepS w F a3 n3 c3 d.names) (p0:DD d):Calls Tryz.prog 127 [.agg #[.slice a1 n1 c1,.slice a2 n2 c2,.slice a3 n3 c3,.int .i64 d.next]].toArray w (Al fun rv w'=>VS (ge w.heap.size) w' (Ca d:Dsk) rv∧Ext w w'):=by
 refine goT func127 ?_
 obtain ⟨rfl,bX,h1⟩:=h1.tp
 obtain ⟨rfl,bY,h2⟩:=h2.tp
 obtain ⟨rfl,bZ,h3⟩:=h3.tp
 refine .s<|.g<|.np 42 [.slice a1 d.files.length c1,.slice a2 d.list.length c2,.slice a3 d.names.length c3,vI d.next] fun af cu aL aE aa bo=>?_
 replace ⟨h1,h2,h3⟩:=(sn [] aE aL).g3 h1 h2 h3
 have E:=aE
 refine .np 42 [AH,AH,AH,vI 0] fun ag bM aB aM ab bq=>?_
 have b0:=Ad aB aa.lt
 have b6:=E.cn aB
 replace ⟨h1,h2,h3,aa,E⟩:=(sn [af] aM aB).g5 h1 h2 h3 aa E
 refine .d<|.s<|.s<|.g<|.ln aa<|.cl (DN d h1.ta h2.ta h3.ta p0 (w:=bM) (F:=all)) ?_
 rintro cw br ⟨rfl,aN⟩
 replace ⟨h1,h2,h3,aa,ab,E⟩:=(se [ag,af] aN).g6 h1 h2 h3 aa ab E
 cases b7:(BE d)
 ·refine .r 1<|.d<|.ct<|.s<|.g<|.r 1<|.sc [AH,AH,AH,vI 0] ab fun cx aO bt bu=>?_
  replace ⟨h1,h2,h3,aa,E⟩:=(so [ag,af] aO).g5 h1 h2 h3 aa E
  exact .d<|.rb func127 results127 bt ⟨(VS.of (y:=(⟨([]:List Fil),([]:List Int),([]:List (List Tag)),0⟩:Dsk)) ⟨_,rfl,⟨_,_,_,_,_,_,_,_,_,rfl,(RepS.BX _ _ none 0 AE),(RepS.BX _ _ none 0 AE),(RepS.BX _ _ none 0 AE)⟩⟩ (by exact XF ‹_›)),E⟩
 refine .r 1<|.d<|.cf<|.sk<|.s<|.g<|.ln aa<|.cl (Et d h1.ta h2.ta h3.ta (by exact Yw p0) (by exact Yx p0) (by exact Yy p0) (by exact Yz p0) (by exact Y0 p0) (w:=br) (F:=all)) ?_
 rintro cy aV ⟨⟨am,bN,bv,bw,cz,bz,bA,cA,bB,rfl,ai,ar,ac,ae⟩,aP⟩
 have aC:=al2 ab.lt aa.lt
 have aF:Gb w.heap.size br.heap.size:=E.size
 have bC:=DG ar aa.lt
 have b8:=DG ar ab.lt
 have bD:=Ks ar E.size
 have b9:Cov nil w am:=OO ar E.size
 replace ⟨h1,h2,h3,aa,ab,E⟩:=(sz [ag,af] aP ar).g6 h1 h2 h3 aa ab E
 replace ai:Own aV am 165 (nin (ge w.heap.size) [am,ag,af]) _ _ _:=Own.Fy (s0:=w.heap.size) (M:=[ag,af]) ai aC aF
 have cd:=ai.max
 have ce:=ai.len
 replace ac:RepS aV (nin (ge w.heap.size) [am,ag,af]) _ _ _ _:=RepS.Fy (s0:=w.heap.size) (M:=[ag,af]) ac aC aF
 have cg:=ac.max
 replace ae:RepS aV (nin (ge w.heap.size) [am,ag,af]) _ _ _ _:=RepS.Fy (s0:=w.heap.size) (M:=[ag,af]) ae aC aF
 have ci:=ae.max
 have bE:=ac.len
 subst bE
 have bF:=ae.len
 subst bF
 refine .np 42 [AH,AH,AH,vI 0] fun aq cB ax aQ bG bH=>?_
 have cj:=Ad ax aa.lt
 have ck:=Ad ax ab.lt
 have cm:=Ad ax ai.lt
 have co:=E.cn ax
 replace ⟨h1,h2,h3,aa,ab,ai,ac,ae,E⟩:=(sn [am,ag,af] aQ ax).g9 h1 h2 h3 aa ab ai ac ae E
 refine .sc [vS am bN bv,.slice bw d.list.length bz,.slice bA d.names.length bB,vI d.next] bG fun cC aR aD bI=>?_
 replace ⟨h1,h2,h3,aa,ab,ai,ac,ae,E⟩:=(so [aq,am,ag,af] aR).g9 h1 h2 h3 aa ab ai ac ae E
 refine .d<|.s<|.g<|.r 1<|.lb aD<|.r 1 ?_
 refine .cl (IK d ai aa (RepS.MF h1 AJ) (RepS.MF h2 AJ) (RepS.MF h3 AJ) bC (by have:=p0.nf; have:=List.length_filter_le (fun f:Fil=>d.list.contains f.num) d.files; omega)) ?_
 rintro cD cE ⟨⟨aW,rfl,ao⟩,aS⟩
 replace ⟨aa,ab,ac,ae,aD,E⟩:=(so [aq,am,ag,af] aS).g6 aa ab ac ae aD E
 have bO:=ao.len; have bP:=ao.max
 refine .r 1<|.ss 0 (vS am aW bv) aD fun cp aG aj aX=>?_
 replace ⟨aa,ab,ao,ac,ae,E⟩:=(so [aq,am,ag,af] aG).g6 aa ab ao ac ae E
 refine .d<|.s<|.g<|.ns 0 165 [] fun az aT ak aH aY aZ=>?_
 have ba:=Ad ak aa.lt
 have bd:=Ad ak ab.lt
 have bQ:=Ad ak ao.lt
 have bg:=Ad ak aj.lt
 have bh:=Bq ak E.size
 have bR:=E.cn ak
 replace ⟨aa,ab,ao,ac,ae,aj,E⟩:=(sn [aq,am,ag,af] aH ak).g7 aa ab ao ac ae aj E
 have aA:Own (α:=Fil) aT az 165 (nin (ge w.heap.size) [az,aq,am,ag,af]) 0 0 []:=Own.BX aY
 refine .r 1<|.lb aj ?_
 have bJ:=ao.sl bD
 replace ⟨ac,ae,aA⟩:=(sd aT [az,aq,am,ag,af] am).g3 ac ae aA
 refine RG.RY (T:=39) (ty:=39) aA bJ AA AA (fun b _ h=>QZ AI h) (by have:=p0.nf; have:=List.length_filter_le (fun f:Fil=>d.list.contains f.num) d.files; omega) fun ay aU cq ah al aI=>?_
 have bS:=CI al ba aa.lt
 have bT:=CI al bd ab.lt
 have bU:=CI al bg aj.lt
 have bi:=Fx al bh E.size
 replace ⟨ab,ac,ae,aj,E⟩:=(sa [az,aq,ag,af] aI al).g5 ab ac ae aj E
 replace ah:=ah.rn az
 refine .r 1<|.ss 0 (vS ay (0+aW) aU) aj fun cr aJ bj bk=>?_
 replace ⟨ab,ac,ae,ah,E⟩:=(so [ay,aq,ag,af] aJ).g5 ab ac ae ah E
 refine .d<|.s<|.g<|.ln bj<|.sc [vS ay (0+aW) aU,.slice bw d.list.length bz,.slice bA d.names.length bB,vI d.next] ab fun bK aK bm bn=>?_
 replace ⟨ac,ae,ah,E⟩:=(so [ay,aq,ag,af] aK).g4 ac ae ah E
 refine .d ?_
 have bL:=ah.sl bi
 replace ⟨ac,ae⟩:=(sd bK [ay,aq,ag,af] ay).g2 ac ae
 exact .rb func127 results127 bm ⟨(VS.of (y:=(⟨([]++(d.files.filter (fun f=>d.list.contains f.num))),d.list,d.names,d.next⟩:Dsk)) ⟨_,rfl,⟨_,_,_,_,_,_,_,_,_,rfl,bL.w1,ac.w1,ae.w1⟩⟩ (by (rw [Ll ‹_›]; rfl))),E⟩
theorem Jv (d:Dsk) (at_:Int) (h1:RepS w F a1 n1 c1 d.files) (h2:RepS w F a2 n2 c2 d.list) (h3:RepS w F a3 n3 c3 d.names) (p0:DD d):Calls Tryz.prog 65 [.agg #[.slice a1 n1 c1,.slice a2 n2 c2,.slice a3 n3 c3,.int .i64 d.next],.int .i64 at_].toArray w (Al fun rv w'=>VL (ge w.heap.size) w' (Ah d at_:List Stp) rv∧Ext w w'):=by
 refine goT func65 ?_
 obtain ⟨rfl,iG,h1⟩:=h1.tp
 obtain ⟨rfl,iH,h2⟩:=h2.tp
 obtain ⟨rfl,iI,h3⟩:=h3.tp
 refine .s<|.g<|.np 42 [.slice a1 d.files.length c1,.slice a2 d.list.length c2,.slice a3 d.names.length c3,vI d.next] fun ai gr dH ce E fJ=>?_
 replace ⟨h1,h2,h3⟩:=(sn [] ce dH).g3 h1 h2 h3
 have aa:=ce
 refine .r 1<|.d<|.s<|.s<|.g<|.ln E<|.cl (DN d h1.ta h2.ta h3.ta p0 (w:=gr) (F:=all)) ?_
 rintro j5 gs ⟨rfl,dI⟩
 replace ⟨h1,h2,h3,E,aa⟩:=(se [ai] dI).g5 h1 h2 h3 E aa
 cases iJ:(BE d)
 ·refine .r 14<|.d<|.ct<|.s<|.g<|.ns 0 160 [] fun cg fK bT dJ fL fM=>?_
  have iK:=Ad bT E.lt
  have fN:=Bq bT aa.size
  replace ⟨h1,h2,h3,E,aa⟩:=(sn [ai] dJ bT).g5 h1 h2 h3 E aa
  have fO:Own (α:=Stp) fK cg 160 (nin (ge w.heap.size) [cg,ai]) 0 0 []:=Own.BX fL
  refine .r 1<|.d ?_
  have gt:=fO.sl fN
  replace ⟨h1,h2,h3⟩:=(sd fK [cg,ai] cg).g3 h1 h2 h3
  exact .rt func65 results65 (vS cg 0 0) ⟨(gt.vl (by exact (P2 ‹_›).symm) (fun _ _ h=>h.1)),aa⟩
 refine .r 4<|.lb E<|.r 1<|RG.int ((d.list.length:Int) - 2) AA (by have:=p0.nl; omega)<|.cl (Bp at_ 0 ((d.list.length:Int) - 2) (w:=gs) (F:=all)) ?_
 rintro j6 gu ⟨rfl,dK⟩
 replace ⟨h1,h2,h3,E,aa⟩:=(se [ai] dK).g5 h1 h2 h3 E aa
 cases dL:(inR at_ 0 ((d.list.length:Int) - 2))
 ·refine .r 6<|.d<|.ct<|.s<|.g<|.ns 0 160 [] fun ci fP bU dM fQ fR=>?_
  have iM:=Ad bU E.lt
  have fS:=Bq bU aa.size
  replace ⟨h1,h2,h3,E,aa⟩:=(sn [ai] dM bU).g5 h1 h2 h3 E aa
  have fT:Own (α:=Stp) fP ci 160 (nin (ge w.heap.size) [ci,ai]) 0 0 []:=Own.BX fQ
  refine .r 1<|.d ?_
  have gv:=fT.sl fS
  replace ⟨h1,h2,h3⟩:=(sd fP [ci,ai] ci).g3 h1 h2 h3
  exact .rt func65 results65 (vS ci 0 0) ⟨(gv.vl (by exact X4 ‹_› (.inl ‹_›)) (fun _ _ h=>h.1)),aa⟩
 have iN:=Bd dL
 refine .r 3<|.ln E<|.cl (Gm d h1.ta h2.ta h3.ta (w:=gu) (F:=all)) ?_
 rintro j7 j8 ⟨rfl,dN⟩
 replace ⟨h1,h2,h3,E,aa⟩:=(se [ai] dN).g5 h1 h2 h3 E aa
 cases iO:(FG d)
 ·refine .r 1<|.d<|.cf<|.sk<|.s<|.gd nil 12 fun j9 dO=>?_
  replace ⟨h1,h2,h3,E,aa⟩:=(se [ai] dO).g5 h1 h2 h3 E aa
  refine .r [0]<|.lb 1 E id<|.r [2] ?_
  have dP:at_.toNat< d.list.length:=AB
  refine GA.idx (i:=3) (at_.toNat) (len:=d.list.length) (z:=at_) (sz:=1) AA AB dP (h2.addr (Nat.zero_lt_of_lt dP)) ?_
  obtain ⟨bg,ck⟩:∃ y,d.list[at_.toNat]? = some y:=⟨_,AU AB⟩
  have gn:=AV ck
  obtain ⟨_,rfl,fU⟩:=h2.elem (at_.toNat) bg ck
  refine .lh 4 0 fU id<|.r [5]<|.lb 6 E id<|.r [7]<|GA.int (i:=8) (at_+1) AA (by have:=p0.nl; omega) ?_
  have dQ:(at_+1).toNat< d.list.length:=AB
  refine GA.idx (i:=9) ((at_+1).toNat) (len:=d.list.length) (z:=at_+1) (sz:=1) AA AB dQ (h2.addr (Nat.zero_lt_of_lt dQ)) ?_
  obtain ⟨bh,cm⟩:∃ y,d.list[(at_+1).toNat]? = some y:=⟨_,AU AB⟩
  have gp:=AV cm
  obtain ⟨_,rfl,fV⟩:=h2.elem ((at_+1).toNat) bh cm
  refine .lh 10 0 fV id<|.r [11]<|.d fun b8 dR=>?_
  replace ⟨h1,h2,h3,E,aa⟩:=(se [ai] dR).g5 h1 h2 h3 E aa
  refine .r 1<|.d<|.s ?_
  replace h1:=h1.C1
  replace h2:=h2.C1
  replace h3:=h3.C1
  have bV:Gb (ai+1) b8.heap.size:=E.lt
  refine .gd (mtb [] b8.heap.size) 22 fun gw co=>?_
  replace ⟨h1,h2,h3,E,aa⟩:=(se [ai] co).g5 h1 h2 h3 E aa
  have aB:Chg (mtb [] b8.heap.size) b8 gw:=Chg.I9 (Chg.refl (mtb [] b8.heap.size) b8) co
  refine .r [0]<|.lb 1 E (DH all_nil bV)<|.ln 2 E (DH all_nil bV)<|.r [3]<|GA.RX (i:=4) AA (fun gy cp=>C4 d bg (h1.Sf cp all_nil) (h2.Sf cp all_nil) (h3.Sf cp all_nil) (w:=gy) (F:=all)) ?_
  have dS:(Aw d bg).toNat< d.files.length:=(by exact (H9 (E5 (DJ ‹_›).2.2.2 _ ‹_›)).1)
  refine GA.idx (i:=5) ((Aw d bg).toNat) (len:=d.files.length) (z:=Aw d bg) (sz:=3) AA (by exact (H9 (E5 (DJ ‹_›).2.2.2 _ ‹_›)).2) dS (h1.addr (Nat.zero_lt_of_lt dS))<|.r [6] ?_
  obtain ⟨aH,bW⟩:∃ y,d.files[(Aw d bg).toNat]? = some y:=⟨_,AU AB⟩
  have gq:=AV bW
  obtain ⟨_,⟨iS,iT,iU,iV,iW,iX,rfl,ab,ac⟩,dT⟩:=h1.elem ((Aw d bg).toNat) aH bW
  have dU:=ab.len
  subst dU
  have dV:=ac.len
  subst dV
  refine .lg 7 1 dT (h1.nS (Ly bW) all_nil)<|.r [8]<|.lb 9 E (DH all_nil bV)<|.ln 10 E (DH all_nil bV)<|.r [11]<|GA.RX (i:=12) AA (fun fW bu=>C4 d bh (h1.Sf bu all_nil) (h2.Sf bu all_nil) (h3.Sf bu all_nil) (w:=fW) (F:=all)) ?_
  have cq:(Aw d bh).toNat< d.files.length:=(by exact (H9 (E5 (DJ ‹_›).2.2.2 _ ‹_›)).1)
  refine GA.idx (i:=13) ((Aw d bh).toNat) (len:=d.files.length) (z:=Aw d bh) (sz:=3) AA (by exact (H9 (E5 (DJ ‹_›).2.2.2 _ ‹_›)).2) cq (h1.addr (Nat.zero_lt_of_lt cq))<|.r [14] ?_
  obtain ⟨ay,br⟩:∃ y,d.files[(Aw d bh).toNat]? = some y:=⟨_,AU AB⟩
  have fX:=AV br
  obtain ⟨_,⟨iY,iZ,ja,jb,jc,jd,rfl,ae,af⟩,dW⟩:=h1.elem ((Aw d bh).toNat) ay br
  have dX:=ae.len
  subst dX
  have dY:=af.len
  subst dY
  refine .lg 15 1 dW (h1.nS (Ly br) all_nil)<|.tw 16 20 ?_ ?_
  ·refine .cl (fun cr aV=>Ep aH.part ay.part (ab.ta.ext aV) (ac.ta.ext aV) (ae.ta.ext aV) (af.ta.ext aV) (by exact (p0.file _ ‹_›).sz) (by exact (p0.file _ ‹_›).sz) (w:=cr) (F:=all)) ?_
   intro cr aV
   replace ⟨h2,h3,E,ab,ac,ae,af,aa,aB⟩:=(se [ai] aV).g9 h2 h3 E ab ac ae af aa aB
   rintro je jf ⟨⟨jg,rfl,⟨_,rfl,⟨cu,jh,cw,cx,ji,cy,rfl,ag,ah⟩⟩⟩,bv⟩
   have bw:=al1 E.lt
   have cz:Gb w.heap.size cr.heap.size:=aa.size
   have hkeep_:=bv
   replace ⟨h2,h3,E,ab,ac,ae,af,aa,aB⟩:=(se [ai] bv).g9 h2 h3 E ab ac ae af aa aB
   refine ⟨Ext.chg hkeep_,?_⟩
   have ag:=ag.fr bw cz
   have gF:=ag.max
   have ah:=ah.fr bw cz
   have gG:=ah.max
   have dZ:=ag.len
   subst dZ
   have d0:=ah.len
   subst d0
   refine .r [17,18,19]<|.go 20<|.nw (fun b=>.pointer (some ⟨b,0,none⟩)) 124 [AH,AH] fun jj cA=>?_
   replace ⟨h2,h3,E,ab,ac,ae,af,ag,ah,aa,aB⟩:=(se [ai] cA).g11 h2 h3 E ab ac ae af ag ah aa aB
   intro ao jk bi cB d3 d4
   have gH:=Ad bi E.lt
   have gI:=aa.cn bi
   have d5:=aB.cn bi
   replace ⟨h2,h3,E,ab,ac,ae,af,ag,ah,aa,aB⟩:=(sn [ai] cB bi).g11 h2 h3 E ab ac ae af ag ah aa aB
   refine .go 21<|GE.FU (t':=124) (o:=0) (v:=.agg #[.slice cu ((CN aH.part ay.part).1.ids.length) cw,.slice cx ((CN aH.part ay.part).1.blocks.length) cy]) [.slice cu ((CN aH.part ay.part).1.ids.length) cw,.slice cx ((CN aH.part ay.part).1.blocks.length) cy] d3 AA AA AA fun jl cC=>?_
   replace ⟨h2,h3,E,ab,ac,ae,af,ag,ah,aa,aB⟩:=(se [ao,ai] cC).g11 h2 h3 E ab ac ae af ag ah aa aB
   intro jm bz aj d6
   have hkeep_:=Chg.toS bz (Cov.toS d5)
   replace ⟨h2,h3,E,ab,ac,ae,af,ag,ah,aa,aB⟩:=(so [ao,ai] bz).g11 h2 h3 E ab ac ae af ag ah aa aB
   refine ⟨hkeep_,?_⟩
   refine .d fun jn cD=>?_
   replace ⟨h2,h3,E,ab,ac,ae,af,ag,ah,aj,aa,aB⟩:=(se [ao,ai] cD).g12 h2 h3 E ab ac ae af ag ah aj aa aB
   replace h2:=h2.BS
   replace h3:=h3.BS
   replace ab:=ab.BS
   replace ac:=ac.BS
   replace ae:=ae.BS
   replace af:=af.BS
   refine .r 1<|.d<|.s<|.g<|.ns 0 3 [] fun bX fY aW cE d7 d8=>?_
   have d9:=Ad aW E.lt
   have ec:=Ad aW aj.lt
   have ee:=Bq aW aa.size
   have eg:=aa.cn aW
   replace ⟨h2,h3,E,ab,ac,ae,af,ag,ah,aj,aa⟩:=(sn [ao,ai] cE aW).g11 h2 h3 E ab ac ae af ag ah aj aa
   have eh:Own (α:=Int) fY bX 3 (nin (ge w.heap.size) [bX,ao,ai]) 0 0 []:=Own.BX d7
   refine .r 1<|.lb E<|.r 1<|RG.sub (t:=40) (lo:=none) (hi:=some (vI at_)) h2 0 (at_.toNat) AA AA (.inl ⟨rfl,rfl⟩) (.inr ⟨_,_,rfl,by omega⟩) (by have:=p0.nl; omega) (by have:=p0.nl; omega) fun jo jp cF=>?_
   have gJ:=cF.len; have gK:=cF.max
   refine RG.Dj (T:=40) (ty:=40) BB eh cF AA AA (fun b h e=>h.2 (e▸AI)) (by have:=p0.nl; omega) fun aE fZ bY az aJ cG=>?_
   have bA:=CI aJ d9 E.lt
   have ej:=CI aJ ec aj.lt
   have ek:=Fx aJ ee aa.size
   have en:=Ig aJ eg aa.size
   replace ⟨h2,h3,E,ab,ac,ae,af,ag,ah,aj,aa⟩:=(sa [bX,ao,ai] cG aJ).g11 h2 h3 E ab ac ae af ag ah aj aa
   replace az:=az.rn bX
   have gL:=az.len
   refine .r 1<|.d<|.s ?_
   replace h2:=h2.C1
   replace h3:=h3.C1
   replace ab:=ab.C1
   replace ac:=ac.C1
   replace ae:=ae.C1
   replace af:=af.C1
   replace ag:=ag.C1
   replace ah:=ah.C1
   have cH:Gb (ai+1) bY.heap.size:=E.lt
   have eA:Cov (mtb [aE] bY.heap.size) bY aE:=⟨.inl (.inl AI)⟩
   refine .gd (mtb [aE] bY.heap.size) 10 fun jq cI=>?_
   replace ⟨h2,h3,E,ab,ac,ae,af,ag,ah,aj,az,aa⟩:=(se [aE,ao,ai] cI).g12 h2 h3 E ab ac ae af ag ah aj az aa
   refine .r [0,1]<|.lb 2 E (DH (all_cons (Nb.symm bA) all_nil) cH)<|.r [5]<|.lb 6 E (DH (all_cons (Nb.symm bA) all_nil) cH)<|.r [7]<|GA.int (i:=8) (at_+2) AA (by have:=p0.nl; omega)<|GA.sub (i:=9) (t:=40) (lo:=some (vI (at_+2))) (hi:=none) AA h2 ((at_+2).toNat) d.list.length AA AA (.inr ⟨_,_,rfl,by omega⟩) (.inl ⟨rfl,rfl⟩) (by have:=p0.nl; omega) (by have:=p0.nl; omega) fun jr jt aF=>?_
   have gN:=aF.len
   refine .go 3<|.ns 1 3 [vI d.next] fun ju bB=>?_
   replace ⟨h2,h3,E,ab,ac,ae,af,ag,ah,aj,az,aF⟩:=(se [aE,ao,ai] bB).g12 h2 h3 E ab ac ae af ag ah aj az aF
   replace aa:=(se [aE,ao,ai] bB).g1 aa
   intro cJ jv bj bC bD eB
   have eC:=Ad bj E.lt
   have eD:=Ad bj aj.lt
   have cK:=Ad bj az.lt
   have eE:=Bq bj aa.size
   replace ⟨h2,h3,E,ab,ac,ae,af,ag,ah,aj,az,aF⟩:=(se [aE,ao,ai] bC).g12 h2 h3 E ab ac ae af ag ah aj az aF
   replace aa:=(se [aE,ao,ai] bC).g1 aa
   refine .go 4<|GE.append (T:=40) (ty:=40) (args:=[vS aE (0+(at_.toNat - 0)) fZ,vS cJ 1 1]) AA fun jw bE=>?_
   replace ⟨h2,h3,E,ab,ac,ae,af,ag,ah,aj,az,aF⟩:=(se [aE,ao,ai] bE).g12 h2 h3 E ab ac ae af ag ah aj az aF
   replace ⟨bD,aa⟩:=(se [aE,ao,ai] bE).g2 bD aa
   have b9:nin (ge w.heap.size) [aE,ao,ai] cJ∧cJ≠aE:=GH eE (all_cons cK (all_cons eD (all_cons eC all_nil))) cK
   obtain ⟨bZ,jx,jy,cL,aO,aK,bF,eF⟩:=az.DV (P:=Tryz.prog) (T:=40) (ty:=40) (y:=d.next) AA bD rfl b9 (by have:=p0.nl; omega)
   refine ⟨_,_,cL,Chg.toS bF (Cov.toS eA),?_⟩
   have eG:=CI aK bA E.lt
   have eH:=CI aK ej aj.lt
   have eI:=Fx aK ek aa.size
   have gP:=Ig aK en aa.size
   replace ⟨h2,h3,E,ab,ac,ae,af,ag,ah,aj,aF,aa⟩:=(sa [aE,ao,ai] bF aK).g12 h2 h3 E ab ac ae af ag ah aj aF aa
   replace aO:=aO.rn aE
   have gQ:=aO.len
   refine .d fun jz bG=>?_
   replace ⟨h2,h3,E,ab,ac,ae,af,ag,ah,aj,aO,aF⟩:=(se [bZ,ao,ai] bG).g12 h2 h3 E ab ac ae af ag ah aj aO aF
   replace aa:=(se [bZ,ao,ai] bG).g1 aa
   replace h2:=h2.BS
   replace h3:=h3.BS
   replace ab:=ab.BS
   replace ac:=ac.BS
   replace ae:=ae.BS
   replace af:=af.BS
   replace ag:=ag.BS
   replace ah:=ah.BS
   replace aF:=aF.BS
   refine RG.Dj (T:=40) (ty:=40) BB aO aF AA AA (fun b h e=>h.2 (e▸AI)) (by have:=p0.nl; omega) fun aN f0 jA ar aS cM=>?_
   have gS:=CI aS eG E.lt
   have gT:=CI aS eH aj.lt
   have eJ:=Fx aS eI aa.size
   replace ⟨h2,h3,E,ab,ac,ae,af,ag,ah,aj,aa⟩:=(sa [bZ,ao,ai] cM aS).g11 h2 h3 E ab ac ae af ag ah aj aa
   replace ar:=ar.rn bZ
   refine .r 1<|.d<|.s<|.gd nil 13 fun jB cN=>?_
   replace ⟨h2,h3,E,ab,ac,ae,af,ag,ah,aj,ar,aa⟩:=(se [aN,ao,ai] cN).g12 h2 h3 E ab ac ae af ag ah aj ar aa
   refine .r [0]<|.lb 1 E id<|.ln 2 aj id<|.r [3,4,5]<|.lb 6 E id<|.r [9,10,11,12]<|.go 7<|.cl (fun cO bH=>Af d.names (h3.ta.ext bH) (by have:=p0.g.len; omega) (by (intro n hn; have:=(p0.g.sz n hn).1; omega)) (w:=cO) (F:=all)) ?_
   intro cO bH
   replace ⟨h2,h3,E,ab,ac,ae,af,ag,ah,aj,ar,aa⟩:=(se [aN,ao,ai] bH).g12 h2 h3 E ab ac ae af ag ah aj ar aa
   rintro jC jD ⟨⟨bk,f5,f6,rfl,aC,aX⟩,bI⟩
   have cP:=al3 ar.lt aj.lt E.lt
   have eK:Gb w.heap.size cO.heap.size:=aa.size
   have hkeep_:=bI
   have gW:=DG aX E.lt
   have gX:=DG aX aj.lt
   have gY:=DG aX ar.lt
   have eL:=Ks aX aa.size
   replace ⟨h2,h3,E,ab,ac,ae,af,ag,ah,aj,ar,aa⟩:=(sz [aN,ao,ai] bI aX).g12 h2 h3 E ab ac ae af ag ah aj ar aa
   refine ⟨Ext.chg hkeep_,?_⟩
   replace aC:=Own.take (s0:=w.heap.size) (M:=[aN,ao,ai]) aC cP eK
   refine .r [8]<|.d fun jE bJ=>?_
   replace ⟨h2,h3,E,ab,ac,ae,af,ag,ah,aj,ar,aC⟩:=(se [bk,aN,ao,ai] bJ).g12 h2 h3 E ab ac ae af ag ah aj ar aC
   replace aa:=(se [bk,aN,ao,ai] bJ).g1 aa
   refine .ns 4 160 [vI 1,vI d.next,.slice cu ((CN aH.part ay.part).1.ids.length) cw,.slice cx ((CN aH.part ay.part).1.blocks.length) cy,AH,AH,vI 2,vI 0,AH,AH,vS aN (0+(at_.toNat - 0)+1+(d.list.length - (at_+2).toNat)) f0,vS bk f5 f6,vI 3,vI bg,AH,AH,AH,AH,vI 3,vI bh,AH,AH,AH,AH] fun bm b0 aP cQ eM eN=>?_
   have hC:=Ad aP E.lt
   have hE:=Ad aP aj.lt
   have hH:=Ad aP ar.lt
   have hN:=Ad aP aC.lt
   have eO:=Bq aP aa.size
   replace ⟨h2,h3,E,ab,ac,ae,af,ag,ah,ar,aC,aa⟩:=(sn [bk,aN,ao,ai] cQ aP).g12 h2 h3 E ab ac ae af ag ah ar aC aa
   have cR:=ar.sl eJ
   replace ⟨h2,h3,ab,ac,ae,af,ag,ah,aC⟩:=(sd b0 [bm,bk,aN,ao,ai] aN).g9 h2 h3 ab ac ae af ag ah aC
   have f7:=aC.sl eL
   replace ⟨h2,h3,ab,ac,ae,af,ag,ah,cR⟩:=(sd b0 [bm,bk,ao,ai] bk).g9 h2 h3 ab ac ae af ag ah cR
   have eP:Own (α:=Stp) b0 bm 160 (nin (ge w.heap.size) [bm,ao,ai]) 4 4 [(⟨1,d.next,(⟨(CN aH.part ay.part).1.ids,(CN aH.part ay.part).1.blocks⟩:Prt),([]:List Int),([]:List (List Tag))⟩:Stp),(⟨2,0,(⟨([]:List Int),([]:List (List Row))⟩:Prt),((([]++((d.list.take (at_.toNat)).drop 0))++[d.next])++((d.list.take d.list.length).drop ((at_+2).toNat))),d.names⟩:Stp),(⟨3,bg,(⟨([]:List Int),([]:List (List Row))⟩:Prt),([]:List Int),([]:List (List Tag))⟩:Stp),(⟨3,bh,(⟨([]:List Int),([]:List (List Row))⟩:Prt),([]:List Int),([]:List (List Tag))⟩:Stp)]:=Own.lit eM rfl AE ⟨⟨_,_,_,_,_,_,_,_,_,_,_,_,rfl,ag.oi,ah.oi,(RepS.BX _ _ none 0 AE),(RepS.BX _ _ none 0 AE)⟩,⟨_,_,_,_,_,_,_,_,_,_,_,_,rfl,(RepS.BX _ _ none 0 AE),(RepS.BX _ _ none 0 AE),cR.oi,f7.oi⟩,⟨_,_,_,_,_,_,_,_,_,_,_,_,rfl,(RepS.BX _ _ none 0 AE),(RepS.BX _ _ none 0 AE),(RepS.BX _ _ none 0 AE),(RepS.BX _ _ none 0 AE)⟩,⟨_,_,_,_,_,_,_,_,_,_,_,_,rfl,(RepS.BX _ _ none 0 AE),(RepS.BX _ _ none 0 AE),(RepS.BX _ _ none 0 AE),(RepS.BX _ _ none 0 AE)⟩,rfl⟩
   refine .r 1<|.d ?_
   have f8:=eP.sl eO
   replace ⟨h2,h3,ab,ac,ae,af⟩:=(sd b0 [bm,ao,ai] bm).g6 h2 h3 ab ac ae af
   exact .rt func65 results65 (vS bm 4 4) ⟨(f8.vl (by exact VC p0 ‹_› ‹_› ‹_› ‹_› ‹_› ‹_› ‹_›) (fun _ _ h=>h.1)),aa⟩
  refine .nw (fun b=>.pointer (some ⟨b,0,none⟩)) 124 [AH,AH] fun jF cS=>?_
  replace ⟨h2,h3,E,ab,ac,ae,af,aa,aB⟩:=(se [ai] cS).g9 h2 h3 E ab ac ae af aa aB
  intro aq jG bn cT aY eQ
  have hO:=Ad bn E.lt
  have hQ:=aa.cn bn
  have eR:=aB.cn bn
  replace ⟨h2,h3,E,ab,ac,ae,af,aa⟩:=(sn [ai] cT bn).g8 h2 h3 E ab ac ae af aa
  refine .go 16<|.cl (fun cU aZ=>Ep aH.part ay.part (ab.ta.ext aZ) (ac.ta.ext aZ) (ae.ta.ext aZ) (af.ta.ext aZ) (by exact (p0.file _ ‹_›).sz) (by exact (p0.file _ ‹_›).sz) (w:=cU) (F:=all)) ?_
  intro cU aZ
  replace ⟨h2,h3,E,aY,aa⟩:=(se [aq,ai] aZ).g5 h2 h3 E aY aa
  rintro jH jI ⟨⟨jJ,rfl,⟨_,rfl,⟨cV,jK,cW,cX,jL,cY,rfl,al,am⟩⟩⟩,bK⟩
  have bL:=al2 aY.lt E.lt
  have cZ:Gb w.heap.size cU.heap.size:=aa.size
  have hkeep_:=bK
  replace ⟨h2,h3,E,aY,aa⟩:=(se [aq,ai] bK).g5 h2 h3 E aY aa
  refine ⟨Ext.chg hkeep_,?_⟩
  have al:=al.fr bL cZ
  have hV:=al.max
  have am:=am.fr bL cZ
  have hW:=am.max
  have eS:=al.len
  subst eS
  have eT:=am.len
  subst eT
  refine .r [17,18,19]<|.go 21<|GE.FU (t':=124) (o:=0) (v:=.agg #[.slice cV ((CN aH.part ay.part).1.ids.length) cW,.slice cX ((CN aH.part ay.part).1.blocks.length) cY]) [.slice cV ((CN aH.part ay.part).1.ids.length) cW,.slice cX ((CN aH.part ay.part).1.blocks.length) cY] aY AA AA AA fun jM c7=>?_
  replace ⟨h2,h3,E,al,am,aa⟩:=(se [aq,ai] c7).g6 h2 h3 E al am aa
  intro jN bM ak eU
  have hkeep_:=Chg.toS bM (Cov.toS eR)
  replace ⟨h2,h3,E,al,am,aa⟩:=(so [aq,ai] bM).g6 h2 h3 E al am aa
  refine ⟨hkeep_,?_⟩
  refine .d fun jO c8=>?_
  replace ⟨h2,h3,E,ak,al,am,aa⟩:=(se [aq,ai] c8).g7 h2 h3 E ak al am aa
  replace h2:=h2.BS
  replace h3:=h3.BS
  refine .r 1<|.d<|.s<|.g<|.ns 0 3 [] fun b6 f9 ba da eV eW=>?_
  have eX:=Ad ba E.lt
  have eY:=Ad ba ak.lt
  have eZ:=Bq ba aa.size
  have e7:=aa.cn ba
  replace ⟨h2,h3,E,ak,al,am,aa⟩:=(sn [aq,ai] da ba).g7 h2 h3 E ak al am aa
  have e8:Own (α:=Int) f9 b6 3 (nin (ge w.heap.size) [b6,aq,ai]) 0 0 []:=Own.BX eV
  refine .r 1<|.lb E<|.r 1<|RG.sub (t:=40) (lo:=none) (hi:=some (vI at_)) h2 0 (at_.toNat) AA AA (.inl ⟨rfl,rfl⟩) (.inr ⟨_,_,rfl,by omega⟩) (by have:=p0.nl; omega) (by have:=p0.nl; omega) fun jP jQ db=>?_
  have ia:=db.len; have ic:=db.max
  refine RG.Dj (T:=40) (ty:=40) BB e8 db AA AA (fun b h e=>h.2 (e▸AI)) (by have:=p0.nl; omega) fun aI gb b7 aA aL de=>?_
  have bN:=CI aL eX E.lt
  have fa:=CI aL eY ak.lt
  have fb:=Fx aL eZ aa.size
  have fd:=Ig aL e7 aa.size
  replace ⟨h2,h3,E,ak,al,am,aa⟩:=(sa [b6,aq,ai] de aL).g7 h2 h3 E ak al am aa
  replace aA:=aA.rn b6
  have ie:=aA.len
  refine .r 1<|.d<|.s ?_
  replace h2:=h2.C1
  replace h3:=h3.C1
  replace al:=al.C1
  replace am:=am.C1
  have df:Gb (ai+1) b7.heap.size:=E.lt
  have fe:Cov (mtb [aI] b7.heap.size) b7 aI:=⟨.inl (.inl AI)⟩
  refine .gd (mtb [aI] b7.heap.size) 10 fun jR dh=>?_
  replace ⟨h2,h3,E,ak,al,am,aA,aa⟩:=(se [aI,aq,ai] dh).g8 h2 h3 E ak al am aA aa
  refine .r [0,1]<|.lb 2 E (DH (all_cons (Nb.symm bN) all_nil) df)<|.r [5]<|.lb 6 E (DH (all_cons (Nb.symm bN) all_nil) df)<|.r [7]<|GA.int (i:=8) (at_+2) AA (by have:=p0.nl; omega)<|GA.sub (i:=9) (t:=40) (lo:=some (vI (at_+2))) (hi:=none) AA h2 ((at_+2).toNat) d.list.length AA AA (.inr ⟨_,_,rfl,by omega⟩) (.inl ⟨rfl,rfl⟩) (by have:=p0.nl; omega) (by have:=p0.nl; omega) fun jS jT aG=>?_
  have ii:=aG.len
  refine .go 3<|.ns 1 3 [vI d.next] fun jU dj=>?_
  replace ⟨h3,E,ak,al,am,aA,aG,aa⟩:=(se [aI,aq,ai] dj).g8 h3 E ak al am aA aG aa
  intro dm jV bo dp bO ff
  have fg:=Ad bo E.lt
  have fi:=Ad bo ak.lt
  have dq:=Ad bo aA.lt
  have fj:=Bq bo aa.size
  replace ⟨h3,E,ak,al,am,aA,aG,aa⟩:=(se [aI,aq,ai] dp).g8 h3 E ak al am aA aG aa
  refine .go 4<|GE.append (T:=40) (ty:=40) (args:=[vS aI (0+(at_.toNat - 0)) gb,vS dm 1 1]) AA fun jW dt=>?_
  replace ⟨h3,E,ak,al,am,aA,aG,bO,aa⟩:=(se [aI,aq,ai] dt).g9 h3 E ak al am aA aG bO aa
  have cd:nin (ge w.heap.size) [aI,aq,ai] dm∧dm≠aI:=GH fj (all_cons dq (all_cons fi (all_cons fg all_nil))) dq
  obtain ⟨du,jX,jY,dv,aQ,aM,bP,fm⟩:=aA.DV (P:=Tryz.prog) (T:=40) (ty:=40) (y:=d.next) AA bO rfl cd (by have:=p0.nl; omega)
  refine ⟨_,_,dv,Chg.toS bP (Cov.toS fe),?_⟩
  have fp:=CI aM bN E.lt
  have fq:=CI aM fa ak.lt
  have fu:=Fx aM fb aa.size
  have ik:=Ig aM fd aa.size
  replace ⟨h3,E,ak,al,am,aG,aa⟩:=(sa [aI,aq,ai] bP aM).g7 h3 E ak al am aG aa
  replace aQ:=aQ.rn aI
  have il:=aQ.len
  refine .d fun jZ dw=>?_
  replace ⟨h3,E,ak,al,am,aQ,aG,aa⟩:=(se [du,aq,ai] dw).g8 h3 E ak al am aQ aG aa
  replace h3:=h3.BS
  replace al:=al.BS
  replace am:=am.BS
  replace aG:=aG.BS
  refine RG.Dj (T:=40) (ty:=40) BB aQ aG AA AA (fun b h e=>h.2 (e▸AI)) (by have:=p0.nl; omega) fun aT gf j0 ax aU dx=>?_
  have io:=CI aU fp E.lt
  have ip:=CI aU fq ak.lt
  have fv:=Fx aU fu aa.size
  replace ⟨h3,E,ak,al,am,aa⟩:=(sa [du,aq,ai] dx aU).g6 h3 E ak al am aa
  replace ax:=ax.rn du
  refine .r 1<|.d<|.s<|.gd nil 13 fun j1 dy=>?_
  replace ⟨h3,E,ak,al,am,ax,aa⟩:=(se [aT,aq,ai] dy).g7 h3 E ak al am ax aa
  refine .r [0]<|.lb 1 E id<|.ln 2 ak id<|.r [3,4,5]<|.lb 6 E id<|.r [9,10,11,12]<|.go 7<|.cl (fun dz bQ=>Af d.names (h3.ta.ext bQ) (by have:=p0.g.len; omega) (by (intro n hn; have:=(p0.g.sz n hn).1; omega)) (w:=dz) (F:=all)) ?_
  intro dz bQ
  replace ⟨E,ak,al,am,ax,aa⟩:=(se [aT,aq,ai] bQ).g6 E ak al am ax aa
  rintro j2 j3 ⟨⟨bq,gh,gi,rfl,aD,bd⟩,bR⟩
  have dA:=al3 ax.lt ak.lt E.lt
  have fw:Gb w.heap.size dz.heap.size:=aa.size
  have hkeep_:=bR
  have iu:=DG bd E.lt
  have iw:=DG bd ak.lt
  have iy:=DG bd ax.lt
  have fA:=Ks bd aa.size
  replace ⟨E,ak,al,am,ax,aa⟩:=(sz [aT,aq,ai] bR bd).g6 E ak al am ax aa
  refine ⟨Ext.chg hkeep_,?_⟩
  replace aD:=Own.take (s0:=w.heap.size) (M:=[aT,aq,ai]) aD dA fw
  refine .r [8]<|.d fun j4 dB=>?_
  replace ⟨E,ak,al,am,ax,aD,aa⟩:=(se [bq,aT,aq,ai] dB).g7 E ak al am ax aD aa
  refine .ns 4 160 [vI 1,vI d.next,.slice cV ((CN aH.part ay.part).1.ids.length) cW,.slice cX ((CN aH.part ay.part).1.blocks.length) cY,AH,AH,vI 2,vI 0,AH,AH,vS aT (0+(at_.toNat - 0)+1+(d.list.length - (at_+2).toNat)) gf,vS bq gh gi,vI 3,vI bg,AH,AH,AH,AH,vI 3,vI bh,AH,AH,AH,AH] fun bt dC aR dD fB fC=>?_
  have iB:=Ad aR E.lt
  have iC:=Ad aR ak.lt
  have iD:=Ad aR ax.lt
  have iE:=Ad aR aD.lt
  have fD:=Bq aR aa.size
  replace ⟨E,al,am,ax,aD,aa⟩:=(sn [bq,aT,aq,ai] dD aR).g6 E al am ax aD aa
  have dE:=ax.sl fv
  replace ⟨al,am,aD⟩:=(sd dC [bt,bq,aT,aq,ai] aT).g3 al am aD
  have gj:=aD.sl fA
  replace ⟨al,am,dE⟩:=(sd dC [bt,bq,aq,ai] bq).g3 al am dE
  have fE:Own (α:=Stp) dC bt 160 (nin (ge w.heap.size) [bt,aq,ai]) 4 4 [(⟨1,d.next,(⟨(CN aH.part ay.part).1.ids,(CN aH.part ay.part).1.blocks⟩:Prt),([]:List Int),([]:List (List Tag))⟩:Stp),(⟨2,0,(⟨([]:List Int),([]:List (List Row))⟩:Prt),((([]++((d.list.take (at_.toNat)).drop 0))++[d.next])++((d.list.take d.list.length).drop ((at_+2).toNat))),d.names⟩:Stp),(⟨3,bg,(⟨([]:List Int),([]:List (List Row))⟩:Prt),([]:List Int),([]:List (List Tag))⟩:Stp),(⟨3,bh,(⟨([]:List Int),([]:List (List Row))⟩:Prt),([]:List Int),([]:List (List Tag))⟩:Stp)]:=Own.lit fB rfl AE ⟨⟨_,_,_,_,_,_,_,_,_,_,_,_,rfl,al.oi,am.oi,(RepS.BX _ _ none 0 AE),(RepS.BX _ _ none 0 AE)⟩,⟨_,_,_,_,_,_,_,_,_,_,_,_,rfl,(RepS.BX _ _ none 0 AE),(RepS.BX _ _ none 0 AE),dE.oi,gj.oi⟩,⟨_,_,_,_,_,_,_,_,_,_,_,_,rfl,(RepS.BX _ _ none 0 AE),(RepS.BX _ _ none 0 AE),(RepS.BX _ _ none 0 AE),(RepS.BX _ _ none 0 AE)⟩,⟨_,_,_,_,_,_,_,_,_,_,_,_,rfl,(RepS.BX _ _ none 0 AE),(RepS.BX _ _ none 0 AE),(RepS.BX _ _ none 0 AE),(RepS.BX _ _ none 0 AE)⟩,rfl⟩
  refine .r 1<|.d ?_
  have gk:=fE.sl fD
  exact .rt func65 results65 (vS bt 4 4) ⟨(gk.vl (by exact VC p0 ‹_› ‹_› ‹_› ‹_› ‹_› ‹_› ‹_›) (fun _ _ h=>h.1)),aa⟩
 refine .r 1<|.d<|.ct<|.s<|.g<|.ns 0 160 [] fun dF gl bS dG fF fG=>?_
 have iF:=Ad bS E.lt
 have fH:=Bq bS aa.size
 replace aa:=(se [] dG).g1 aa
 have fI:Own (α:=Stp) gl dF 160 (nin (ge w.heap.size) [dF,ai]) 0 0 []:=Own.BX fF
 refine .r 1<|.d ?_
 have gm:=fI.sl fH
 exact .rt func65 results65 (vS dF 0 0) ⟨(gm.vl (by exact X4 ‹_› (.inr ‹_›)) (fun _ _ h=>h.1)),aa⟩
end Go.Proofs.YtckdhcbbgmiccaaGreatDoor
namespace Go.Proofs.YtckdhcbbgmiccaaGreatDoor
set_option maxRecDepth 100000
set_option maxHeartbeats 4000000
variable {w:World} {F:Nat→Prop} {a1:Option Addr} {n1 c1:Nat}
theorem Mz  {F:Nat→Prop}   : Calls Tryz.prog 30 [].toArray w (Al fun rv w'=>VS (ge w.heap.size) w' ((⟨[],[],[],1⟩:Dsk):Dsk) rv∧Ext w w'):=by
 refine goT func30 ?_
 have Z:=St.i0 F w
 refine .s<|.g<|RG.Np Z fun E w Z=>.d<|.s<|.g<|RG.N0 Fil 0 Z fun aa w Z=>RG.N0 Int 0 Z fun ab w Z=>RG.N0 (List Tag) 0 Z fun ac w Z=>.r 1<|RG.Ss 3 Z fun w Z=>.d ?_
 have Z:=((Z.sl 2).sl 1).sl 0
 exact T.Rb 0 func30 results30 Z ⟨Z.rS (⟨([]:List Fil),([]:List Int),([]:List (List Tag)),1⟩:Dsk) [2,1,0] AF,Z.xt⟩
theorem LV  {F:Nat→Prop}   : Calls Tryz.prog 17 [].toArray w (Al fun rv w'=>VS (ge w.heap.size) w' (EL:Wld) rv∧Ext w w'):=by
 refine goT func17 ?_
 have Z:=St.i0 F w
 refine .s<|.g<|RG.Np Z fun ax w Z=>.d<|.s<|.g<|.r 1<|RG.cl (EB (⟨(⟨([]:List (List Tag)),([]:List Pst)⟩:Idx),([]:List Prt),([]:List Smp)⟩:Sto) Z.na Z.na Z.na Z.na WV.new.wd.wi.sto.nm NsD.nil WV.new.sd.sz) ?_
 rintro _ w ⟨⟨ai,ay,aj,ak,az,al,am,aA,ao,aq,aB,ar,rfl,ab,ac,E,ae,aa,af,ag⟩,ah⟩
 cases ab.len
 cases ac.len
 cases E.len
 cases aa.len
 have Z:=Z.so ah [.own 0 am 124 ao (((Ai (⟨(⟨([]:List (List Tag)),([]:List Pst)⟩:Idx),([]:List Prt),([]:List Smp)⟩:Sto))).parts),.own 0 aq 128 ar (((Ai (⟨(⟨([]:List (List Tag)),([]:List Pst)⟩:Idx),([]:List Prt),([]:List Smp)⟩:Sto))).mem)] [.rep ai aj ((((Ai (⟨(⟨([]:List (List Tag)),([]:List Pst)⟩:Idx),([]:List Prt),([]:List Smp)⟩:Sto))).idx).names),.rep ak al ((((Ai (⟨(⟨([]:List (List Tag)),([]:List Pst)⟩:Idx),([]:List Prt),([]:List Smp)⟩:Sto))).idx).AY)] (nd2 ag) (oN E ae (oN aa af o0)) (fc ab (fc ac fn_))
 refine RG.CS (Mz (F:=all)) Z fun aC aD aE aF aG aH w Z=>.r 1<|RG.Ss 2 Z fun w Z=>.d ?_
 have Z:=(Z.sl 0).sl 0
 exact T.Rb 0 func17 results17 Z ⟨Z.rS (⟨(⟨(⟨(((Ai (⟨(⟨([]:List (List Tag)),([]:List Pst)⟩:Idx),([]:List Prt),([]:List Smp)⟩:Sto))).idx).names,(((Ai (⟨(⟨([]:List (List Tag)),([]:List Pst)⟩:Idx),([]:List Prt),([]:List Smp)⟩:Sto))).idx).AY⟩:Idx),((Ai (⟨(⟨([]:List (List Tag)),([]:List Pst)⟩:Idx),([]:List Prt),([]:List Smp)⟩:Sto))).parts,((Ai (⟨(⟨([]:List (List Tag)),([]:List Pst)⟩:Idx),([]:List Prt),([]:List Smp)⟩:Sto))).mem⟩:Sto),(⟨((⟨[],[],[],1⟩:Dsk)).files,((⟨[],[],[],1⟩:Dsk)).list,((⟨[],[],[],1⟩:Dsk)).names,((⟨[],[],[],1⟩:Dsk)).next⟩:Dsk)⟩:Wld) [5,6,1,0,2,3,4] AF,Z.xt⟩
theorem Ef (w_:Wld){bx:Nat}{ab0:Option Addr}{nb0 cb0:Nat}(hrb0:RepS w (nin F [bx]) ab0 nb0 cb0 w_.store.idx.names){ab1:Option Addr}{nb1 cb1:Nat}(hrb1:RepS w (nin F [bx]) ab1 nb1 cb1 w_.store.idx.AY){ab2:Option Addr}{nb2 cb2:Nat}(hrb2:RepS w (nin F [bx]) ab2 nb2 cb2 w_.store.parts){ab3:Option Addr}{nb3 cb3:Nat}(hrb3:RepS w (nin F [bx]) ab3 nb3 cb3 w_.store.mem){ab4:Option Addr}{nb4 cb4:Nat}(hrb4:RepS w (nin F [bx]) ab4 nb4 cb4 w_.disk.files){ab5:Option Addr}{nb5 cb5:Nat}(hrb5:RepS w (nin F [bx]) ab5 nb5 cb5 w_.disk.list){ab6:Option Addr}{nb6 cb6:Nat}(hrb6:RepS w (nin F [bx]) ab6 nb6 cb6 w_.disk.names) (hbx:Box w bx 44 [.slice ab0 nb0 cb0,.slice ab1 nb1 cb1,.slice ab2 nb2 cb2,.slice ab3 nb3 cb3,.slice ab4 nb4 cb4,.slice ab5 nb5 cb5,.slice ab6 nb6 cb6,.int .i64 w_.disk.next]) (p0:DD w_.disk) (p1:BE w_.disk=true):Calls Tryz.prog 67 [.pointer (some ⟨bx,0,none⟩)].toArray w (Al fun rv w'=>(rv=.tuple #[]∧(∃ (ao0:Option Addr) (no0 co0:Nat) (ao1:Option Addr) (no1 co1:Nat) (ao2:Option Addr) (no2 co2:Nat) (ao3:Option Addr) (no3 co3:Nat) (ao4:Option Addr) (no4 co4:Nat) (ao5:Option Addr) (no5 co5:Nat) (ao6:Option Addr) (no6 co6:Nat),Box w' bx 44 [.slice ao0 no0 co0,.slice ao1 no1 co1,.slice ao2 no2 co2,.slice ao3 no3 co3,.slice ao4 no4 co4,.slice ao5 no5 co5,.slice ao6 no6 co6,.int .i64 ((((BC w_)).disk).next)]∧RepS w' (nin (fo F w.heap.size) [bx]) ao0 no0 co0 (((((BC w_)).store).idx).names)∧RepS w' (nin (fo F w.heap.size) [bx]) ao1 no1 co1 (((((BC w_)).store).idx).AY)∧RepS w' (nin (fo F w.heap.size) [bx]) ao2 no2 co2 ((((BC w_)).store).parts)∧RepS w' (nin (fo F w.heap.size) [bx]) ao3 no3 co3 ((((BC w_)).store).mem)∧RepS w' (nin (fo F w.heap.size) [bx]) ao4 no4 co4 ((((BC w_)).disk).files)∧RepS w' (nin (fo F w.heap.size) [bx]) ao5 no5 co5 ((((BC w_)).disk).list)∧RepS w' (nin (fo F w.heap.size) [bx]) ao6 no6 co6 ((((BC w_)).disk).names)))∧Chg (ins [bx]) w w'):=by
 cases hrb0.len
 cases hrb1.len
 cases hrb2.len
 cases hrb3.len
 cases hrb4.len
 cases hrb5.len
 cases hrb6.len
 refine goT func67 ?_
 have Z:=(((((((St.i2 F hbx).p1 hrb0).p1 hrb1).p1 hrb2).p1 hrb3).p1 hrb4).p1 hrb5).p1 hrb6
 refine .s<|.g<|.r 4<|RG.Ln 0 Z<|RG.CS (LU w_.disk (Z.a 2) (Z.a 1) (Z.a 0) p0) Z fun E aa ab ac ae af w Z=>.r 2<|RG.Ss 0 Z fun w Z=>.d<|.g<|.r 4<|RG.Ln 0 Z<|RG.CS (LM (Ca w_.disk) (Z.mg 1 0) (Z.mg 1 1) (Z.mg 1 2) (XJ p0)) Z fun ag ah ai aj ak al am ao w Z=>.r 2<|RG.Ss 0 Z fun w Z=>.d<|T.GR func67 results67 ?_
 rw [show (BC w_)=(⟨(⟨(⟨((Cy (Ca w_.disk)).idx).names,((Cy (Ca w_.disk)).idx).AY⟩:Idx),(Cy (Ca w_.disk)).parts,(Cy (Ca w_.disk)).mem⟩:Sto),(⟨(Ca w_.disk).files,(Ca w_.disk).list,(Ca w_.disk).names,(Ca w_.disk).next⟩:Dsk)⟩:Wld) from by exact Y4 p0 p1]
 exact ⟨⟨rfl,ag,(((Cy (Ca w_.disk)).idx).names).length,ah,ai,(((Cy (Ca w_.disk)).idx).AY).length,aj,ak,((Cy (Ca w_.disk)).parts).length,al,am,((Cy (Ca w_.disk)).mem).length,ao,E,(Ca w_.disk).files.length,aa,ab,(Ca w_.disk).list.length,ac,ae,(Ca w_.disk).names.length,af,Z.bc 0,Z.qr (g:=1) [0] 0 (((Cy (Ca w_.disk)).idx).names) rfl,Z.qr (g:=1) [0] 1 (((Cy (Ca w_.disk)).idx).AY) rfl,Z.qr (g:=1) [0] 2 ((Cy (Ca w_.disk)).parts) rfl,Z.qr (g:=1) [0] 3 ((Cy (Ca w_.disk)).mem) rfl,Z.qr (g:=1) [0] 4 ((Ca w_.disk).files) rfl,Z.qr (g:=1) [0] 5 ((Ca w_.disk).list) rfl,Z.qr (g:=1) [0] 6 ((Ca w_.disk).names) rfl⟩,Z.ch⟩
theorem D8 (w_:Wld) (e:Evt){bx:Nat}{ab0:Option Addr}{nb0 cb0:Nat}(hrb0:RepS w (nin F [bx]) ab0 nb0 cb0 w_.store.idx.names){ab1:Option Addr}{nb1 cb1:Nat}(hrb1:RepS w (nin F [bx]) ab1 nb1 cb1 w_.store.idx.AY){ab2:Option Addr}{nb2 cb2:Nat}(hrb2:RepS w (nin F [bx]) ab2 nb2 cb2 w_.store.parts){ab3:Option Addr}{nb3 cb3:Nat}(hrb3:RepS w (nin F [bx]) ab3 nb3 cb3 w_.store.mem){ab4:Option Addr}{nb4 cb4:Nat}(hrb4:RepS w (nin F [bx]) ab4 nb4 cb4 w_.disk.files){ab5:Option Addr}{nb5 cb5:Nat}(hrb5:RepS w (nin F [bx]) ab5 nb5 cb5 w_.disk.list){ab6:Option Addr}{nb6 cb6:Nat}(hrb6:RepS w (nin F [bx]) ab6 nb6 cb6 w_.disk.names) (hbx:Box w bx 44 [.slice ab0 nb0 cb0,.slice ab1 nb1 cb1,.slice ab2 nb2 cb2,.slice ab3 nb3 cb3,.slice ab4 nb4 cb4,.slice ab5 nb5 cb5,.slice ab6 nb6 cb6,.int .i64 w_.disk.next]) (h1:RepS w (nin F [bx]) a1 n1 c1 e.name) (p0:WV w_) (p1:NmD e.name):Calls Tryz.prog 33 [.pointer (some ⟨bx,0,none⟩),.agg #[.int .i64 e.kind,.int .i64 e.at_,.int .i64 e.cut,.slice a1 n1 c1,.int .i64 e.row.t,.int .i64 e.row.v]].toArray w (Al fun rv w'=>(rv=.tuple #[]∧(∃ (ao0:Option Addr) (no0 co0:Nat) (ao1:Option Addr) (no1 co1:Nat) (ao2:Option Addr) (no2 co2:Nat) (ao3:Option Addr) (no3 co3:Nat) (ao4:Option Addr) (no4 co4:Nat) (ao5:Option Addr) (no5 co5:Nat) (ao6:Option Addr) (no6 co6:Nat),Box w' bx 44 [.slice ao0 no0 co0,.slice ao1 no1 co1,.slice ao2 no2 co2,.slice ao3 no3 co3,.slice ao4 no4 co4,.slice ao5 no5 co5,.slice ao6 no6 co6,.int .i64 ((((doW w_ e)).disk).next)]∧RepS w' (nin (fo F w.heap.size) [bx]) ao0 no0 co0 (((((doW w_ e)).store).idx).names)∧RepS w' (nin (fo F w.heap.size) [bx]) ao1 no1 co1 (((((doW w_ e)).store).idx).AY)∧RepS w' (nin (fo F w.heap.size) [bx]) ao2 no2 co2 ((((doW w_ e)).store).parts)∧RepS w' (nin (fo F w.heap.size) [bx]) ao3 no3 co3 ((((doW w_ e)).store).mem)∧RepS w' (nin (fo F w.heap.size) [bx]) ao4 no4 co4 ((((doW w_ e)).disk).files)∧RepS w' (nin (fo F w.heap.size) [bx]) ao5 no5 co5 ((((doW w_ e)).disk).list)∧RepS w' (nin (fo F w.heap.size) [bx]) ao6 no6 co6 ((((doW w_ e)).disk).names)))∧Chg (ins [bx]) w w'):=by
 refine goT func33 ?_
 have hcv_bx:Cov (ins [bx]) w bx:=Cov.mkI AI
 obtain rfl:=hrb0.len
 replace hrb0:=hrb0.Jh (s:=w.heap.size)
 obtain rfl:=hrb1.len
 replace hrb1:=hrb1.Jh (s:=w.heap.size)
 obtain rfl:=hrb2.len
 replace hrb2:=hrb2.Jh (s:=w.heap.size)
 obtain rfl:=hrb3.len
 replace hrb3:=hrb3.Jh (s:=w.heap.size)
 obtain rfl:=hrb4.len
 replace hrb4:=hrb4.Jh (s:=w.heap.size)
 obtain rfl:=hrb5.len
 replace hrb5:=hrb5.Jh (s:=w.heap.size)
 obtain rfl:=hrb6.len
 replace hrb6:=hrb6.Jh (s:=w.heap.size)
 obtain rfl:=h1.len
 replace h1:=h1.Jh (s:=w.heap.size)
 refine .s<|.g<|.np 71 [vI e.kind,vI e.at_,vI e.cut,.slice a1 e.name.length c1,vI e.row.t,vI e.row.v] fun ae iK d8 d9 aa gK=>?_
 have j5:=Ad d8 hbx.lt
 replace ⟨hrb0,hrb1,hrb2,hrb3,hrb4,hrb5,hrb6,hbx,h1⟩:=(sn [bx] d9 d8).g9 hrb0 hrb1 hrb2 hrb3 hrb4 hrb5 hrb6 hbx h1
 have E:Chg (ins [bx]) w iK:=Chg.I9 (Chg.refl (ins [bx]) w) d9
 refine .d<|.s<|.g<|.ns 0 160 [] fun ac iL dI eK gL gM=>?_
 have eL:=Ad dI hbx.lt
 have ec:=Ad dI aa.lt
 replace ⟨hrb0,hrb1,hrb2,hrb3,hrb4,hrb5,hrb6,hbx,h1,aa,E⟩:=(sn [ae,bx] eK dI).g11 hrb0 hrb1 hrb2 hrb3 hrb4 hrb5 hrb6 hbx h1 aa E
 have ab:Own (α:=Stp) iL ac 160 (nin (fo F w.heap.size) [ac,ae,bx]) 0 0 []:=Own.BX gL
 refine .r 1<|.d<|.s<|.g<|.r 3<|.ln hbx<|.np 38 [AH,AH,AH,AH] fun af l7 bE eM gN gO=>?_
 have gP:=Ad bE hbx.lt
 have gQ:=Ad bE aa.lt
 have j6:=Ad bE ab.lt
 have j7:=E.cn bE
 replace ⟨hrb0,hrb1,hrb2,hrb3,hrb4,hrb5,hrb6,hbx,h1,aa,ab,E⟩:=(sn [ac,ae,bx] eM bE).g12 hrb0 hrb1 hrb2 hrb3 hrb4 hrb5 hrb6 hbx h1 aa ab E
 refine .sc [.slice ab0 w_.store.idx.names.length cb0,.slice ab1 w_.store.idx.AY.length cb1,.slice ab2 w_.store.parts.length cb2,.slice ab3 w_.store.mem.length cb3] gN fun bD eN ag gR=>?_
 replace ⟨hrb0,hrb1,hrb2,hrb3,hrb4,hrb5,hrb6,hbx,h1,aa,ab,E⟩:=(so [af,ac,ae,bx] eN).g12 hrb0 hrb1 hrb2 hrb3 hrb4 hrb5 hrb6 hbx h1 aa ab E
 refine .d<|.s<|.s<|.g<|.r 1<|.lb aa<|.d<|.b 0<|.s<|.g<|.eq e.kind 1 (fun gS=>?_) (fun gS=>?_)
 ·refine .r 1<|.d<|.ct<|.s ?_
  replace hrb0:=hrb0.C1
  replace hrb1:=hrb1.C1
  replace hrb2:=hrb2.C1
  replace hrb3:=hrb3.C1
  replace hrb4:=hrb4.C1
  replace hrb5:=hrb5.C1
  replace hrb6:=hrb6.C1
  replace h1:=h1.C1
  have gT:Gb (bx+1) bD.heap.size:=hbx.lt
  have eO:Gb (ae+1) bD.heap.size:=aa.lt
  refine .gd (mtb [ac] bD.heap.size) 14 fun iM dJ=>?_
  replace ⟨hrb0,hrb1,hrb2,hrb3,hrb4,hrb5,hrb6,hbx,h1,aa,ab,ag⟩:=(se [af,ac,ae,bx] dJ).g12 hrb0 hrb1 hrb2 hrb3 hrb4 hrb5 hrb6 hbx h1 aa ab ag
  replace E:=(se [af,ac,ae,bx] dJ).g1 E
  have ah:Chg (mtb [ac] bD.heap.size) bD iM:=Chg.I9 (Chg.refl (mtb [ac] bD.heap.size) bD) dJ
  refine .r [0,1,2]<|.ln 3 hbx (DH (all_cons (Nb.symm eL) all_nil) gT)<|.r [4]<|.lb 5 aa (DH (all_cons (Nb.symm ec) all_nil) eO)<|.r [6]<|.ln 7 aa (DH (all_cons (Nb.symm ec) all_nil) eO)<|.tw 8 12 ?_ ?_
  ·refine .cl (fun eS bi=>HG w_.store e.name e.row ((hrb0.base (fun _ _ h=>h.1)).ext bi) ((hrb1.base (fun _ _ h=>h.1)).ext bi) ((hrb2.base (fun _ _ h=>h.1)).ext bi) ((hrb3.base (fun _ _ h=>h.1)).ext bi) ((h1.base (fun _ _ h=>h.1)).ext bi) p0.sd p1 (w:=eS) (F:=nin (fo F w.heap.size) [af,ac,ae,bx])) ?_
   intro eS bi
   replace ⟨hrb0,hrb1,hrb2,hrb3,hrb4,hrb5,hrb6,hbx,h1,aa,ab,ag⟩:=(se [af,ac,ae,bx] bi).g12 hrb0 hrb1 hrb2 hrb3 hrb4 hrb5 hrb6 hbx h1 aa ab ag
   replace ⟨E,ah⟩:=(se [af,ac,ae,bx] bi).g2 E ah
   rintro l8 l9 ⟨⟨mh,rfl,⟨_,rfl,⟨cG,mj,cH,cI,ml,cJ,cK,mp,cL,cM,mq,cN,rfl,aF,aG,aH,aI⟩⟩⟩,dK⟩
   have bW:=al4 ag.lt ab.lt aa.lt hbx.lt
   have dL:Gb w.heap.size eS.heap.size:=E.size
   have hkeep_:=dK
   replace ⟨hrb0,hrb1,hrb2,hrb3,hrb4,hrb5,hrb6,hbx,h1,aa,ab,ag⟩:=(se [af,ac,ae,bx] dK).g12 hrb0 hrb1 hrb2 hrb3 hrb4 hrb5 hrb6 hbx h1 aa ab ag
   replace ⟨E,ah⟩:=(se [af,ac,ae,bx] dK).g2 E ah
   refine ⟨Ext.chg hkeep_,?_⟩
   replace aF:=RepS.Ck (M:=[af,ac,ae,bx]) aF bW dL
   have j8:=aF.max
   replace aG:=RepS.Ck (M:=[af,ac,ae,bx]) aG bW dL
   have j9:=aG.max
   replace aH:=RepS.Ck (M:=[af,ac,ae,bx]) aH bW dL
   have ka:=aH.max
   replace aI:=RepS.Ck (M:=[af,ac,ae,bx]) aI bW dL
   have iN:=aI.max
   have eT:=aF.len
   subst eT
   have eU:=aG.len
   subst eU
   have eV:=aH.len
   subst eV
   have eW:=aI.len
   subst eW
   refine .r [9,10] ?_
   cases iO:(Bb w_.store e.name e.row).2
   ·refine .r [11]<|.go 12<|.nw (fun b=>.pointer (some ⟨b,0,none⟩)) 38 [AH,AH,AH,AH] fun kb cO=>?_
    replace ⟨hrb0,hrb1,hrb2,hrb3,hrb4,hrb5,hrb6,hbx,h1,aa,ab,ag⟩:=(se [af,ac,ae,bx] cO).g12 hrb0 hrb1 hrb2 hrb3 hrb4 hrb5 hrb6 hbx h1 aa ab ag
    replace ⟨aF,aG,aH,aI,E,ah⟩:=(se [af,ac,ae,bx] cO).g6 aF aG aH aI E ah
    intro bF kd aP cP eX eY
    have iP:=Ad aP hbx.lt
    have iQ:=Ad aP aa.lt
    have iR:=Ad aP ab.lt
    have iS:=Ad aP ag.lt
    have iT:=E.cn aP
    have eZ:=ah.cn aP
    replace ⟨hrb0,hrb1,hrb2,hrb3,hrb4,hrb5,hrb6,hbx,h1,aa,ab,ag⟩:=(sn [af,ac,ae,bx] cP aP).g12 hrb0 hrb1 hrb2 hrb3 hrb4 hrb5 hrb6 hbx h1 aa ab ag
    replace ⟨aF,aG,aH,aI,E,ah⟩:=(sn [af,ac,ae,bx] cP aP).g6 aF aG aH aI E ah
    refine .go 13<|GE.FU (t':=38) (o:=0) (v:=.agg #[.slice cG ((Bb w_.store e.name e.row).1.idx.names.length) cH,.slice cI ((((Bb w_.store e.name e.row).1.idx).AY).length) cJ,.slice cK ((Bb w_.store e.name e.row).1.parts.length) cL,.slice cM ((Bb w_.store e.name e.row).1.mem.length) cN]) [.slice cG ((Bb w_.store e.name e.row).1.idx.names.length) cH,.slice cI ((((Bb w_.store e.name e.row).1.idx).AY).length) cJ,.slice cK ((Bb w_.store e.name e.row).1.parts.length) cL,.slice cM ((Bb w_.store e.name e.row).1.mem.length) cN] eX AA AA AA fun ke cQ=>?_
    replace ⟨hrb0,hrb1,hrb2,hrb3,hrb4,hrb5,hrb6,hbx,h1,aa,ab,ag⟩:=(se [bF,af,ac,ae,bx] cQ).g12 hrb0 hrb1 hrb2 hrb3 hrb4 hrb5 hrb6 hbx h1 aa ab ag
    replace ⟨aF,aG,aH,aI,E,ah⟩:=(se [bF,af,ac,ae,bx] cQ).g6 aF aG aH aI E ah
    intro kf bG iU e7
    have hkeep_:=Chg.toS bG (Cov.toS eZ)
    replace ⟨hrb0,hrb1,hrb2,hrb3,hrb4,hrb5,hrb6,hbx,h1,aa,ab,ag⟩:=(so [bF,af,ac,ae,bx] bG).g12 hrb0 hrb1 hrb2 hrb3 hrb4 hrb5 hrb6 hbx h1 aa ab ag
    replace ⟨aF,aG,aH,aI,E,ah⟩:=(so [bF,af,ac,ae,bx] bG).g6 aF aG aH aI E ah
    refine ⟨hkeep_,?_⟩
    refine .d fun kg cR=>?_
    replace ⟨hrb0,hrb1,hrb2,hrb3,hrb4,hrb5,hrb6,hbx,h1,aa,ab,ag⟩:=(se [bF,af,ac,ae,bx] cR).g12 hrb0 hrb1 hrb2 hrb3 hrb4 hrb5 hrb6 hbx h1 aa ab ag
    replace ⟨aF,aG,aH,aI,E,ah⟩:=(se [bF,af,ac,ae,bx] cR).g6 aF aG aH aI E ah
    replace hrb0:=hrb0.BS
    replace hrb1:=hrb1.BS
    replace hrb2:=hrb2.BS
    replace hrb3:=hrb3.BS
    replace hrb4:=hrb4.BS
    replace hrb5:=hrb5.BS
    replace hrb6:=hrb6.BS
    replace h1:=h1.BS
    refine .r 1<|.d<|.s<|.g<|.r 1<|.d<|.cf<|.sk<|.ib 0<|.s<|.s<|.g<|.r 8<|.d<|.ct<|T.Ls AA func33 results33 ?_
    rw [show (doW w_ e)=w_ from by exact X5 p0 (by with_reducible assumption) (by with_reducible assumption)]
    exact ⟨⟨rfl,ab0,w_.store.idx.names.length,cb0,ab1,w_.store.idx.AY.length,cb1,ab2,w_.store.parts.length,cb2,ab3,w_.store.mem.length,cb3,ab4,w_.disk.files.length,cb4,ab5,w_.disk.list.length,cb5,ab6,w_.disk.names.length,cb6,hbx,(RepS.As hrb0 (all_cons AM all_nil)),(RepS.As hrb1 (all_cons AM all_nil)),(RepS.As hrb2 (all_cons AM all_nil)),(RepS.As hrb3 (all_cons AM all_nil)),(RepS.As hrb4 (all_cons AM all_nil)),(RepS.As hrb5 (all_cons AM all_nil)),(RepS.As hrb6 (all_cons AM all_nil))⟩,E⟩
   refine .r [11]<|.go 12<|.nw (fun b=>.pointer (some ⟨b,0,none⟩)) 38 [AH,AH,AH,AH] fun kh cS=>?_
   replace ⟨hrb0,hrb1,hrb2,hrb3,hrb4,hrb5,hrb6,hbx,h1,aa,ab,ag⟩:=(se [af,ac,ae,bx] cS).g12 hrb0 hrb1 hrb2 hrb3 hrb4 hrb5 hrb6 hbx h1 aa ab ag
   replace ⟨aF,aG,aH,aI,E,ah⟩:=(se [af,ac,ae,bx] cS).g6 aF aG aH aI E ah
   intro bj ki aQ cT e8 fa
   have iV:=Ad aQ hbx.lt
   have iW:=Ad aQ aa.lt
   have iX:=Ad aQ ab.lt
   have iY:=Ad aQ ag.lt
   have iZ:=E.cn aQ
   have fb:=ah.cn aQ
   replace ⟨hrb0,hrb1,hrb2,hrb3,hrb4,hrb5,hrb6,hbx,h1,aa,ab,ag⟩:=(sn [af,ac,ae,bx] cT aQ).g12 hrb0 hrb1 hrb2 hrb3 hrb4 hrb5 hrb6 hbx h1 aa ab ag
   replace ⟨aF,aG,aH,aI,E,ah⟩:=(sn [af,ac,ae,bx] cT aQ).g6 aF aG aH aI E ah
   refine .go 13<|GE.FU (t':=38) (o:=0) (v:=.agg #[.slice cG ((Bb w_.store e.name e.row).1.idx.names.length) cH,.slice cI ((((Bb w_.store e.name e.row).1.idx).AY).length) cJ,.slice cK ((Bb w_.store e.name e.row).1.parts.length) cL,.slice cM ((Bb w_.store e.name e.row).1.mem.length) cN]) [.slice cG ((Bb w_.store e.name e.row).1.idx.names.length) cH,.slice cI ((((Bb w_.store e.name e.row).1.idx).AY).length) cJ,.slice cK ((Bb w_.store e.name e.row).1.parts.length) cL,.slice cM ((Bb w_.store e.name e.row).1.mem.length) cN] e8 AA AA AA fun kj cU=>?_
   replace ⟨hrb0,hrb1,hrb2,hrb3,hrb4,hrb5,hrb6,hbx,h1,aa,ab,ag⟩:=(se [bj,af,ac,ae,bx] cU).g12 hrb0 hrb1 hrb2 hrb3 hrb4 hrb5 hrb6 hbx h1 aa ab ag
   replace ⟨aF,aG,aH,aI,E,ah⟩:=(se [bj,af,ac,ae,bx] cU).g6 aF aG aH aI E ah
   intro kk bH cV fd
   have hkeep_:=Chg.toS bH (Cov.toS fb)
   replace ⟨hrb0,hrb1,hrb2,hrb3,hrb4,hrb5,hrb6,hbx,h1,aa,ab,ag⟩:=(so [bj,af,ac,ae,bx] bH).g12 hrb0 hrb1 hrb2 hrb3 hrb4 hrb5 hrb6 hbx h1 aa ab ag
   replace ⟨aF,aG,aH,aI,E,ah⟩:=(so [bj,af,ac,ae,bx] bH).g6 aF aG aH aI E ah
   refine ⟨hkeep_,?_⟩
   refine .d fun kl cW=>?_
   replace ⟨hrb0,hrb1,hrb2,hrb3,hrb4,hrb5,hrb6,hbx,h1,aa,ab,ag⟩:=(se [bj,af,ac,ae,bx] cW).g12 hrb0 hrb1 hrb2 hrb3 hrb4 hrb5 hrb6 hbx h1 aa ab ag
   replace ⟨aF,aG,aH,aI,cV,E,ah⟩:=(se [bj,af,ac,ae,bx] cW).g7 aF aG aH aI cV E ah
   replace hrb0:=hrb0.BS
   replace hrb1:=hrb1.BS
   replace hrb2:=hrb2.BS
   replace hrb3:=hrb3.BS
   replace hrb4:=hrb4.BS
   replace hrb5:=hrb5.BS
   replace hrb6:=hrb6.BS
   replace h1:=h1.BS
   refine .r 1<|.d<|.s<|.g<|.r 1<|.d<|.ct<|.g<|.r 1<|.ln cV<|.r 2<|.sb 0 (.agg #[.slice cG ((Bb w_.store e.name e.row).1.idx.names.length) cH,.slice cI ((((Bb w_.store e.name e.row).1.idx).AY).length) cJ,.slice cK ((Bb w_.store e.name e.row).1.parts.length) cL,.slice cM ((Bb w_.store e.name e.row).1.mem.length) cN]) [.slice cG ((Bb w_.store e.name e.row).1.idx.names.length) cH,.slice cI ((((Bb w_.store e.name e.row).1.idx).AY).length) cJ,.slice cK ((Bb w_.store e.name e.row).1.parts.length) cL,.slice cM ((Bb w_.store e.name e.row).1.mem.length) cN,.slice ab4 w_.disk.files.length cb4,.slice ab5 w_.disk.list.length cb5,.slice ab6 w_.disk.names.length cb6,vI w_.disk.next] hbx fun km cX fe ff=>?_
   replace ⟨hrb0,hrb1,hrb2,hrb3,hrb4,hrb5,hrb6,h1,aa,ab,ag,aF⟩:=(so [bj,af,ac,ae,bx] cX).g12 hrb0 hrb1 hrb2 hrb3 hrb4 hrb5 hrb6 h1 aa ab ag aF
   replace ⟨aG,aH,aI,E⟩:=(so [bj,af,ac,ae,bx] cX).g4 aG aH aI E
   refine .d<|.ib 0<|.s<|.s<|.g<|.r 8<|.d<|.ct<|T.Ls AA func33 results33 ?_
   rw [show (doW w_ e)=(⟨(⟨(⟨(Bb w_.store e.name e.row).1.idx.names,((Bb w_.store e.name e.row).1.idx).AY⟩:Idx),(Bb w_.store e.name e.row).1.parts,(Bb w_.store e.name e.row).1.mem⟩:Sto),(⟨w_.disk.files,w_.disk.list,w_.disk.names,w_.disk.next⟩:Dsk)⟩:Wld) from by exact do_1 p0 (by with_reducible assumption) (by with_reducible assumption)]
   exact ⟨⟨rfl,cG,(Bb w_.store e.name e.row).1.idx.names.length,cH,cI,(((Bb w_.store e.name e.row).1.idx).AY).length,cJ,cK,(Bb w_.store e.name e.row).1.parts.length,cL,cM,(Bb w_.store e.name e.row).1.mem.length,cN,ab4,w_.disk.files.length,cb4,ab5,w_.disk.list.length,cb5,ab6,w_.disk.names.length,cb6,fe,(RepS.As aF (all_cons AM all_nil)),(RepS.As aG (all_cons AM all_nil)),(RepS.As aH (all_cons AM all_nil)),(RepS.As aI (all_cons AM all_nil)),(RepS.As hrb4 (all_cons AM all_nil)),(RepS.As hrb5 (all_cons AM all_nil)),(RepS.As hrb6 (all_cons AM all_nil))⟩,E⟩
  refine .nw (fun b=>.pointer (some ⟨b,0,none⟩)) 38 [AH,AH,AH,AH] fun ko cY=>?_
  replace ⟨hrb0,hrb1,hrb2,hrb3,hrb4,hrb5,hrb6,hbx,h1,aa,ab,ag⟩:=(se [af,ac,ae,bx] cY).g12 hrb0 hrb1 hrb2 hrb3 hrb4 hrb5 hrb6 hbx h1 aa ab ag
  replace ⟨E,ah⟩:=(se [af,ac,ae,bx] cY).g2 E ah
  intro ao kr aR cZ aS fg
  have ja:=Ad aR hbx.lt
  have jb:=Ad aR aa.lt
  have jc:=Ad aR ab.lt
  have jd:=Ad aR ag.lt
  have je:=E.cn aR
  have ee:=ah.cn aR
  replace ⟨hrb0,hrb1,hrb2,hrb3,hrb4,hrb5,hrb6,hbx,h1,aa,ab,ag⟩:=(sn [af,ac,ae,bx] cZ aR).g12 hrb0 hrb1 hrb2 hrb3 hrb4 hrb5 hrb6 hbx h1 aa ab ag
  replace E:=(sn [af,ac,ae,bx] cZ aR).g1 E
  refine .go 8<|.cl (fun eg aU=>HG w_.store e.name e.row ((hrb0.base (fun _ _ h=>h.1)).ext aU) ((hrb1.base (fun _ _ h=>h.1)).ext aU) ((hrb2.base (fun _ _ h=>h.1)).ext aU) ((hrb3.base (fun _ _ h=>h.1)).ext aU) ((h1.base (fun _ _ h=>h.1)).ext aU) p0.sd p1 (w:=eg) (F:=nin (fo F w.heap.size) [ao,af,ac,ae,bx])) ?_
  intro eg aU
  replace ⟨hrb0,hrb1,hrb2,hrb3,hrb4,hrb5,hrb6,hbx,aa,ab,ag,aS⟩:=(se [ao,af,ac,ae,bx] aU).g12 hrb0 hrb1 hrb2 hrb3 hrb4 hrb5 hrb6 hbx aa ab ag aS
  replace E:=(se [ao,af,ac,ae,bx] aU).g1 E
  rintro ku kv ⟨⟨kw,rfl,⟨_,rfl,⟨bo,kx,bq,br,ky,bt,bu,kz,bv,bw,kA,bz,rfl,aB,aC,aD,aE⟩⟩⟩,bI⟩
  have bA:=al5 aS.lt ag.lt ab.lt aa.lt hbx.lt
  have bJ:Gb w.heap.size eg.heap.size:=E.size
  have hkeep_:=bI
  replace ⟨hrb0,hrb1,hrb2,hrb3,hrb4,hrb5,hrb6,hbx,aa,ab,ag,aS⟩:=(se [ao,af,ac,ae,bx] bI).g12 hrb0 hrb1 hrb2 hrb3 hrb4 hrb5 hrb6 hbx aa ab ag aS
  replace E:=(se [ao,af,ac,ae,bx] bI).g1 E
  refine ⟨Ext.chg hkeep_,?_⟩
  replace aB:=RepS.Ck (M:=[ao,af,ac,ae,bx]) aB bA bJ
  have jf:=aB.max
  replace aC:=RepS.Ck (M:=[ao,af,ac,ae,bx]) aC bA bJ
  have jg:=aC.max
  replace aD:=RepS.Ck (M:=[ao,af,ac,ae,bx]) aD bA bJ
  have jh:=aD.max
  replace aE:=RepS.Ck (M:=[ao,af,ac,ae,bx]) aE bA bJ
  have ji:=aE.max
  have fi:=aB.len
  subst fi
  have fj:=aC.len
  subst fj
  have fm:=aD.len
  subst fm
  have fp:=aE.len
  subst fp
  refine .r [9,10] ?_
  cases jj:(Bb w_.store e.name e.row).2
  ·refine .r [11]<|.go 13<|GE.FU (t':=38) (o:=0) (v:=.agg #[.slice bo ((Bb w_.store e.name e.row).1.idx.names.length) bq,.slice br ((((Bb w_.store e.name e.row).1.idx).AY).length) bt,.slice bu ((Bb w_.store e.name e.row).1.parts.length) bv,.slice bw ((Bb w_.store e.name e.row).1.mem.length) bz]) [.slice bo ((Bb w_.store e.name e.row).1.idx.names.length) bq,.slice br ((((Bb w_.store e.name e.row).1.idx).AY).length) bt,.slice bu ((Bb w_.store e.name e.row).1.parts.length) bv,.slice bw ((Bb w_.store e.name e.row).1.mem.length) bz] aS AA AA AA fun kB c7=>?_
   replace ⟨hrb0,hrb1,hrb2,hrb3,hrb4,hrb5,hrb6,hbx,aa,ab,ag,aS⟩:=(se [ao,af,ac,ae,bx] c7).g12 hrb0 hrb1 hrb2 hrb3 hrb4 hrb5 hrb6 hbx aa ab ag aS
   replace ⟨aB,aC,aD,aE,E⟩:=(se [ao,af,ac,ae,bx] c7).g5 aB aC aD aE E
   intro kC bK jk fq
   have hkeep_:=Chg.toS bK (Cov.toS ee)
   replace ⟨hrb0,hrb1,hrb2,hrb3,hrb4,hrb5,hrb6,hbx,aa,ab,ag,aB⟩:=(so [ao,af,ac,ae,bx] bK).g12 hrb0 hrb1 hrb2 hrb3 hrb4 hrb5 hrb6 hbx aa ab ag aB
   replace ⟨aC,aD,aE,E⟩:=(so [ao,af,ac,ae,bx] bK).g4 aC aD aE E
   refine ⟨hkeep_,?_⟩
   refine .d fun kD c8=>?_
   replace ⟨hrb0,hrb1,hrb2,hrb3,hrb4,hrb5,hrb6,hbx,aa,ab,ag,aB⟩:=(se [ao,af,ac,ae,bx] c8).g12 hrb0 hrb1 hrb2 hrb3 hrb4 hrb5 hrb6 hbx aa ab ag aB
   replace ⟨aC,aD,aE,E⟩:=(se [ao,af,ac,ae,bx] c8).g4 aC aD aE E
   replace hrb0:=hrb0.BS
   replace hrb1:=hrb1.BS
   replace hrb2:=hrb2.BS
   replace hrb3:=hrb3.BS
   replace hrb4:=hrb4.BS
   replace hrb5:=hrb5.BS
   replace hrb6:=hrb6.BS
   refine .r 1<|.d<|.s<|.g<|.r 1<|.d<|.cf<|.sk<|.ib 0<|.s<|.s<|.g<|.r 8<|.d<|.ct<|T.Ls AA func33 results33 ?_
   rw [show (doW w_ e)=w_ from by exact X5 p0 (by with_reducible assumption) (by with_reducible assumption)]
   exact ⟨⟨rfl,ab0,w_.store.idx.names.length,cb0,ab1,w_.store.idx.AY.length,cb1,ab2,w_.store.parts.length,cb2,ab3,w_.store.mem.length,cb3,ab4,w_.disk.files.length,cb4,ab5,w_.disk.list.length,cb5,ab6,w_.disk.names.length,cb6,hbx,(RepS.As hrb0 (all_cons AM all_nil)),(RepS.As hrb1 (all_cons AM all_nil)),(RepS.As hrb2 (all_cons AM all_nil)),(RepS.As hrb3 (all_cons AM all_nil)),(RepS.As hrb4 (all_cons AM all_nil)),(RepS.As hrb5 (all_cons AM all_nil)),(RepS.As hrb6 (all_cons AM all_nil))⟩,E⟩
  refine .r [11]<|.go 13<|GE.FU (t':=38) (o:=0) (v:=.agg #[.slice bo ((Bb w_.store e.name e.row).1.idx.names.length) bq,.slice br ((((Bb w_.store e.name e.row).1.idx).AY).length) bt,.slice bu ((Bb w_.store e.name e.row).1.parts.length) bv,.slice bw ((Bb w_.store e.name e.row).1.mem.length) bz]) [.slice bo ((Bb w_.store e.name e.row).1.idx.names.length) bq,.slice br ((((Bb w_.store e.name e.row).1.idx).AY).length) bt,.slice bu ((Bb w_.store e.name e.row).1.parts.length) bv,.slice bw ((Bb w_.store e.name e.row).1.mem.length) bz] aS AA AA AA fun kE da=>?_
  replace ⟨hrb0,hrb1,hrb2,hrb3,hrb4,hrb5,hrb6,hbx,aa,ab,ag,aB⟩:=(se [ao,af,ac,ae,bx] da).g12 hrb0 hrb1 hrb2 hrb3 hrb4 hrb5 hrb6 hbx aa ab ag aB
  replace ⟨aC,aD,aE,E⟩:=(se [ao,af,ac,ae,bx] da).g4 aC aD aE E
  intro kF bL db fu
  have hkeep_:=Chg.toS bL (Cov.toS ee)
  replace ⟨hrb0,hrb1,hrb2,hrb3,hrb4,hrb5,hrb6,hbx,aa,ab,ag,aB⟩:=(so [ao,af,ac,ae,bx] bL).g12 hrb0 hrb1 hrb2 hrb3 hrb4 hrb5 hrb6 hbx aa ab ag aB
  replace ⟨aC,aD,aE,E⟩:=(so [ao,af,ac,ae,bx] bL).g4 aC aD aE E
  refine ⟨hkeep_,?_⟩
  refine .d fun kG de=>?_
  replace ⟨hrb0,hrb1,hrb2,hrb3,hrb4,hrb5,hrb6,hbx,aa,ab,ag,db⟩:=(se [ao,af,ac,ae,bx] de).g12 hrb0 hrb1 hrb2 hrb3 hrb4 hrb5 hrb6 hbx aa ab ag db
  replace ⟨aB,aC,aD,aE,E⟩:=(se [ao,af,ac,ae,bx] de).g5 aB aC aD aE E
  replace hrb0:=hrb0.BS
  replace hrb1:=hrb1.BS
  replace hrb2:=hrb2.BS
  replace hrb3:=hrb3.BS
  replace hrb4:=hrb4.BS
  replace hrb5:=hrb5.BS
  replace hrb6:=hrb6.BS
  refine .r 1<|.d<|.s<|.g<|.r 1<|.d<|.ct<|.g<|.r 1<|.ln db<|.r 2<|.sb 0 (.agg #[.slice bo ((Bb w_.store e.name e.row).1.idx.names.length) bq,.slice br ((((Bb w_.store e.name e.row).1.idx).AY).length) bt,.slice bu ((Bb w_.store e.name e.row).1.parts.length) bv,.slice bw ((Bb w_.store e.name e.row).1.mem.length) bz]) [.slice bo ((Bb w_.store e.name e.row).1.idx.names.length) bq,.slice br ((((Bb w_.store e.name e.row).1.idx).AY).length) bt,.slice bu ((Bb w_.store e.name e.row).1.parts.length) bv,.slice bw ((Bb w_.store e.name e.row).1.mem.length) bz,.slice ab4 w_.disk.files.length cb4,.slice ab5 w_.disk.list.length cb5,.slice ab6 w_.disk.names.length cb6,vI w_.disk.next] hbx fun kH df fv fw=>?_
  replace ⟨hrb0,hrb1,hrb2,hrb3,hrb4,hrb5,hrb6,aa,ab,ag,aB,aC⟩:=(so [ao,af,ac,ae,bx] df).g12 hrb0 hrb1 hrb2 hrb3 hrb4 hrb5 hrb6 aa ab ag aB aC
  replace ⟨aD,aE,E⟩:=(so [ao,af,ac,ae,bx] df).g3 aD aE E
  refine .d<|.ib 0<|.s<|.s<|.g<|.r 8<|.d<|.ct<|T.Ls AA func33 results33 ?_
  rw [show (doW w_ e)=(⟨(⟨(⟨(Bb w_.store e.name e.row).1.idx.names,((Bb w_.store e.name e.row).1.idx).AY⟩:Idx),(Bb w_.store e.name e.row).1.parts,(Bb w_.store e.name e.row).1.mem⟩:Sto),(⟨w_.disk.files,w_.disk.list,w_.disk.names,w_.disk.next⟩:Dsk)⟩:Wld) from by exact do_1 p0 (by with_reducible assumption) (by with_reducible assumption)]
  exact ⟨⟨rfl,bo,(Bb w_.store e.name e.row).1.idx.names.length,bq,br,(((Bb w_.store e.name e.row).1.idx).AY).length,bt,bu,(Bb w_.store e.name e.row).1.parts.length,bv,bw,(Bb w_.store e.name e.row).1.mem.length,bz,ab4,w_.disk.files.length,cb4,ab5,w_.disk.list.length,cb5,ab6,w_.disk.names.length,cb6,fv,(RepS.As aB (all_cons AM all_nil)),(RepS.As aC (all_cons AM all_nil)),(RepS.As aD (all_cons AM all_nil)),(RepS.As aE (all_cons AM all_nil)),(RepS.As hrb4 (all_cons AM all_nil)),(RepS.As hrb5 (all_cons AM all_nil)),(RepS.As hrb6 (all_cons AM all_nil))⟩,E⟩
 refine .r 1<|.d<|.cf<|.s<|.g<|.eq e.kind 2 (fun fA=>?_) (fun fA=>?_)
 ·refine .r 1<|.d<|.ct<|.s<|.gd nil 8 fun kI eh=>?_
  replace ⟨hrb0,hrb1,hrb2,hrb3,hrb4,hrb5,hrb6,hbx,aa,ab,ag,E⟩:=(se [af,ac,ae,bx] eh).g12 hrb0 hrb1 hrb2 hrb3 hrb4 hrb5 hrb6 hbx aa ab ag E
  refine .r [0,1,2]<|.ln 3 hbx id<|.r [4,5,6]<|.ln 7 hbx id<|.d fun eP ej=>?_
  replace ⟨hrb0,hrb1,hrb2,hrb3,hrb4,hrb5,hrb6,hbx,aa,ab,ag,E⟩:=(se [af,ac,ae,bx] ej).g12 hrb0 hrb1 hrb2 hrb3 hrb4 hrb5 hrb6 hbx aa ab ag E
  refine .cl (Jg w_.disk w_.store hrb4.ta hrb5.ta hrb6.ta hrb0.ta hrb1.ta hrb2.ta hrb3.ta p0.dd (SG.of p0.sd) (w:=eP) (F:=all)) ?_
  rintro kJ eQ ⟨⟨kK,kL,rfl,aT⟩,ek⟩
  have en:=al4 ag.lt ab.lt aa.lt hbx.lt
  have fB:Gb w.heap.size eP.heap.size:=E.size
  replace ⟨hrb0,hrb1,hrb2,hrb3,hrb4,hrb5,hrb6,hbx,aa,ab,ag,E⟩:=(se [af,ac,ae,bx] ek).g12 hrb0 hrb1 hrb2 hrb3 hrb4 hrb5 hrb6 hbx aa ab ag E
  have aT:=aT.fr en fB
  replace aT:=aT.base (G':=fo F w.heap.size) (fun _ _ h=>.inr h)
  refine .r 1<|.d<|.g<|.r 3<|.ln hbx<|.cl (JY w_.store hrb0 hrb1 hrb2 hrb3 p0.sd (w:=eQ) (F:=nin (fo F w.heap.size) [af,ac,ae,bx])) ?_
  rintro kM kN ⟨⟨kO,rfl,⟨_,rfl,⟨dM,kP,dN,dO,kQ,dP,dQ,kR,dR,dS,kS,dT,rfl,ar,ax,ay,az⟩⟩⟩,dh⟩
  have bB:=al4 ag.lt ab.lt aa.lt hbx.lt
  have bM:Gb w.heap.size eQ.heap.size:=E.size
  replace ⟨hrb0,hrb1,hrb2,hrb3,hrb4,hrb5,hrb6,hbx,aa,ab,ag,aT⟩:=(se [af,ac,ae,bx] dh).g12 hrb0 hrb1 hrb2 hrb3 hrb4 hrb5 hrb6 hbx aa ab ag aT
  replace E:=(se [af,ac,ae,bx] dh).g1 E
  replace ar:=RepS.Ck (M:=[af,ac,ae,bx]) ar bB bM
  have jm:=ar.max
  replace ax:=RepS.Ck (M:=[af,ac,ae,bx]) ax bB bM
  have jn:=ax.max
  replace ay:=RepS.Ck (M:=[af,ac,ae,bx]) ay bB bM
  have jo:=ay.max
  replace az:=RepS.Ck (M:=[af,ac,ae,bx]) az bB bM
  have jp:=az.max
  have fC:=ar.len
  subst fC
  have fD:=ax.len
  subst fD
  have fE:=ay.len
  subst fE
  have fF:=az.len
  subst fF
  refine .r 3<|.sc [.slice dM ((Bs w_.store).1.idx.names.length) dN,.slice dO ((((Bs w_.store).1.idx).AY).length) dP,.slice dQ ((Bs w_.store).1.parts.length) dR,.slice dS ((Bs w_.store).1.mem.length) dT] ag fun kT dj aA fG=>?_
  replace ⟨hrb0,hrb1,hrb2,hrb3,hrb4,hrb5,hrb6,hbx,aa,ab,aT,ar⟩:=(so [af,ac,ae,bx] dj).g12 hrb0 hrb1 hrb2 hrb3 hrb4 hrb5 hrb6 hbx aa ab aT ar
  replace ⟨ax,ay,az,E⟩:=(so [af,ac,ae,bx] dj).g4 ax ay az E
  refine .d<|.ib 0<|.s<|.s<|.g<|.r 2<|.eq (((Ag w_.disk w_.store).length):Int) 0 (fun fH=>?_) (fun fH=>?_)
  ·refine .r 5<|.d<|.ct<|T.Ls AA func33 results33 ?_
   rw [show (doW w_ e)=w_ from by exact X6 p0 (by with_reducible assumption) (.inl (by with_reducible assumption))]
   exact ⟨⟨rfl,ab0,w_.store.idx.names.length,cb0,ab1,w_.store.idx.AY.length,cb1,ab2,w_.store.parts.length,cb2,ab3,w_.store.mem.length,cb3,ab4,w_.disk.files.length,cb4,ab5,w_.disk.list.length,cb5,ab6,w_.disk.names.length,cb6,hbx,(RepS.As hrb0 (all_cons AL all_nil)),(RepS.As hrb1 (all_cons AL all_nil)),(RepS.As hrb2 (all_cons AL all_nil)),(RepS.As hrb3 (all_cons AL all_nil)),(RepS.As hrb4 (all_cons AL all_nil)),(RepS.As hrb5 (all_cons AL all_nil)),(RepS.As hrb6 (all_cons AL all_nil))⟩,E⟩
  refine .r 2<|.lb aa<|.bp (e.cut< 0) (fun fI=>?_) (fun fI=>?_)
  ·refine .r 1<|.d<|.ct<|T.Ls AA func33 results33 ?_
   rw [show (doW w_ e)=w_ from by exact X6 p0 (by with_reducible assumption) (.inr (by with_reducible assumption))]
   exact ⟨⟨rfl,ab0,w_.store.idx.names.length,cb0,ab1,w_.store.idx.AY.length,cb1,ab2,w_.store.parts.length,cb2,ab3,w_.store.mem.length,cb3,ab4,w_.disk.files.length,cb4,ab5,w_.disk.list.length,cb5,ab6,w_.disk.names.length,cb6,hbx,(RepS.As hrb0 (all_cons AL all_nil)),(RepS.As hrb1 (all_cons AL all_nil)),(RepS.As hrb2 (all_cons AL all_nil)),(RepS.As hrb3 (all_cons AL all_nil)),(RepS.As hrb4 (all_cons AL all_nil)),(RepS.As hrb5 (all_cons AL all_nil)),(RepS.As hrb6 (all_cons AL all_nil))⟩,E⟩
  refine .r 1<|.d<|.cf<|.sk<|.s<|.gd nil 9 fun kU dm=>?_
  replace ⟨hrb0,hrb1,hrb2,hrb3,hrb4,hrb5,hrb6,hbx,aa,ab,aA,aT⟩:=(se [af,ac,ae,bx] dm).g12 hrb0 hrb1 hrb2 hrb3 hrb4 hrb5 hrb6 hbx aa ab aA aT
  replace ⟨ar,ax,ay,az,E⟩:=(se [af,ac,ae,bx] dm).g5 ar ax ay az E
  refine .r [0,1,2,3]<|.ln 4 hbx id<|.r [5,6]<|.lb 7 aa id<|.go 8<|.cl (fun eA aY=>IZ w_.disk (Ag w_.disk w_.store) e.cut (hrb4.ext aY) (hrb5.ext aY) (hrb6.ext aY) (aT.ext aY) p0.dd (fun _=>by exact (Kc p0.dd p0.sd).1) (w:=eA) (F:=nin (fo F w.heap.size) [af,ac,ae,bx])) ?_
  intro eA aY
  replace ⟨hrb0,hrb1,hrb2,hrb3,hrb4,hrb5,hrb6,hbx,aa,ab,aA,ar⟩:=(se [af,ac,ae,bx] aY).g12 hrb0 hrb1 hrb2 hrb3 hrb4 hrb5 hrb6 hbx aa ab aA ar
  replace ⟨ax,ay,az,E⟩:=(se [af,ac,ae,bx] aY).g4 ax ay az E
  rintro kV kW ⟨⟨_,rfl,⟨dU,kX,dV,dW,kY,dX,dY,kZ,dZ,rfl,aJ,aK,aL⟩⟩,bN⟩
  have bO:=al4 aA.lt ab.lt aa.lt hbx.lt
  have dp:Gb w.heap.size eA.heap.size:=E.size
  have hkeep_:=bN
  replace ⟨hrb0,hrb1,hrb2,hrb3,hrb4,hrb5,hrb6,hbx,aa,ab,aA,ar⟩:=(se [af,ac,ae,bx] bN).g12 hrb0 hrb1 hrb2 hrb3 hrb4 hrb5 hrb6 hbx aa ab aA ar
  replace ⟨ax,ay,az,E⟩:=(se [af,ac,ae,bx] bN).g4 ax ay az E
  refine ⟨Ext.chg hkeep_,?_⟩
  replace aJ:=RepS.Ck (M:=[af,ac,ae,bx]) aJ bO dp
  have jq:=aJ.max
  replace aK:=RepS.Ck (M:=[af,ac,ae,bx]) aK bO dp
  have jr:=aK.max
  replace aL:=RepS.Ck (M:=[af,ac,ae,bx]) aL bO dp
  have jt:=aL.max
  have fJ:=aJ.len
  subst fJ
  have fK:=aK.len
  subst fK
  have fL:=aL.len
  subst fL
  refine .d fun k5 dq=>?_
  replace ⟨hrb0,hrb1,hrb2,hrb3,hrb4,hrb5,hrb6,hbx,aa,ab,aA,ar⟩:=(se [af,ac,ae,bx] dq).g12 hrb0 hrb1 hrb2 hrb3 hrb4 hrb5 hrb6 hbx aa ab aA ar
  replace ⟨ax,ay,az,aJ,aK,aL,E⟩:=(se [af,ac,ae,bx] dq).g7 ax ay az aJ aK aL E
  refine .r 2<|.sb 4 (.agg #[.slice dU (((Ao w_.disk (Ag w_.disk w_.store) e.cut).files).length) dV,.slice dW (((Ao w_.disk (Ag w_.disk w_.store) e.cut).list).length) dX,.slice dY (((Ao w_.disk (Ag w_.disk w_.store) e.cut).names).length) dZ,vI ((Ao w_.disk (Ag w_.disk w_.store) e.cut).next)]) [.slice ab0 w_.store.idx.names.length cb0,.slice ab1 w_.store.idx.AY.length cb1,.slice ab2 w_.store.parts.length cb2,.slice ab3 w_.store.mem.length cb3,.slice dU (((Ao w_.disk (Ag w_.disk w_.store) e.cut).files).length) dV,.slice dW (((Ao w_.disk (Ag w_.disk w_.store) e.cut).list).length) dX,.slice dY (((Ao w_.disk (Ag w_.disk w_.store) e.cut).names).length) dZ,vI ((Ao w_.disk (Ag w_.disk w_.store) e.cut).next)] hbx fun eB dt du fM=>?_
  replace ⟨hrb0,hrb1,hrb2,hrb3,hrb4,hrb5,hrb6,aa,ab,aA,ar,ax⟩:=(so [af,ac,ae,bx] dt).g12 hrb0 hrb1 hrb2 hrb3 hrb4 hrb5 hrb6 aa ab aA ar ax
  replace ⟨ay,az,aJ,aK,aL,E⟩:=(so [af,ac,ae,bx] dt).g6 ay az aJ aK aL E
  refine .d<|.s<|.g<|.r 1<|.lb aa<|.r 2<|.bp (e.cut< (((Ag w_.disk w_.store).length):Int)) (fun fN=>?_) (fun fN=>?_)
  ·refine .d<|.ct<|.g<|.r 1<|.cl (Ef (⟨(⟨(⟨w_.store.idx.names,w_.store.idx.AY⟩:Idx),w_.store.parts,w_.store.mem⟩:Sto),(⟨(Ao w_.disk (Ag w_.disk w_.store) e.cut).files,(Ao w_.disk (Ag w_.disk w_.store) e.cut).list,(Ao w_.disk (Ag w_.disk w_.store) e.cut).names,(Ao w_.disk (Ag w_.disk w_.store) e.cut).next⟩:Dsk)⟩:Wld) (RepS.toM hrb0 (all_cons AL all_nil)) (RepS.toM hrb1 (all_cons AL all_nil)) (RepS.toM hrb2 (all_cons AL all_nil)) (RepS.toM hrb3 (all_cons AL all_nil)) (RepS.toM aJ (all_cons AL all_nil)) (RepS.toM aK (all_cons AL all_nil)) (RepS.toM aL (all_cons AL all_nil)) du (by exact (Ol (e:=e) p0 (by with_reducible assumption) (by with_reducible assumption)).2.1) (by exact (Ol (e:=e) p0 (by with_reducible assumption) (by with_reducible assumption)).2.2) (w:=eB) (F:=nin (fo F w.heap.size) [af,ac,ae,bx])) ?_
   rintro k6 bk ⟨⟨rfl,gU,k7,gV,gW,k8,gX,gY,lc,gZ,g0,ld,hC,hE,lf,hH,hN,li,hO,hQ,lj,hV,fO,bX,bY,bZ,b0,b6,b7,b8⟩,bP⟩
   have aV:=al4 aA.lt ab.lt aa.lt du.lt
   have aZ:Gb w.heap.size eB.heap.size:=E.size
   have dv:Mv [af,ac,ae,bx] [af,ac,ae,bx] eB bk:=Mv.inl bP (all_cons AL all_nil) (all_cons (.inl AI) (all_cons (.inl AJ) (all_cons (.inl AK) (all_cons (.inl AL) all_nil))))
   replace ⟨hrb0,hrb1,hrb2,hrb3,hrb4,hrb5,hrb6,aa,ab,aA,ar,ax⟩:=(sp dv bP).g12 hrb0 hrb1 hrb2 hrb3 hrb4 hrb5 hrb6 aa ab aA ar ax
   replace ⟨ay,az,aJ,aK,aL,E⟩:=(sp dv bP).g6 ay az aJ aK aL E
   replace bX:RepS bk (nin (fo F w.heap.size) [af,ac,ae,bx]) _ _ _ _:=RepS.bxM (M2:=[af,ac,ae,bx]) bX aV (fun _ h=>.inr (Nat.le_trans aZ h)) (all_cons (.inr AI) (all_cons (.inr AJ) (all_cons (.inr AK) (all_cons (.inl AI) all_nil))))
   replace bY:RepS bk (nin (fo F w.heap.size) [af,ac,ae,bx]) _ _ _ _:=RepS.bxM (M2:=[af,ac,ae,bx]) bY aV (fun _ h=>.inr (Nat.le_trans aZ h)) (all_cons (.inr AI) (all_cons (.inr AJ) (all_cons (.inr AK) (all_cons (.inl AI) all_nil))))
   replace bZ:RepS bk (nin (fo F w.heap.size) [af,ac,ae,bx]) _ _ _ _:=RepS.bxM (M2:=[af,ac,ae,bx]) bZ aV (fun _ h=>.inr (Nat.le_trans aZ h)) (all_cons (.inr AI) (all_cons (.inr AJ) (all_cons (.inr AK) (all_cons (.inl AI) all_nil))))
   replace b0:RepS bk (nin (fo F w.heap.size) [af,ac,ae,bx]) _ _ _ _:=RepS.bxM (M2:=[af,ac,ae,bx]) b0 aV (fun _ h=>.inr (Nat.le_trans aZ h)) (all_cons (.inr AI) (all_cons (.inr AJ) (all_cons (.inr AK) (all_cons (.inl AI) all_nil))))
   replace b6:RepS bk (nin (fo F w.heap.size) [af,ac,ae,bx]) _ _ _ _:=RepS.bxM (M2:=[af,ac,ae,bx]) b6 aV (fun _ h=>.inr (Nat.le_trans aZ h)) (all_cons (.inr AI) (all_cons (.inr AJ) (all_cons (.inr AK) (all_cons (.inl AI) all_nil))))
   replace b7:RepS bk (nin (fo F w.heap.size) [af,ac,ae,bx]) _ _ _ _:=RepS.bxM (M2:=[af,ac,ae,bx]) b7 aV (fun _ h=>.inr (Nat.le_trans aZ h)) (all_cons (.inr AI) (all_cons (.inr AJ) (all_cons (.inr AK) (all_cons (.inl AI) all_nil))))
   replace b8:RepS bk (nin (fo F w.heap.size) [af,ac,ae,bx]) _ _ _ _:=RepS.bxM (M2:=[af,ac,ae,bx]) b8 aV (fun _ h=>.inr (Nat.le_trans aZ h)) (all_cons (.inr AI) (all_cons (.inr AJ) (all_cons (.inr AK) (all_cons (.inl AI) all_nil))))
   have fP:=bX.len
   subst fP
   have fQ:=bY.len
   subst fQ
   have fR:=bZ.len
   subst fR
   have fS:=b0.len
   subst fS
   have fT:=b6.len
   subst fT
   have fU:=b7.len
   subst fU
   have fV:=b8.len
   subst fV
   refine .d<|T.GR func33 results33 ?_
   rw [show (doW w_ e)=(⟨(⟨(⟨((((BC (⟨(⟨(⟨w_.store.idx.names,w_.store.idx.AY⟩:Idx),w_.store.parts,w_.store.mem⟩:Sto),(⟨(Ao w_.disk (Ag w_.disk w_.store) e.cut).files,(Ao w_.disk (Ag w_.disk w_.store) e.cut).list,(Ao w_.disk (Ag w_.disk w_.store) e.cut).names,(Ao w_.disk (Ag w_.disk w_.store) e.cut).next⟩:Dsk)⟩:Wld))).store).idx).names,((((BC (⟨(⟨(⟨w_.store.idx.names,w_.store.idx.AY⟩:Idx),w_.store.parts,w_.store.mem⟩:Sto),(⟨(Ao w_.disk (Ag w_.disk w_.store) e.cut).files,(Ao w_.disk (Ag w_.disk w_.store) e.cut).list,(Ao w_.disk (Ag w_.disk w_.store) e.cut).names,(Ao w_.disk (Ag w_.disk w_.store) e.cut).next⟩:Dsk)⟩:Wld))).store).idx).AY⟩:Idx),(((BC (⟨(⟨(⟨w_.store.idx.names,w_.store.idx.AY⟩:Idx),w_.store.parts,w_.store.mem⟩:Sto),(⟨(Ao w_.disk (Ag w_.disk w_.store) e.cut).files,(Ao w_.disk (Ag w_.disk w_.store) e.cut).list,(Ao w_.disk (Ag w_.disk w_.store) e.cut).names,(Ao w_.disk (Ag w_.disk w_.store) e.cut).next⟩:Dsk)⟩:Wld))).store).parts,(((BC (⟨(⟨(⟨w_.store.idx.names,w_.store.idx.AY⟩:Idx),w_.store.parts,w_.store.mem⟩:Sto),(⟨(Ao w_.disk (Ag w_.disk w_.store) e.cut).files,(Ao w_.disk (Ag w_.disk w_.store) e.cut).list,(Ao w_.disk (Ag w_.disk w_.store) e.cut).names,(Ao w_.disk (Ag w_.disk w_.store) e.cut).next⟩:Dsk)⟩:Wld))).store).mem⟩:Sto),(⟨(((BC (⟨(⟨(⟨w_.store.idx.names,w_.store.idx.AY⟩:Idx),w_.store.parts,w_.store.mem⟩:Sto),(⟨(Ao w_.disk (Ag w_.disk w_.store) e.cut).files,(Ao w_.disk (Ag w_.disk w_.store) e.cut).list,(Ao w_.disk (Ag w_.disk w_.store) e.cut).names,(Ao w_.disk (Ag w_.disk w_.store) e.cut).next⟩:Dsk)⟩:Wld))).disk).files,(((BC (⟨(⟨(⟨w_.store.idx.names,w_.store.idx.AY⟩:Idx),w_.store.parts,w_.store.mem⟩:Sto),(⟨(Ao w_.disk (Ag w_.disk w_.store) e.cut).files,(Ao w_.disk (Ag w_.disk w_.store) e.cut).list,(Ao w_.disk (Ag w_.disk w_.store) e.cut).names,(Ao w_.disk (Ag w_.disk w_.store) e.cut).next⟩:Dsk)⟩:Wld))).disk).list,(((BC (⟨(⟨(⟨w_.store.idx.names,w_.store.idx.AY⟩:Idx),w_.store.parts,w_.store.mem⟩:Sto),(⟨(Ao w_.disk (Ag w_.disk w_.store) e.cut).files,(Ao w_.disk (Ag w_.disk w_.store) e.cut).list,(Ao w_.disk (Ag w_.disk w_.store) e.cut).names,(Ao w_.disk (Ag w_.disk w_.store) e.cut).next⟩:Dsk)⟩:Wld))).disk).names,(((BC (⟨(⟨(⟨w_.store.idx.names,w_.store.idx.AY⟩:Idx),w_.store.parts,w_.store.mem⟩:Sto),(⟨(Ao w_.disk (Ag w_.disk w_.store) e.cut).files,(Ao w_.disk (Ag w_.disk w_.store) e.cut).list,(Ao w_.disk (Ag w_.disk w_.store) e.cut).names,(Ao w_.disk (Ag w_.disk w_.store) e.cut).next⟩:Dsk)⟩:Wld))).disk).next⟩:Dsk)⟩:Wld) from by exact Z9 p0 (by with_reducible assumption) (by with_reducible assumption) (by with_reducible assumption) (by with_reducible assumption)]
   exact ⟨⟨rfl,gU,(((((BC (⟨(⟨(⟨w_.store.idx.names,w_.store.idx.AY⟩:Idx),w_.store.parts,w_.store.mem⟩:Sto),(⟨(Ao w_.disk (Ag w_.disk w_.store) e.cut).files,(Ao w_.disk (Ag w_.disk w_.store) e.cut).list,(Ao w_.disk (Ag w_.disk w_.store) e.cut).names,(Ao w_.disk (Ag w_.disk w_.store) e.cut).next⟩:Dsk)⟩:Wld))).store).idx).names).length,gV,gW,(((((BC (⟨(⟨(⟨w_.store.idx.names,w_.store.idx.AY⟩:Idx),w_.store.parts,w_.store.mem⟩:Sto),(⟨(Ao w_.disk (Ag w_.disk w_.store) e.cut).files,(Ao w_.disk (Ag w_.disk w_.store) e.cut).list,(Ao w_.disk (Ag w_.disk w_.store) e.cut).names,(Ao w_.disk (Ag w_.disk w_.store) e.cut).next⟩:Dsk)⟩:Wld))).store).idx).AY).length,gX,gY,((((BC (⟨(⟨(⟨w_.store.idx.names,w_.store.idx.AY⟩:Idx),w_.store.parts,w_.store.mem⟩:Sto),(⟨(Ao w_.disk (Ag w_.disk w_.store) e.cut).files,(Ao w_.disk (Ag w_.disk w_.store) e.cut).list,(Ao w_.disk (Ag w_.disk w_.store) e.cut).names,(Ao w_.disk (Ag w_.disk w_.store) e.cut).next⟩:Dsk)⟩:Wld))).store).parts).length,gZ,g0,((((BC (⟨(⟨(⟨w_.store.idx.names,w_.store.idx.AY⟩:Idx),w_.store.parts,w_.store.mem⟩:Sto),(⟨(Ao w_.disk (Ag w_.disk w_.store) e.cut).files,(Ao w_.disk (Ag w_.disk w_.store) e.cut).list,(Ao w_.disk (Ag w_.disk w_.store) e.cut).names,(Ao w_.disk (Ag w_.disk w_.store) e.cut).next⟩:Dsk)⟩:Wld))).store).mem).length,hC,hE,((((BC (⟨(⟨(⟨w_.store.idx.names,w_.store.idx.AY⟩:Idx),w_.store.parts,w_.store.mem⟩:Sto),(⟨(Ao w_.disk (Ag w_.disk w_.store) e.cut).files,(Ao w_.disk (Ag w_.disk w_.store) e.cut).list,(Ao w_.disk (Ag w_.disk w_.store) e.cut).names,(Ao w_.disk (Ag w_.disk w_.store) e.cut).next⟩:Dsk)⟩:Wld))).disk).files).length,hH,hN,((((BC (⟨(⟨(⟨w_.store.idx.names,w_.store.idx.AY⟩:Idx),w_.store.parts,w_.store.mem⟩:Sto),(⟨(Ao w_.disk (Ag w_.disk w_.store) e.cut).files,(Ao w_.disk (Ag w_.disk w_.store) e.cut).list,(Ao w_.disk (Ag w_.disk w_.store) e.cut).names,(Ao w_.disk (Ag w_.disk w_.store) e.cut).next⟩:Dsk)⟩:Wld))).disk).list).length,hO,hQ,((((BC (⟨(⟨(⟨w_.store.idx.names,w_.store.idx.AY⟩:Idx),w_.store.parts,w_.store.mem⟩:Sto),(⟨(Ao w_.disk (Ag w_.disk w_.store) e.cut).files,(Ao w_.disk (Ag w_.disk w_.store) e.cut).list,(Ao w_.disk (Ag w_.disk w_.store) e.cut).names,(Ao w_.disk (Ag w_.disk w_.store) e.cut).next⟩:Dsk)⟩:Wld))).disk).names).length,hV,fO,(RepS.As bX (all_cons AL all_nil)),(RepS.As bY (all_cons AL all_nil)),(RepS.As bZ (all_cons AL all_nil)),(RepS.As b0 (all_cons AL all_nil)),(RepS.As b6 (all_cons AL all_nil)),(RepS.As b7 (all_cons AL all_nil)),(RepS.As b8 (all_cons AL all_nil))⟩,E⟩
  refine .d<|.cf<|.g<|.r 1<|.ln aA<|.r 2<|.sb 0 (.agg #[.slice dM ((Bs w_.store).1.idx.names.length) dN,.slice dO ((((Bs w_.store).1.idx).AY).length) dP,.slice dQ ((Bs w_.store).1.parts.length) dR,.slice dS ((Bs w_.store).1.mem.length) dT]) [.slice dM ((Bs w_.store).1.idx.names.length) dN,.slice dO ((((Bs w_.store).1.idx).AY).length) dP,.slice dQ ((Bs w_.store).1.parts.length) dR,.slice dS ((Bs w_.store).1.mem.length) dT,.slice dU (((Ao w_.disk (Ag w_.disk w_.store) e.cut).files).length) dV,.slice dW (((Ao w_.disk (Ag w_.disk w_.store) e.cut).list).length) dX,.slice dY (((Ao w_.disk (Ag w_.disk w_.store) e.cut).names).length) dZ,vI ((Ao w_.disk (Ag w_.disk w_.store) e.cut).next)] du fun lk dw fW fX=>?_
  replace ⟨hrb0,hrb1,hrb2,hrb3,hrb4,hrb5,hrb6,aa,ab,ar,ax,ay⟩:=(so [af,ac,ae,bx] dw).g12 hrb0 hrb1 hrb2 hrb3 hrb4 hrb5 hrb6 aa ab ar ax ay
  replace ⟨az,aJ,aK,aL,E⟩:=(so [af,ac,ae,bx] dw).g5 az aJ aK aL E
  refine .d<|T.GR func33 results33 ?_
  rw [show (doW w_ e)=(⟨(⟨(⟨(Bs w_.store).1.idx.names,((Bs w_.store).1.idx).AY⟩:Idx),(Bs w_.store).1.parts,(Bs w_.store).1.mem⟩:Sto),(⟨(Ao w_.disk (Ag w_.disk w_.store) e.cut).files,(Ao w_.disk (Ag w_.disk w_.store) e.cut).list,(Ao w_.disk (Ag w_.disk w_.store) e.cut).names,(Ao w_.disk (Ag w_.disk w_.store) e.cut).next⟩:Dsk)⟩:Wld) from by exact b4 p0 (by with_reducible assumption) (by with_reducible assumption) (by with_reducible assumption) (by with_reducible assumption)]
  exact ⟨⟨rfl,dM,(Bs w_.store).1.idx.names.length,dN,dO,(((Bs w_.store).1.idx).AY).length,dP,dQ,(Bs w_.store).1.parts.length,dR,dS,(Bs w_.store).1.mem.length,dT,dU,((Ao w_.disk (Ag w_.disk w_.store) e.cut).files).length,dV,dW,((Ao w_.disk (Ag w_.disk w_.store) e.cut).list).length,dX,dY,((Ao w_.disk (Ag w_.disk w_.store) e.cut).names).length,dZ,fW,(RepS.As ar (all_cons AL all_nil)),(RepS.As ax (all_cons AL all_nil)),(RepS.As ay (all_cons AL all_nil)),(RepS.As az (all_cons AL all_nil)),(RepS.As aJ (all_cons AL all_nil)),(RepS.As aK (all_cons AL all_nil)),(RepS.As aL (all_cons AL all_nil))⟩,E⟩
 refine .r 1<|.d<|.cf<|.s<|.g<|.eq e.kind 3 (fun fY=>?_) (fun fY=>?_)
 ·refine .r 1<|.d<|.ct<|.s<|.gd nil 6 fun ll eC=>?_
  replace ⟨hrb0,hrb1,hrb2,hrb3,hrb4,hrb5,hrb6,hbx,aa,ab,ag,E⟩:=(se [af,ac,ae,bx] eC).g12 hrb0 hrb1 hrb2 hrb3 hrb4 hrb5 hrb6 hbx aa ab ag E
  refine .r [0,1,2]<|.ln 3 hbx id<|.r [4]<|.lb 5 aa id<|.d fun eR eD=>?_
  replace ⟨hrb0,hrb1,hrb2,hrb3,hrb4,hrb5,hrb6,hbx,aa,ab,ag,E⟩:=(se [af,ac,ae,bx] eD).g12 hrb0 hrb1 hrb2 hrb3 hrb4 hrb5 hrb6 hbx aa ab ag E
  refine .cl (Jv w_.disk e.at_ hrb4.ta hrb5.ta hrb6.ta p0.dd (w:=eR) (F:=all)) ?_
  rintro lm b9 ⟨⟨lp,lq,rfl,am⟩,eE⟩
  have eF:=al4 ag.lt ab.lt aa.lt hbx.lt
  have fZ:Gb w.heap.size eR.heap.size:=E.size
  replace ⟨hrb0,hrb1,hrb2,hrb3,hrb4,hrb5,hrb6,hbx,aa,ab,ag,E⟩:=(se [af,ac,ae,bx] eE).g12 hrb0 hrb1 hrb2 hrb3 hrb4 hrb5 hrb6 hbx aa ab ag E
  have am:=am.fr eF fZ
  replace am:=am.base (G':=fo F w.heap.size) (fun _ _ h=>.inr h)
  refine .r 1<|.d ?_
  replace hrb0:=hrb0.C1
  replace hrb1:=hrb1.C1
  replace hrb2:=hrb2.C1
  replace hrb3:=hrb3.C1
  replace hrb4:=hrb4.C1
  replace hrb5:=hrb5.C1
  replace hrb6:=hrb6.C1
  replace am:=am.C1
  have f0:Gb (bx+1) b9.heap.size:=hbx.lt
  have f5:Gb (ae+1) b9.heap.size:=aa.lt
  have f6:Cov (mtb [ac,af] b9.heap.size) b9 af:=⟨.inl (.inl AJ)⟩
  refine .gd (mtb [ac,af] b9.heap.size) 11 fun lu dx=>?_
  replace ⟨hrb0,hrb1,hrb2,hrb3,hrb4,hrb5,hrb6,hbx,aa,ab,ag,am⟩:=(se [af,ac,ae,bx] dx).g12 hrb0 hrb1 hrb2 hrb3 hrb4 hrb5 hrb6 hbx aa ab ag am
  replace E:=(se [af,ac,ae,bx] dx).g1 E
  refine .r [0,1,2]<|.ln 3 hbx (DH (all_cons (Nb.symm eL) (all_cons (Nb.symm gP) all_nil)) f0)<|.r [4]<|.lb 5 aa (DH (all_cons (Nb.symm ec) (all_cons (Nb.symm gQ) all_nil)) f5)<|.go 6<|.cl (fun eG ba=>Jb w_.store e.at_ ((hrb0.base (fun _ _ h=>h.1)).ext ba) ((hrb1.base (fun _ _ h=>h.1)).ext ba) ((hrb2.base (fun _ _ h=>h.1)).ext ba) ((hrb3.base (fun _ _ h=>h.1)).ext ba) p0.sd (w:=eG) (F:=nin (fo F w.heap.size) [af,ac,ae,bx])) ?_
  intro eG ba
  replace ⟨hrb0,hrb1,hrb2,hrb3,hrb4,hrb5,hrb6,hbx,aa,ab,ag,am⟩:=(se [af,ac,ae,bx] ba).g12 hrb0 hrb1 hrb2 hrb3 hrb4 hrb5 hrb6 hbx aa ab ag am
  replace E:=(se [af,ac,ae,bx] ba).g1 E
  rintro lv lw ⟨⟨ly,rfl,⟨_,rfl,⟨cd,lz,ce,cg,lA,ci,cj,lB,ck,cm,lC,co,rfl,ai,aj,ak,al⟩⟩⟩,bQ⟩
  have bC:=al4 ag.lt ab.lt aa.lt hbx.lt
  have bR:Gb w.heap.size eG.heap.size:=E.size
  have hkeep_:=bQ
  replace ⟨hrb0,hrb1,hrb2,hrb3,hrb4,hrb5,hrb6,hbx,aa,ab,ag,am⟩:=(se [af,ac,ae,bx] bQ).g12 hrb0 hrb1 hrb2 hrb3 hrb4 hrb5 hrb6 hbx aa ab ag am
  replace E:=(se [af,ac,ae,bx] bQ).g1 E
  refine ⟨Ext.chg hkeep_,?_⟩
  replace ai:=RepS.Ck (M:=[af,ac,ae,bx]) ai bC bR
  have jC:=ai.max
  replace aj:=RepS.Ck (M:=[af,ac,ae,bx]) aj bC bR
  have jD:=aj.max
  replace ak:=RepS.Ck (M:=[af,ac,ae,bx]) ak bC bR
  have jE:=ak.max
  replace al:=RepS.Ck (M:=[af,ac,ae,bx]) al bC bR
  have jF:=al.max
  have f7:=ai.len
  subst f7
  have f8:=aj.len
  subst f8
  have f9:=ak.len
  subst f9
  have gb:=al.len
  subst gb
  refine .r [7,8,9]<|.go 10<|GE.FU (t':=38) (o:=0) (v:=.agg #[.slice cd ((BT w_.store e.at_).1.idx.names.length) ce,.slice cg ((((BT w_.store e.at_).1.idx).AY).length) ci,.slice cj ((BT w_.store e.at_).1.parts.length) ck,.slice cm ((BT w_.store e.at_).1.mem.length) co]) [.slice cd ((BT w_.store e.at_).1.idx.names.length) ce,.slice cg ((((BT w_.store e.at_).1.idx).AY).length) ci,.slice cj ((BT w_.store e.at_).1.parts.length) ck,.slice cm ((BT w_.store e.at_).1.mem.length) co] ag AA AA AA fun lD dy=>?_
  replace ⟨hrb0,hrb1,hrb2,hrb3,hrb4,hrb5,hrb6,hbx,aa,ab,ag,am⟩:=(se [af,ac,ae,bx] dy).g12 hrb0 hrb1 hrb2 hrb3 hrb4 hrb5 hrb6 hbx aa ab ag am
  replace ⟨ai,aj,ak,al,E⟩:=(se [af,ac,ae,bx] dy).g5 ai aj ak al E
  intro lE bS aq gf
  have hkeep_:=Chg.toS bS (Cov.toS f6)
  replace ⟨hrb0,hrb1,hrb2,hrb3,hrb4,hrb5,hrb6,hbx,aa,ab,am,ai⟩:=(so [af,ac,ae,bx] bS).g12 hrb0 hrb1 hrb2 hrb3 hrb4 hrb5 hrb6 hbx aa ab am ai
  replace ⟨aj,ak,al,E⟩:=(so [af,ac,ae,bx] bS).g4 aj ak al E
  refine ⟨hkeep_,?_⟩
  refine .d fun lF dz=>?_
  replace ⟨hrb0,hrb1,hrb2,hrb3,hrb4,hrb5,hrb6,hbx,aa,ab,aq,am⟩:=(se [af,ac,ae,bx] dz).g12 hrb0 hrb1 hrb2 hrb3 hrb4 hrb5 hrb6 hbx aa ab aq am
  replace ⟨ai,aj,ak,al,E⟩:=(se [af,ac,ae,bx] dz).g5 ai aj ak al E
  replace hrb0:=hrb0.BS
  replace hrb1:=hrb1.BS
  replace hrb2:=hrb2.BS
  replace hrb3:=hrb3.BS
  replace hrb4:=hrb4.BS
  replace hrb5:=hrb5.BS
  replace hrb6:=hrb6.BS
  replace am:=am.BS
  refine .d<|.ib 0<|.s<|.s<|.g<|.r 2<|.eq (((Ah w_.disk e.at_).length):Int) 0 (fun gh=>?_) (fun gh=>?_)
  ·refine .r 5<|.d<|.ct<|T.Ls AA func33 results33 ?_
   rw [show (doW w_ e)=w_ from by exact X7 p0 (by with_reducible assumption) (.inl (by with_reducible assumption))]
   exact ⟨⟨rfl,ab0,w_.store.idx.names.length,cb0,ab1,w_.store.idx.AY.length,cb1,ab2,w_.store.parts.length,cb2,ab3,w_.store.mem.length,cb3,ab4,w_.disk.files.length,cb4,ab5,w_.disk.list.length,cb5,ab6,w_.disk.names.length,cb6,hbx,(RepS.As hrb0 (all_cons AL all_nil)),(RepS.As hrb1 (all_cons AL all_nil)),(RepS.As hrb2 (all_cons AL all_nil)),(RepS.As hrb3 (all_cons AL all_nil)),(RepS.As hrb4 (all_cons AL all_nil)),(RepS.As hrb5 (all_cons AL all_nil)),(RepS.As hrb6 (all_cons AL all_nil))⟩,E⟩
  refine .r 2<|.lb aa<|.bp (e.cut< 0) (fun gi=>?_) (fun gi=>?_)
  ·refine .r 1<|.d<|.ct<|T.Ls AA func33 results33 ?_
   rw [show (doW w_ e)=w_ from by exact X7 p0 (by with_reducible assumption) (.inr (by with_reducible assumption))]
   exact ⟨⟨rfl,ab0,w_.store.idx.names.length,cb0,ab1,w_.store.idx.AY.length,cb1,ab2,w_.store.parts.length,cb2,ab3,w_.store.mem.length,cb3,ab4,w_.disk.files.length,cb4,ab5,w_.disk.list.length,cb5,ab6,w_.disk.names.length,cb6,hbx,(RepS.As hrb0 (all_cons AL all_nil)),(RepS.As hrb1 (all_cons AL all_nil)),(RepS.As hrb2 (all_cons AL all_nil)),(RepS.As hrb3 (all_cons AL all_nil)),(RepS.As hrb4 (all_cons AL all_nil)),(RepS.As hrb5 (all_cons AL all_nil)),(RepS.As hrb6 (all_cons AL all_nil))⟩,E⟩
  refine .r 1<|.d<|.cf<|.sk<|.s<|.gd nil 9 fun lG dA=>?_
  replace ⟨hrb0,hrb1,hrb2,hrb3,hrb4,hrb5,hrb6,hbx,aa,ab,aq,am⟩:=(se [af,ac,ae,bx] dA).g12 hrb0 hrb1 hrb2 hrb3 hrb4 hrb5 hrb6 hbx aa ab aq am
  replace ⟨ai,aj,ak,al,E⟩:=(se [af,ac,ae,bx] dA).g5 ai aj ak al E
  refine .r [0,1,2,3]<|.ln 4 hbx id<|.r [5,6]<|.lb 7 aa id<|.go 8<|.cl (fun eH bd=>IZ w_.disk (Ah w_.disk e.at_) e.cut (hrb4.ext bd) (hrb5.ext bd) (hrb6.ext bd) (am.ext bd) p0.dd (fun _=>by exact (Kd p0.dd _).1) (w:=eH) (F:=nin (fo F w.heap.size) [af,ac,ae,bx])) ?_
  intro eH bd
  replace ⟨hrb0,hrb1,hrb2,hrb3,hrb4,hrb5,hrb6,hbx,aa,ab,aq,ai⟩:=(se [af,ac,ae,bx] bd).g12 hrb0 hrb1 hrb2 hrb3 hrb4 hrb5 hrb6 hbx aa ab aq ai
  replace ⟨aj,ak,al,E⟩:=(se [af,ac,ae,bx] bd).g4 aj ak al E
  rintro lH lI ⟨⟨_,rfl,⟨d0,lJ,d3,d4,lK,d5,d6,lL,d7,rfl,aM,aN,aO⟩⟩,bT⟩
  have bU:=al4 aq.lt ab.lt aa.lt hbx.lt
  have dB:Gb w.heap.size eH.heap.size:=E.size
  have hkeep_:=bT
  replace ⟨hrb0,hrb1,hrb2,hrb3,hrb4,hrb5,hrb6,hbx,aa,ab,aq,ai⟩:=(se [af,ac,ae,bx] bT).g12 hrb0 hrb1 hrb2 hrb3 hrb4 hrb5 hrb6 hbx aa ab aq ai
  replace ⟨aj,ak,al,E⟩:=(se [af,ac,ae,bx] bT).g4 aj ak al E
  refine ⟨Ext.chg hkeep_,?_⟩
  replace aM:=RepS.Ck (M:=[af,ac,ae,bx]) aM bU dB
  have jG:=aM.max
  replace aN:=RepS.Ck (M:=[af,ac,ae,bx]) aN bU dB
  have jH:=aN.max
  replace aO:=RepS.Ck (M:=[af,ac,ae,bx]) aO bU dB
  have jI:=aO.max
  have gj:=aM.len
  subst gj
  have gk:=aN.len
  subst gk
  have gl:=aO.len
  subst gl
  refine .d fun lM dC=>?_
  replace ⟨hrb0,hrb1,hrb2,hrb3,hrb4,hrb5,hrb6,hbx,aa,ab,aq,ai⟩:=(se [af,ac,ae,bx] dC).g12 hrb0 hrb1 hrb2 hrb3 hrb4 hrb5 hrb6 hbx aa ab aq ai
  replace ⟨aj,ak,al,aM,aN,aO,E⟩:=(se [af,ac,ae,bx] dC).g7 aj ak al aM aN aO E
  refine .r 2<|.sb 4 (.agg #[.slice d0 (((Ao w_.disk (Ah w_.disk e.at_) e.cut).files).length) d3,.slice d4 (((Ao w_.disk (Ah w_.disk e.at_) e.cut).list).length) d5,.slice d6 (((Ao w_.disk (Ah w_.disk e.at_) e.cut).names).length) d7,vI ((Ao w_.disk (Ah w_.disk e.at_) e.cut).next)]) [.slice ab0 w_.store.idx.names.length cb0,.slice ab1 w_.store.idx.AY.length cb1,.slice ab2 w_.store.parts.length cb2,.slice ab3 w_.store.mem.length cb3,.slice d0 (((Ao w_.disk (Ah w_.disk e.at_) e.cut).files).length) d3,.slice d4 (((Ao w_.disk (Ah w_.disk e.at_) e.cut).list).length) d5,.slice d6 (((Ao w_.disk (Ah w_.disk e.at_) e.cut).names).length) d7,vI ((Ao w_.disk (Ah w_.disk e.at_) e.cut).next)] hbx fun eI dD dE gm=>?_
  replace ⟨hrb0,hrb1,hrb2,hrb3,hrb4,hrb5,hrb6,aa,ab,aq,ai,aj⟩:=(so [af,ac,ae,bx] dD).g12 hrb0 hrb1 hrb2 hrb3 hrb4 hrb5 hrb6 aa ab aq ai aj
  replace ⟨ak,al,aM,aN,aO,E⟩:=(so [af,ac,ae,bx] dD).g6 ak al aM aN aO E
  refine .d<|.s<|.g<|.r 1<|.lb aa<|.r 2<|.bp (e.cut< (((Ah w_.disk e.at_).length):Int)) (fun gn=>?_) (fun gn=>?_)
  ·refine .d<|.ct<|.g<|.r 1<|.cl (Ef (⟨(⟨(⟨w_.store.idx.names,w_.store.idx.AY⟩:Idx),w_.store.parts,w_.store.mem⟩:Sto),(⟨(Ao w_.disk (Ah w_.disk e.at_) e.cut).files,(Ao w_.disk (Ah w_.disk e.at_) e.cut).list,(Ao w_.disk (Ah w_.disk e.at_) e.cut).names,(Ao w_.disk (Ah w_.disk e.at_) e.cut).next⟩:Dsk)⟩:Wld) (RepS.toM hrb0 (all_cons AL all_nil)) (RepS.toM hrb1 (all_cons AL all_nil)) (RepS.toM hrb2 (all_cons AL all_nil)) (RepS.toM hrb3 (all_cons AL all_nil)) (RepS.toM aM (all_cons AL all_nil)) (RepS.toM aN (all_cons AL all_nil)) (RepS.toM aO (all_cons AL all_nil)) dE (by exact (Om (e:=e) p0 (by with_reducible assumption) (by with_reducible assumption)).2.1) (by exact (Om (e:=e) p0 (by with_reducible assumption) (by with_reducible assumption)).2.2) (w:=eI) (F:=nin (fo F w.heap.size) [af,ac,ae,bx])) ?_
   rintro lN bm ⟨⟨rfl,hW,lO,ia,ic,lP,ie,ig,lQ,ii,ij,lR,ik,il,lS,im,io,lT,ip,iq,lU,ir,gp,cp,cq,cr,cu,cw,cx,cy⟩,bV⟩
   have aW:=al4 aq.lt ab.lt aa.lt dE.lt
   have bg:Gb w.heap.size eI.heap.size:=E.size
   have dF:Mv [af,ac,ae,bx] [af,ac,ae,bx] eI bm:=Mv.inl bV (all_cons AL all_nil) (all_cons (.inl AI) (all_cons (.inl AJ) (all_cons (.inl AK) (all_cons (.inl AL) all_nil))))
   replace ⟨hrb0,hrb1,hrb2,hrb3,hrb4,hrb5,hrb6,aa,ab,aq,ai,aj⟩:=(sp dF bV).g12 hrb0 hrb1 hrb2 hrb3 hrb4 hrb5 hrb6 aa ab aq ai aj
   replace ⟨ak,al,aM,aN,aO,E⟩:=(sp dF bV).g6 ak al aM aN aO E
   replace cp:RepS bm (nin (fo F w.heap.size) [af,ac,ae,bx]) _ _ _ _:=RepS.bxM (M2:=[af,ac,ae,bx]) cp aW (fun _ h=>.inr (Nat.le_trans bg h)) (all_cons (.inr AI) (all_cons (.inr AJ) (all_cons (.inr AK) (all_cons (.inl AI) all_nil))))
   replace cq:RepS bm (nin (fo F w.heap.size) [af,ac,ae,bx]) _ _ _ _:=RepS.bxM (M2:=[af,ac,ae,bx]) cq aW (fun _ h=>.inr (Nat.le_trans bg h)) (all_cons (.inr AI) (all_cons (.inr AJ) (all_cons (.inr AK) (all_cons (.inl AI) all_nil))))
   replace cr:RepS bm (nin (fo F w.heap.size) [af,ac,ae,bx]) _ _ _ _:=RepS.bxM (M2:=[af,ac,ae,bx]) cr aW (fun _ h=>.inr (Nat.le_trans bg h)) (all_cons (.inr AI) (all_cons (.inr AJ) (all_cons (.inr AK) (all_cons (.inl AI) all_nil))))
   replace cu:RepS bm (nin (fo F w.heap.size) [af,ac,ae,bx]) _ _ _ _:=RepS.bxM (M2:=[af,ac,ae,bx]) cu aW (fun _ h=>.inr (Nat.le_trans bg h)) (all_cons (.inr AI) (all_cons (.inr AJ) (all_cons (.inr AK) (all_cons (.inl AI) all_nil))))
   replace cw:RepS bm (nin (fo F w.heap.size) [af,ac,ae,bx]) _ _ _ _:=RepS.bxM (M2:=[af,ac,ae,bx]) cw aW (fun _ h=>.inr (Nat.le_trans bg h)) (all_cons (.inr AI) (all_cons (.inr AJ) (all_cons (.inr AK) (all_cons (.inl AI) all_nil))))
   replace cx:RepS bm (nin (fo F w.heap.size) [af,ac,ae,bx]) _ _ _ _:=RepS.bxM (M2:=[af,ac,ae,bx]) cx aW (fun _ h=>.inr (Nat.le_trans bg h)) (all_cons (.inr AI) (all_cons (.inr AJ) (all_cons (.inr AK) (all_cons (.inl AI) all_nil))))
   replace cy:RepS bm (nin (fo F w.heap.size) [af,ac,ae,bx]) _ _ _ _:=RepS.bxM (M2:=[af,ac,ae,bx]) cy aW (fun _ h=>.inr (Nat.le_trans bg h)) (all_cons (.inr AI) (all_cons (.inr AJ) (all_cons (.inr AK) (all_cons (.inl AI) all_nil))))
   have gq:=cp.len
   subst gq
   have gr:=cq.len
   subst gr
   have gs:=cr.len
   subst gs
   have gt:=cu.len
   subst gt
   have gu:=cw.len
   subst gu
   have gv:=cx.len
   subst gv
   have gw:=cy.len
   subst gw
   refine .d<|T.GR func33 results33 ?_
   rw [show (doW w_ e)=(⟨(⟨(⟨((((BC (⟨(⟨(⟨w_.store.idx.names,w_.store.idx.AY⟩:Idx),w_.store.parts,w_.store.mem⟩:Sto),(⟨(Ao w_.disk (Ah w_.disk e.at_) e.cut).files,(Ao w_.disk (Ah w_.disk e.at_) e.cut).list,(Ao w_.disk (Ah w_.disk e.at_) e.cut).names,(Ao w_.disk (Ah w_.disk e.at_) e.cut).next⟩:Dsk)⟩:Wld))).store).idx).names,((((BC (⟨(⟨(⟨w_.store.idx.names,w_.store.idx.AY⟩:Idx),w_.store.parts,w_.store.mem⟩:Sto),(⟨(Ao w_.disk (Ah w_.disk e.at_) e.cut).files,(Ao w_.disk (Ah w_.disk e.at_) e.cut).list,(Ao w_.disk (Ah w_.disk e.at_) e.cut).names,(Ao w_.disk (Ah w_.disk e.at_) e.cut).next⟩:Dsk)⟩:Wld))).store).idx).AY⟩:Idx),(((BC (⟨(⟨(⟨w_.store.idx.names,w_.store.idx.AY⟩:Idx),w_.store.parts,w_.store.mem⟩:Sto),(⟨(Ao w_.disk (Ah w_.disk e.at_) e.cut).files,(Ao w_.disk (Ah w_.disk e.at_) e.cut).list,(Ao w_.disk (Ah w_.disk e.at_) e.cut).names,(Ao w_.disk (Ah w_.disk e.at_) e.cut).next⟩:Dsk)⟩:Wld))).store).parts,(((BC (⟨(⟨(⟨w_.store.idx.names,w_.store.idx.AY⟩:Idx),w_.store.parts,w_.store.mem⟩:Sto),(⟨(Ao w_.disk (Ah w_.disk e.at_) e.cut).files,(Ao w_.disk (Ah w_.disk e.at_) e.cut).list,(Ao w_.disk (Ah w_.disk e.at_) e.cut).names,(Ao w_.disk (Ah w_.disk e.at_) e.cut).next⟩:Dsk)⟩:Wld))).store).mem⟩:Sto),(⟨(((BC (⟨(⟨(⟨w_.store.idx.names,w_.store.idx.AY⟩:Idx),w_.store.parts,w_.store.mem⟩:Sto),(⟨(Ao w_.disk (Ah w_.disk e.at_) e.cut).files,(Ao w_.disk (Ah w_.disk e.at_) e.cut).list,(Ao w_.disk (Ah w_.disk e.at_) e.cut).names,(Ao w_.disk (Ah w_.disk e.at_) e.cut).next⟩:Dsk)⟩:Wld))).disk).files,(((BC (⟨(⟨(⟨w_.store.idx.names,w_.store.idx.AY⟩:Idx),w_.store.parts,w_.store.mem⟩:Sto),(⟨(Ao w_.disk (Ah w_.disk e.at_) e.cut).files,(Ao w_.disk (Ah w_.disk e.at_) e.cut).list,(Ao w_.disk (Ah w_.disk e.at_) e.cut).names,(Ao w_.disk (Ah w_.disk e.at_) e.cut).next⟩:Dsk)⟩:Wld))).disk).list,(((BC (⟨(⟨(⟨w_.store.idx.names,w_.store.idx.AY⟩:Idx),w_.store.parts,w_.store.mem⟩:Sto),(⟨(Ao w_.disk (Ah w_.disk e.at_) e.cut).files,(Ao w_.disk (Ah w_.disk e.at_) e.cut).list,(Ao w_.disk (Ah w_.disk e.at_) e.cut).names,(Ao w_.disk (Ah w_.disk e.at_) e.cut).next⟩:Dsk)⟩:Wld))).disk).names,(((BC (⟨(⟨(⟨w_.store.idx.names,w_.store.idx.AY⟩:Idx),w_.store.parts,w_.store.mem⟩:Sto),(⟨(Ao w_.disk (Ah w_.disk e.at_) e.cut).files,(Ao w_.disk (Ah w_.disk e.at_) e.cut).list,(Ao w_.disk (Ah w_.disk e.at_) e.cut).names,(Ao w_.disk (Ah w_.disk e.at_) e.cut).next⟩:Dsk)⟩:Wld))).disk).next⟩:Dsk)⟩:Wld) from by exact b5 p0 (by with_reducible assumption) (by with_reducible assumption) (by with_reducible assumption) (by with_reducible assumption)]
   exact ⟨⟨rfl,hW,(((((BC (⟨(⟨(⟨w_.store.idx.names,w_.store.idx.AY⟩:Idx),w_.store.parts,w_.store.mem⟩:Sto),(⟨(Ao w_.disk (Ah w_.disk e.at_) e.cut).files,(Ao w_.disk (Ah w_.disk e.at_) e.cut).list,(Ao w_.disk (Ah w_.disk e.at_) e.cut).names,(Ao w_.disk (Ah w_.disk e.at_) e.cut).next⟩:Dsk)⟩:Wld))).store).idx).names).length,ia,ic,(((((BC (⟨(⟨(⟨w_.store.idx.names,w_.store.idx.AY⟩:Idx),w_.store.parts,w_.store.mem⟩:Sto),(⟨(Ao w_.disk (Ah w_.disk e.at_) e.cut).files,(Ao w_.disk (Ah w_.disk e.at_) e.cut).list,(Ao w_.disk (Ah w_.disk e.at_) e.cut).names,(Ao w_.disk (Ah w_.disk e.at_) e.cut).next⟩:Dsk)⟩:Wld))).store).idx).AY).length,ie,ig,((((BC (⟨(⟨(⟨w_.store.idx.names,w_.store.idx.AY⟩:Idx),w_.store.parts,w_.store.mem⟩:Sto),(⟨(Ao w_.disk (Ah w_.disk e.at_) e.cut).files,(Ao w_.disk (Ah w_.disk e.at_) e.cut).list,(Ao w_.disk (Ah w_.disk e.at_) e.cut).names,(Ao w_.disk (Ah w_.disk e.at_) e.cut).next⟩:Dsk)⟩:Wld))).store).parts).length,ii,ij,((((BC (⟨(⟨(⟨w_.store.idx.names,w_.store.idx.AY⟩:Idx),w_.store.parts,w_.store.mem⟩:Sto),(⟨(Ao w_.disk (Ah w_.disk e.at_) e.cut).files,(Ao w_.disk (Ah w_.disk e.at_) e.cut).list,(Ao w_.disk (Ah w_.disk e.at_) e.cut).names,(Ao w_.disk (Ah w_.disk e.at_) e.cut).next⟩:Dsk)⟩:Wld))).store).mem).length,ik,il,((((BC (⟨(⟨(⟨w_.store.idx.names,w_.store.idx.AY⟩:Idx),w_.store.parts,w_.store.mem⟩:Sto),(⟨(Ao w_.disk (Ah w_.disk e.at_) e.cut).files,(Ao w_.disk (Ah w_.disk e.at_) e.cut).list,(Ao w_.disk (Ah w_.disk e.at_) e.cut).names,(Ao w_.disk (Ah w_.disk e.at_) e.cut).next⟩:Dsk)⟩:Wld))).disk).files).length,im,io,((((BC (⟨(⟨(⟨w_.store.idx.names,w_.store.idx.AY⟩:Idx),w_.store.parts,w_.store.mem⟩:Sto),(⟨(Ao w_.disk (Ah w_.disk e.at_) e.cut).files,(Ao w_.disk (Ah w_.disk e.at_) e.cut).list,(Ao w_.disk (Ah w_.disk e.at_) e.cut).names,(Ao w_.disk (Ah w_.disk e.at_) e.cut).next⟩:Dsk)⟩:Wld))).disk).list).length,ip,iq,((((BC (⟨(⟨(⟨w_.store.idx.names,w_.store.idx.AY⟩:Idx),w_.store.parts,w_.store.mem⟩:Sto),(⟨(Ao w_.disk (Ah w_.disk e.at_) e.cut).files,(Ao w_.disk (Ah w_.disk e.at_) e.cut).list,(Ao w_.disk (Ah w_.disk e.at_) e.cut).names,(Ao w_.disk (Ah w_.disk e.at_) e.cut).next⟩:Dsk)⟩:Wld))).disk).names).length,ir,gp,(RepS.As cp (all_cons AL all_nil)),(RepS.As cq (all_cons AL all_nil)),(RepS.As cr (all_cons AL all_nil)),(RepS.As cu (all_cons AL all_nil)),(RepS.As cw (all_cons AL all_nil)),(RepS.As cx (all_cons AL all_nil)),(RepS.As cy (all_cons AL all_nil))⟩,E⟩
  refine .d<|.cf<|.g<|.r 1<|.ln aq<|.r 2<|.sb 0 (.agg #[.slice cd ((BT w_.store e.at_).1.idx.names.length) ce,.slice cg ((((BT w_.store e.at_).1.idx).AY).length) ci,.slice cj ((BT w_.store e.at_).1.parts.length) ck,.slice cm ((BT w_.store e.at_).1.mem.length) co]) [.slice cd ((BT w_.store e.at_).1.idx.names.length) ce,.slice cg ((((BT w_.store e.at_).1.idx).AY).length) ci,.slice cj ((BT w_.store e.at_).1.parts.length) ck,.slice cm ((BT w_.store e.at_).1.mem.length) co,.slice d0 (((Ao w_.disk (Ah w_.disk e.at_) e.cut).files).length) d3,.slice d4 (((Ao w_.disk (Ah w_.disk e.at_) e.cut).list).length) d5,.slice d6 (((Ao w_.disk (Ah w_.disk e.at_) e.cut).names).length) d7,vI ((Ao w_.disk (Ah w_.disk e.at_) e.cut).next)] dE fun lV dG gy gz=>?_
  replace ⟨hrb0,hrb1,hrb2,hrb3,hrb4,hrb5,hrb6,aa,ab,ai,aj,ak⟩:=(so [af,ac,ae,bx] dG).g12 hrb0 hrb1 hrb2 hrb3 hrb4 hrb5 hrb6 aa ab ai aj ak
  replace ⟨al,aM,aN,aO,E⟩:=(so [af,ac,ae,bx] dG).g5 al aM aN aO E
  refine .d<|T.GR func33 results33 ?_
  rw [show (doW w_ e)=(⟨(⟨(⟨(BT w_.store e.at_).1.idx.names,((BT w_.store e.at_).1.idx).AY⟩:Idx),(BT w_.store e.at_).1.parts,(BT w_.store e.at_).1.mem⟩:Sto),(⟨(Ao w_.disk (Ah w_.disk e.at_) e.cut).files,(Ao w_.disk (Ah w_.disk e.at_) e.cut).list,(Ao w_.disk (Ah w_.disk e.at_) e.cut).names,(Ao w_.disk (Ah w_.disk e.at_) e.cut).next⟩:Dsk)⟩:Wld) from by exact hX p0 (by with_reducible assumption) (by with_reducible assumption) (by with_reducible assumption) (by with_reducible assumption)]
  exact ⟨⟨rfl,cd,(BT w_.store e.at_).1.idx.names.length,ce,cg,(((BT w_.store e.at_).1.idx).AY).length,ci,cj,(BT w_.store e.at_).1.parts.length,ck,cm,(BT w_.store e.at_).1.mem.length,co,d0,((Ao w_.disk (Ah w_.disk e.at_) e.cut).files).length,d3,d4,((Ao w_.disk (Ah w_.disk e.at_) e.cut).list).length,d5,d6,((Ao w_.disk (Ah w_.disk e.at_) e.cut).names).length,d7,gy,(RepS.As ai (all_cons AL all_nil)),(RepS.As aj (all_cons AL all_nil)),(RepS.As ak (all_cons AL all_nil)),(RepS.As al (all_cons AL all_nil)),(RepS.As aM (all_cons AL all_nil)),(RepS.As aN (all_cons AL all_nil)),(RepS.As aO (all_cons AL all_nil))⟩,E⟩
 refine .r 1<|.d<|.cf<|.s<|.g<|.eq e.kind 4 (fun gA=>?_) (fun gA=>?_)
 ·refine .r 1<|.d<|.ct<|.g<|.r 1<|.cl (Ef w_ (RepS.toM hrb0 (all_cons AL all_nil)) (RepS.toM hrb1 (all_cons AL all_nil)) (RepS.toM hrb2 (all_cons AL all_nil)) (RepS.toM hrb3 (all_cons AL all_nil)) (RepS.toM hrb4 (all_cons AL all_nil)) (RepS.toM hrb5 (all_cons AL all_nil)) (RepS.toM hrb6 (all_cons AL all_nil)) hbx (by exact p0.dd) (by exact p0.dk) (w:=bD) (F:=nin (fo F w.heap.size) [af,ac,ae,bx])) ?_
  rintro lW bn ⟨⟨rfl,iu,lX,iw,iy,lY,iz,iA,lZ,iB,iC,l0,iD,iE,l3,iF,iG,l4,iH,iI,l6,iJ,gC,cz,cA,cB,cC,cD,cE,cF⟩,dH⟩
  have aX:=al4 ag.lt ab.lt aa.lt hbx.lt
  have bh:Gb w.heap.size bD.heap.size:=E.size
  have eJ:Mv [af,ac,ae,bx] [af,ac,ae,bx] bD bn:=Mv.inl dH (all_cons AL all_nil) (all_cons (.inl AI) (all_cons (.inl AJ) (all_cons (.inl AK) (all_cons (.inl AL) all_nil))))
  replace ⟨hrb0,hrb1,hrb2,hrb3,hrb4,hrb5,hrb6,E⟩:=(sp eJ dH).g8 hrb0 hrb1 hrb2 hrb3 hrb4 hrb5 hrb6 E
  replace cz:RepS bn (nin (fo F w.heap.size) [af,ac,ae,bx]) _ _ _ _:=RepS.bxM (M2:=[af,ac,ae,bx]) cz aX (fun _ h=>.inr (Nat.le_trans bh h)) (all_cons (.inr AI) (all_cons (.inr AJ) (all_cons (.inr AK) (all_cons (.inl AI) all_nil))))
  replace cA:RepS bn (nin (fo F w.heap.size) [af,ac,ae,bx]) _ _ _ _:=RepS.bxM (M2:=[af,ac,ae,bx]) cA aX (fun _ h=>.inr (Nat.le_trans bh h)) (all_cons (.inr AI) (all_cons (.inr AJ) (all_cons (.inr AK) (all_cons (.inl AI) all_nil))))
  replace cB:RepS bn (nin (fo F w.heap.size) [af,ac,ae,bx]) _ _ _ _:=RepS.bxM (M2:=[af,ac,ae,bx]) cB aX (fun _ h=>.inr (Nat.le_trans bh h)) (all_cons (.inr AI) (all_cons (.inr AJ) (all_cons (.inr AK) (all_cons (.inl AI) all_nil))))
  replace cC:RepS bn (nin (fo F w.heap.size) [af,ac,ae,bx]) _ _ _ _:=RepS.bxM (M2:=[af,ac,ae,bx]) cC aX (fun _ h=>.inr (Nat.le_trans bh h)) (all_cons (.inr AI) (all_cons (.inr AJ) (all_cons (.inr AK) (all_cons (.inl AI) all_nil))))
  replace cD:RepS bn (nin (fo F w.heap.size) [af,ac,ae,bx]) _ _ _ _:=RepS.bxM (M2:=[af,ac,ae,bx]) cD aX (fun _ h=>.inr (Nat.le_trans bh h)) (all_cons (.inr AI) (all_cons (.inr AJ) (all_cons (.inr AK) (all_cons (.inl AI) all_nil))))
  replace cE:RepS bn (nin (fo F w.heap.size) [af,ac,ae,bx]) _ _ _ _:=RepS.bxM (M2:=[af,ac,ae,bx]) cE aX (fun _ h=>.inr (Nat.le_trans bh h)) (all_cons (.inr AI) (all_cons (.inr AJ) (all_cons (.inr AK) (all_cons (.inl AI) all_nil))))
  replace cF:RepS bn (nin (fo F w.heap.size) [af,ac,ae,bx]) _ _ _ _:=RepS.bxM (M2:=[af,ac,ae,bx]) cF aX (fun _ h=>.inr (Nat.le_trans bh h)) (all_cons (.inr AI) (all_cons (.inr AJ) (all_cons (.inr AK) (all_cons (.inl AI) all_nil))))
  have gD:=cz.len
  subst gD
  have gE:=cA.len
  subst gE
  have gF:=cB.len
  subst gF
  have gG:=cC.len
  subst gG
  have gH:=cD.len
  subst gH
  have gI:=cE.len
  subst gI
  have gJ:=cF.len
  subst gJ
  refine .d<|.ib 0<|.s<|.s<|.g<|.r 8<|.d<|.ct<|T.Ls AA func33 results33 ?_
  rw [show (doW w_ e)=(⟨(⟨(⟨((((BC w_)).store).idx).names,((((BC w_)).store).idx).AY⟩:Idx),(((BC w_)).store).parts,(((BC w_)).store).mem⟩:Sto),(⟨(((BC w_)).disk).files,(((BC w_)).disk).list,(((BC w_)).disk).names,(((BC w_)).disk).next⟩:Dsk)⟩:Wld) from by exact oY (by with_reducible assumption)]
  exact ⟨⟨rfl,iu,(((((BC w_)).store).idx).names).length,iw,iy,(((((BC w_)).store).idx).AY).length,iz,iA,((((BC w_)).store).parts).length,iB,iC,((((BC w_)).store).mem).length,iD,iE,((((BC w_)).disk).files).length,iF,iG,((((BC w_)).disk).list).length,iH,iI,((((BC w_)).disk).names).length,iJ,gC,(RepS.As cz (all_cons AL all_nil)),(RepS.As cA (all_cons AL all_nil)),(RepS.As cB (all_cons AL all_nil)),(RepS.As cC (all_cons AL all_nil)),(RepS.As cD (all_cons AL all_nil)),(RepS.As cE (all_cons AL all_nil)),(RepS.As cF (all_cons AL all_nil))⟩,E⟩
 refine .r 1<|.d<|.cf<|.sk<|.ib 0<|.s<|.s<|.g<|.r 8<|.d<|.ct<|T.Ls AA func33 results33 ?_
 rw [show (doW w_ e)=w_ from by exact NY (by with_reducible assumption) (by with_reducible assumption) (by with_reducible assumption) (by with_reducible assumption)]
 exact ⟨⟨rfl,ab0,w_.store.idx.names.length,cb0,ab1,w_.store.idx.AY.length,cb1,ab2,w_.store.parts.length,cb2,ab3,w_.store.mem.length,cb3,ab4,w_.disk.files.length,cb4,ab5,w_.disk.list.length,cb5,ab6,w_.disk.names.length,cb6,hbx,(RepS.As hrb0 (all_cons AL all_nil)),(RepS.As hrb1 (all_cons AL all_nil)),(RepS.As hrb2 (all_cons AL all_nil)),(RepS.As hrb3 (all_cons AL all_nil)),(RepS.As hrb4 (all_cons AL all_nil)),(RepS.As hrb5 (all_cons AL all_nil)),(RepS.As hrb6 (all_cons AL all_nil))⟩,E⟩
end Go.Proofs.YtckdhcbbgmiccaaGreatDoor
