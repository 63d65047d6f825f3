/- slices.Delete takes one element out of a row in place. Conditions: the row is the call's own, the place is in it. -/
import Derived.Test.YtfninflnngpchaaGreatDoorLxzMod42
open Go.Proofs.Tryz
set_option linter.unusedVariables false
set_option linter.unusedSimpArgs false
namespace Go.Proofs.YtfninflnngpchaaGreatDoor
set_option maxRecDepth 100000
set_option maxHeartbeats 4000000
variable {w:World} {F:Nat→Prop}
theorem KN {r n c i:Nat}{xs:List Fil}{a b:Int}(ho:Own w r 142 F n c xs) (ha:a=(i:Int)) (hb:b=(i:Int)+1) (hi:i< n) (hn:n≤1000000):Calls Tryz.prog 177 [.slice (some ⟨r,0,none⟩) n c,.int .i64 a,.int .i64 b].toArray w (Am fun rv w'=>(rv=.slice (some ⟨r,0,none⟩) (n - 1) c∧Own w' r 142 F (n - 1) c (xs.take i++xs.drop (i+1)))∧Chg (one r) w w'):=by
 subst ha hb
 refine goT func177 ?_
 have hle:=ho.le
 obtain ⟨cs,hB,hl⟩:=ho.X5
 have hz:Rep.sz Fil=3:=rfl
 rw [hz] at hl
 refine .s<|.g<|.r 1<|.d<|.s<|.g<|.r 5<|RG.ZL (t:=32) (k:=.i64) (k2:=.i64) (k3:=.i64) (a:=some ⟨r,0,none⟩) (len:=n) (cap:=c) (i1:=(i:Int)) (i2:=(i:Int)+1) (i3:=(n:Int)) (sz:=3) i (i+1) n AA AA rfl AB rfl AB AB hle fun v_=>.d<|.s<|.s<|.g<|.r 2<|.eq (i:Int) ((i:Int)+1) (fun h=>absurd (show False by omega) id) fun _=>.d<|.cf<|.sk<|.s<|.g<|.r 3<|.d<|.s<|.gd (one r) 7 fun w1 hx1=>?_
 refine .r [0,1]<|GA.H5 (i:=2) (t:=32) (r:=r) (o:=0) (len:=n) (cap:=c) (lo:=none) (hi:=some (vI (i:Int))) (sz:=3) 0 i AA AA AA (.inl ⟨rfl,rfl⟩) (.inr ⟨_,_,rfl,rfl⟩) AB AB AB<|.r [3,4]<|GA.ZM (i:=5) (t:=32) (r:=r) (len:=n) (cap:=c) (lo:=some (vI ((i:Int)+1))) (hi:=none) (sz:=3) (i+1) n AA AA AA (.inr ⟨_,_,rfl,by omega⟩) (.inl ⟨rfl,rfl⟩) AB AB fun a2 c2 h2=>?_
 refine .go 6<|GE.append (T:=32) (ty:=32) (args:=[.slice (some ⟨r,0,none⟩) i c,.slice a2 (n - (i+1)) c2]) AA fun w2 hx2=>?_
 have hx12:Ext w w2:=hx1.trans hx2
 have m1:(i+1) * 3+(n - (i+1)) * 3=n * 3:=by omega
 have hB2:=hB.ext hx12
 obtain ⟨w3,hr,hB3,hx3⟩:=PJ (P:=Tryz.prog) (T:=32) (ty:=32) (t:=142) (sz:=3) (i:=i) (c:=c) (m:=n - (i+1)) (c':=c2) (a2:=a2) (vs:=(cs.drop ((i+1) * 3)).take ((n - (i+1)) * 3)) AA hB2
  (fun hp=>⟨_,h2 hp,fun k u hu=>by
   rw [add_lit]
   unfold Box at hB2
   simp only [World.cell?,hB2]
   rw [List.getElem?_take] at hu
   split at hu
   ·rw [List.getElem?_drop] at hu
    simpa using hu
   ·cases hu⟩) (by rw [List.length_take,List.length_drop]; omega) AB (by rw [List.length_take,List.length_drop]; omega) (fun v hv=>ho.Z0 (i:=i+1) hB v AB hv)
 refine ⟨_,w3,hr,hx3,.d fun w4 hx4=>.r 1<|.d<|.s<|.g<|.r 4<|?_⟩
 have hB4:=hB3.ext hx4
 have hlen:i+(n - (i+1))=n - 1:=by omega
 rw [hlen]
 refine RG.H5 (t:=32) (r:=r) (o:=0) (len:=n - 1) (cap:=c) (lo:=some (vI ((n - 1:Nat):Int))) (hi:=some (vI (n:Int))) (sz:=3) (n - 1) n AA AA (.inr ⟨_,_,rfl,rfl⟩) (.inr ⟨_,_,rfl,rfl⟩) AB AB AB ?_
 have h1:n - (n - 1)=1:=by omega
 rw [h1]
 have hl4:(BE cs (i * 3) ((cs.drop ((i+1) * 3)).take ((n - (i+1)) * 3))).length=c * 3:=by rw [EM (by rw [List.length_take,List.length_drop]; omega)]; exact hl
 obtain ⟨vs,w5,hr5,hv5,hB5,hx5⟩:=PK (P:=Tryz.prog) (T:=32) (ty:=0) (t:=142) (sz:=3) (o:=0+(n - 1) * 3) (c:=c - (n - 1)) AA hB4 AB
 rw [Nat.zero_add] at hB5
 have hd:=NJ (sz:=3) hl hi hle rfl hv5
 have hx:Chg (one r) w w5:=(((hx12.chg (S:=one r)).trans hx3).trans hx4.chg).trans hx5
 refine RG.clear (ats:=[32]) (ty:=0) (args:=[.slice (some ⟨r,0+(n - 1) * 3,none⟩) 1 (c - (n - 1))]) AA hr5<|.d<|.s<|.g<|.r 2<|.d<|.rt func177 results177 (.slice (some ⟨r,0,none⟩) (n - 1) c) ⟨⟨rfl,Own.UK ho hx hB hB5 (by rw [hz]; exact hd.1) hi (by rw [hz]; exact hd.2)⟩,hx⟩
end Go.Proofs.YtfninflnngpchaaGreatDoor
namespace Go.Proofs.YtfninflnngpchaaGreatDoor
set_option maxRecDepth 100000
set_option maxHeartbeats 4000000
variable {w:World} {F:Nat→Prop} {a1 a2 a3 a4:Option Addr} {n1 c1 n2 c2 n3 c3 n4 c4:Nat}
theorem KO (d:Dsk) (s:Stp){bx rb0:Nat}{nb0 cb0:Nat}(hob0:Own w rb0 142 (nin F [bx,rb0]) nb0 cb0 d.files){ab1:Option Addr}{nb1 cb1:Nat}(hrb1:RepS w (nin F [bx,rb0]) ab1 nb1 cb1 d.list){ab2:Option Addr}{nb2 cb2:Nat}(hrb2:RepS w (nin F [bx,rb0]) ab2 nb2 cb2 d.names) (hbx:Box w bx 35 [.slice (some ⟨rb0,0,none⟩) nb0 cb0,.slice ab1 nb1 cb1,.slice ab2 nb2 cb2,.int .i64 d.next]) (hnb0:Nb rb0 bx) (h1:RepS w (nin F [bx,rb0]) a1 n1 c1 s.part.ids) (h2:RepS w (nin F [bx,rb0]) a2 n2 c2 s.part.blocks) (h3:RepS w (nin F [bx,rb0]) a3 n3 c3 s.list) (h4:RepS w (nin F [bx,rb0]) a4 n4 c4 s.names) (p0:d.files.length≤1000) (p1:KV s) (p2:Cw s.part):Calls Tryz.prog 129 [.pointer (some ⟨bx,0,none⟩),.agg #[.int .i64 s.kind,.int .i64 s.num,.slice a1 n1 c1,.slice a2 n2 c2,.slice a3 n3 c3,.slice a4 n4 c4]].toArray w (Am fun rv w'=>(rv=.tuple #[]∧(∃ (ro0 no0 co0:Nat) (ao1:Option Addr) (no1 co1:Nat) (ao2:Option Addr) (no2 co2:Nat),Box w' bx 35 [.slice (some ⟨ro0,0,none⟩) no0 co0,.slice ao1 no1 co1,.slice ao2 no2 co2,.int .i64 (((doD d s)).next)]∧Own w' ro0 142 (nin (fo F w.heap.size) [bx,ro0]) no0 co0 (((doD d s)).files)∧OrB ro0 rb0 w.heap.size∧Nb ro0 bx∧RepS w' (nin (fo F w.heap.size) [bx,ro0]) ao1 no1 co1 (((doD d s)).list)∧RepS w' (nin (fo F w.heap.size) [bx,ro0]) ao2 no2 co2 (((doD d s)).names)))∧Chg (ins [bx,rb0]) w w'):=by
 refine goT func129 ?_
 have hcv_bx:Cov (ins [bx,rb0]) w bx:=Cov.mkI AI
 have hcv_rb0:Cov (ins [bx,rb0]) w rb0:=Cov.mkI AJ
 replace hob0:=hob0.base (G':=fo F w.heap.size) (fun _ _ h=>.inl h)
 have cU:=hob0.len
 obtain rfl:=hrb1.len
 replace hrb1:=hrb1.JP (s:=w.heap.size)
 obtain rfl:=hrb2.len
 replace hrb2:=hrb2.JP (s:=w.heap.size)
 obtain rfl:=h1.len
 replace h1:=h1.JP (s:=w.heap.size)
 obtain rfl:=h2.len
 replace h2:=h2.JP (s:=w.heap.size)
 obtain rfl:=h3.len
 replace h3:=h3.JP (s:=w.heap.size)
 have c7:=h3.max
 obtain rfl:=h4.len
 replace h4:=h4.JP (s:=w.heap.size)
 have c8:=h4.max
 refine .s<|.g<|.np 138 [vI s.kind,vI s.num,.slice a1 s.part.ids.length c1,.slice a2 s.part.blocks.length c2,.slice a3 s.list.length c3,.slice a4 s.names.length c4] fun ac aI aG aK ab co=>?_
 have bz:=Ab aG hob0.lt
 have da:=Ab aG hbx.lt
 replace ⟨hob0,hrb1,hrb2,hbx,h1,h2,h3,h4⟩:=(sn [bx,rb0] aK aG).g8 hob0 hrb1 hrb2 hbx h1 h2 h3 h4
 have aa:Chg (ins [bx,rb0]) w aI:=Chg.KT (Chg.refl (ins [bx,rb0]) w) aK
 refine .d<|.s<|.g<|.r 1<|.lb ab<|.d<|.b 0<|.s<|.g<|.eq s.kind 1 (fun cp=>?_) (fun cp=>?_)
 ·refine .r 1<|.d<|.ct<|.s ?_
  replace hrb1:=hrb1.Cn
  replace hrb2:=hrb2.Cn
  replace h1:=h1.Cn
  replace h2:=h2.Cn
  replace h3:=h3.Cn
  replace h4:=h4.Cn
  have bG:Cov (mtb [rb0] aI.heap.size) aI rb0:=⟨.inl (.inl AI)⟩
  have bH:Gb (bx+1) aI.heap.size:=hbx.lt
  have aL:Gb (ac+1) aI.heap.size:=ab.lt
  refine .gd (mtb [rb0] aI.heap.size) 13 fun db aM=>?_
  replace ⟨hob0,hrb1,hrb2,hbx,h1,h2,h3,h4,ab,aa⟩:=(se [ac,bx,rb0] aM).g10 hob0 hrb1 hrb2 hbx h1 h2 h3 h4 ab aa
  refine .r [0,1,2,3]<|.lb 4 hbx (C7 (all_cons (Nb.symm hnb0) all_nil) bH)<|.r [5]<|.lb 6 ab (C7 (all_cons bz all_nil) aL)<|.r [7]<|.ln 8 ab (C7 (all_cons bz all_nil) aL)<|.go 9<|.cl (fun aN aA=>As s.part (h1.ta.ext aA) (h2.ta.ext aA) p2 (w:=aN) (F:=all)) ?_
  intro aN aA
  replace ⟨hob0,hrb1,hrb2,hbx,h3,h4,ab,aa⟩:=(se [ac,bx,rb0] aA).g8 hob0 hrb1 hrb2 hbx h3 h4 ab aa
  rintro de df ⟨⟨_,rfl,⟨cq,dh,cr,cu,dj,cw,rfl,ah,ai⟩⟩,aC⟩
  have aD:=al3 ab.lt hbx.lt hob0.lt
  have aO:Gb w.heap.size aN.heap.size:=aa.size
  have hkeep_:=aC
  replace ⟨hob0,hrb1,hrb2,hbx,h3,h4,ab,aa⟩:=(se [ac,bx,rb0] aC).g8 hob0 hrb1 hrb2 hbx h3 h4 ab aa
  refine ⟨Ext.chg hkeep_,?_⟩
  have ah:=ah.fr aD aO
  replace ah:=ah.base (G':=fo F w.heap.size) (fun _ _ h=>.inr h)
  have cB:=ah.max
  have ai:=ai.fr aD aO
  replace ai:=ai.base (G':=fo F w.heap.size) (fun _ _ h=>.inr h)
  have cC:=ai.max
  have bI:=ah.len
  subst bI
  have bJ:=ai.len
  subst bJ
  refine .r [10]<|.go 11<|.ns 1 142 [vI s.num,.slice cq s.part.ids.length cr,.slice cu s.part.blocks.length cw] fun dm aP=>?_
  replace ⟨hob0,hrb1,hrb2,hbx,h3,h4,ab,ah,ai,aa⟩:=(se [ac,bx,rb0] aP).g10 hob0 hrb1 hrb2 hbx h3 h4 ab ah ai aa
  intro aQ dq ar aR aE bK
  have aS:=Ab ar hob0.lt
  have bL:=Ab ar hbx.lt
  have bM:=Ab ar ab.lt
  have bN:=Bq ar aa.size
  replace ⟨hob0,hrb1,hrb2,hbx,h3,h4,ab,ah,ai,aa⟩:=(se [ac,bx,rb0] aR).g10 hob0 hrb1 hrb2 hbx h3 h4 ab ah ai aa
  refine .go 12<|GE.append (T:=32) (ty:=32) (args:=[vS rb0 nb0 cb0,vS aQ 1 1]) AA fun dt aT=>?_
  replace ⟨hob0,hrb1,hrb2,hbx,h3,h4,ab,ah,ai,aE,aa⟩:=(se [ac,bx,rb0] aT).g11 hob0 hrb1 hrb2 hbx h3 h4 ab ah ai aE aa
  have aJ:nin (fo F w.heap.size) [ac,bx,rb0] aQ∧aQ≠rb0:=Fv (.inr bN) (all_cons bM (all_cons bL (all_cons aS all_nil))) aS
  obtain ⟨aB,bA,du,aU,af,aq,aF,bO⟩:=hob0.DJ (P:=Tryz.prog) (T:=32) (ty:=32) (y:=(⟨s.num,(⟨s.part.ids,s.part.blocks⟩:Prt)⟩:Fil)) AA aE ⟨_,_,_,_,_,_,rfl,ah.oi,ai.oi⟩ aJ AB
  refine ⟨_,_,aU,Chg.toS aF (Cov.toS bG),?_⟩
  have aV:=Bz aq hnb0 hbx.lt
  have bP:=IT aq hcv_rb0 aa.size
  replace ⟨hrb1,hrb2,hbx,h3,h4,ab,aa⟩:=(sa [ac,bx,rb0] aF aq).g7 hrb1 hrb2 hbx h3 h4 ab aa
  replace af:=af.rn rb0
  refine .d fun dv aW=>?_
  replace ⟨af,hrb1,hrb2,hbx,h3,h4,ab,aa⟩:=(se [ac,bx,aB] aW).g8 af hrb1 hrb2 hbx h3 h4 ab aa
  replace hrb1:=hrb1.BO
  replace hrb2:=hrb2.BO
  replace h3:=h3.BO
  replace h4:=h4.BO
  refine .r 2<|.ss 0 (vS aB (nb0+1) bA) hbx fun dw aX bQ bR=>?_
  replace ⟨af,hrb1,hrb2,h3,h4,ab,aa⟩:=(so [ac,bx,aB] aX).g7 af hrb1 hrb2 h3 h4 ab aa
  refine .d<|.g<|.r 2<|.lb ab<|RG.int (s.num+1) AA (by have q1:=p1.2.2.2; omega)<|.r 2<|.ss 3 (vI (s.num+1)) bQ fun dx aY bS bT=>?_
  replace ⟨af,hrb1,hrb2,h3,h4,ab,aa⟩:=(so [ac,bx,aB] aY).g7 af hrb1 hrb2 h3 h4 ab aa
  refine .d<|.ib 0<|T.HC func129 results129 ?_
  rw [show (doD d s)=(⟨(d.files++[(⟨s.num,(⟨s.part.ids,s.part.blocks⟩:Prt)⟩:Fil)]),d.list,d.names,s.num+1⟩:Dsk) from by (rw [FP ‹_›]; done)]
  exact ⟨⟨rfl,aB,(nb0+1),bA,ab1,d.list.length,cb1,ab2,d.names.length,cb2,bS,(Own.Aq af (all_cons AJ (all_cons AK all_nil))),(KD bP aV),aV,(RepS.Aq hrb1 (all_cons AJ (all_cons AK all_nil))),(RepS.Aq hrb2 (all_cons AJ (all_cons AK all_nil)))⟩,aa⟩
 refine .r 1<|.d<|.cf<|.s<|.g<|.eq s.kind 2 (fun bU=>?_) (fun bU=>?_)
 ·refine .r 1<|.d<|.ct<|.s<|.g<|.r 1<|.ns 0 3 [] fun aH cx ak aZ bV bW=>?_
  have bX:=Ab ak hob0.lt
  have bY:=Ab ak hbx.lt
  have bZ:=Ab ak ab.lt
  have b0:=Bq ak aa.size
  have cF:=aa.cn ak
  replace ⟨hob0,hrb1,hrb2,hbx,h3,h4,ab,aa⟩:=(sn [ac,bx,rb0] aZ ak).g8 hob0 hrb1 hrb2 hbx h3 h4 ab aa
  have b6:Own (α:=Int) cx aH 3 (nin (fo F w.heap.size) [aH,ac,bx,rb0]) 0 0 []:=Own.Ba bV
  refine .r 1<|.lb ab<|RG.DZ (T:=33) (ty:=33) Az b6 h3 AA AA (fun b h e=>h.2 (e▸AI)) (by (have:=p1.1; omega)) fun ao bB dy ae aj ba=>?_
  have cG:=Bz aj bX hob0.lt
  have cH:=Bz aj bY hbx.lt
  have cI:=Bz aj bZ ab.lt
  have b7:=Fj aj b0 aa.size
  replace ⟨hob0,hrb1,hrb2,hbx,h4,ab,aa⟩:=(sa [aH,ac,bx,rb0] ba aj).g7 hob0 hrb1 hrb2 hbx h4 ab aa
  replace ae:=ae.rn aH
  refine .r 2<|.ss 1 (vS ao (0+s.list.length) bB) hbx fun bC bd ax b8=>?_
  replace ⟨hob0,hrb1,hrb2,h4,ab,ae,aa⟩:=(so [ao,ac,bx,rb0] bd).g7 hob0 hrb1 hrb2 h4 ab ae aa
  refine .d<|.g<|.r 2<|.lb ab<|.cl (Ae s.names h4.ta (by have:=p1.2.1; omega) (by (intro n hn; have:=p1.2.2.1 n hn; omega)) (w:=bC) (F:=all)) ?_
  rintro dz dA ⟨⟨az,bD,bE,rfl,ag,am⟩,bg⟩
  have bh:=al4 ae.lt ab.lt ax.lt hob0.lt
  have b9:Gb w.heap.size bC.heap.size:=aa.size
  have cL:=C6 am hob0.lt
  have cM:=C6 am ax.lt
  have cN:=C6 am ab.lt
  have cO:=C6 am ae.lt
  have cd:=KS am aa.size
  replace ⟨hob0,hrb1,hrb2,ax,ab,ae,aa⟩:=(sz [ao,ac,bx,rb0] bg am).g7 hob0 hrb1 hrb2 ax ab ae aa
  replace ag:=Own.take (s0:=w.heap.size) (M:=[ao,ac,bx,rb0]) ag bh b9
  replace ag:=ag.base (G':=fo F w.heap.size) (fun _ _ h=>.inr h)
  refine .r 2<|.ss 2 (vS az bD bE) ax fun bF bi ce cg=>?_
  replace ⟨hob0,hrb1,hrb2,ab,ae,ag,aa⟩:=(so [az,ao,ac,bx,rb0] bi).g7 hob0 hrb1 hrb2 ab ae ag aa
  refine .d<|.ib 0 ?_
  have bj:=ae.sl (.inr b7)
  replace ⟨hob0,hrb1,hrb2,ag⟩:=(sd bF [az,ao,ac,bx,rb0] ao).g4 hob0 hrb1 hrb2 ag
  have cy:=ag.sl (.inr cd)
  replace ⟨hob0,hrb1,hrb2,bj⟩:=(sd bF [az,ac,bx,rb0] az).g4 hob0 hrb1 hrb2 bj
  refine T.HC func129 results129 ?_
  rw [show (doD d s)=(⟨d.files,([]++s.list),s.names,d.next⟩:Dsk) from by (rw [HN ‹_›]; rfl)]
  exact ⟨⟨rfl,rb0,nb0,cb0,(some ⟨ao,0,none⟩),(0+s.list.length),bB,(some ⟨az,0,none⟩),bD,bE,ce,(Own.Aq hob0 (all_cons AJ (all_cons AK all_nil))),(KD hcv_rb0 hnb0),hnb0,(RepS.Aq bj (all_cons AJ (all_cons AK all_nil))),(RepS.Aq cy (all_cons AJ (all_cons AK all_nil)))⟩,aa⟩
 refine .r 1<|.d<|.cf<|.s<|.g<|.eq s.kind 3 (fun ci=>?_) (fun ci=>?_)
 ·refine .r 1<|.d<|.ct<|.s<|.gd nil 5 fun dB bk=>?_
  replace ⟨hob0,hrb1,hrb2,hbx,ab,aa⟩:=(se [ac,bx,rb0] bk).g6 hob0 hrb1 hrb2 hbx ab aa
  refine .r [0,1]<|.ln 2 hbx id<|.r [3]<|.lb 4 ab id<|.d fun cz bm=>?_
  replace ⟨hob0,hrb1,hrb2,hbx,ab,aa⟩:=(se [ac,bx,rb0] bm).g6 hob0 hrb1 hrb2 hbx ab aa
  refine .cl (Cq d s.num (hob0.rep) hrb1.ta hrb2.ta (w:=cz) (F:=all)) ?_
  rintro dC dD ⟨rfl,bn⟩
  replace ⟨hob0,hrb1,hrb2,hbx,ab,aa⟩:=(se [ac,bx,rb0] bn).g6 hob0 hrb1 hrb2 hbx ab aa
  refine .r 1<|.d<|.s<|.gd nil 9 fun dE bo=>?_
  replace ⟨hob0,hrb1,hrb2,hbx,ab,aa⟩:=(se [ac,bx,rb0] bo).g6 hob0 hrb1 hrb2 hbx ab aa
  refine .r [0]<|GA.HB (i:=1) (At d s.num≥0) AA (fun cj=>?_) (fun cj=>?_)
  ·refine .r [2,3,4,5]<|.lb 6 hbx id<|.r [7]<|.lb 8 ab id<|.d fun cA bq=>?_
   replace ⟨hob0,hrb1,hrb2,hbx,aa⟩:=(se [ac,bx,rb0] bq).g5 hob0 hrb1 hrb2 hbx aa
   refine .cl (Cf d.list s.num hrb1.ta (w:=cA) (F:=all)) ?_
   rintro dF dG ⟨rfl,br⟩
   replace ⟨hob0,hrb1,hrb2,hbx,aa⟩:=(se [ac,bx,rb0] br).g5 hob0 hrb1 hrb2 hbx aa
   cases cR:(d.list.contains s.num)
   ·refine .r 2<|.d<|.ct<|.g<|.r 4<|.lb hbx<|.r 2<|RG.int (At d s.num+1) AA (by have q1:=p1.2.2.2; (have:=Ci d s.num; omega))<|.cl (KN (i:=(At d s.num).toNat) (a:=At d s.num) (b:=At d s.num+1) hob0 (by have:=Ci d s.num; have:=I2 d s.num; omega) (by have:=Ci d s.num; have:=I2 d s.num; omega) (by have:=Ci d s.num; have:=I2 d s.num; omega) (by have:=Ci d s.num; have:=I2 d s.num; omega)) ?_
    rintro dH dI ⟨⟨rfl,ay⟩,bu⟩
    replace ⟨hrb1,hrb2,hbx,aa⟩:=(so [ac,bx,rb0] bu).g4 hrb1 hrb2 hbx aa
    refine .r 2<|.ss 0 (vS rb0 (nb0 - 1) cb0) hbx fun dJ bv ck cm=>?_
    replace ⟨ay,hrb1,hrb2,aa⟩:=(so [ac,bx,rb0] bv).g4 ay hrb1 hrb2 aa
    refine .d<|.ib 0<|T.HC func129 results129 ?_
    rw [show (doD d s)=(⟨(d.files.take ((At d s.num).toNat)++d.files.drop ((At d s.num).toNat+1)),d.list,d.names,d.next⟩:Dsk) from by (rw [Fm ‹_›,QB ‹_› ‹_›]; done)]
    exact ⟨⟨rfl,rb0,(nb0 - 1),cb0,ab1,d.list.length,cb1,ab2,d.names.length,cb2,ck,(Own.Aq ay (all_cons AJ (all_cons AK all_nil))),(KD hcv_rb0 hnb0),hnb0,(RepS.Aq hrb1 (all_cons AJ (all_cons AK all_nil))),(RepS.Aq hrb2 (all_cons AJ (all_cons AK all_nil)))⟩,aa⟩
   refine .r 2<|.d<|.cf<|.sk<|.ib 0<|T.HC func129 results129 ?_
   rw [show (doD d s)=d from by (rw [Fm ‹_›,N5 (.inr ‹_›)]; done)]
   exact ⟨⟨rfl,rb0,nb0,cb0,ab1,d.list.length,cb1,ab2,d.names.length,cb2,hbx,(Own.Aq hob0 (all_cons AJ (all_cons AK all_nil))),(KD hcv_rb0 hnb0),hnb0,(RepS.Aq hrb1 (all_cons AJ (all_cons AK all_nil))),(RepS.Aq hrb2 (all_cons AJ (all_cons AK all_nil)))⟩,aa⟩
  refine .r [2]<|GA.skip AA fun dK bw=>?_
  replace ⟨hob0,hrb1,hrb2,hbx,aa⟩:=(se [ac,bx,rb0] bw).g5 hob0 hrb1 hrb2 hbx aa
  refine .r 3<|.d<|.cf<|.sk<|.ib 0<|T.HC func129 results129 ?_
  rw [show (doD d s)=d from by (rw [Fm ‹_›,N5 (.inl ‹_›)]; done)]
  exact ⟨⟨rfl,rb0,nb0,cb0,ab1,d.list.length,cb1,ab2,d.names.length,cb2,hbx,(Own.Aq hob0 (all_cons AJ (all_cons AK all_nil))),(KD hcv_rb0 hnb0),hnb0,(RepS.Aq hrb1 (all_cons AJ (all_cons AK all_nil))),(RepS.Aq hrb2 (all_cons AJ (all_cons AK all_nil)))⟩,aa⟩
 refine .r 1<|.d<|.cf<|.sk<|.ib 0<|T.HC func129 results129 ?_
 rw [show (doD d s)=d from by (rw [XD ‹_› ‹_› ‹_›]; done)]
 exact ⟨⟨rfl,rb0,nb0,cb0,ab1,d.list.length,cb1,ab2,d.names.length,cb2,hbx,(Own.Aq hob0 (all_cons AJ (all_cons AK all_nil))),(KD hcv_rb0 hnb0),hnb0,(RepS.Aq hrb1 (all_cons AJ (all_cons AK all_nil))),(RepS.Aq hrb2 (all_cons AJ (all_cons AK all_nil)))⟩,aa⟩
theorem En (d:Dsk) (h1:RepS w F a1 n1 c1 d.files) (h2:RepS w F a2 n2 c2 d.list) (h3:RepS w F a3 n3 c3 d.names) (p0:d.files.length≤1000) (p1:∀ f∈d.files,Cw f.part) (p2:d.list.length≤1000) (p3:d.names.length≤1000) (p4:∀ n∈d.names,n.length≤1000):Calls Tryz.prog 128 [.agg #[.slice a1 n1 c1,.slice a2 n2 c2,.slice a3 n3 c3,.int .i64 d.next]].toArray w (Am fun rv w'=>(∃ (r0 n0 c0:Nat) (a1:Option Addr) (n1 c1:Nat) (a2:Option Addr) (n2 c2:Nat),rv=.agg #[.slice (some ⟨r0,0,none⟩) n0 c0,.slice a1 n1 c1,.slice a2 n2 c2,.int .i64 (d.next)]∧Own w' r0 142 (nin (ge w.heap.size) [r0]) n0 c0 (d.files)∧w.heap.size≤r0∧RepS w' (nin (ge w.heap.size) [r0]) a1 n1 c1 (d.list)∧RepS w' (nin (ge w.heap.size) [r0]) a2 n2 c2 (d.names))∧Ext w w'):=by
 cases h1.len
 cases h2.len
 cases h3.len
 refine goT func128 ?_
 have Z:=(((St.i0 F w).p h1).p h2).p h3
 refine .s<|.g<|RG.Np Z fun ag w Z=>RG.Np Z fun af w Z=>.d<|.s<|T.GS 12 [af,ag] Z fun _ w Z=>.r [2]<|GA.Lb (q:=1) 3 1 Z<|.r [5]<|GA.Lb (q:=1) 6 1 Z<|.r [8]<|GA.Lb (q:=1) 9 1 Z<|GE.many [0,1,11] AA (all_cons ?_ (all_cons ?_ (all_cons ?_ all_nil)))
 ·refine GE.N0 Fil 0 Z fun bT w Z=>.tw 1 11 ?_ ?_
  ·refine GE.N0 Int 0 Z fun nX w Z=>.tw 4 11 ?_ ?_
   ·refine GE.An (hf:=.inr Az) 0 1 ([]:List Int) d.list [2,3] Z fun cF cG w Z=>.tw 7 11 ?_ ?_
    ·refine GE.CO 0 (fun w Z=>Ae d.names (Z.a 0) AB (fun n hn=>by have:=p4 n hn; omega)) Z fun fN fO w Z=>.r [10]<|.go 11<|GE.Np Z fun b8 w Z=>GA.Do Z fun w Z=>RG.Ss 0 Z fun w Z=>.d<|.s<|.s<|.g<|.r 1<|RG.Lb 5 Z<|.r 2<|.d<|.b 0<|T.Lp ((0:Nat),([]:List Fil),bT,(0:Nat),(([]++d.list):List Int),cF,cG,(d.names:List (List Tag)),fN,fO,d.next) (fun (k,aa,r_out_0,c_out_0,ab,r_out_1,c_out_1,ac,r_out_2,c_out_2,ae)=>([(2,vP af),(3,vP b8),(18,.slice a1 d.files.length c1),(19,vI (d.files.length:Int)),(20,vI (k:Int))],[(0,.box b8 35 [vS r_out_0 aa.length c_out_0,vS r_out_1 ab.length c_out_1,vS r_out_2 ac.length c_out_2,vI ae]),(1,.own 0 r_out_2 52 c_out_2 ac),(2,.own 0 r_out_1 3 c_out_1 ab),(3,.own 0 r_out_0 142 c_out_0 aa)],[],d.files.length - k,(k≤d.files.length)∧(aa.length≤k)∧(aa++d.files.drop k=d.files)∧(ab=d.list)∧(ac=d.names)∧(ae=d.next))) [] Z ⟨AB,AD,AF,AF,AF,AB⟩ ?_
     rintro ⟨k,aa,r_out_0,c_out_0,ab,r_out_1,c_out_1,ac,r_out_2,c_out_2,ae⟩ nY w Z ⟨jA,jB,jC,jD,jE,jF⟩ bk
     refine .s<|.g<|.bp ((k:Int)< (d.files.length:Int)) (fun cH=>?_) (fun cH=>?_)
     ·refine .d<|.s<|.ct<|.sk<|.s<|.b 1<|.s<|.g<|gx d.files k fun b9 aM=>?_
      have jG:=drop_at aM; have fK:=AV aM
      exact RG.Ix 2 aM Z<|Z.el 2 aM fun nZ n7 n8 n9 Z=>RG.Lg 0 0 Z<|RG.Np Z fun fP w Z=>RG.Ss 0 Z fun w Z=>.d<|T.GS 9 [fP,b8,af,ag] Z fun _ w Z=>.r [0]<|GA.Lb (q:=1) 1 1 Z<|.r [2]<|GA.Lb 3 0 Z<|.r [4]<|GA.Ln 5 0 Z<|.go 6<|GE.CS (fun w Z=>As b9.part (Z.a 1) (Z.a 2) (p1 _ ‹_›)) Z fun oc od oe og w Z=>.r [7]<|.go 8<|GE.Nb 1 Z fun oh w Z=>GA.Do Z fun w Z=>RG.Ap 4 0 aa b9 [0,1] Z fun fQ fR w Z=>.r 1<|RG.Ss 1 Z fun w Z=>.d<|.ib 1<|.g<|.it ((k:Int)+1)<|.r 1<|.d<|bk (k+1,(aa++[b9]),fQ,fR,ab,r_out_1,c_out_1,ac,r_out_2,c_out_2,ae) _ _ AA (Z.to 1 [] 5) ⟨AB,(by (simp; omega)),(by exact Cs ‹_› ‹_›),‹_›,‹_›,‹_›⟩ (by (simp only []; omega))
     refine .d<|.s<|.cf<|.x 0 rfl<|.s<|.g<|RG.Ln 0 Z<|RG.Ss 4 Z fun w Z=>.d ?_
     have Z:=(Z.sl 2).sl 1
     exact T.Rb 2 func128 results128 Z ⟨⟨r_out_0,aa.length,c_out_0,(some ⟨r_out_1,0,none⟩),ab.length,c_out_1,(some ⟨r_out_2,0,none⟩),ac.length,c_out_2,(by rw [show d.next=ae from Eq.symm ‹_›]; kernel_rfl),Z.qo [1] 1 aa (by exact CN ‹_› AB),Z.qb 1,Z.qr [1] 1 ab ‹_›,Z.qr [1] 0 ac ‹_›⟩,Z.xt⟩
    refine GE.Np Z fun cd w Z=>.go 7<|GE.CO 0 (fun w Z=>Ae d.names (Z.a 0) AB (fun n hn=>by have:=p4 n hn; omega)) Z fun fS fT w Z=>.r [10]<|GA.Do Z fun w Z=>RG.Ss 1 Z fun w Z=>.d<|.s<|.s<|.g<|.r 1<|RG.Lb 5 Z<|.r 2<|.d<|.b 0<|T.Lp ((0:Nat),([]:List Fil),bT,(0:Nat),(([]++d.list):List Int),cF,cG,(d.names:List (List Tag)),fS,fT,d.next) (fun (k,aa,r_out_0,c_out_0,ab,r_out_1,c_out_1,ac,r_out_2,c_out_2,ae)=>([(2,vP af),(3,vP cd),(18,.slice a1 d.files.length c1),(19,vI (d.files.length:Int)),(20,vI (k:Int))],[(0,.own 0 r_out_2 52 c_out_2 ac),(1,.box cd 35 [vS r_out_0 aa.length c_out_0,vS r_out_1 ab.length c_out_1,vS r_out_2 ac.length c_out_2,vI ae]),(2,.own 0 r_out_1 3 c_out_1 ab),(3,.own 0 r_out_0 142 c_out_0 aa)],[],d.files.length - k,(k≤d.files.length)∧(aa.length≤k)∧(aa++d.files.drop k=d.files)∧(ab=d.list)∧(ac=d.names)∧(ae=d.next))) [] Z ⟨AB,AD,AF,AF,AF,AB⟩ ?_
    rintro ⟨k,aa,r_out_0,c_out_0,ab,r_out_1,c_out_1,ac,r_out_2,c_out_2,ae⟩ ol w Z ⟨jH,jI,jJ,jK,jL,jM⟩ bm
    refine .s<|.g<|.bp ((k:Int)< (d.files.length:Int)) (fun cI=>?_) (fun cI=>?_)
    ·refine .d<|.s<|.ct<|.sk<|.s<|.b 1<|.s<|.g<|gx d.files k fun ce aN=>?_
     have jN:=drop_at aN; have fM:=AV aN
     exact RG.Ix 2 aN Z<|Z.el 2 aN fun om oo oq ov Z=>RG.Lg 0 0 Z<|RG.Np Z fun fU w Z=>RG.Ss 0 Z fun w Z=>.d<|T.GS 9 [fU,cd,af,ag] Z fun _ w Z=>.r [0]<|GA.Lb (q:=1) 1 2 Z<|.r [2]<|GA.Lb 3 0 Z<|.r [4]<|GA.Ln 5 0 Z<|.go 6<|GE.CS (fun w Z=>As ce.part (Z.a 1) (Z.a 2) (p1 _ ‹_›)) Z fun oz oA oB oC w Z=>.r [7]<|.go 8<|GE.Nb 1 Z fun oD w Z=>GA.Do Z fun w Z=>RG.Ap 4 0 aa ce [0,1] Z fun fV fW w Z=>.r 1<|RG.Ss 2 Z fun w Z=>.d<|.ib 1<|.g<|.it ((k:Int)+1)<|.r 1<|.d<|bm (k+1,(aa++[ce]),fV,fW,ab,r_out_1,c_out_1,ac,r_out_2,c_out_2,ae) _ _ AA (Z.to 1 [] 5) ⟨AB,(by (simp; omega)),(by exact Cs ‹_› ‹_›),‹_›,‹_›,‹_›⟩ (by (simp only []; omega))
    refine .d<|.s<|.cf<|.x 0 rfl<|.s<|.g<|RG.Ln 1 Z<|RG.Ss 4 Z fun w Z=>.d ?_
    have Z:=(Z.sl 2).sl 0
    exact T.Rb 2 func128 results128 Z ⟨⟨r_out_0,aa.length,c_out_0,(some ⟨r_out_1,0,none⟩),ab.length,c_out_1,(some ⟨r_out_2,0,none⟩),ac.length,c_out_2,(by rw [show d.next=ae from Eq.symm ‹_›]; kernel_rfl),Z.qo [1] 1 aa (by exact CN ‹_› AB),Z.qb 1,Z.qr [1] 1 ab ‹_›,Z.qr [1] 0 ac ‹_›⟩,Z.xt⟩
   refine GE.Np Z fun cg w Z=>.go 4<|GE.An (hf:=.inr Az) 1 1 ([]:List Int) d.list [3,4] Z fun fX fY w Z=>.go 7<|GE.CO 0 (fun w Z=>Ae d.names (Z.a 0) AB (fun n hn=>by have:=p4 n hn; omega)) Z fun fZ f5 w Z=>.r [10]<|GA.Do Z fun w Z=>RG.Ss 1 Z fun w Z=>.d<|.s<|.s<|.g<|.r 1<|RG.Lb 5 Z<|.r 2<|.d<|.b 0<|T.Lp ((0:Nat),([]:List Fil),bT,(0:Nat),(([]++d.list):List Int),fX,fY,(d.names:List (List Tag)),fZ,f5,d.next) (fun (k,aa,r_out_0,c_out_0,ab,r_out_1,c_out_1,ac,r_out_2,c_out_2,ae)=>([(2,vP af),(3,vP cg),(18,.slice a1 d.files.length c1),(19,vI (d.files.length:Int)),(20,vI (k:Int))],[(0,.own 0 r_out_2 52 c_out_2 ac),(1,.box cg 35 [vS r_out_0 aa.length c_out_0,vS r_out_1 ab.length c_out_1,vS r_out_2 ac.length c_out_2,vI ae]),(2,.own 0 r_out_1 3 c_out_1 ab),(3,.own 0 r_out_0 142 c_out_0 aa)],[],d.files.length - k,(k≤d.files.length)∧(aa.length≤k)∧(aa++d.files.drop k=d.files)∧(ab=d.list)∧(ac=d.names)∧(ae=d.next))) [] Z ⟨AB,AD,AF,AF,AF,AB⟩ ?_
   rintro ⟨k,aa,r_out_0,c_out_0,ab,r_out_1,c_out_1,ac,r_out_2,c_out_2,ae⟩ jO w Z ⟨jP,jQ,jR,jS,jT,jU⟩ aO
   refine .s<|.g<|.bp ((k:Int)< (d.files.length:Int)) (fun ci=>?_) (fun ci=>?_)
   ·refine .d<|.s<|.ct<|.sk<|.s<|.b 1<|.s<|.g<|gx d.files k fun bn ao=>?_
    have f6:=drop_at ao; have cJ:=AV ao
    exact RG.Ix 2 ao Z<|Z.el 2 ao fun jV jW jX jY Z=>RG.Lg 0 0 Z<|RG.Np Z fun cK w Z=>RG.Ss 0 Z fun w Z=>.d<|T.GS 9 [cK,cg,af,ag] Z fun _ w Z=>.r [0]<|GA.Lb (q:=1) 1 2 Z<|.r [2]<|GA.Lb 3 0 Z<|.r [4]<|GA.Ln 5 0 Z<|.go 6<|GE.CS (fun w Z=>As bn.part (Z.a 1) (Z.a 2) (p1 _ ‹_›)) Z fun jZ j0 j1 j2 w Z=>.r [7]<|.go 8<|GE.Nb 1 Z fun j3 w Z=>GA.Do Z fun w Z=>RG.Ap 4 0 aa bn [0,1] Z fun cL cM w Z=>.r 1<|RG.Ss 2 Z fun w Z=>.d<|.ib 1<|.g<|.it ((k:Int)+1)<|.r 1<|.d<|aO (k+1,(aa++[bn]),cL,cM,ab,r_out_1,c_out_1,ac,r_out_2,c_out_2,ae) _ _ AA (Z.to 1 [] 5) ⟨AB,(by (simp; omega)),(by exact Cs ‹_› ‹_›),‹_›,‹_›,‹_›⟩ (by (simp only []; omega))
   refine .d<|.s<|.cf<|.x 0 rfl<|.s<|.g<|RG.Ln 1 Z<|RG.Ss 4 Z fun w Z=>.d ?_
   have Z:=(Z.sl 2).sl 0
   exact T.Rb 2 func128 results128 Z ⟨⟨r_out_0,aa.length,c_out_0,(some ⟨r_out_1,0,none⟩),ab.length,c_out_1,(some ⟨r_out_2,0,none⟩),ac.length,c_out_2,(by rw [show d.next=ae from Eq.symm ‹_›]; kernel_rfl),Z.qo [1] 1 aa (by exact CN ‹_› AB),Z.qb 1,Z.qr [1] 1 ab ‹_›,Z.qr [1] 0 ac ‹_›⟩,Z.xt⟩
  refine GE.Np Z fun bo w Z=>.go 1<|GE.N0 Int 0 Z fun j4 w Z=>.go 4<|GE.An (hf:=.inr Az) 0 1 ([]:List Int) d.list [3,4] Z fun cN cO w Z=>.go 7<|GE.CO 0 (fun w Z=>Ae d.names (Z.a 0) AB (fun n hn=>by have:=p4 n hn; omega)) Z fun cP cQ w Z=>.r [10]<|GA.Do Z fun w Z=>RG.Ss 2 Z fun w Z=>.d<|.s<|.s<|.g<|.r 1<|RG.Lb 5 Z<|.r 2<|.d<|.b 0<|T.Lp ((0:Nat),([]:List Fil),bT,(0:Nat),(([]++d.list):List Int),cN,cO,(d.names:List (List Tag)),cP,cQ,d.next) (fun (k,aa,r_out_0,c_out_0,ab,r_out_1,c_out_1,ac,r_out_2,c_out_2,ae)=>([(2,vP af),(3,vP bo),(18,.slice a1 d.files.length c1),(19,vI (d.files.length:Int)),(20,vI (k:Int))],[(0,.own 0 r_out_2 52 c_out_2 ac),(1,.own 0 r_out_1 3 c_out_1 ab),(2,.box bo 35 [vS r_out_0 aa.length c_out_0,vS r_out_1 ab.length c_out_1,vS r_out_2 ac.length c_out_2,vI ae]),(3,.own 0 r_out_0 142 c_out_0 aa)],[],d.files.length - k,(k≤d.files.length)∧(aa.length≤k)∧(aa++d.files.drop k=d.files)∧(ab=d.list)∧(ac=d.names)∧(ae=d.next))) [] Z ⟨AB,AD,AF,AF,AF,AB⟩ ?_
  rintro ⟨k,aa,r_out_0,c_out_0,ab,r_out_1,c_out_1,ac,r_out_2,c_out_2,ae⟩ j5 w Z ⟨f7,f8,f9,gb,gf,gh⟩ aP
  refine .s<|.g<|.bp ((k:Int)< (d.files.length:Int)) (fun cj=>?_) (fun cj=>?_)
  ·refine .d<|.s<|.ct<|.sk<|.s<|.b 1<|.s<|.g<|gx d.files k fun bq aq=>?_
   have gi:=drop_at aq; have cR:=AV aq
   exact RG.Ix 2 aq Z<|Z.el 2 aq fun j6 j7 j8 j9 Z=>RG.Lg 0 0 Z<|RG.Np Z fun cS w Z=>RG.Ss 0 Z fun w Z=>.d<|T.GS 9 [cS,bo,af,ag] Z fun _ w Z=>.r [0]<|GA.Lb (q:=1) 1 3 Z<|.r [2]<|GA.Lb 3 0 Z<|.r [4]<|GA.Ln 5 0 Z<|.go 6<|GE.CS (fun w Z=>As bq.part (Z.a 1) (Z.a 2) (p1 _ ‹_›)) Z fun ka kb kd ke w Z=>.r [7]<|.go 8<|GE.Nb 1 Z fun kf w Z=>GA.Do Z fun w Z=>RG.Ap 4 0 aa bq [0,1] Z fun cT cU w Z=>.r 1<|RG.Ss 3 Z fun w Z=>.d<|.ib 1<|.g<|.it ((k:Int)+1)<|.r 1<|.d<|aP (k+1,(aa++[bq]),cT,cU,ab,r_out_1,c_out_1,ac,r_out_2,c_out_2,ae) _ _ AA (Z.to 1 [] 5) ⟨AB,(by (simp; omega)),(by exact Cs ‹_› ‹_›),‹_›,‹_›,‹_›⟩ (by (simp only []; omega))
  refine .d<|.s<|.cf<|.x 0 rfl<|.s<|.g<|RG.Ln 2 Z<|RG.Ss 4 Z fun w Z=>.d ?_
  have Z:=(Z.sl 1).sl 0
  exact T.Rb 2 func128 results128 Z ⟨⟨r_out_0,aa.length,c_out_0,(some ⟨r_out_1,0,none⟩),ab.length,c_out_1,(some ⟨r_out_2,0,none⟩),ac.length,c_out_2,(by rw [show d.next=ae from Eq.symm ‹_›]; kernel_rfl),Z.qo [1] 1 aa (by exact CN ‹_› AB),Z.qb 1,Z.qr [1] 1 ab ‹_›,Z.qr [1] 0 ac ‹_›⟩,Z.xt⟩
 ·refine GE.N0 Int 0 Z fun kg w Z=>GE.many [0,4,11] AA (all_cons ?_ (all_cons ?_ (all_cons ?_ all_nil)))
  ·refine GE.N0 Fil 0 Z fun br w Z=>.tw 4 11 ?_ ?_
   ·refine GE.An (hf:=.inr Az) 1 1 ([]:List Int) d.list [2,3] Z fun bU bV w Z=>.tw 7 11 ?_ ?_
    ·refine GE.CO 0 (fun w Z=>Ae d.names (Z.a 0) AB (fun n hn=>by have:=p4 n hn; omega)) Z fun cV cW w Z=>.r [10]<|.go 11<|GE.Np Z fun bu w Z=>GA.Do Z fun w Z=>RG.Ss 0 Z fun w Z=>.d<|.s<|.s<|.g<|.r 1<|RG.Lb 5 Z<|.r 2<|.d<|.b 0<|T.Lp ((0:Nat),([]:List Fil),br,(0:Nat),(([]++d.list):List Int),bU,bV,(d.names:List (List Tag)),cV,cW,d.next) (fun (k,aa,r_out_0,c_out_0,ab,r_out_1,c_out_1,ac,r_out_2,c_out_2,ae)=>([(2,vP af),(3,vP bu),(18,.slice a1 d.files.length c1),(19,vI (d.files.length:Int)),(20,vI (k:Int))],[(0,.box bu 35 [vS r_out_0 aa.length c_out_0,vS r_out_1 ab.length c_out_1,vS r_out_2 ac.length c_out_2,vI ae]),(1,.own 0 r_out_2 52 c_out_2 ac),(2,.own 0 r_out_0 142 c_out_0 aa),(3,.own 0 r_out_1 3 c_out_1 ab)],[],d.files.length - k,(k≤d.files.length)∧(aa.length≤k)∧(aa++d.files.drop k=d.files)∧(ab=d.list)∧(ac=d.names)∧(ae=d.next))) [] Z ⟨AB,AD,AF,AF,AF,AB⟩ ?_
     rintro ⟨k,aa,r_out_0,c_out_0,ab,r_out_1,c_out_1,ac,r_out_2,c_out_2,ae⟩ kh w Z ⟨gj,gk,gl,gm,gn,gp⟩ aQ
     refine .s<|.g<|.bp ((k:Int)< (d.files.length:Int)) (fun ck=>?_) (fun ck=>?_)
     ·refine .d<|.s<|.ct<|.sk<|.s<|.b 1<|.s<|.g<|gx d.files k fun bv ar=>?_
      have gq:=drop_at ar; have cX:=AV ar
      exact RG.Ix 2 ar Z<|Z.el 2 ar fun ki kj kl km Z=>RG.Lg 0 0 Z<|RG.Np Z fun cY w Z=>RG.Ss 0 Z fun w Z=>.d<|T.GS 9 [cY,bu,af,ag] Z fun _ w Z=>.r [0]<|GA.Lb (q:=1) 1 1 Z<|.r [2]<|GA.Lb 3 0 Z<|.r [4]<|GA.Ln 5 0 Z<|.go 6<|GE.CS (fun w Z=>As bv.part (Z.a 1) (Z.a 2) (p1 _ ‹_›)) Z fun ko kr ku kv w Z=>.r [7]<|.go 8<|GE.Nb 1 Z fun kw w Z=>GA.Do Z fun w Z=>RG.Ap 3 0 aa bv [0,1] Z fun cZ c7 w Z=>.r 1<|RG.Ss 1 Z fun w Z=>.d<|.ib 1<|.g<|.it ((k:Int)+1)<|.r 1<|.d<|aQ (k+1,(aa++[bv]),cZ,c7,ab,r_out_1,c_out_1,ac,r_out_2,c_out_2,ae) _ _ AA (Z.to 1 [] 5) ⟨AB,(by (simp; omega)),(by exact Cs ‹_› ‹_›),‹_›,‹_›,‹_›⟩ (by (simp only []; omega))
     refine .d<|.s<|.cf<|.x 0 rfl<|.s<|.g<|RG.Ln 0 Z<|RG.Ss 4 Z fun w Z=>.d ?_
     have Z:=(Z.sl 3).sl 1
     exact T.Rb 2 func128 results128 Z ⟨⟨r_out_0,aa.length,c_out_0,(some ⟨r_out_1,0,none⟩),ab.length,c_out_1,(some ⟨r_out_2,0,none⟩),ac.length,c_out_2,(by rw [show d.next=ae from Eq.symm ‹_›]; kernel_rfl),Z.qo [1] 1 aa (by exact CN ‹_› AB),Z.qb 1,Z.qr [1] 1 ab ‹_›,Z.qr [1] 0 ac ‹_›⟩,Z.xt⟩
    refine GE.Np Z fun bw w Z=>.go 7<|GE.CO 0 (fun w Z=>Ae d.names (Z.a 0) AB (fun n hn=>by have:=p4 n hn; omega)) Z fun c8 da w Z=>.r [10]<|GA.Do Z fun w Z=>RG.Ss 1 Z fun w Z=>.d<|.s<|.s<|.g<|.r 1<|RG.Lb 5 Z<|.r 2<|.d<|.b 0<|T.Lp ((0:Nat),([]:List Fil),br,(0:Nat),(([]++d.list):List Int),bU,bV,(d.names:List (List Tag)),c8,da,d.next) (fun (k,aa,r_out_0,c_out_0,ab,r_out_1,c_out_1,ac,r_out_2,c_out_2,ae)=>([(2,vP af),(3,vP bw),(18,.slice a1 d.files.length c1),(19,vI (d.files.length:Int)),(20,vI (k:Int))],[(0,.own 0 r_out_2 52 c_out_2 ac),(1,.box bw 35 [vS r_out_0 aa.length c_out_0,vS r_out_1 ab.length c_out_1,vS r_out_2 ac.length c_out_2,vI ae]),(2,.own 0 r_out_0 142 c_out_0 aa),(3,.own 0 r_out_1 3 c_out_1 ab)],[],d.files.length - k,(k≤d.files.length)∧(aa.length≤k)∧(aa++d.files.drop k=d.files)∧(ab=d.list)∧(ac=d.names)∧(ae=d.next))) [] Z ⟨AB,AD,AF,AF,AF,AB⟩ ?_
    rintro ⟨k,aa,r_out_0,c_out_0,ab,r_out_1,c_out_1,ac,r_out_2,c_out_2,ae⟩ kx w Z ⟨gr,gs,gt,gu,gv,gw⟩ aR
    refine .s<|.g<|.bp ((k:Int)< (d.files.length:Int)) (fun cm=>?_) (fun cm=>?_)
    ·refine .d<|.s<|.ct<|.sk<|.s<|.b 1<|.s<|.g<|gx d.files k fun bz ax=>?_
     have gy:=drop_at ax; have db:=AV ax
     exact RG.Ix 2 ax Z<|Z.el 2 ax fun ky kz kA kB Z=>RG.Lg 0 0 Z<|RG.Np Z fun de w Z=>RG.Ss 0 Z fun w Z=>.d<|T.GS 9 [de,bw,af,ag] Z fun _ w Z=>.r [0]<|GA.Lb (q:=1) 1 2 Z<|.r [2]<|GA.Lb 3 0 Z<|.r [4]<|GA.Ln 5 0 Z<|.go 6<|GE.CS (fun w Z=>As bz.part (Z.a 1) (Z.a 2) (p1 _ ‹_›)) Z fun kC kD kE kF w Z=>.r [7]<|.go 8<|GE.Nb 1 Z fun kG w Z=>GA.Do Z fun w Z=>RG.Ap 3 0 aa bz [0,1] Z fun df dh w Z=>.r 1<|RG.Ss 2 Z fun w Z=>.d<|.ib 1<|.g<|.it ((k:Int)+1)<|.r 1<|.d<|aR (k+1,(aa++[bz]),df,dh,ab,r_out_1,c_out_1,ac,r_out_2,c_out_2,ae) _ _ AA (Z.to 1 [] 5) ⟨AB,(by (simp; omega)),(by exact Cs ‹_› ‹_›),‹_›,‹_›,‹_›⟩ (by (simp only []; omega))
    refine .d<|.s<|.cf<|.x 0 rfl<|.s<|.g<|RG.Ln 1 Z<|RG.Ss 4 Z fun w Z=>.d ?_
    have Z:=(Z.sl 3).sl 0
    exact T.Rb 2 func128 results128 Z ⟨⟨r_out_0,aa.length,c_out_0,(some ⟨r_out_1,0,none⟩),ab.length,c_out_1,(some ⟨r_out_2,0,none⟩),ac.length,c_out_2,(by rw [show d.next=ae from Eq.symm ‹_›]; kernel_rfl),Z.qo [1] 1 aa (by exact CN ‹_› AB),Z.qb 1,Z.qr [1] 1 ab ‹_›,Z.qr [1] 0 ac ‹_›⟩,Z.xt⟩
   refine GE.Np Z fun bA w Z=>.go 4<|GE.An (hf:=.inr Az) 2 1 ([]:List Int) d.list [3,4] Z fun dj dm w Z=>.go 7<|GE.CO 0 (fun w Z=>Ae d.names (Z.a 0) AB (fun n hn=>by have:=p4 n hn; omega)) Z fun dq dt w Z=>.r [10]<|GA.Do Z fun w Z=>RG.Ss 1 Z fun w Z=>.d<|.s<|.s<|.g<|.r 1<|RG.Lb 5 Z<|.r 2<|.d<|.b 0<|T.Lp ((0:Nat),([]:List Fil),br,(0:Nat),(([]++d.list):List Int),dj,dm,(d.names:List (List Tag)),dq,dt,d.next) (fun (k,aa,r_out_0,c_out_0,ab,r_out_1,c_out_1,ac,r_out_2,c_out_2,ae)=>([(2,vP af),(3,vP bA),(18,.slice a1 d.files.length c1),(19,vI (d.files.length:Int)),(20,vI (k:Int))],[(0,.own 0 r_out_2 52 c_out_2 ac),(1,.box bA 35 [vS r_out_0 aa.length c_out_0,vS r_out_1 ab.length c_out_1,vS r_out_2 ac.length c_out_2,vI ae]),(2,.own 0 r_out_0 142 c_out_0 aa),(3,.own 0 r_out_1 3 c_out_1 ab)],[],d.files.length - k,(k≤d.files.length)∧(aa.length≤k)∧(aa++d.files.drop k=d.files)∧(ab=d.list)∧(ac=d.names)∧(ae=d.next))) [] Z ⟨AB,AD,AF,AF,AF,AB⟩ ?_
   rintro ⟨k,aa,r_out_0,c_out_0,ab,r_out_1,c_out_1,ac,r_out_2,c_out_2,ae⟩ kH w Z ⟨gz,gA,gC,gD,gE,gF⟩ aS
   refine .s<|.g<|.bp ((k:Int)< (d.files.length:Int)) (fun co=>?_) (fun co=>?_)
   ·refine .d<|.s<|.ct<|.sk<|.s<|.b 1<|.s<|.g<|gx d.files k fun bB ay=>?_
    have gG:=drop_at ay; have du:=AV ay
    exact RG.Ix 2 ay Z<|Z.el 2 ay fun kI kJ kK kL Z=>RG.Lg 0 0 Z<|RG.Np Z fun dv w Z=>RG.Ss 0 Z fun w Z=>.d<|T.GS 9 [dv,bA,af,ag] Z fun _ w Z=>.r [0]<|GA.Lb (q:=1) 1 2 Z<|.r [2]<|GA.Lb 3 0 Z<|.r [4]<|GA.Ln 5 0 Z<|.go 6<|GE.CS (fun w Z=>As bB.part (Z.a 1) (Z.a 2) (p1 _ ‹_›)) Z fun kM kN kO kP w Z=>.r [7]<|.go 8<|GE.Nb 1 Z fun kQ w Z=>GA.Do Z fun w Z=>RG.Ap 3 0 aa bB [0,1] Z fun dw dx w Z=>.r 1<|RG.Ss 2 Z fun w Z=>.d<|.ib 1<|.g<|.it ((k:Int)+1)<|.r 1<|.d<|aS (k+1,(aa++[bB]),dw,dx,ab,r_out_1,c_out_1,ac,r_out_2,c_out_2,ae) _ _ AA (Z.to 1 [] 5) ⟨AB,(by (simp; omega)),(by exact Cs ‹_› ‹_›),‹_›,‹_›,‹_›⟩ (by (simp only []; omega))
   refine .d<|.s<|.cf<|.x 0 rfl<|.s<|.g<|RG.Ln 1 Z<|RG.Ss 4 Z fun w Z=>.d ?_
   have Z:=(Z.sl 3).sl 0
   exact T.Rb 2 func128 results128 Z ⟨⟨r_out_0,aa.length,c_out_0,(some ⟨r_out_1,0,none⟩),ab.length,c_out_1,(some ⟨r_out_2,0,none⟩),ac.length,c_out_2,(by rw [show d.next=ae from Eq.symm ‹_›]; kernel_rfl),Z.qo [1] 1 aa (by exact CN ‹_› AB),Z.qb 1,Z.qr [1] 1 ab ‹_›,Z.qr [1] 0 ac ‹_›⟩,Z.xt⟩
  ·refine GE.An (hf:=.inr Az) 0 1 ([]:List Int) d.list [1,2] Z fun aj ak w Z=>GE.many [0,7,11] AA (all_cons ?_ (all_cons ?_ (all_cons ?_ all_nil)))
   ·refine GE.N0 Fil 0 Z fun bW w Z=>.tw 7 11 ?_ ?_
    ·refine GE.CO 0 (fun w Z=>Ae d.names (Z.a 0) AB (fun n hn=>by have:=p4 n hn; omega)) Z fun dy dz w Z=>.r [10]<|.go 11<|GE.Np Z fun bC w Z=>GA.Do Z fun w Z=>RG.Ss 0 Z fun w Z=>.d<|.s<|.s<|.g<|.r 1<|RG.Lb 5 Z<|.r 2<|.d<|.b 0<|T.Lp ((0:Nat),([]:List Fil),bW,(0:Nat),(([]++d.list):List Int),aj,ak,(d.names:List (List Tag)),dy,dz,d.next) (fun (k,aa,r_out_0,c_out_0,ab,r_out_1,c_out_1,ac,r_out_2,c_out_2,ae)=>([(2,vP af),(3,vP bC),(18,.slice a1 d.files.length c1),(19,vI (d.files.length:Int)),(20,vI (k:Int))],[(0,.box bC 35 [vS r_out_0 aa.length c_out_0,vS r_out_1 ab.length c_out_1,vS r_out_2 ac.length c_out_2,vI ae]),(1,.own 0 r_out_2 52 c_out_2 ac),(2,.own 0 r_out_0 142 c_out_0 aa),(3,.own 0 r_out_1 3 c_out_1 ab)],[],d.files.length - k,(k≤d.files.length)∧(aa.length≤k)∧(aa++d.files.drop k=d.files)∧(ab=d.list)∧(ac=d.names)∧(ae=d.next))) [] Z ⟨AB,AD,AF,AF,AF,AB⟩ ?_
     rintro ⟨k,aa,r_out_0,c_out_0,ab,r_out_1,c_out_1,ac,r_out_2,c_out_2,ae⟩ kR w Z ⟨gH,gI,gJ,gK,gL,gM⟩ aT
     refine .s<|.g<|.bp ((k:Int)< (d.files.length:Int)) (fun cp=>?_) (fun cp=>?_)
     ·refine .d<|.s<|.ct<|.sk<|.s<|.b 1<|.s<|.g<|gx d.files k fun bD az=>?_
      have gN:=drop_at az; have dA:=AV az
      exact RG.Ix 2 az Z<|Z.el 2 az fun kS kT kU kV Z=>RG.Lg 0 0 Z<|RG.Np Z fun dB w Z=>RG.Ss 0 Z fun w Z=>.d<|T.GS 9 [dB,bC,af,ag] Z fun _ w Z=>.r [0]<|GA.Lb (q:=1) 1 1 Z<|.r [2]<|GA.Lb 3 0 Z<|.r [4]<|GA.Ln 5 0 Z<|.go 6<|GE.CS (fun w Z=>As bD.part (Z.a 1) (Z.a 2) (p1 _ ‹_›)) Z fun kW kX kY kZ w Z=>.r [7]<|.go 8<|GE.Nb 1 Z fun k5 w Z=>GA.Do Z fun w Z=>RG.Ap 3 0 aa bD [0,1] Z fun dC dD w Z=>.r 1<|RG.Ss 1 Z fun w Z=>.d<|.ib 1<|.g<|.it ((k:Int)+1)<|.r 1<|.d<|aT (k+1,(aa++[bD]),dC,dD,ab,r_out_1,c_out_1,ac,r_out_2,c_out_2,ae) _ _ AA (Z.to 1 [] 5) ⟨AB,(by (simp; omega)),(by exact Cs ‹_› ‹_›),‹_›,‹_›,‹_›⟩ (by (simp only []; omega))
     refine .d<|.s<|.cf<|.x 0 rfl<|.s<|.g<|RG.Ln 0 Z<|RG.Ss 4 Z fun w Z=>.d ?_
     have Z:=(Z.sl 3).sl 1
     exact T.Rb 2 func128 results128 Z ⟨⟨r_out_0,aa.length,c_out_0,(some ⟨r_out_1,0,none⟩),ab.length,c_out_1,(some ⟨r_out_2,0,none⟩),ac.length,c_out_2,(by rw [show d.next=ae from Eq.symm ‹_›]; kernel_rfl),Z.qo [1] 1 aa (by exact CN ‹_› AB),Z.qb 1,Z.qr [1] 1 ab ‹_›,Z.qr [1] 0 ac ‹_›⟩,Z.xt⟩
    refine GE.Np Z fun bE w Z=>.go 7<|GE.CO 0 (fun w Z=>Ae d.names (Z.a 0) AB (fun n hn=>by have:=p4 n hn; omega)) Z fun dE dF w Z=>.r [10]<|GA.Do Z fun w Z=>RG.Ss 1 Z fun w Z=>.d<|.s<|.s<|.g<|.r 1<|RG.Lb 5 Z<|.r 2<|.d<|.b 0<|T.Lp ((0:Nat),([]:List Fil),bW,(0:Nat),(([]++d.list):List Int),aj,ak,(d.names:List (List Tag)),dE,dF,d.next) (fun (k,aa,r_out_0,c_out_0,ab,r_out_1,c_out_1,ac,r_out_2,c_out_2,ae)=>([(2,vP af),(3,vP bE),(18,.slice a1 d.files.length c1),(19,vI (d.files.length:Int)),(20,vI (k:Int))],[(0,.own 0 r_out_2 52 c_out_2 ac),(1,.box bE 35 [vS r_out_0 aa.length c_out_0,vS r_out_1 ab.length c_out_1,vS r_out_2 ac.length c_out_2,vI ae]),(2,.own 0 r_out_0 142 c_out_0 aa),(3,.own 0 r_out_1 3 c_out_1 ab)],[],d.files.length - k,(k≤d.files.length)∧(aa.length≤k)∧(aa++d.files.drop k=d.files)∧(ab=d.list)∧(ac=d.names)∧(ae=d.next))) [] Z ⟨AB,AD,AF,AF,AF,AB⟩ ?_
    rintro ⟨k,aa,r_out_0,c_out_0,ab,r_out_1,c_out_1,ac,r_out_2,c_out_2,ae⟩ k6 w Z ⟨gO,gP,gQ,gR,gS,gT⟩ aU
    refine .s<|.g<|.bp ((k:Int)< (d.files.length:Int)) (fun cq=>?_) (fun cq=>?_)
    ·refine .d<|.s<|.ct<|.sk<|.s<|.b 1<|.s<|.g<|gx d.files k fun bF aA=>?_
     have gU:=drop_at aA; have dG:=AV aA
     exact RG.Ix 2 aA Z<|Z.el 2 aA fun k7 k8 lc ld Z=>RG.Lg 0 0 Z<|RG.Np Z fun dH w Z=>RG.Ss 0 Z fun w Z=>.d<|T.GS 9 [dH,bE,af,ag] Z fun _ w Z=>.r [0]<|GA.Lb (q:=1) 1 2 Z<|.r [2]<|GA.Lb 3 0 Z<|.r [4]<|GA.Ln 5 0 Z<|.go 6<|GE.CS (fun w Z=>As bF.part (Z.a 1) (Z.a 2) (p1 _ ‹_›)) Z fun lf li lj lk w Z=>.r [7]<|.go 8<|GE.Nb 1 Z fun ll w Z=>GA.Do Z fun w Z=>RG.Ap 3 0 aa bF [0,1] Z fun dI dJ w Z=>.r 1<|RG.Ss 2 Z fun w Z=>.d<|.ib 1<|.g<|.it ((k:Int)+1)<|.r 1<|.d<|aU (k+1,(aa++[bF]),dI,dJ,ab,r_out_1,c_out_1,ac,r_out_2,c_out_2,ae) _ _ AA (Z.to 1 [] 5) ⟨AB,(by (simp; omega)),(by exact Cs ‹_› ‹_›),‹_›,‹_›,‹_›⟩ (by (simp only []; omega))
    refine .d<|.s<|.cf<|.x 0 rfl<|.s<|.g<|RG.Ln 1 Z<|RG.Ss 4 Z fun w Z=>.d ?_
    have Z:=(Z.sl 3).sl 0
    exact T.Rb 2 func128 results128 Z ⟨⟨r_out_0,aa.length,c_out_0,(some ⟨r_out_1,0,none⟩),ab.length,c_out_1,(some ⟨r_out_2,0,none⟩),ac.length,c_out_2,(by rw [show d.next=ae from Eq.symm ‹_›]; kernel_rfl),Z.qo [1] 1 aa (by exact CN ‹_› AB),Z.qb 1,Z.qr [1] 1 ab ‹_›,Z.qr [1] 0 ac ‹_›⟩,Z.xt⟩
   ·refine GE.CO 0 (fun w Z=>Ae d.names (Z.a 0) AB (fun n hn=>by have:=p4 n hn; omega)) Z fun bX bY w Z=>.tw 0 11 ?_ ?_
    ·refine GE.N0 Fil 0 Z fun dK w Z=>.r [10]<|.go 11<|GE.Np Z fun bG w Z=>GA.Do Z fun w Z=>RG.Ss 0 Z fun w Z=>.d<|.s<|.s<|.g<|.r 1<|RG.Lb 5 Z<|.r 2<|.d<|.b 0<|T.Lp ((0:Nat),([]:List Fil),dK,(0:Nat),(([]++d.list):List Int),aj,ak,(d.names:List (List Tag)),bX,bY,d.next) (fun (k,aa,r_out_0,c_out_0,ab,r_out_1,c_out_1,ac,r_out_2,c_out_2,ae)=>([(2,vP af),(3,vP bG),(18,.slice a1 d.files.length c1),(19,vI (d.files.length:Int)),(20,vI (k:Int))],[(0,.box bG 35 [vS r_out_0 aa.length c_out_0,vS r_out_1 ab.length c_out_1,vS r_out_2 ac.length c_out_2,vI ae]),(1,.own 0 r_out_0 142 c_out_0 aa),(2,.own 0 r_out_2 52 c_out_2 ac),(3,.own 0 r_out_1 3 c_out_1 ab)],[],d.files.length - k,(k≤d.files.length)∧(aa.length≤k)∧(aa++d.files.drop k=d.files)∧(ab=d.list)∧(ac=d.names)∧(ae=d.next))) [] Z ⟨AB,AD,AF,AF,AF,AB⟩ ?_
     rintro ⟨k,aa,r_out_0,c_out_0,ab,r_out_1,c_out_1,ac,r_out_2,c_out_2,ae⟩ lm w Z ⟨gV,gW,gX,gY,gZ,hC⟩ aV
     refine .s<|.g<|.bp ((k:Int)< (d.files.length:Int)) (fun cr=>?_) (fun cr=>?_)
     ·refine .d<|.s<|.ct<|.sk<|.s<|.b 1<|.s<|.g<|gx d.files k fun bH aB=>?_
      have hE:=drop_at aB; have dL:=AV aB
      exact RG.Ix 2 aB Z<|Z.el 2 aB fun lp lq lu lv Z=>RG.Lg 0 0 Z<|RG.Np Z fun dM w Z=>RG.Ss 0 Z fun w Z=>.d<|T.GS 9 [dM,bG,af,ag] Z fun _ w Z=>.r [0]<|GA.Lb (q:=1) 1 1 Z<|.r [2]<|GA.Lb 3 0 Z<|.r [4]<|GA.Ln 5 0 Z<|.go 6<|GE.CS (fun w Z=>As bH.part (Z.a 1) (Z.a 2) (p1 _ ‹_›)) Z fun lw ly lz lA w Z=>.r [7]<|.go 8<|GE.Nb 1 Z fun lB w Z=>GA.Do Z fun w Z=>RG.Ap 2 0 aa bH [0,1] Z fun dN dO w Z=>.r 1<|RG.Ss 1 Z fun w Z=>.d<|.ib 1<|.g<|.it ((k:Int)+1)<|.r 1<|.d<|aV (k+1,(aa++[bH]),dN,dO,ab,r_out_1,c_out_1,ac,r_out_2,c_out_2,ae) _ _ AA (Z.to 1 [] 5) ⟨AB,(by (simp; omega)),(by exact Cs ‹_› ‹_›),‹_›,‹_›,‹_›⟩ (by (simp only []; omega))
     refine .d<|.s<|.cf<|.x 0 rfl<|.s<|.g<|RG.Ln 0 Z<|RG.Ss 4 Z fun w Z=>.d ?_
     have Z:=(Z.sl 3).sl 2
     exact T.Rb 2 func128 results128 Z ⟨⟨r_out_0,aa.length,c_out_0,(some ⟨r_out_1,0,none⟩),ab.length,c_out_1,(some ⟨r_out_2,0,none⟩),ac.length,c_out_2,(by rw [show d.next=ae from Eq.symm ‹_›]; kernel_rfl),Z.qo [1] 1 aa (by exact CN ‹_› AB),Z.qb 1,Z.qr [1] 1 ab ‹_›,Z.qr [1] 0 ac ‹_›⟩,Z.xt⟩
    refine GE.Np Z fun bI w Z=>.go 0<|GE.N0 Fil 0 Z fun dP w Z=>.r [10]<|GA.Do Z fun w Z=>RG.Ss 1 Z fun w Z=>.d<|.s<|.s<|.g<|.r 1<|RG.Lb 5 Z<|.r 2<|.d<|.b 0<|T.Lp ((0:Nat),([]:List Fil),dP,(0:Nat),(([]++d.list):List Int),aj,ak,(d.names:List (List Tag)),bX,bY,d.next) (fun (k,aa,r_out_0,c_out_0,ab,r_out_1,c_out_1,ac,r_out_2,c_out_2,ae)=>([(2,vP af),(3,vP bI),(18,.slice a1 d.files.length c1),(19,vI (d.files.length:Int)),(20,vI (k:Int))],[(0,.own 0 r_out_0 142 c_out_0 aa),(1,.box bI 35 [vS r_out_0 aa.length c_out_0,vS r_out_1 ab.length c_out_1,vS r_out_2 ac.length c_out_2,vI ae]),(2,.own 0 r_out_2 52 c_out_2 ac),(3,.own 0 r_out_1 3 c_out_1 ab)],[],d.files.length - k,(k≤d.files.length)∧(aa.length≤k)∧(aa++d.files.drop k=d.files)∧(ab=d.list)∧(ac=d.names)∧(ae=d.next))) [] Z ⟨AB,AD,AF,AF,AF,AB⟩ ?_
    rintro ⟨k,aa,r_out_0,c_out_0,ab,r_out_1,c_out_1,ac,r_out_2,c_out_2,ae⟩ lC w Z ⟨hH,hO,hQ,hV,hW,ia⟩ aW
    refine .s<|.g<|.bp ((k:Int)< (d.files.length:Int)) (fun cu=>?_) (fun cu=>?_)
    ·refine .d<|.s<|.ct<|.sk<|.s<|.b 1<|.s<|.g<|gx d.files k fun bJ aC=>?_
     have ic:=drop_at aC; have dQ:=AV aC
     exact RG.Ix 2 aC Z<|Z.el 2 aC fun lD lE lF lG Z=>RG.Lg 0 0 Z<|RG.Np Z fun dR w Z=>RG.Ss 0 Z fun w Z=>.d<|T.GS 9 [dR,bI,af,ag] Z fun _ w Z=>.r [0]<|GA.Lb (q:=1) 1 2 Z<|.r [2]<|GA.Lb 3 0 Z<|.r [4]<|GA.Ln 5 0 Z<|.go 6<|GE.CS (fun w Z=>As bJ.part (Z.a 1) (Z.a 2) (p1 _ ‹_›)) Z fun lH lI lJ lK w Z=>.r [7]<|.go 8<|GE.Nb 1 Z fun lL w Z=>GA.Do Z fun w Z=>RG.Ap 1 0 aa bJ [0,1] Z fun dS dT w Z=>.r 1<|RG.Ss 2 Z fun w Z=>.d<|.ib 1<|.g<|.it ((k:Int)+1)<|.r 1<|.d<|aW (k+1,(aa++[bJ]),dS,dT,ab,r_out_1,c_out_1,ac,r_out_2,c_out_2,ae) _ _ AA (Z.to 1 [] 5) ⟨AB,(by (simp; omega)),(by exact Cs ‹_› ‹_›),‹_›,‹_›,‹_›⟩ (by (simp only []; omega))
    refine .d<|.s<|.cf<|.x 0 rfl<|.s<|.g<|RG.Ln 1 Z<|RG.Ss 4 Z fun w Z=>.d ?_
    have Z:=(Z.sl 3).sl 2
    exact T.Rb 2 func128 results128 Z ⟨⟨r_out_0,aa.length,c_out_0,(some ⟨r_out_1,0,none⟩),ab.length,c_out_1,(some ⟨r_out_2,0,none⟩),ac.length,c_out_2,(by rw [show d.next=ae from Eq.symm ‹_›]; kernel_rfl),Z.qo [0] 0 aa (by exact CN ‹_› AB),Z.qb 0,Z.qr [0] 1 ab ‹_›,Z.qr [0] 0 ac ‹_›⟩,Z.xt⟩
   refine GE.Np Z fun am w Z=>.tw 0 7 ?_ ?_
   ·refine GE.N0 Fil 0 Z fun dU w Z=>.go 7<|GE.CO 0 (fun w Z=>Ae d.names (Z.a 0) AB (fun n hn=>by have:=p4 n hn; omega)) Z fun dV dW w Z=>.r [10]<|GA.Do Z fun w Z=>RG.Ss 2 Z fun w Z=>.d<|.s<|.s<|.g<|.r 1<|RG.Lb 5 Z<|.r 2<|.d<|.b 0<|T.Lp ((0:Nat),([]:List Fil),dU,(0:Nat),(([]++d.list):List Int),aj,ak,(d.names:List (List Tag)),dV,dW,d.next) (fun (k,aa,r_out_0,c_out_0,ab,r_out_1,c_out_1,ac,r_out_2,c_out_2,ae)=>([(2,vP af),(3,vP am),(18,.slice a1 d.files.length c1),(19,vI (d.files.length:Int)),(20,vI (k:Int))],[(0,.own 0 r_out_2 52 c_out_2 ac),(1,.own 0 r_out_0 142 c_out_0 aa),(2,.box am 35 [vS r_out_0 aa.length c_out_0,vS r_out_1 ab.length c_out_1,vS r_out_2 ac.length c_out_2,vI ae]),(3,.own 0 r_out_1 3 c_out_1 ab)],[],d.files.length - k,(k≤d.files.length)∧(aa.length≤k)∧(aa++d.files.drop k=d.files)∧(ab=d.list)∧(ac=d.names)∧(ae=d.next))) [] Z ⟨AB,AD,AF,AF,AF,AB⟩ ?_
    rintro ⟨k,aa,r_out_0,c_out_0,ab,r_out_1,c_out_1,ac,r_out_2,c_out_2,ae⟩ lM w Z ⟨ie,ig,ii,ij,ik,il⟩ aX
    refine .s<|.g<|.bp ((k:Int)< (d.files.length:Int)) (fun cw=>?_) (fun cw=>?_)
    ·refine .d<|.s<|.ct<|.sk<|.s<|.b 1<|.s<|.g<|gx d.files k fun bK aD=>?_
     have im:=drop_at aD; have dX:=AV aD
     exact RG.Ix 2 aD Z<|Z.el 2 aD fun lN lO lP lQ Z=>RG.Lg 0 0 Z<|RG.Np Z fun dY w Z=>RG.Ss 0 Z fun w Z=>.d<|T.GS 9 [dY,am,af,ag] Z fun _ w Z=>.r [0]<|GA.Lb (q:=1) 1 3 Z<|.r [2]<|GA.Lb 3 0 Z<|.r [4]<|GA.Ln 5 0 Z<|.go 6<|GE.CS (fun w Z=>As bK.part (Z.a 1) (Z.a 2) (p1 _ ‹_›)) Z fun lR lS lT lU w Z=>.r [7]<|.go 8<|GE.Nb 1 Z fun lV w Z=>GA.Do Z fun w Z=>RG.Ap 2 0 aa bK [0,1] Z fun dZ d0 w Z=>.r 1<|RG.Ss 3 Z fun w Z=>.d<|.ib 1<|.g<|.it ((k:Int)+1)<|.r 1<|.d<|aX (k+1,(aa++[bK]),dZ,d0,ab,r_out_1,c_out_1,ac,r_out_2,c_out_2,ae) _ _ AA (Z.to 1 [] 5) ⟨AB,(by (simp; omega)),(by exact Cs ‹_› ‹_›),‹_›,‹_›,‹_›⟩ (by (simp only []; omega))
    refine .d<|.s<|.cf<|.x 0 rfl<|.s<|.g<|RG.Ln 2 Z<|RG.Ss 4 Z fun w Z=>.d ?_
    have Z:=(Z.sl 3).sl 0
    exact T.Rb 2 func128 results128 Z ⟨⟨r_out_0,aa.length,c_out_0,(some ⟨r_out_1,0,none⟩),ab.length,c_out_1,(some ⟨r_out_2,0,none⟩),ac.length,c_out_2,(by rw [show d.next=ae from Eq.symm ‹_›]; kernel_rfl),Z.qo [0] 0 aa (by exact CN ‹_› AB),Z.qb 0,Z.qr [0] 1 ab ‹_›,Z.qr [0] 0 ac ‹_›⟩,Z.xt⟩
   refine GE.CO 0 (fun w Z=>Ae d.names (Z.a 0) AB (fun n hn=>by have:=p4 n hn; omega)) Z fun d3 d4 w Z=>.go 0<|GE.N0 Fil 0 Z fun d5 w Z=>.r [10]<|GA.Do Z fun w Z=>RG.Ss 2 Z fun w Z=>.d<|.s<|.s<|.g<|.r 1<|RG.Lb 5 Z<|.r 2<|.d<|.b 0<|T.Lp ((0:Nat),([]:List Fil),d5,(0:Nat),(([]++d.list):List Int),aj,ak,(d.names:List (List Tag)),d3,d4,d.next) (fun (k,aa,r_out_0,c_out_0,ab,r_out_1,c_out_1,ac,r_out_2,c_out_2,ae)=>([(2,vP af),(3,vP am),(18,.slice a1 d.files.length c1),(19,vI (d.files.length:Int)),(20,vI (k:Int))],[(0,.own 0 r_out_0 142 c_out_0 aa),(1,.own 0 r_out_2 52 c_out_2 ac),(2,.box am 35 [vS r_out_0 aa.length c_out_0,vS r_out_1 ab.length c_out_1,vS r_out_2 ac.length c_out_2,vI ae]),(3,.own 0 r_out_1 3 c_out_1 ab)],[],d.files.length - k,(k≤d.files.length)∧(aa.length≤k)∧(aa++d.files.drop k=d.files)∧(ab=d.list)∧(ac=d.names)∧(ae=d.next))) [] Z ⟨AB,AD,AF,AF,AF,AB⟩ ?_
   rintro ⟨k,aa,r_out_0,c_out_0,ab,r_out_1,c_out_1,ac,r_out_2,c_out_2,ae⟩ lW w Z ⟨io,ip,iq,ir,iu,iw⟩ aY
   refine .s<|.g<|.bp ((k:Int)< (d.files.length:Int)) (fun cx=>?_) (fun cx=>?_)
   ·refine .d<|.s<|.ct<|.sk<|.s<|.b 1<|.s<|.g<|gx d.files k fun bL aE=>?_
    have iy:=drop_at aE; have d6:=AV aE
    exact RG.Ix 2 aE Z<|Z.el 2 aE fun lX lY lZ l0 Z=>RG.Lg 0 0 Z<|RG.Np Z fun d7 w Z=>RG.Ss 0 Z fun w Z=>.d<|T.GS 9 [d7,am,af,ag] Z fun _ w Z=>.r [0]<|GA.Lb (q:=1) 1 3 Z<|.r [2]<|GA.Lb 3 0 Z<|.r [4]<|GA.Ln 5 0 Z<|.go 6<|GE.CS (fun w Z=>As bL.part (Z.a 1) (Z.a 2) (p1 _ ‹_›)) Z fun l3 l4 l6 l7 w Z=>.r [7]<|.go 8<|GE.Nb 1 Z fun l8 w Z=>GA.Do Z fun w Z=>RG.Ap 1 0 aa bL [0,1] Z fun d8 d9 w Z=>.r 1<|RG.Ss 3 Z fun w Z=>.d<|.ib 1<|.g<|.it ((k:Int)+1)<|.r 1<|.d<|aY (k+1,(aa++[bL]),d8,d9,ab,r_out_1,c_out_1,ac,r_out_2,c_out_2,ae) _ _ AA (Z.to 1 [] 5) ⟨AB,(by (simp; omega)),(by exact Cs ‹_› ‹_›),‹_›,‹_›,‹_›⟩ (by (simp only []; omega))
   refine .d<|.s<|.cf<|.x 0 rfl<|.s<|.g<|RG.Ln 2 Z<|RG.Ss 4 Z fun w Z=>.d ?_
   have Z:=(Z.sl 3).sl 1
   exact T.Rb 2 func128 results128 Z ⟨⟨r_out_0,aa.length,c_out_0,(some ⟨r_out_1,0,none⟩),ab.length,c_out_1,(some ⟨r_out_2,0,none⟩),ac.length,c_out_2,(by rw [show d.next=ae from Eq.symm ‹_›]; kernel_rfl),Z.qo [0] 0 aa (by exact CN ‹_› AB),Z.qb 0,Z.qr [0] 1 ab ‹_›,Z.qr [0] 0 ac ‹_›⟩,Z.xt⟩
  refine GE.Np Z fun ai w Z=>.tw 0 4 ?_ ?_
  ·refine GE.N0 Fil 0 Z fun ec w Z=>.go 4<|GE.An (hf:=.inr Az) 2 1 ([]:List Int) d.list [3,4] Z fun ee eg w Z=>.go 7<|GE.CO 0 (fun w Z=>Ae d.names (Z.a 0) AB (fun n hn=>by have:=p4 n hn; omega)) Z fun eh ej w Z=>.r [10]<|GA.Do Z fun w Z=>RG.Ss 2 Z fun w Z=>.d<|.s<|.s<|.g<|.r 1<|RG.Lb 5 Z<|.r 2<|.d<|.b 0<|T.Lp ((0:Nat),([]:List Fil),ec,(0:Nat),(([]++d.list):List Int),ee,eg,(d.names:List (List Tag)),eh,ej,d.next) (fun (k,aa,r_out_0,c_out_0,ab,r_out_1,c_out_1,ac,r_out_2,c_out_2,ae)=>([(2,vP af),(3,vP ai),(18,.slice a1 d.files.length c1),(19,vI (d.files.length:Int)),(20,vI (k:Int))],[(0,.own 0 r_out_2 52 c_out_2 ac),(1,.own 0 r_out_0 142 c_out_0 aa),(2,.box ai 35 [vS r_out_0 aa.length c_out_0,vS r_out_1 ab.length c_out_1,vS r_out_2 ac.length c_out_2,vI ae]),(3,.own 0 r_out_1 3 c_out_1 ab)],[],d.files.length - k,(k≤d.files.length)∧(aa.length≤k)∧(aa++d.files.drop k=d.files)∧(ab=d.list)∧(ac=d.names)∧(ae=d.next))) [] Z ⟨AB,AD,AF,AF,AF,AB⟩ ?_
   rintro ⟨k,aa,r_out_0,c_out_0,ab,r_out_1,c_out_1,ac,r_out_2,c_out_2,ae⟩ l9 w Z ⟨iz,iA,iB,iC,iD,iE⟩ aZ
   refine .s<|.g<|.bp ((k:Int)< (d.files.length:Int)) (fun cy=>?_) (fun cy=>?_)
   ·refine .d<|.s<|.ct<|.sk<|.s<|.b 1<|.s<|.g<|gx d.files k fun bM aF=>?_
    have iF:=drop_at aF; have ek:=AV aF
    exact RG.Ix 2 aF Z<|Z.el 2 aF fun mh mj ml mp Z=>RG.Lg 0 0 Z<|RG.Np Z fun en w Z=>RG.Ss 0 Z fun w Z=>.d<|T.GS 9 [en,ai,af,ag] Z fun _ w Z=>.r [0]<|GA.Lb (q:=1) 1 3 Z<|.r [2]<|GA.Lb 3 0 Z<|.r [4]<|GA.Ln 5 0 Z<|.go 6<|GE.CS (fun w Z=>As bM.part (Z.a 1) (Z.a 2) (p1 _ ‹_›)) Z fun mq mr mt mu w Z=>.r [7]<|.go 8<|GE.Nb 1 Z fun mw w Z=>GA.Do Z fun w Z=>RG.Ap 2 0 aa bM [0,1] Z fun eB eC w Z=>.r 1<|RG.Ss 3 Z fun w Z=>.d<|.ib 1<|.g<|.it ((k:Int)+1)<|.r 1<|.d<|aZ (k+1,(aa++[bM]),eB,eC,ab,r_out_1,c_out_1,ac,r_out_2,c_out_2,ae) _ _ AA (Z.to 1 [] 5) ⟨AB,(by (simp; omega)),(by exact Cs ‹_› ‹_›),‹_›,‹_›,‹_›⟩ (by (simp only []; omega))
   refine .d<|.s<|.cf<|.x 0 rfl<|.s<|.g<|RG.Ln 2 Z<|RG.Ss 4 Z fun w Z=>.d ?_
   have Z:=(Z.sl 3).sl 0
   exact T.Rb 2 func128 results128 Z ⟨⟨r_out_0,aa.length,c_out_0,(some ⟨r_out_1,0,none⟩),ab.length,c_out_1,(some ⟨r_out_2,0,none⟩),ac.length,c_out_2,(by rw [show d.next=ae from Eq.symm ‹_›]; kernel_rfl),Z.qo [0] 0 aa (by exact CN ‹_› AB),Z.qb 0,Z.qr [0] 1 ab ‹_›,Z.qr [0] 0 ac ‹_›⟩,Z.xt⟩
  refine GE.An (hf:=.inr Az) 1 1 ([]:List Int) d.list [2,3] Z fun bZ b0 w Z=>.tw 0 7 ?_ ?_
  ·refine GE.N0 Fil 0 Z fun eD w Z=>.go 7<|GE.CO 0 (fun w Z=>Ae d.names (Z.a 0) AB (fun n hn=>by have:=p4 n hn; omega)) Z fun eE eF w Z=>.r [10]<|GA.Do Z fun w Z=>RG.Ss 2 Z fun w Z=>.d<|.s<|.s<|.g<|.r 1<|RG.Lb 5 Z<|.r 2<|.d<|.b 0<|T.Lp ((0:Nat),([]:List Fil),eD,(0:Nat),(([]++d.list):List Int),bZ,b0,(d.names:List (List Tag)),eE,eF,d.next) (fun (k,aa,r_out_0,c_out_0,ab,r_out_1,c_out_1,ac,r_out_2,c_out_2,ae)=>([(2,vP af),(3,vP ai),(18,.slice a1 d.files.length c1),(19,vI (d.files.length:Int)),(20,vI (k:Int))],[(0,.own 0 r_out_2 52 c_out_2 ac),(1,.own 0 r_out_0 142 c_out_0 aa),(2,.box ai 35 [vS r_out_0 aa.length c_out_0,vS r_out_1 ab.length c_out_1,vS r_out_2 ac.length c_out_2,vI ae]),(3,.own 0 r_out_1 3 c_out_1 ab)],[],d.files.length - k,(k≤d.files.length)∧(aa.length≤k)∧(aa++d.files.drop k=d.files)∧(ab=d.list)∧(ac=d.names)∧(ae=d.next))) [] Z ⟨AB,AD,AF,AF,AF,AB⟩ ?_
   rintro ⟨k,aa,r_out_0,c_out_0,ab,r_out_1,c_out_1,ac,r_out_2,c_out_2,ae⟩ mz w Z ⟨iG,iH,iI,iJ,iK,iL⟩ ba
   refine .s<|.g<|.bp ((k:Int)< (d.files.length:Int)) (fun cz=>?_) (fun cz=>?_)
   ·refine .d<|.s<|.ct<|.sk<|.s<|.b 1<|.s<|.g<|gx d.files k fun bN aG=>?_
    have iM:=drop_at aG; have eG:=AV aG
    exact RG.Ix 2 aG Z<|Z.el 2 aG fun mA mB mC mD Z=>RG.Lg 0 0 Z<|RG.Np Z fun eH w Z=>RG.Ss 0 Z fun w Z=>.d<|T.GS 9 [eH,ai,af,ag] Z fun _ w Z=>.r [0]<|GA.Lb (q:=1) 1 3 Z<|.r [2]<|GA.Lb 3 0 Z<|.r [4]<|GA.Ln 5 0 Z<|.go 6<|GE.CS (fun w Z=>As bN.part (Z.a 1) (Z.a 2) (p1 _ ‹_›)) Z fun mE mF mG mH w Z=>.r [7]<|.go 8<|GE.Nb 1 Z fun mI w Z=>GA.Do Z fun w Z=>RG.Ap 2 0 aa bN [0,1] Z fun eI eJ w Z=>.r 1<|RG.Ss 3 Z fun w Z=>.d<|.ib 1<|.g<|.it ((k:Int)+1)<|.r 1<|.d<|ba (k+1,(aa++[bN]),eI,eJ,ab,r_out_1,c_out_1,ac,r_out_2,c_out_2,ae) _ _ AA (Z.to 1 [] 5) ⟨AB,(by (simp; omega)),(by exact Cs ‹_› ‹_›),‹_›,‹_›,‹_›⟩ (by (simp only []; omega))
   refine .d<|.s<|.cf<|.x 0 rfl<|.s<|.g<|RG.Ln 2 Z<|RG.Ss 4 Z fun w Z=>.d ?_
   have Z:=(Z.sl 3).sl 0
   exact T.Rb 2 func128 results128 Z ⟨⟨r_out_0,aa.length,c_out_0,(some ⟨r_out_1,0,none⟩),ab.length,c_out_1,(some ⟨r_out_2,0,none⟩),ac.length,c_out_2,(by rw [show d.next=ae from Eq.symm ‹_›]; kernel_rfl),Z.qo [0] 0 aa (by exact CN ‹_› AB),Z.qb 0,Z.qr [0] 1 ab ‹_›,Z.qr [0] 0 ac ‹_›⟩,Z.xt⟩
  refine GE.CO 0 (fun w Z=>Ae d.names (Z.a 0) AB (fun n hn=>by have:=p4 n hn; omega)) Z fun eK eM w Z=>.go 0<|GE.N0 Fil 0 Z fun eO w Z=>.r [10]<|GA.Do Z fun w Z=>RG.Ss 2 Z fun w Z=>.d<|.s<|.s<|.g<|.r 1<|RG.Lb 5 Z<|.r 2<|.d<|.b 0<|T.Lp ((0:Nat),([]:List Fil),eO,(0:Nat),(([]++d.list):List Int),bZ,b0,(d.names:List (List Tag)),eK,eM,d.next) (fun (k,aa,r_out_0,c_out_0,ab,r_out_1,c_out_1,ac,r_out_2,c_out_2,ae)=>([(2,vP af),(3,vP ai),(18,.slice a1 d.files.length c1),(19,vI (d.files.length:Int)),(20,vI (k:Int))],[(0,.own 0 r_out_0 142 c_out_0 aa),(1,.own 0 r_out_2 52 c_out_2 ac),(2,.box ai 35 [vS r_out_0 aa.length c_out_0,vS r_out_1 ab.length c_out_1,vS r_out_2 ac.length c_out_2,vI ae]),(3,.own 0 r_out_1 3 c_out_1 ab)],[],d.files.length - k,(k≤d.files.length)∧(aa.length≤k)∧(aa++d.files.drop k=d.files)∧(ab=d.list)∧(ac=d.names)∧(ae=d.next))) [] Z ⟨AB,AD,AF,AF,AF,AB⟩ ?_
  rintro ⟨k,aa,r_out_0,c_out_0,ab,r_out_1,c_out_1,ac,r_out_2,c_out_2,ae⟩ mJ w Z ⟨iN,iO,iP,iQ,iR,iS⟩ bd
  refine .s<|.g<|.bp ((k:Int)< (d.files.length:Int)) (fun cA=>?_) (fun cA=>?_)
  ·refine .d<|.s<|.ct<|.sk<|.s<|.b 1<|.s<|.g<|gx d.files k fun bO aH=>?_
   have iT:=drop_at aH; have eP:=AV aH
   exact RG.Ix 2 aH Z<|Z.el 2 aH fun mK mM mN mO Z=>RG.Lg 0 0 Z<|RG.Np Z fun eQ w Z=>RG.Ss 0 Z fun w Z=>.d<|T.GS 9 [eQ,ai,af,ag] Z fun _ w Z=>.r [0]<|GA.Lb (q:=1) 1 3 Z<|.r [2]<|GA.Lb 3 0 Z<|.r [4]<|GA.Ln 5 0 Z<|.go 6<|GE.CS (fun w Z=>As bO.part (Z.a 1) (Z.a 2) (p1 _ ‹_›)) Z fun mP mQ mR mS w Z=>.r [7]<|.go 8<|GE.Nb 1 Z fun mU w Z=>GA.Do Z fun w Z=>RG.Ap 1 0 aa bO [0,1] Z fun eR eT w Z=>.r 1<|RG.Ss 3 Z fun w Z=>.d<|.ib 1<|.g<|.it ((k:Int)+1)<|.r 1<|.d<|bd (k+1,(aa++[bO]),eR,eT,ab,r_out_1,c_out_1,ac,r_out_2,c_out_2,ae) _ _ AA (Z.to 1 [] 5) ⟨AB,(by (simp; omega)),(by exact Cs ‹_› ‹_›),‹_›,‹_›,‹_›⟩ (by (simp only []; omega))
  refine .d<|.s<|.cf<|.x 0 rfl<|.s<|.g<|RG.Ln 2 Z<|RG.Ss 4 Z fun w Z=>.d ?_
  have Z:=(Z.sl 3).sl 1
  exact T.Rb 2 func128 results128 Z ⟨⟨r_out_0,aa.length,c_out_0,(some ⟨r_out_1,0,none⟩),ab.length,c_out_1,(some ⟨r_out_2,0,none⟩),ac.length,c_out_2,(by rw [show d.next=ae from Eq.symm ‹_›]; kernel_rfl),Z.qo [0] 0 aa (by exact CN ‹_› AB),Z.qb 0,Z.qr [0] 1 ab ‹_›,Z.qr [0] 0 ac ‹_›⟩,Z.xt⟩
 refine GE.Np Z fun ah w Z=>.tw 0 1 ?_ ?_
 ·refine GE.N0 Fil 0 Z fun eU w Z=>.go 1<|GE.N0 Int 0 Z fun mV w Z=>.go 4<|GE.An (hf:=.inr Az) 0 1 ([]:List Int) d.list [3,4] Z fun eV eW w Z=>.go 7<|GE.CO 0 (fun w Z=>Ae d.names (Z.a 0) AB (fun n hn=>by have:=p4 n hn; omega)) Z fun eX eY w Z=>.r [10]<|GA.Do Z fun w Z=>RG.Ss 3 Z fun w Z=>.d<|.s<|.s<|.g<|.r 1<|RG.Lb 5 Z<|.r 2<|.d<|.b 0<|T.Lp ((0:Nat),([]:List Fil),eU,(0:Nat),(([]++d.list):List Int),eV,eW,(d.names:List (List Tag)),eX,eY,d.next) (fun (k,aa,r_out_0,c_out_0,ab,r_out_1,c_out_1,ac,r_out_2,c_out_2,ae)=>([(2,vP af),(3,vP ah),(18,.slice a1 d.files.length c1),(19,vI (d.files.length:Int)),(20,vI (k:Int))],[(0,.own 0 r_out_2 52 c_out_2 ac),(1,.own 0 r_out_1 3 c_out_1 ab),(2,.own 0 r_out_0 142 c_out_0 aa),(3,.box ah 35 [vS r_out_0 aa.length c_out_0,vS r_out_1 ab.length c_out_1,vS r_out_2 ac.length c_out_2,vI ae])],[],d.files.length - k,(k≤d.files.length)∧(aa.length≤k)∧(aa++d.files.drop k=d.files)∧(ab=d.list)∧(ac=d.names)∧(ae=d.next))) [] Z ⟨AB,AD,AF,AF,AF,AB⟩ ?_
  rintro ⟨k,aa,r_out_0,c_out_0,ab,r_out_1,c_out_1,ac,r_out_2,c_out_2,ae⟩ mW w Z ⟨iU,iV,iW,iX,iY,iZ⟩ bg
  refine .s<|.g<|.bp ((k:Int)< (d.files.length:Int)) (fun cB=>?_) (fun cB=>?_)
  ·refine .d<|.s<|.ct<|.sk<|.s<|.b 1<|.s<|.g<|gx d.files k fun bP aI=>?_
   have ja:=drop_at aI; have eZ:=AV aI
   exact RG.Ix 2 aI Z<|Z.el 2 aI fun mX mY mZ m0 Z=>RG.Lg 0 0 Z<|RG.Np Z fun e7 w Z=>RG.Ss 0 Z fun w Z=>.d<|T.GS 9 [e7,ah,af,ag] Z fun _ w Z=>.r [0]<|GA.Lb (q:=1) 1 4 Z<|.r [2]<|GA.Lb 3 0 Z<|.r [4]<|GA.Ln 5 0 Z<|.go 6<|GE.CS (fun w Z=>As bP.part (Z.a 1) (Z.a 2) (p1 _ ‹_›)) Z fun m5 m6 m7 m8 w Z=>.r [7]<|.go 8<|GE.Nb 1 Z fun m9 w Z=>GA.Do Z fun w Z=>RG.Ap 3 0 aa bP [0,1] Z fun e8 fa w Z=>.r 1<|RG.Ss 4 Z fun w Z=>.d<|.ib 1<|.g<|.it ((k:Int)+1)<|.r 1<|.d<|bg (k+1,(aa++[bP]),e8,fa,ab,r_out_1,c_out_1,ac,r_out_2,c_out_2,ae) _ _ AA (Z.to 1 [] 5) ⟨AB,(by (simp; omega)),(by exact Cs ‹_› ‹_›),‹_›,‹_›,‹_›⟩ (by (simp only []; omega))
  refine .d<|.s<|.cf<|.x 0 rfl<|.s<|.g<|RG.Ln 3 Z<|RG.Ss 4 Z fun w Z=>.d ?_
  have Z:=(Z.sl 1).sl 0
  exact T.Rb 2 func128 results128 Z ⟨⟨r_out_0,aa.length,c_out_0,(some ⟨r_out_1,0,none⟩),ab.length,c_out_1,(some ⟨r_out_2,0,none⟩),ac.length,c_out_2,(by rw [show d.next=ae from Eq.symm ‹_›]; kernel_rfl),Z.qo [0] 0 aa (by exact CN ‹_› AB),Z.qb 0,Z.qr [0] 1 ab ‹_›,Z.qr [0] 0 ac ‹_›⟩,Z.xt⟩
 refine GE.N0 Int 0 Z fun nc w Z=>.tw 0 4 ?_ ?_
 ·refine GE.N0 Fil 0 Z fun fb w Z=>.go 4<|GE.An (hf:=.inr Az) 1 1 ([]:List Int) d.list [3,4] Z fun fd fe w Z=>.go 7<|GE.CO 0 (fun w Z=>Ae d.names (Z.a 0) AB (fun n hn=>by have:=p4 n hn; omega)) Z fun ff fg w Z=>.r [10]<|GA.Do Z fun w Z=>RG.Ss 3 Z fun w Z=>.d<|.s<|.s<|.g<|.r 1<|RG.Lb 5 Z<|.r 2<|.d<|.b 0<|T.Lp ((0:Nat),([]:List Fil),fb,(0:Nat),(([]++d.list):List Int),fd,fe,(d.names:List (List Tag)),ff,fg,d.next) (fun (k,aa,r_out_0,c_out_0,ab,r_out_1,c_out_1,ac,r_out_2,c_out_2,ae)=>([(2,vP af),(3,vP ah),(18,.slice a1 d.files.length c1),(19,vI (d.files.length:Int)),(20,vI (k:Int))],[(0,.own 0 r_out_2 52 c_out_2 ac),(1,.own 0 r_out_0 142 c_out_0 aa),(2,.own 0 r_out_1 3 c_out_1 ab),(3,.box ah 35 [vS r_out_0 aa.length c_out_0,vS r_out_1 ab.length c_out_1,vS r_out_2 ac.length c_out_2,vI ae])],[],d.files.length - k,(k≤d.files.length)∧(aa.length≤k)∧(aa++d.files.drop k=d.files)∧(ab=d.list)∧(ac=d.names)∧(ae=d.next))) [] Z ⟨AB,AD,AF,AF,AF,AB⟩ ?_
  rintro ⟨k,aa,r_out_0,c_out_0,ab,r_out_1,c_out_1,ac,r_out_2,c_out_2,ae⟩ nh w Z ⟨jb,jc,jd,je,jf,jg⟩ bh
  refine .s<|.g<|.bp ((k:Int)< (d.files.length:Int)) (fun cC=>?_) (fun cC=>?_)
  ·refine .d<|.s<|.ct<|.sk<|.s<|.b 1<|.s<|.g<|gx d.files k fun bQ aJ=>?_
   have jh:=drop_at aJ; have fi:=AV aJ
   exact RG.Ix 2 aJ Z<|Z.el 2 aJ fun ni nj nq nt Z=>RG.Lg 0 0 Z<|RG.Np Z fun fj w Z=>RG.Ss 0 Z fun w Z=>.d<|T.GS 9 [fj,ah,af,ag] Z fun _ w Z=>.r [0]<|GA.Lb (q:=1) 1 4 Z<|.r [2]<|GA.Lb 3 0 Z<|.r [4]<|GA.Ln 5 0 Z<|.go 6<|GE.CS (fun w Z=>As bQ.part (Z.a 1) (Z.a 2) (p1 _ ‹_›)) Z fun nu nv nz nA w Z=>.r [7]<|.go 8<|GE.Nb 1 Z fun nB w Z=>GA.Do Z fun w Z=>RG.Ap 2 0 aa bQ [0,1] Z fun fm fp w Z=>.r 1<|RG.Ss 4 Z fun w Z=>.d<|.ib 1<|.g<|.it ((k:Int)+1)<|.r 1<|.d<|bh (k+1,(aa++[bQ]),fm,fp,ab,r_out_1,c_out_1,ac,r_out_2,c_out_2,ae) _ _ AA (Z.to 1 [] 5) ⟨AB,(by (simp; omega)),(by exact Cs ‹_› ‹_›),‹_›,‹_›,‹_›⟩ (by (simp only []; omega))
  refine .d<|.s<|.cf<|.x 0 rfl<|.s<|.g<|RG.Ln 3 Z<|RG.Ss 4 Z fun w Z=>.d ?_
  have Z:=(Z.sl 2).sl 0
  exact T.Rb 2 func128 results128 Z ⟨⟨r_out_0,aa.length,c_out_0,(some ⟨r_out_1,0,none⟩),ab.length,c_out_1,(some ⟨r_out_2,0,none⟩),ac.length,c_out_2,(by rw [show d.next=ae from Eq.symm ‹_›]; kernel_rfl),Z.qo [0] 0 aa (by exact CN ‹_› AB),Z.qb 0,Z.qr [0] 1 ab ‹_›,Z.qr [0] 0 ac ‹_›⟩,Z.xt⟩
 refine GE.An (hf:=.inr Az) 0 1 ([]:List Int) d.list [2,3] Z fun b6 b7 w Z=>.tw 0 7 ?_ ?_
 ·refine GE.N0 Fil 0 Z fun fq w Z=>.go 7<|GE.CO 0 (fun w Z=>Ae d.names (Z.a 0) AB (fun n hn=>by have:=p4 n hn; omega)) Z fun fu fv w Z=>.r [10]<|GA.Do Z fun w Z=>RG.Ss 3 Z fun w Z=>.d<|.s<|.s<|.g<|.r 1<|RG.Lb 5 Z<|.r 2<|.d<|.b 0<|T.Lp ((0:Nat),([]:List Fil),fq,(0:Nat),(([]++d.list):List Int),b6,b7,(d.names:List (List Tag)),fu,fv,d.next) (fun (k,aa,r_out_0,c_out_0,ab,r_out_1,c_out_1,ac,r_out_2,c_out_2,ae)=>([(2,vP af),(3,vP ah),(18,.slice a1 d.files.length c1),(19,vI (d.files.length:Int)),(20,vI (k:Int))],[(0,.own 0 r_out_2 52 c_out_2 ac),(1,.own 0 r_out_0 142 c_out_0 aa),(2,.own 0 r_out_1 3 c_out_1 ab),(3,.box ah 35 [vS r_out_0 aa.length c_out_0,vS r_out_1 ab.length c_out_1,vS r_out_2 ac.length c_out_2,vI ae])],[],d.files.length - k,(k≤d.files.length)∧(aa.length≤k)∧(aa++d.files.drop k=d.files)∧(ab=d.list)∧(ac=d.names)∧(ae=d.next))) [] Z ⟨AB,AD,AF,AF,AF,AB⟩ ?_
  rintro ⟨k,aa,r_out_0,c_out_0,ab,r_out_1,c_out_1,ac,r_out_2,c_out_2,ae⟩ nC w Z ⟨ji,jj,jk,jl,jm,jn⟩ bi
  refine .s<|.g<|.bp ((k:Int)< (d.files.length:Int)) (fun cD=>?_) (fun cD=>?_)
  ·refine .d<|.s<|.ct<|.sk<|.s<|.b 1<|.s<|.g<|gx d.files k fun bR aK=>?_
   have jo:=drop_at aK; have fw:=AV aK
   exact RG.Ix 2 aK Z<|Z.el 2 aK fun nD nE nF nG Z=>RG.Lg 0 0 Z<|RG.Np Z fun fA w Z=>RG.Ss 0 Z fun w Z=>.d<|T.GS 9 [fA,ah,af,ag] Z fun _ w Z=>.r [0]<|GA.Lb (q:=1) 1 4 Z<|.r [2]<|GA.Lb 3 0 Z<|.r [4]<|GA.Ln 5 0 Z<|.go 6<|GE.CS (fun w Z=>As bR.part (Z.a 1) (Z.a 2) (p1 _ ‹_›)) Z fun nH nI nJ nK w Z=>.r [7]<|.go 8<|GE.Nb 1 Z fun nL w Z=>GA.Do Z fun w Z=>RG.Ap 2 0 aa bR [0,1] Z fun fB fC w Z=>.r 1<|RG.Ss 4 Z fun w Z=>.d<|.ib 1<|.g<|.it ((k:Int)+1)<|.r 1<|.d<|bi (k+1,(aa++[bR]),fB,fC,ab,r_out_1,c_out_1,ac,r_out_2,c_out_2,ae) _ _ AA (Z.to 1 [] 5) ⟨AB,(by (simp; omega)),(by exact Cs ‹_› ‹_›),‹_›,‹_›,‹_›⟩ (by (simp only []; omega))
  refine .d<|.s<|.cf<|.x 0 rfl<|.s<|.g<|RG.Ln 3 Z<|RG.Ss 4 Z fun w Z=>.d ?_
  have Z:=(Z.sl 2).sl 0
  exact T.Rb 2 func128 results128 Z ⟨⟨r_out_0,aa.length,c_out_0,(some ⟨r_out_1,0,none⟩),ab.length,c_out_1,(some ⟨r_out_2,0,none⟩),ac.length,c_out_2,(by rw [show d.next=ae from Eq.symm ‹_›]; kernel_rfl),Z.qo [0] 0 aa (by exact CN ‹_› AB),Z.qb 0,Z.qr [0] 1 ab ‹_›,Z.qr [0] 0 ac ‹_›⟩,Z.xt⟩
 refine GE.CO 0 (fun w Z=>Ae d.names (Z.a 0) AB (fun n hn=>by have:=p4 n hn; omega)) Z fun fD fE w Z=>.go 0<|GE.N0 Fil 0 Z fun fF w Z=>.r [10]<|GA.Do Z fun w Z=>RG.Ss 3 Z fun w Z=>.d<|.s<|.s<|.g<|.r 1<|RG.Lb 5 Z<|.r 2<|.d<|.b 0<|T.Lp ((0:Nat),([]:List Fil),fF,(0:Nat),(([]++d.list):List Int),b6,b7,(d.names:List (List Tag)),fD,fE,d.next) (fun (k,aa,r_out_0,c_out_0,ab,r_out_1,c_out_1,ac,r_out_2,c_out_2,ae)=>([(2,vP af),(3,vP ah),(18,.slice a1 d.files.length c1),(19,vI (d.files.length:Int)),(20,vI (k:Int))],[(0,.own 0 r_out_0 142 c_out_0 aa),(1,.own 0 r_out_2 52 c_out_2 ac),(2,.own 0 r_out_1 3 c_out_1 ab),(3,.box ah 35 [vS r_out_0 aa.length c_out_0,vS r_out_1 ab.length c_out_1,vS r_out_2 ac.length c_out_2,vI ae])],[],d.files.length - k,(k≤d.files.length)∧(aa.length≤k)∧(aa++d.files.drop k=d.files)∧(ab=d.list)∧(ac=d.names)∧(ae=d.next))) [] Z ⟨AB,AD,AF,AF,AF,AB⟩ ?_
 rintro ⟨k,aa,r_out_0,c_out_0,ab,r_out_1,c_out_1,ac,r_out_2,c_out_2,ae⟩ nM w Z ⟨jp,jq,jr,jt,ju,jv⟩ bj
 refine .s<|.g<|.bp ((k:Int)< (d.files.length:Int)) (fun cE=>?_) (fun cE=>?_)
 ·refine .d<|.s<|.ct<|.sk<|.s<|.b 1<|.s<|.g<|gx d.files k fun bS aL=>?_
  have jw:=drop_at aL; have fG:=AV aL
  exact RG.Ix 2 aL Z<|Z.el 2 aL fun nN nO nP nQ Z=>RG.Lg 0 0 Z<|RG.Np Z fun fH w Z=>RG.Ss 0 Z fun w Z=>.d<|T.GS 9 [fH,ah,af,ag] Z fun _ w Z=>.r [0]<|GA.Lb (q:=1) 1 4 Z<|.r [2]<|GA.Lb 3 0 Z<|.r [4]<|GA.Ln 5 0 Z<|.go 6<|GE.CS (fun w Z=>As bS.part (Z.a 1) (Z.a 2) (p1 _ ‹_›)) Z fun nR nT nU nV w Z=>.r [7]<|.go 8<|GE.Nb 1 Z fun nW w Z=>GA.Do Z fun w Z=>RG.Ap 1 0 aa bS [0,1] Z fun fI fJ w Z=>.r 1<|RG.Ss 4 Z fun w Z=>.d<|.ib 1<|.g<|.it ((k:Int)+1)<|.r 1<|.d<|bj (k+1,(aa++[bS]),fI,fJ,ab,r_out_1,c_out_1,ac,r_out_2,c_out_2,ae) _ _ AA (Z.to 1 [] 5) ⟨AB,(by (simp; omega)),(by exact Cs ‹_› ‹_›),‹_›,‹_›,‹_›⟩ (by (simp only []; omega))
 refine .d<|.s<|.cf<|.x 0 rfl<|.s<|.g<|RG.Ln 3 Z<|RG.Ss 4 Z fun w Z=>.d ?_
 have Z:=(Z.sl 2).sl 1
 exact T.Rb 2 func128 results128 Z ⟨⟨r_out_0,aa.length,c_out_0,(some ⟨r_out_1,0,none⟩),ab.length,c_out_1,(some ⟨r_out_2,0,none⟩),ac.length,c_out_2,(by rw [show d.next=ae from Eq.symm ‹_›]; kernel_rfl),Z.qo [0] 0 aa (by exact CN ‹_› AB),Z.qb 0,Z.qr [0] 1 ab ‹_›,Z.qr [0] 0 ac ‹_›⟩,Z.xt⟩
end Go.Proofs.YtfninflnngpchaaGreatDoor
namespace Go.Proofs.YtfninflnngpchaaGreatDoor
set_option maxRecDepth 100000
set_option maxHeartbeats 4000000
variable {w:World} {F:Nat→Prop} {a1 a2 a3 a4:Option Addr} {n1 c1 n2 c2 n3 c3 n4 c4:Nat}
theorem IL (d:Dsk) (steps:List Stp) (cut:Int) (h1:RepS w F a1 n1 c1 d.files) (h2:RepS w F a2 n2 c2 d.list) (h3:RepS w F a3 n3 c3 d.names) (h4:RepS w F a4 n4 c4 steps) (p0:DD d) (p1:BC d=true→StW d steps):Calls Tryz.prog 74 [.agg #[.slice a1 n1 c1,.slice a2 n2 c2,.slice a3 n3 c3,.int .i64 d.next],.slice a4 n4 c4,.int .i64 cut].toArray w (Am fun rv w'=>VS (fo F w.heap.size) w' (Ak d steps cut:Dsk) rv∧Ext w w'):=by
 refine goT func74 ?_
 obtain ⟨rfl,eB,h1⟩:=h1.tp
 obtain ⟨rfl,eC,h2⟩:=h2.tp
 obtain ⟨rfl,eD,h3⟩:=h3.tp
 obtain ⟨rfl,eE,h4⟩:=h4.tp
 refine .s<|.g<|.np 35 [.slice a1 d.files.length c1,.slice a2 d.list.length c2,.slice a3 d.names.length c3,vI d.next] fun af ff bG bn ab cu=>?_
 replace ⟨h1,h2,h3,h4⟩:=(sn [] bn bG).g4 h1 h2 h3 h4
 have aa:=bn
 refine .np 35 [AH,AH,AH,vI 0] fun ag dz bi bH ac cw=>?_
 have eF:=Ab bi ab.lt
 have eG:=aa.cn bi
 replace ⟨h1,h2,h3,h4,ab,aa⟩:=(sn [af] bH bi).g6 h1 h2 h3 h4 ab aa
 refine .d<|.s<|.s<|.g<|.ln ab<|.cl (DC d h1.ta h2.ta h3.ta (by exact p0) (w:=dz) (F:=all)) ?_
 rintro fg cx ⟨rfl,bI⟩
 replace ⟨h1,h2,h3,h4,ab,ac,aa⟩:=(se [ag,af] bI).g7 h1 h2 h3 h4 ab ac aa
 cases eH:(BC d)
 ·refine .r 5<|.d<|.ct<|.s<|.g<|.r 1<|.sc [AH,AH,AH,vI 0] ac fun fi bJ cy cz=>?_
  replace ⟨h1,h2,h3,h4,ab,aa⟩:=(so [ag,af] bJ).g6 h1 h2 h3 h4 ab aa
  exact .d<|.rb func74 results74 cy ⟨(VS.of (y:=(⟨([]:List Fil),([]:List Int),([]:List (List Tag)),0⟩:Dsk)) ⟨_,rfl,⟨_,_,_,_,_,_,_,_,_,rfl,(RepS.Ba _ _ none 0 AE),(RepS.Ba _ _ none 0 AE),(RepS.Ba _ _ none 0 AE)⟩⟩ (by exact Uc (.inl ‹_›))),aa⟩
 refine .r 3<|.bp (cut< 0) (fun cA=>?_) (fun cA=>?_)
 ·refine .r 1<|.d<|.ct<|.s<|.g<|.r 1<|.sc [AH,AH,AH,vI 0] ac fun fj bK cB cC=>?_
  replace ⟨h1,h2,h3,h4,ab,aa⟩:=(so [ag,af] bK).g6 h1 h2 h3 h4 ab aa
  exact .d<|.rb func74 results74 cB ⟨(VS.of (y:=(⟨([]:List Fil),([]:List Int),([]:List (List Tag)),0⟩:Dsk)) ⟨_,rfl,⟨_,_,_,_,_,_,_,_,_,rfl,(RepS.Ba _ _ none 0 AE),(RepS.Ba _ _ none 0 AE),(RepS.Ba _ _ none 0 AE)⟩⟩ (by exact Uc (.inr (.inl ‹_›)))),aa⟩
 refine .r 1<|.d<|.cf<|.sk<|.s<|.g<|.ln ab<|.cl (En d h1.ta h2.ta h3.ta (by exact YL p0) (by exact YM p0) (by exact YN p0) (by exact YO p0) (by exact YP p0) (w:=cx) (F:=all)) ?_
 rintro fm bQ ⟨⟨aG,cD,cE,cF,fp,cG,cH,fq,cI,rfl,aA,aZ,aM,aN⟩,bL⟩
 have bj:=al2 ac.lt ab.lt
 have bo:Gb w.heap.size cx.heap.size:=aa.size
 have cJ:=C6 aZ ab.lt
 have cK:=C6 aZ ac.lt
 have cL:Cov nil w aG:=P2 aZ aa.size
 replace ⟨h4,ab,ac,aa⟩:=(sz [ag,af] bL aZ).g4 h4 ab ac aa
 replace aA:Own bQ aG 142 (nin (ge w.heap.size) [aG,ag,af]) _ _ _:=Own.Fk (s0:=w.heap.size) (M:=[ag,af]) aA bj bo
 replace aA:=aA.base (G':=fo F w.heap.size) (fun _ _ h=>.inr h)
 have eJ:=aA.len
 replace aM:RepS bQ (nin (ge w.heap.size) [aG,ag,af]) _ _ _ _:=RepS.Fk (s0:=w.heap.size) (M:=[ag,af]) aM bj bo
 replace aM:=aM.base (G':=fo F w.heap.size) (fun _ _ h=>.inr h)
 have eK:=aM.max
 replace aN:RepS bQ (nin (ge w.heap.size) [aG,ag,af]) _ _ _ _:=RepS.Fk (s0:=w.heap.size) (M:=[ag,af]) aN bj bo
 replace aN:=aN.base (G':=fo F w.heap.size) (fun _ _ h=>.inr h)
 have eM:=aN.max
 have cM:=aM.len
 subst cM
 have cN:=aN.len
 subst cN
 refine .np 35 [AH,AH,AH,vI 0] fun ak fu aU bM cO cP=>?_
 have eO:=Ab aU ab.lt
 have eP:=Ab aU ac.lt
 have cQ:=Ab aU aA.lt
 have eQ:=aa.cn aU
 replace ⟨h4,ab,ac,aA,aM,aN,aa⟩:=(sn [aG,ag,af] bM aU).g7 h4 ab ac aA aM aN aa
 refine .sc [vS aG cD cE,.slice cF d.list.length cG,.slice cH d.names.length cI,vI d.next] cO fun bq bN bO bR=>?_
 replace ⟨h4,ab,ac,aA,aM,aN,aa⟩:=(so [ak,aG,ag,af] bN).g7 h4 ab ac aA aM aN aa
 refine .d<|.s<|.s<|.g<|.r 5<|RG.sub (t:=91) (lo:=none) (hi:=some (vI (if (steps.length:Int)< cut then (steps.length:Int) else cut))) h4 0 (((if (steps.length:Int)< cut then (steps.length:Int) else cut)).toNat) AA AA (.inl ⟨rfl,rfl⟩) (.inr ⟨_,_,rfl,by omega⟩) (by split <;> omega) (by split <;> omega) fun cR cS aV=>?_
 have dA:=aV.len; have dB:=aV.max
 refine .r 2<|.d<|.b 0<|T.loop (X:=Nat × (List Fil) × Nat × Nat × Nat × (List Int) × (Option Addr) × Nat × Nat × (List (List Tag)) × (Option Addr) × Nat × Nat × Int) (0,(d.files:List Fil),aG,cD,cE,(d.list:List Int),cF,d.list.length,cG,(d.names:List (List Tag)),cH,d.names.length,cI,d.next) (fun (k,ae,r_out_0,n_out_0,c_out_0,ah,a_out_1,n_out_1,c_out_1,ai,a_out_2,n_out_2,c_out_2,aj)=>[(6,.pointer (some ⟨ag,0,none⟩)),(7,.pointer (some ⟨ak,0,none⟩)),(25,.slice cR (((if (steps.length:Int)< cut then (steps.length:Int) else cut)).toNat - 0) cS),(26,vI (((((if (steps.length:Int)< cut then (steps.length:Int) else cut)).toNat - 0)):Int)),(27,vI (k:Int))]) (fun (k,ae,r_out_0,n_out_0,c_out_0,ah,a_out_1,n_out_1,c_out_1,ai,a_out_2,n_out_2,c_out_2,aj) aK=>Chg (ins [aG,ak]) bq aK∧Own aK r_out_0 142 (nin (fo F w.heap.size) [ak,r_out_0,ag,af]) n_out_0 c_out_0 ae∧OrB r_out_0 aG bq.heap.size∧RepS aK (nin (fo F w.heap.size) [ak,r_out_0,ag,af]) a_out_1 n_out_1 c_out_1 ah∧RepS aK (nin (fo F w.heap.size) [ak,r_out_0,ag,af]) a_out_2 n_out_2 c_out_2 ai∧Box aK ak 35 [vS r_out_0 n_out_0 c_out_0,.slice a_out_1 n_out_1 c_out_1,.slice a_out_2 n_out_2 c_out_2,vI aj]∧(k≤((steps.take (if (steps.length:Int)< cut then (steps.length:Int) else cut).toNat).drop 0).length)∧(ae.length≤d.files.length+k)∧((List.drop k ((steps.take (if (steps.length:Int)< cut then (steps.length:Int) else cut).toNat).drop 0)).foldl doD (⟨ae,ah,ai,aj⟩:Dsk)=toD d steps cut)) (fun (k,ae,r_out_0,n_out_0,c_out_0,ah,a_out_1,n_out_1,c_out_1,ai,a_out_2,n_out_2,c_out_2,aj)=>((steps.take (if (steps.length:Int)< cut then (steps.length:Int) else cut).toNat).drop 0).length - k) AA ⟨AA,AA,AA,AA,AA,trivial⟩ ⟨Chg.refl _ _,aA,FO,aM,aN,bO,AB,AB,(by exact YK ‹_›)⟩ ?_
 rintro ⟨k,ae,r_out_0,n_out_0,c_out_0,ah,a_out_1,n_out_1,c_out_1,ai,a_out_2,n_out_2,c_out_2,aj⟩ eR aK ⟨ax,am,aH,ao,aq,ar,dC,dD,dE⟩ bm
 have dF:=Dw aH cJ ab.lt
 have dG:=Dw aH cK ac.lt
 have bS:=Dw aH (Nb.symm cQ) bO.lt
 have dH:=Dk aH cL aa.size
 have bT:Cov (ins [aG,ak]) bq aG:=⟨.inl AI⟩
 have dI:Cov (ins [aG,ak]) bq ak:=⟨.inl AJ⟩
 have dJ:=Dk aH bT (Nat.le_refl _)
 have br:Mv [ak,aG,ag,af] [ak,r_out_0,ag,af] bq aK:=Mv.inl ax (all_cons AJ (all_cons AI all_nil)) (all_cons (.inl AI) (all_cons (GY aH AJ) (all_cons (.inl AK) (all_cons (.inl AL) all_nil))))
 replace ⟨ab,ac,aV,aa⟩:=(sp br ax).g4 ab ac aV aa
 have dK:=am.len; have dL:=am.max
 refine .s<|.g<|.bp ((k:Int)< (((((if (steps.length:Int)< cut then (steps.length:Int) else cut)).toNat - 0)):Int)) (fun bU=>?_) (fun bU=>?_)
 ·refine .d<|.s<|.ct<|.sk<|.s<|.b 1<|.s<|.g ?_
  have bV:k< (((if (steps.length:Int)< cut then (steps.length:Int) else cut)).toNat - 0):=AB
  refine .ix k 6 aV bV ?_
  obtain ⟨ay,ba⟩:∃ y,((steps.take (((if (steps.length:Int)< cut then (steps.length:Int) else cut)).toNat)).drop 0)[k]? = some y:=⟨_,AU AB⟩
  have dQ:=drop_at ba; have cT:=AV ba
  obtain ⟨_,⟨cU,eT,cV,cW,eU,cX,cY,eV,cZ,c7,eW,c8,rfl,aO,aP,aQ,aR⟩,bW⟩:=aV.elem k ay ba
  have bX:=aO.len
  subst bX
  have bY:=aP.len
  subst bY
  have bZ:=aQ.len
  subst bZ
  have b0:=aR.len
  subst b0
  refine .lg 0 bW<|.np 138 [vI 0,vI 0,AH,AH,AH,AH] fun aB eX aC bu b6 b7=>?_
  have dV:=Ab aC ab.lt
  have dW:=Ab aC ac.lt
  have dX:=Ab aC am.lt
  have dY:=Ab aC ar.lt
  have dZ:=aa.cn aC
  have d0:=ax.cn aC
  replace ⟨ab,ac,am,ar,ao,aq,aO,aP,aQ,aR,aa,ax⟩:=(sn [ak,r_out_0,ag,af] bu aC).g12 ab ac am ar ao aq aO aP aQ aR aa ax
  refine .sc [vI ay.kind,vI ay.num,.slice cU ay.part.ids.length cV,.slice cW ay.part.blocks.length cX,.slice cY ay.list.length cZ,.slice c7 ay.names.length c8] b6 fun bv bw bz b8=>?_
  replace ⟨ab,ac,am,ar,ao,aq,aO,aP,aQ,aR,aa,ax⟩:=(so [aB,ak,r_out_0,ag,af] bw).g12 ab ac am ar ao aq aO aP aQ aR aa ax
  refine .d<|.g<|.ln bz<|.cl (KO (⟨ae,ah,ai,aj⟩:Dsk) ay (Own.toM am (all_cons AJ (all_cons AK all_nil))) (RepS.toM ao (all_cons AJ (all_cons AK all_nil))) (RepS.toM aq (all_cons AJ (all_cons AK all_nil))) ar bS (RepS.toM aO (all_cons AJ (all_cons AK all_nil))) (RepS.toM aP (all_cons AJ (all_cons AK all_nil))) (RepS.toM aQ (all_cons AJ (all_cons AK all_nil))) (RepS.toM aR (all_cons AJ (all_cons AK all_nil))) (by have:=p0.nf; have q2:=(p1 ‹_›).len; have q3:=ZR (st:=steps) (c:=cut) ‹_›; show ae.length≤1000; omega) ((p1 ‹_›).sz _ (List.mem_of_mem_take (List.mem_of_mem_drop ‹_›))) ((p1 ‹_›).pt _ (List.mem_of_mem_take (List.mem_of_mem_drop ‹_›))) (w:=bv) (F:=nin (fo F w.heap.size) [aB,ak,r_out_0,ag,af])) ?_
  rintro eY aW ⟨⟨rfl,aD,da,db,de,eZ,df,dh,e7,dj,b9,aI,bk,d3,aS,aT⟩,bd⟩
  have aX:=al5 bz.lt ar.lt am.lt ac.lt ab.lt
  have bg:Gb w.heap.size bv.heap.size:=aa.size
  have cd:=Vg bk aH ax.size
  have bA:Mv [aB,ak,r_out_0,ag,af] [aB,ak,aD,ag,af] bv aW:=Mv.inl bd (all_cons AJ (all_cons AK all_nil)) (all_cons (.inl AI) (all_cons (.inl AJ) (all_cons (GY bk AK) (all_cons (.inl AL) (all_cons (.inl AM) all_nil)))))
  replace ⟨ab,ac,ao,aq,aa,ax⟩:=(sp bA bd).g6 ab ac ao aq aa ax
  replace aI:Own aW aD 142 (nin (fo F w.heap.size) [aB,ak,aD,ag,af]) _ _ _:=Own.bxM (M2:=[aB,ak,aD,ag,af]) aI aX (fun _ h=>.inr (Nat.le_trans bg h)) (all_cons (.inr AI) (all_cons (.inl AI) (all_cons (.inl AJ) (all_cons (.inr AL) (all_cons (.inr AM) all_nil)))))
  replace aS:RepS aW (nin (fo F w.heap.size) [aB,ak,aD,ag,af]) _ _ _ _:=RepS.bxM (M2:=[aB,ak,aD,ag,af]) aS aX (fun _ h=>.inr (Nat.le_trans bg h)) (all_cons (.inr AI) (all_cons (.inl AI) (all_cons (.inl AJ) (all_cons (.inr AL) (all_cons (.inr AM) all_nil)))))
  replace aT:RepS aW (nin (fo F w.heap.size) [aB,ak,aD,ag,af]) _ _ _ _:=RepS.bxM (M2:=[aB,ak,aD,ag,af]) aT aX (fun _ h=>.inr (Nat.le_trans bg h)) (all_cons (.inr AI) (all_cons (.inl AI) (all_cons (.inl AJ) (all_cons (.inr AL) (all_cons (.inr AM) all_nil)))))
  have ce:=aS.len
  subst ce
  have cg:=aT.len
  subst cg
  refine .d<|.ib 1<|.g<|.it ((k:Int)+1)<|.r 1<|.d ?_
  have ci:Mv [aB,ak,aD,ag,af] [ak,aD,ag,af] aW aW:=Mv.less (all_cons AJ (all_cons AK (all_cons AL (all_cons AM all_nil))))
  replace ⟨aI,ao,aq,aS,aT⟩:=(sp ci (Chg.refl nil _)).g5 aI ao aq aS aT
  exact bm (k+1,((doD (⟨ae,ah,ai,aj⟩:Dsk) ay)).files,aD,da,db,((doD (⟨ae,ah,ai,aj⟩:Dsk) ay)).list,de,(((doD (⟨ae,ah,ai,aj⟩:Dsk) ay)).list).length,df,((doD (⟨ae,ah,ai,aj⟩:Dsk) ay)).names,dh,(((doD (⟨ae,ah,ai,aj⟩:Dsk) ay)).names).length,dj,((doD (⟨ae,ah,ai,aj⟩:Dsk) ay)).next) _ _ ⟨AA,AA,AA,AA,AA,trivial⟩ ⟨ax,aI,cd,aS,aT,b9,AB,(by exact Nat.le_trans (Ub _) (by show ae.length+1≤_; omega)),(by exact Wa ‹_› ‹_›)⟩ (by (simp only []; omega))
 refine .d<|.s<|.cf<|.x 0 rfl<|.s<|.s<|.g<|.ln ar<|.cl (DC (⟨ae,ah,ai,aj⟩:Dsk) (am.rep) ao.ta aq.ta (by exact KG ‹_› AB (p1 ‹_›)) (w:=aK) (F:=all)) ?_
 rintro e8 bP ⟨rfl,bB⟩
 replace ⟨ab,ac,am,ar,ao,aq,aa⟩:=(se [ak,r_out_0,ag,af] bB).g7 ab ac am ar ao aq aa
 cases d8:(BC (⟨ae,ah,ai,aj⟩:Dsk))
 ·refine .r 1<|.d<|.ct<|.s<|.g<|.r 1<|.sc [AH,AH,AH,vI 0] ac fun fa bC cj ck=>?_
  replace ⟨ab,am,ar,ao,aq,aa⟩:=(so [ak,r_out_0,ag,af] bC).g6 ab am ar ao aq aa
  exact .d<|.rb func74 results74 cj ⟨(VS.of (y:=(⟨([]:List Fil),([]:List Int),([]:List (List Tag)),0⟩:Dsk)) ⟨_,rfl,⟨_,_,_,_,_,_,_,_,_,rfl,(RepS.Ba _ _ none 0 AE),(RepS.Ba _ _ none 0 AE),(RepS.Ba _ _ none 0 AE)⟩⟩ (by exact Wb ‹_› AB ‹_›)),aa⟩
 refine .r 1<|.d<|.cf<|.sk<|.s<|.g<|.ln ar<|.cl (En (⟨ae,ah,ai,aj⟩:Dsk) (am.rep) ao.ta aq.ta (by exact YL (KG ‹_› AB (p1 ‹_›))) (by exact YM (KG ‹_› AB (p1 ‹_›))) (by exact YN (KG ‹_› AB (p1 ‹_›))) (by exact YO (KG ‹_› AB (p1 ‹_›))) (by exact YP (KG ‹_› AB (p1 ‹_›))) (w:=bP) (F:=all)) ?_
 rintro fb bD ⟨⟨aL,dm,dq,dt,fd,du,dv,fe,dw,rfl,az,aJ,aE,aF⟩,bE⟩
 have aY:=al4 ar.lt am.lt ac.lt ab.lt
 have bh:Gb w.heap.size bP.heap.size:=aa.size
 have d9:=C6 aJ ab.lt
 have ec:=C6 aJ ac.lt
 have ee:=C6 aJ am.lt
 have eg:=C6 aJ ar.lt
 have cm:=KS aJ aa.size
 replace ⟨ac,aa⟩:=(se [] bE).g2 ac aa
 replace az:Own bD aL 142 (nin (ge w.heap.size) [aL,ak,r_out_0,ag,af]) _ _ _:=Own.Fk (s0:=w.heap.size) (M:=[ak,r_out_0,ag,af]) az aY bh
 replace az:=az.base (G':=fo F w.heap.size) (fun _ _ h=>.inr h)
 replace aE:RepS bD (nin (ge w.heap.size) [aL,ak,r_out_0,ag,af]) _ _ _ _:=RepS.Fk (s0:=w.heap.size) (M:=[ak,r_out_0,ag,af]) aE aY bh
 replace aE:=aE.base (G':=fo F w.heap.size) (fun _ _ h=>.inr h)
 have ek:=aE.max
 replace aF:RepS bD (nin (ge w.heap.size) [aL,ak,r_out_0,ag,af]) _ _ _ _:=RepS.Fk (s0:=w.heap.size) (M:=[ak,r_out_0,ag,af]) aF aY bh
 replace aF:=aF.base (G':=fo F w.heap.size) (fun _ _ h=>.inr h)
 have en:=aF.max
 have co:=aE.len
 subst co
 have cp:=aF.len
 subst cp
 refine .sc [vS aL dm dq,.slice dt ((((⟨ae,ah,ai,aj⟩:Dsk)).list).length) du,.slice dv ((((⟨ae,ah,ai,aj⟩:Dsk)).names).length) dw,vI (((⟨ae,ah,ai,aj⟩:Dsk)).next)] ac fun dx bF cq cr=>?_
 replace ⟨az,aE,aF,aa⟩:=(so [aL,ak,r_out_0,ag,af] bF).g4 az aE aF aa
 refine .d ?_
 have dy:=az.sl (.inr cm)
 replace ⟨aE,aF⟩:=(sd dx [aL,ak,r_out_0,ag,af] aL).g2 aE aF
 exact .rb func74 results74 cq ⟨(VS.of (y:=((⟨ae,ah,ai,aj⟩:Dsk))) ⟨_,rfl,⟨_,_,_,_,_,_,_,_,_,rfl,dy.w1,aE.w1,aF.w1⟩⟩ (by exact Wc ‹_› AB ‹_› ‹_› ‹_›)),aa⟩
end Go.Proofs.YtfninflnngpchaaGreatDoor
namespace Go.Proofs.YtfninflnngpchaaGreatDoor
set_option maxRecDepth 100000
set_option maxHeartbeats 4000000
variable {w:World} {F:Nat→Prop} {a1 a2 a3:Option Addr} {n1 c1 n2 c2 n3 c3:Nat}
theorem Ft (f:Fil) (d:Dsk) (h1:RepS w F a1 n1 c1 f.part.ids) (h2:RepS w F a2 n2 c2 f.part.blocks){bq_d:Nat}{a3:Option Addr}{c3:Nat}{a4:Option Addr}{c4:Nat}{a5:Option Addr}{c5:Nat}(hb_d:Box w bq_d 35 [.slice a3 d.files.length c3,.slice a4 d.list.length c4,.slice a5 d.names.length c5,.int .i64 d.next]) (h3:RepS w F a3 d.files.length c3 d.files) (h4:RepS w F a4 d.list.length c4 d.list) (h5:RepS w F a5 d.names.length c5 d.names)  : Calls Tryz.prog 176 [.agg #[.int .i64 f.num,.slice a1 n1 c1,.slice a2 n2 c2],.pointer (some ⟨bq_d,0,none⟩)].toArray w (Am fun rv w'=>rv=.bool ((!(d.list.contains f.num)))∧Ext w w'):=by
 cases h1.len
 cases h2.len
 refine goT func176 ?_
 have Z:=((((((St.i0 F w).p h1).p h2).p h3).p h4).p h5).pb' hb_d
 exact .s<|.g<|RG.Np Z fun ag w Z=>.r 1<|.d<|.s<|.g<|.r 1<|RG.Lh 0 1 Z<|.r 1<|RG.Lb 0 Z<|RG.C0 (Cf d.list f.num (Z.a 2)) Z fun w Z=>.r 2<|.d<|T.rt func176 results176 (.bool (!(d.list.contains f.num))) ⟨(AG AF),Z.xt⟩
theorem KP (s:List Fil) (d:Dsk) (h1:RepS w F a1 n1 c1 s){bq_d:Nat}{a2:Option Addr}{c2:Nat}{a3:Option Addr}{c3:Nat}{a4:Option Addr}{c4:Nat}(hb_d:Box w bq_d 35 [.slice a2 d.files.length c2,.slice a3 d.list.length c3,.slice a4 d.names.length c4,.int .i64 d.next]) (h2:RepS w F a2 d.files.length c2 d.files) (h3:RepS w F a3 d.list.length c3 d.list) (h4:RepS w F a4 d.names.length c4 d.names)  : Calls Tryz.prog 173 [.slice a1 n1 c1,.func (.func 176) #[] #[.pointer (some ⟨bq_d,0,none⟩)]].toArray w (Am fun rv w'=>rv=.int .i64 (Di d.list 0 s)∧Ext w w'):=by
 refine goT func173 ?_
 obtain ⟨rfl,az,h1⟩:=h1.tp
 replace h2:=h2.top (s:=w.heap.size)
 replace h3:=h3.top (s:=w.heap.size)
 replace h4:=h4.top (s:=w.heap.size)
 refine .s<|.g<|.r 1<|.d<|.s<|.s<|.g<|.r 3<|.d<|.b 0<|T.loop (X:=Nat) 0 (fun k=>[(0,.slice a1 s.length c1),(1,.func (.func 176) #[] #[.pointer (some ⟨bq_d,0,none⟩)]),(7,vI (s.length:Int)),(8,vI (k:Int))]) (fun k ac=>Chg (ins []) w ac∧(k≤s.length)∧(Di d.list k (s.drop k)=Di d.list 0 s)) (fun k=>s.length - k) AA ⟨AA,AA,AA,AA,trivial⟩ ⟨Chg.refl _ _,AD,AD⟩ ?_
 rintro k aJ ac ⟨aa,aD,aE⟩ ae
 have ag:Mv [] [] w ac:=Mv.inl aa all_nil all_nil
 replace ⟨h1,h2,h3,h4,hb_d⟩:=(sp ag aa).g5 h1 h2 h3 h4 hb_d
 have ab:Chg nil w ac:=Chg.Oi (Chg.refl nil w) aa all_nil
 refine .s<|.g<|.bp ((k:Int)< (s.length:Int)) (fun am=>?_) (fun am=>.d<|.s<|.cf<|.x 0 rfl<|.s<|.g<|.r 1<|.d<|.rt func173 results173 (vI (-1)) ⟨(congrArg (Value.int .i64) (by exact Uf ‹_› AB)),ab⟩)
 refine .d<|.s<|.ct<|.sk<|.s<|.b 1<|.s<|.g<|.r 2<|.d<|.s<|.g<|.r 3 ?_
 have ao:k< s.length:=AB
 refine .ix k 3 h1 ao ?_
 obtain ⟨ai,af⟩:∃ y,s[k]? = some y:=⟨_,AU AB⟩
 have aF:=drop_at af
 obtain ⟨_,⟨aK,aL,aM,aN,aO,aP,rfl,aj,ak⟩,aq⟩:=h1.elem k ai af
 have ar:=aj.len
 subst ar
 have ax:=ak.len
 subst ax
 refine .lg 0 aq<|.cl (Ft ai d aj.ta ak.ta hb_d h2.ta h3.ta h4.ta (w:=ac) (F:=all)) ?_
 rintro aQ aR ⟨rfl,ah⟩
 replace ⟨hb_d,ab,aa⟩:=(se [] ah).g3 hb_d ab aa
 cases aI:(!(d.list.contains ai.num))
 ·exact .d<|.cf<|.sk<|.ib 1<|.g<|.it ((k:Int)+1)<|.r 1<|.d<|ae (k+1) _ _ ⟨AA,AA,AA,AA,trivial⟩ ⟨aa,AB,(by exact YR ‹_› ‹_› ‹_›)⟩ AB
 exact .d<|.ct<|.s<|.g<|.r 2<|.d<|.rt func173 results173 (vI (k:Int)) ⟨(congrArg (Value.int .i64) (by exact Ue ‹_› ‹_› ‹_›)),ab⟩
theorem IA (d:Dsk){r n c bq c1 c2 c3:Nat}{a1 a2 a3:Option Addr}{xs0:List Fil}(ho:Own w r 142 F n c xs0) (hb:Box w bq 35 [.slice a1 d.files.length c1,.slice a2 d.list.length c2,.slice a3 d.names.length c3,.int .i64 d.next]) (h1:RepS w (nin all [r]) a1 d.files.length c1 d.files) (h2:RepS w (nin all [r]) a2 d.list.length c2 d.list) (h3:RepS w (nin all [r]) a3 d.names.length c3 d.names) (hne:Nb r bq) (hn:n≤1000000):Calls Tryz.prog 175 [.slice (some ⟨r,0,none⟩) n c,.func (.func 176) #[] #[.pointer (some ⟨bq,0,none⟩)]].toArray w (Am fun rv w'=>(∃ m,rv=.slice (some ⟨r,0,none⟩) m c∧Own w' r 142 F m c (xs0.filter (fun f=>d.list.contains f.num)))∧Chg (one r) w w'):=by
 refine goT func175 ?_
 replace ho:=ho.ZE; have hnl:=ho.len; have hle:=ho.le
 refine .s<|.g<|.r 1<|.d<|.s<|.g<|.r 2<|.cl (KP xs0 d (ho.rep) hb h1.ta h2.ta h3.ta (w:=w) (F:=all)) ?_
 rintro bX aB ⟨rfl,aq⟩
 replace ⟨ho,h1,h2,h3,hb⟩:=(se [r] aq).g5 ho h1 h2 h3 hb
 have ab:Chg (one r) w aB:=Chg.KT (Chg.refl (one r) w) aq
 refine .r 1<|.d<|.s<|.s<|.g<|.r 1<|.eq (Di d.list 0 xs0) (-1) (fun aT=>.d<|.ct<|.s<|.g<|.r 2<|.d<|.rt func175 results175 (vS r n c) ⟨⟨_,rfl,(Own.XI ho).eqx (We ‹_›)⟩,ab⟩) fun aT=>.d<|.cf<|.sk<|.s<|.s<|.g<|.r 1<|RG.int (Di d.list 0 xs0+1) AA (by (have q1:=RX (by assumption:¬ Di d.list 0 xs0 = -1); have q2:=RY d.list xs0; omega))<|.r 1<|.d<|.b 0<|T.loop (X:=Int × Int × (List Fil)) (Di d.list 0 xs0,Di d.list 0 xs0+1,xs0) (fun (i,j,xs)=>[(0,vS r n c),(1,.func (.func 176) #[] #[.pointer (some ⟨bq,0,none⟩)]),(5,vI i),(6,vI j)]) (fun (i,j,xs) ar=>Chg (ins [r]) aB ar∧Own ar r 142 (nin F [r]) n c xs∧(0≤i)∧(i< j)∧(j≤n)∧(xs.take i.toNat=(xs0.take j.toNat).filter (fun f=>d.list.contains f.num))∧(xs.drop j.toNat=xs0.drop j.toNat)) (fun (i,j,xs)=>n - j.toNat) AA ⟨AA,AA,AA,AA,trivial⟩ ⟨Chg.refl _ _,ho,(by exact RX ‹_›),AB,(by have:=RY d.list xs0; omega),(by exact Sm ‹_›),AF⟩ ?_
 rintro ⟨i,j,xs⟩ bY ar ⟨ac,aa,bB,bC,bD,bE,bF⟩ ai
 have bG:Cov (ins [r]) aB r:=⟨.inl AI⟩
 have aF:Mv [r] [r] aB ar:=Mv.inl ac (all_cons AI all_nil) (all_cons (.inl AI) all_nil)
 replace ⟨h1,h2,h3,hb,ab⟩:=(sp aF ac).g5 h1 h2 h3 hb ab
 have bH:=aa.len
 refine .s<|.s<|.g<|.r 3<|.bp (j< (n:Int)) (fun aU=>?_) (fun aU=>?_)
 ·refine .d<|.ct<|.sk<|.s<|.b 1<|.s<|.g<|.r 2 ?_
  have aV:j.toNat< n:=AB
  refine RG.idx (b:=r) (o:=0) (j.toNat) (len:=n) (i:=j) (sz:=3) AA AB aV rfl ?_
  obtain ⟨ae,ax⟩:∃ y,xs[j.toNat]? = some y:=⟨_,AU AB⟩
  obtain ⟨_,⟨aK,bZ,aL,aM,b0,aN,rfl,af,ag⟩,ay⟩:=aa.elem (j.toNat) ae ax
  replace af:=af.CQ (fun _ _ h=>h.1)
  replace ag:=ag.CQ (fun _ _ h=>h.1)
  have aW:=af.len
  subst aW
  have aX:=ag.len
  subst aX
  replace ay:Has ar ⟨r,0+(j.toNat) * Rep.sz Fil,none⟩ [vI ae.num,.slice aK ae.part.ids.length aL,.slice aM ae.part.blocks.length aN]:=by rw [Nat.zero_add]; exact ay
  refine .lg 0 ay<|.np 142 [vI 0,AH,AH] fun aC b6 ah aG aY aZ=>?_
  have bM:=Ab ah aa.lt
  have bN:=Ab ah hb.lt
  have bO:=ab.cn ah
  have bP:=ac.cn ah
  replace ⟨aa,h1,h2,h3,hb,af,ag,ab,ac⟩:=(sn [r] aG ah).g9 aa h1 h2 h3 hb af ag ab ac
  refine .sc [vI ae.num,.slice aK ae.part.ids.length aL,.slice aM ae.part.blocks.length aN] aY fun bw aH am ba=>?_
  replace ⟨aa,h1,h2,h3,hb,af,ag,ab,ac⟩:=(so [aC,r] aH).g9 aa h1 h2 h3 hb af ag ab ac
  refine .d<|.s<|.g<|.r 1<|.ln am<|.cl (Ft ae d af.ta ag.ta hb h1.ta h2.ta h3.ta (w:=bw) (F:=all)) ?_
  rintro b7 aO ⟨rfl,aI⟩
  replace ⟨aa,hb,af,ag,am,ab,ac⟩:=(se [aC,r] aI).g7 aa hb af ag am ab ac
  cases bQ:(!(d.list.contains ae.num))
  ·refine .r 1<|.d<|.ct<|.s<|.g<|.r 2<|.ln am ?_
   have bd:i.toNat< n:=AB
   refine RG.idx (b:=r) (o:=0) (i.toNat) (len:=n) (i:=i) (sz:=3) AA AB bd rfl ?_
   obtain ⟨aj,ao⟩:∃ y,xs[i.toNat]? = some y:=⟨_,AU AB⟩
   obtain ⟨_,⟨bg,b8,bh,bi,b9,bj,rfl,aD,aE⟩,az⟩:=aa.elem (i.toNat) aj ao
   replace aD:=aD.CQ (fun _ _ h=>h.1)
   replace aE:=aE.CQ (fun _ _ h=>h.1)
   have bk:=aD.len
   subst bk
   have bm:=aE.len
   subst bm
   replace az:Has aO ⟨r,0+(i.toNat) * Rep.sz Fil,none⟩ [vI aj.num,.slice bg aj.part.ids.length bh,.slice bi aj.part.blocks.length bj]:=by rw [Nat.zero_add]; exact az
   refine RG.IS (t':=142) (i:=(i.toNat)) (k:=0) (v:=.agg #[vI ae.num,.slice aK ae.part.ids.length aL,.slice aM ae.part.blocks.length aN]) (cs:=[vI aj.num,.slice bg aj.part.ids.length bh,.slice bi aj.part.blocks.length bj]) ae aa ao az AA AA AA ⟨_,_,_,_,_,_,rfl,af.oi,ag.oi⟩ fun aJ ak aA aP=>?_
   replace ⟨hb,ab,ac⟩:=(s1 aA).g3 hb ab ac
   refine .d<|.g<|.r 1<|RG.int (i+1) AA AB<|.r 1<|.d<|.ib 1<|.g<|.r 1<|RG.int (j+1) AA AB<|.r 1<|.d ?_
   have aQ:Mv [aC,r] [r] aJ aJ:=Mv.less (all_cons AJ all_nil)
   replace ak:=(sp aQ (Chg.refl nil _)).g1 ak
   exact ai (i+1,j+1,(xs.set (i.toNat) ae)) _ _ ⟨AA,AA,AA,AA,trivial⟩ ⟨ac,ak,AB,AB,AB,(by exact Ug ‹_› ‹_› ‹_› AB AB AB ‹_›),(by exact Sn ‹_› AB AB AB)⟩ (by (simp only []; omega))
  refine .r 1<|.d<|.cf<|.sk<|.ib 1<|.g<|.r 1<|RG.int (j+1) AA AB<|.r 1<|.d ?_
  have aR:Mv [aC,r] [r] aO aO:=Mv.less (all_cons AJ all_nil)
  replace aa:=(sp aR (Chg.refl nil _)).g1 aa
  exact ai (i,j+1,xs) _ _ ⟨AA,AA,AA,AA,trivial⟩ ⟨ac,aa,AB,AB,AB,(by exact Uh ‹_› ‹_› ‹_› AB ‹_›),(by exact Ui ‹_› AB)⟩ (by (simp only []; omega))
 refine .d<|.cf<|.x 0 rfl<|.s<|.g<|.r 2 ?_
 refine RG.H5 (t:=32) (r:=r) (o:=0) (len:=n) (cap:=c) (lo:=some (vI i)) (hi:=none) (sz:=3) (i.toNat) n AA AA (.inr ⟨_,_,rfl,by omega⟩) (.inl ⟨rfl,rfl⟩) AB AB AB ?_
 obtain ⟨cs_,hB_,hl_⟩:=Own.X5 aa; have hz_:Rep.sz Fil=3:=rfl; rw [hz_] at hl_
 obtain ⟨vs_,w5,bz,ce,bn,aS⟩:=UX (P:=Tryz.prog) (T:=32) (ty:=0) (t:=142) (sz:=3) (o:=0+(i.toNat) * 3) (m:=n - i.toNat) (c:=c - i.toNat) AA hB_ AB AB
 rw [Nat.zero_add] at bn
 have hsl_:(BE cs_ ((i.toNat) * 3) vs_).length=c * Rep.sz Fil:=by rw [EM AB,hz_]; exact hl_
 have bA:=Own.YJ aa aS hB_ bn hsl_ (i:=i.toNat) AB (fun p hp=>Sl (by rw [hz_] at hp; exact hp) AB)
 refine RG.clear (ats:=[32]) (ty:=0) (args:=[.slice (some ⟨r,0+(i.toNat) * 3,none⟩) (n - i.toNat) (c - i.toNat)]) AA bz ?_
 replace ⟨hb,ab⟩:=(s1 aS).g2 hb ab
 exact .d<|.s<|.g<|.r 2<|RG.H5 (t:=32) (r:=r) (o:=0) (len:=n) (cap:=c) (lo:=none) (hi:=some (vI i)) (sz:=3) 0 (i.toNat) AA AA (.inl ⟨rfl,rfl⟩) (.inr ⟨_,_,rfl,by omega⟩) AB AB AB<|.r 1<|.d<|.rt func175 results175 (vS r (i.toNat) c) ⟨⟨_,rfl,(Own.XI bA).eqx (Wf ‹_› ‹_› AB AB)⟩,ab⟩
theorem K2 (d:Dsk) (h1:RepS w F a1 n1 c1 d.files) (h2:RepS w F a2 n2 c2 d.list) (h3:RepS w F a3 n3 c3 d.names) (p0:DD d):Calls Tryz.prog 126 [.agg #[.slice a1 n1 c1,.slice a2 n2 c2,.slice a3 n3 c3,.int .i64 d.next]].toArray w (Am fun rv w'=>VS (ge w.heap.size) w' (CM d:Dsk) rv∧Ext w w'):=by
 refine goT func126 ?_
 obtain ⟨rfl,b0,h1⟩:=h1.tp
 obtain ⟨rfl,b6,h2⟩:=h2.tp
 obtain ⟨rfl,b7,h3⟩:=h3.tp
 refine .s<|.g<|.np 35 [.slice a1 d.files.length c1,.slice a2 d.list.length c2,.slice a3 d.names.length c3,vI d.next] fun ag cy aN aG ab br=>?_
 replace ⟨h1,h2,h3⟩:=(sn [] aG aN).g3 h1 h2 h3
 have aa:=aG
 refine .np 35 [AH,AH,AH,vI 0] fun ah bP aD aO ac bu=>?_
 have b8:=Ab aD ab.lt
 have b9:=aa.cn aD
 replace ⟨h1,h2,h3,ab,aa⟩:=(sn [ag] aO aD).g5 h1 h2 h3 ab aa
 refine .d<|.s<|.s<|.g<|.ln ab<|.cl (DC d h1.ta h2.ta h3.ta p0 (w:=bP) (F:=all)) ?_
 rintro cz bv ⟨rfl,aP⟩
 replace ⟨h1,h2,h3,ab,ac,aa⟩:=(se [ah,ag] aP).g6 h1 h2 h3 ab ac aa
 cases cd:(BC d)
 ·refine .r 1<|.d<|.ct<|.s<|.g<|.r 1<|.sc [AH,AH,AH,vI 0] ac fun cA aQ bw bz=>?_
  replace ⟨h1,h2,h3,ab,aa⟩:=(so [ah,ag] aQ).g5 h1 h2 h3 ab aa
  exact .d<|.rb func126 results126 bw ⟨(VS.of (y:=(⟨([]:List Fil),([]:List Int),([]:List (List Tag)),0⟩:Dsk)) ⟨_,rfl,⟨_,_,_,_,_,_,_,_,_,rfl,(RepS.Ba _ _ none 0 AE),(RepS.Ba _ _ none 0 AE),(RepS.Ba _ _ none 0 AE)⟩⟩ (by exact Wd ‹_›)),aa⟩
 refine .r 1<|.d<|.cf<|.sk<|.s<|.g<|.ln ab<|.cl (En d h1.ta h2.ta h3.ta (by exact YL p0) (by exact YM p0) (by exact YN p0) (by exact YO p0) (by exact YP p0) (w:=bv) (F:=all)) ?_
 rintro cB aX ⟨⟨aq,bQ,bA,bB,cC,bC,bD,cD,bE,rfl,aj,ay,ae,af⟩,aR⟩
 have aE:=al2 ac.lt ab.lt
 have aH:Gb w.heap.size bv.heap.size:=aa.size
 have bF:=C6 ay ab.lt
 have ce:=C6 ay ac.lt
 have bG:=KS ay aa.size
 have cg:Cov nil w aq:=P2 ay aa.size
 replace ⟨h1,h2,h3,ab,ac,aa⟩:=(sz [ah,ag] aR ay).g6 h1 h2 h3 ab ac aa
 replace aj:Own aX aq 142 (nin (ge w.heap.size) [aq,ah,ag]) _ _ _:=Own.Fk (s0:=w.heap.size) (M:=[ah,ag]) aj aE aH
 have ci:=aj.max
 have cj:=aj.len
 replace ae:RepS aX (nin (ge w.heap.size) [aq,ah,ag]) _ _ _ _:=RepS.Fk (s0:=w.heap.size) (M:=[ah,ag]) ae aE aH
 have ck:=ae.max
 replace af:RepS aX (nin (ge w.heap.size) [aq,ah,ag]) _ _ _ _:=RepS.Fk (s0:=w.heap.size) (M:=[ah,ag]) af aE aH
 have cm:=af.max
 have bH:=ae.len
 subst bH
 have bI:=af.len
 subst bI
 refine .np 35 [AH,AH,AH,vI 0] fun ax cE az aS bJ bK=>?_
 have co:=Ab az ab.lt
 have cp:=Ab az ac.lt
 have cq:=Ab az aj.lt
 have cr:=aa.cn az
 replace ⟨h1,h2,h3,ab,ac,aj,ae,af,aa⟩:=(sn [aq,ah,ag] aS az).g9 h1 h2 h3 ab ac aj ae af aa
 refine .sc [vS aq bQ bA,.slice bB d.list.length bC,.slice bD d.names.length bE,vI d.next] bJ fun cF aT aF bL=>?_
 replace ⟨h1,h2,h3,ab,ac,aj,ae,af,aa⟩:=(so [ax,aq,ah,ag] aT).g9 h1 h2 h3 ab ac aj ae af aa
 refine .d<|.s<|.g<|.r 1<|.lb aF<|.r 1 ?_
 refine .cl (IA d aj ab (RepS.Q9 h1 AJ) (RepS.Q9 h2 AJ) (RepS.Q9 h3 AJ) bF (by have:=p0.nf; have:=List.length_filter_le (fun f:Fil=>d.list.contains f.num) d.files; omega)) ?_
 rintro cG cH ⟨⟨aY,rfl,ar⟩,aU⟩
 replace ⟨ab,ac,ae,af,aF,aa⟩:=(so [ax,aq,ah,ag] aU).g6 ab ac ae af aF aa
 have bR:=ar.len; have bS:=ar.max
 refine .r 1<|.ss 0 (vS aq aY bA) aF fun cu aI ak aZ=>?_
 replace ⟨ab,ac,ar,ae,af,aa⟩:=(so [ax,aq,ah,ag] aI).g6 ab ac ar ae af aa
 refine .d<|.s<|.g<|.ns 0 142 [] fun aB aV am aJ ba bd=>?_
 have bg:=Ab am ab.lt
 have bh:=Ab am ac.lt
 have bT:=Ab am ar.lt
 have bi:=Ab am ak.lt
 have bj:=Bq am aa.size
 have bU:=aa.cn am
 replace ⟨ab,ac,ar,ae,af,ak,aa⟩:=(sn [ax,aq,ah,ag] aJ am).g7 ab ac ar ae af ak aa
 have aC:Own (α:=Fil) aV aB 142 (nin (ge w.heap.size) [aB,ax,aq,ah,ag]) 0 0 []:=Own.Ba ba
 refine .r 1<|.lb ak ?_
 have bM:=ar.sl bG
 replace ⟨ae,af,aC⟩:=(sd aV [aB,ax,aq,ah,ag] aq).g3 ae af aC
 refine RG.Qw (T:=32) (ty:=32) aC bM AA AA (fun b _ h=>P3 AI h) (by have:=p0.nf; have:=List.length_filter_le (fun f:Fil=>d.list.contains f.num) d.files; omega) fun aA aW cw ai ao aK=>?_
 have bV:=Bz ao bg ab.lt
 have bW:=Bz ao bh ac.lt
 have bX:=Bz ao bi ak.lt
 have bk:=Fj ao bj aa.size
 replace ⟨ac,ae,af,ak,aa⟩:=(sa [aB,ax,ah,ag] aK ao).g5 ac ae af ak aa
 replace ai:=ai.rn aB
 refine .r 1<|.ss 0 (vS aA (0+aY) aW) ak fun cx aL bm bn=>?_
 replace ⟨ac,ae,af,ai,aa⟩:=(so [aA,ax,ah,ag] aL).g5 ac ae af ai aa
 refine .d<|.s<|.g<|.ln bm<|.sc [vS aA (0+aY) aW,.slice bB d.list.length bC,.slice bD d.names.length bE,vI d.next] ac fun bN aM bo bq=>?_
 replace ⟨ae,af,ai,aa⟩:=(so [aA,ax,ah,ag] aM).g4 ae af ai aa
 refine .d ?_
 have bO:=ai.sl bk
 replace ⟨ae,af⟩:=(sd bN [aA,ax,ah,ag] aA).g2 ae af
 exact .rb func126 results126 bo ⟨(VS.of (y:=(⟨([]++(d.files.filter (fun f=>d.list.contains f.num))),d.list,d.names,d.next⟩:Dsk)) ⟨_,rfl,⟨_,_,_,_,_,_,_,_,_,rfl,bO.w1,ae.w1,af.w1⟩⟩ (by (rw [LJ ‹_›]; rfl))),aa⟩
theorem JZ (d:Dsk) (at_:Int) (h1:RepS w F a1 n1 c1 d.files) (h2:RepS w F a2 n2 c2 d.list) (h3:RepS w F a3 n3 c3 d.names) (p0:DD d):Calls Tryz.prog 71 [.agg #[.slice a1 n1 c1,.slice a2 n2 c2,.slice a3 n3 c3,.int .i64 d.next],.int .i64 at_].toArray w (Am fun rv w'=>VL (ge w.heap.size) w' (Ag d at_:List Stp) rv∧Ext w w'):=by
 refine goT func71 ?_
 obtain ⟨rfl,iS,h1⟩:=h1.tp
 obtain ⟨rfl,iT,h2⟩:=h2.tp
 obtain ⟨rfl,iU,h3⟩:=h3.tp
 refine .s<|.g<|.np 35 [.slice a1 d.files.length c1,.slice a2 d.list.length c2,.slice a3 d.names.length c3,vI d.next] fun aj gD dL cj aa fS=>?_
 replace ⟨h1,h2,h3⟩:=(sn [] cj dL).g3 h1 h2 h3
 have ab:=cj
 refine .r 1<|.d<|.s<|.s<|.g<|.ln aa<|.cl (DC d h1.ta h2.ta h3.ta p0 (w:=gD) (F:=all)) ?_
 rintro ki gE ⟨rfl,dM⟩
 replace ⟨h1,h2,h3,aa,ab⟩:=(se [aj] dM).g5 h1 h2 h3 aa ab
 cases iV:(BC d)
 ·refine .r 14<|.d<|.ct<|.s<|.g<|.ns 0 138 [] fun ck fT bW dN fU fV=>?_
  have iW:=Ab bW aa.lt
  have fW:=Bq bW ab.size
  replace ⟨h1,h2,h3,aa,ab⟩:=(sn [aj] dN bW).g5 h1 h2 h3 aa ab
  have fX:Own (α:=Stp) fT ck 138 (nin (ge w.heap.size) [ck,aj]) 0 0 []:=Own.Ba fU
  refine .r 1<|.d ?_
  have gF:=fX.sl fW
  replace ⟨h1,h2,h3⟩:=(sd fT [ck,aj] ck).g3 h1 h2 h3
  exact .rt func71 results71 (vS ck 0 0) ⟨(gF.vl (by exact (PV ‹_›).symm) (fun _ _ h=>h.1)),ab⟩
 refine .r 4<|.lb aa<|.r 1<|RG.int ((d.list.length:Int) - 2) AA (by have:=p0.nl; omega)<|.cl (Bk at_ 0 ((d.list.length:Int) - 2) (w:=gE) (F:=all)) ?_
 rintro kj gG ⟨rfl,dO⟩
 replace ⟨h1,h2,h3,aa,ab⟩:=(se [aj] dO).g5 h1 h2 h3 aa ab
 cases dP:(inR at_ 0 ((d.list.length:Int) - 2))
 ·refine .r 6<|.d<|.ct<|.s<|.g<|.ns 0 138 [] fun cm fY bX dQ fZ f5=>?_
  have iY:=Ab bX aa.lt
  have f6:=Bq bX ab.size
  replace ⟨h1,h2,h3,aa,ab⟩:=(sn [aj] dQ bX).g5 h1 h2 h3 aa ab
  have f7:Own (α:=Stp) fY cm 138 (nin (ge w.heap.size) [cm,aj]) 0 0 []:=Own.Ba fZ
  refine .r 1<|.d ?_
  have gH:=f7.sl f6
  replace ⟨h1,h2,h3⟩:=(sd fY [cm,aj] cm).g3 h1 h2 h3
  exact .rt func71 results71 (vS cm 0 0) ⟨(gH.vl (by exact XP ‹_› (.inl ‹_›)) (fun _ _ h=>h.1)),ab⟩
 have iZ:=BW dP
 refine .r 3<|.ln aa<|.cl (GR d h1.ta h2.ta h3.ta (w:=gG) (F:=all)) ?_
 rintro kl km ⟨rfl,dR⟩
 replace ⟨h1,h2,h3,aa,ab⟩:=(se [aj] dR).g5 h1 h2 h3 aa ab
 cases ja:(FA d)
 ·refine .r 1<|.d<|.cf<|.sk<|.s<|.gd nil 12 fun ko dS=>?_
  replace ⟨h1,h2,h3,aa,ab⟩:=(se [aj] dS).g5 h1 h2 h3 aa ab
  refine .r [0]<|.lb 1 aa id<|.r [2] ?_
  have dT:at_.toNat< d.list.length:=AB
  refine GA.idx (i:=3) (at_.toNat) (len:=d.list.length) (z:=at_) (sz:=1) AA AB dT (h2.addr (Nat.zero_lt_of_lt dT)) ?_
  obtain ⟨bi,cp⟩:∃ y,d.list[at_.toNat]? = some y:=⟨_,AU AB⟩
  have gz:=AV cp
  obtain ⟨_,rfl,f8⟩:=h2.elem (at_.toNat) bi cp
  refine .lh 4 0 f8 id<|.r [5]<|.lb 6 aa id<|.r [7]<|GA.int (i:=8) (at_+1) AA (by have:=p0.nl; omega) ?_
  have dU:(at_+1).toNat< d.list.length:=AB
  refine GA.idx (i:=9) ((at_+1).toNat) (len:=d.list.length) (z:=at_+1) (sz:=1) AA AB dU (h2.addr (Nat.zero_lt_of_lt dU)) ?_
  obtain ⟨bj,cq⟩:∃ y,d.list[(at_+1).toNat]? = some y:=⟨_,AU AB⟩
  have gA:=AV cq
  obtain ⟨_,rfl,f9⟩:=h2.elem ((at_+1).toNat) bj cq
  refine .lh 10 0 f9 id<|.r [11]<|.d fun ce dV=>?_
  replace ⟨h1,h2,h3,aa,ab⟩:=(se [aj] dV).g5 h1 h2 h3 aa ab
  refine .r 1<|.d<|.s ?_
  replace h1:=h1.Cn
  replace h2:=h2.Cn
  replace h3:=h3.Cn
  have bY:Gb (aj+1) ce.heap.size:=aa.lt
  refine .gd (mtb [] ce.heap.size) 22 fun gI cr=>?_
  replace ⟨h1,h2,h3,aa,ab⟩:=(se [aj] cr).g5 h1 h2 h3 aa ab
  have aD:Chg (mtb [] ce.heap.size) ce gI:=Chg.KT (Chg.refl (mtb [] ce.heap.size) ce) cr
  refine .r [0]<|.lb 1 aa (C7 all_nil bY)<|.ln 2 aa (C7 all_nil bY)<|.r [3]<|GA.Ms (i:=4) AA (fun gJ cu=>Cq d bi (h1.R0 cu all_nil) (h2.R0 cu all_nil) (h3.R0 cu all_nil) (w:=gJ) (F:=all)) ?_
  have dW:(At d bi).toNat< d.files.length:=(by exact (Hy (E0 (C9 ‹_›).2.2.2 _ ‹_›)).1)
  refine GA.idx (i:=5) ((At d bi).toNat) (len:=d.files.length) (z:=At d bi) (sz:=3) AA (by exact (Hy (E0 (C9 ‹_›).2.2.2 _ ‹_›)).2) dW (h1.addr (Nat.zero_lt_of_lt dW))<|.r [6] ?_
  obtain ⟨aJ,bZ⟩:∃ y,d.files[(At d bi).toNat]? = some y:=⟨_,AU AB⟩
  have gC:=AV bZ
  obtain ⟨_,⟨je,jf,jg,jh,ji,jj,rfl,ac,ae⟩,dX⟩:=h1.elem ((At d bi).toNat) aJ bZ
  have dY:=ac.len
  subst dY
  have dZ:=ae.len
  subst dZ
  refine .lg 7 1 dX (h1.nS (LQ bZ) all_nil)<|.r [8]<|.lb 9 aa (C7 all_nil bY)<|.ln 10 aa (C7 all_nil bY)<|.r [11]<|GA.Ms (i:=12) AA (fun gb bz=>Cq d bj (h1.R0 bz all_nil) (h2.R0 bz all_nil) (h3.R0 bz all_nil) (w:=gb) (F:=all)) ?_
  have cw:(At d bj).toNat< d.files.length:=(by exact (Hy (E0 (C9 ‹_›).2.2.2 _ ‹_›)).1)
  refine GA.idx (i:=13) ((At d bj).toNat) (len:=d.files.length) (z:=At d bj) (sz:=3) AA (by exact (Hy (E0 (C9 ‹_›).2.2.2 _ ‹_›)).2) cw (h1.addr (Nat.zero_lt_of_lt cw))<|.r [14] ?_
  obtain ⟨aA,bv⟩:∃ y,d.files[(At d bj).toNat]? = some y:=⟨_,AU AB⟩
  have gf:=AV bv
  obtain ⟨_,⟨jk,jl,jm,jn,jo,jp,rfl,af,ag⟩,d0⟩:=h1.elem ((At d bj).toNat) aA bv
  have d3:=af.len
  subst d3
  have d4:=ag.len
  subst d4
  refine .lg 15 1 d0 (h1.nS (LQ bv) all_nil)<|.tw 16 20 ?_ ?_
  ·refine .cl (fun cx aX=>Ek aJ.part aA.part (ac.ta.ext aX) (ae.ta.ext aX) (af.ta.ext aX) (ag.ta.ext aX) (by exact (p0.file _ ‹_›).sz) (by exact (p0.file _ ‹_›).sz) (w:=cx) (F:=all)) ?_
   intro cx aX
   replace ⟨h2,h3,aa,ac,ae,af,ag,ab,aD⟩:=(se [aj] aX).g9 h2 h3 aa ac ae af ag ab aD
   rintro jq jr ⟨⟨jt,rfl,⟨_,rfl,⟨cy,ju,cz,cA,jv,cB,rfl,ah,ai⟩⟩⟩,bA⟩
   have bB:=al1 aa.lt
   have cC:Gb w.heap.size cx.heap.size:=ab.size
   have hkeep_:=bA
   replace ⟨h2,h3,aa,ac,ae,af,ag,ab,aD⟩:=(se [aj] bA).g9 h2 h3 aa ac ae af ag ab aD
   refine ⟨Ext.chg hkeep_,?_⟩
   have ah:=ah.fr bB cC
   have gP:=ah.max
   have ai:=ai.fr bB cC
   have gQ:=ai.max
   have d5:=ah.len
   subst d5
   have d6:=ai.len
   subst d6
   refine .r [17,18,19]<|.go 20<|.nw (fun b=>.pointer (some ⟨b,0,none⟩)) 104 [AH,AH] fun jw cD=>?_
   replace ⟨h2,h3,aa,ac,ae,af,ag,ah,ai,ab,aD⟩:=(se [aj] cD).g11 h2 h3 aa ac ae af ag ah ai ab aD
   intro ar jx bk cE d7 d8
   have gR:=Ab bk aa.lt
   have gS:=ab.cn bk
   have d9:=aD.cn bk
   replace ⟨h2,h3,aa,ac,ae,af,ag,ah,ai,ab,aD⟩:=(sn [aj] cE bk).g11 h2 h3 aa ac ae af ag ah ai ab aD
   refine .go 21<|GE.FM (t':=104) (o:=0) (v:=.agg #[.slice cy ((CE aJ.part aA.part).1.ids.length) cz,.slice cA ((CE aJ.part aA.part).1.blocks.length) cB]) [.slice cy ((CE aJ.part aA.part).1.ids.length) cz,.slice cA ((CE aJ.part aA.part).1.blocks.length) cB] d7 AA AA AA fun jy cF=>?_
   replace ⟨h2,h3,aa,ac,ae,af,ag,ah,ai,ab,aD⟩:=(se [ar,aj] cF).g11 h2 h3 aa ac ae af ag ah ai ab aD
   intro jz bC ak ec
   have hkeep_:=Chg.toS bC (Cov.toS d9)
   replace ⟨h2,h3,aa,ac,ae,af,ag,ah,ai,ab,aD⟩:=(so [ar,aj] bC).g11 h2 h3 aa ac ae af ag ah ai ab aD
   refine ⟨hkeep_,?_⟩
   refine .d fun jA cG=>?_
   replace ⟨h2,h3,aa,ac,ae,af,ag,ah,ai,ak,ab,aD⟩:=(se [ar,aj] cG).g12 h2 h3 aa ac ae af ag ah ai ak ab aD
   replace h2:=h2.BO
   replace h3:=h3.BO
   replace ac:=ac.BO
   replace ae:=ae.BO
   replace af:=af.BO
   replace ag:=ag.BO
   refine .r 1<|.d<|.s<|.g<|.ns 0 3 [] fun b0 gh aY cH ee eg=>?_
   have eh:=Ab aY aa.lt
   have ej:=Ab aY ak.lt
   have ek:=Bq aY ab.size
   have en:=ab.cn aY
   replace ⟨h2,h3,aa,ac,ae,af,ag,ah,ai,ak,ab⟩:=(sn [ar,aj] cH aY).g11 h2 h3 aa ac ae af ag ah ai ak ab
   have eB:Own (α:=Int) gh b0 3 (nin (ge w.heap.size) [b0,ar,aj]) 0 0 []:=Own.Ba ee
   refine .r 1<|.lb aa<|.r 1<|RG.sub (t:=33) (lo:=none) (hi:=some (vI at_)) h2 0 (at_.toNat) AA AA (.inl ⟨rfl,rfl⟩) (.inr ⟨_,_,rfl,by omega⟩) (by have:=p0.nl; omega) (by have:=p0.nl; omega) fun jB jC cI=>?_
   have gT:=cI.len; have gU:=cI.max
   refine RG.DZ (T:=33) (ty:=33) Az eB cI AA AA (fun b h e=>h.2 (e▸AI)) (by have:=p0.nl; omega) fun aG gi b6 aB aL cJ=>?_
   have bD:=Bz aL eh aa.lt
   have eC:=Bz aL ej ak.lt
   have eD:=Fj aL ek ab.size
   have eE:=IT aL en ab.size
   replace ⟨h2,h3,aa,ac,ae,af,ag,ah,ai,ak,ab⟩:=(sa [b0,ar,aj] cJ aL).g11 h2 h3 aa ac ae af ag ah ai ak ab
   replace aB:=aB.rn b0
   have gV:=aB.len
   refine .r 1<|.d<|.s ?_
   replace h2:=h2.Cn
   replace h3:=h3.Cn
   replace ac:=ac.Cn
   replace ae:=ae.Cn
   replace af:=af.Cn
   replace ag:=ag.Cn
   replace ah:=ah.Cn
   replace ai:=ai.Cn
   have cK:Gb (aj+1) b6.heap.size:=aa.lt
   have eF:Cov (mtb [aG] b6.heap.size) b6 aG:=⟨.inl (.inl AI)⟩
   refine .gd (mtb [aG] b6.heap.size) 10 fun jD cL=>?_
   replace ⟨h2,h3,aa,ac,ae,af,ag,ah,ai,ak,aB,ab⟩:=(se [aG,ar,aj] cL).g12 h2 h3 aa ac ae af ag ah ai ak aB ab
   refine .r [0,1]<|.lb 2 aa (C7 (all_cons (Nb.symm bD) all_nil) cK)<|.r [5]<|.lb 6 aa (C7 (all_cons (Nb.symm bD) all_nil) cK)<|.r [7]<|GA.int (i:=8) (at_+2) AA (by have:=p0.nl; omega)<|GA.sub (i:=9) (t:=33) (lo:=some (vI (at_+2))) (hi:=none) AA h2 ((at_+2).toNat) d.list.length AA AA (.inr ⟨_,_,rfl,by omega⟩) (.inl ⟨rfl,rfl⟩) (by have:=p0.nl; omega) (by have:=p0.nl; omega) fun jE jF aH=>?_
   have gX:=aH.len
   refine .go 3<|.ns 1 3 [vI d.next] fun jG bE=>?_
   replace ⟨h2,h3,aa,ac,ae,af,ag,ah,ai,ak,aB,aH⟩:=(se [aG,ar,aj] bE).g12 h2 h3 aa ac ae af ag ah ai ak aB aH
   replace ab:=(se [aG,ar,aj] bE).g1 ab
   intro cM jH bm bF bG eG
   have eH:=Ab bm aa.lt
   have eI:=Ab bm ak.lt
   have cN:=Ab bm aB.lt
   have eJ:=Bq bm ab.size
   replace ⟨h2,h3,aa,ac,ae,af,ag,ah,ai,ak,aB,aH⟩:=(se [aG,ar,aj] bF).g12 h2 h3 aa ac ae af ag ah ai ak aB aH
   replace ab:=(se [aG,ar,aj] bF).g1 ab
   refine .go 4<|GE.append (T:=33) (ty:=33) (args:=[vS aG (0+(at_.toNat - 0)) gi,vS cM 1 1]) AA fun jI bH=>?_
   replace ⟨h2,h3,aa,ac,ae,af,ag,ah,ai,ak,aB,aH⟩:=(se [aG,ar,aj] bH).g12 h2 h3 aa ac ae af ag ah ai ak aB aH
   replace ⟨bG,ab⟩:=(se [aG,ar,aj] bH).g2 bG ab
   have cg:nin (ge w.heap.size) [aG,ar,aj] cM∧cM≠aG:=Fv eJ (all_cons cN (all_cons eI (all_cons eH all_nil))) cN
   obtain ⟨b7,jJ,jK,cO,aQ,aM,bI,eK⟩:=aB.DJ (P:=Tryz.prog) (T:=33) (ty:=33) (y:=d.next) AA bG rfl cg (by have:=p0.nl; omega)
   refine ⟨_,_,cO,Chg.toS bI (Cov.toS eF),?_⟩
   have eM:=Bz aM bD aa.lt
   have eO:=Bz aM eC ak.lt
   have eP:=Fj aM eD ab.size
   have gZ:=IT aM eE ab.size
   replace ⟨h2,h3,aa,ac,ae,af,ag,ah,ai,ak,aH,ab⟩:=(sa [aG,ar,aj] bI aM).g12 h2 h3 aa ac ae af ag ah ai ak aH ab
   replace aQ:=aQ.rn aG
   have hC:=aQ.len
   refine .d fun jL bJ=>?_
   replace ⟨h2,h3,aa,ac,ae,af,ag,ah,ai,ak,aQ,aH⟩:=(se [b7,ar,aj] bJ).g12 h2 h3 aa ac ae af ag ah ai ak aQ aH
   replace ab:=(se [b7,ar,aj] bJ).g1 ab
   replace h2:=h2.BO
   replace h3:=h3.BO
   replace ac:=ac.BO
   replace ae:=ae.BO
   replace af:=af.BO
   replace ag:=ag.BO
   replace ah:=ah.BO
   replace ai:=ai.BO
   replace aH:=aH.BO
   refine RG.DZ (T:=33) (ty:=33) Az aQ aH AA AA (fun b h e=>h.2 (e▸AI)) (by have:=p0.nl; omega) fun aP gj jM ay aU cP=>?_
   have hH:=Bz aU eM aa.lt
   have hO:=Bz aU eO ak.lt
   have eQ:=Fj aU eP ab.size
   replace ⟨h2,h3,aa,ac,ae,af,ag,ah,ai,ak,ab⟩:=(sa [b7,ar,aj] cP aU).g11 h2 h3 aa ac ae af ag ah ai ak ab
   replace ay:=ay.rn b7
   refine .r 1<|.d<|.s<|.gd nil 13 fun jN cQ=>?_
   replace ⟨h2,h3,aa,ac,ae,af,ag,ah,ai,ak,ay,ab⟩:=(se [aP,ar,aj] cQ).g12 h2 h3 aa ac ae af ag ah ai ak ay ab
   refine .r [0]<|.lb 1 aa id<|.ln 2 ak id<|.r [3,4,5]<|.lb 6 aa id<|.r [9,10,11,12]<|.go 7<|.cl (fun cR bK=>Ae d.names (h3.ta.ext bK) (by have:=p0.g.len; omega) (by (intro n hn; have:=(p0.g.sz n hn).1; omega)) (w:=cR) (F:=all)) ?_
   intro cR bK
   replace ⟨h2,h3,aa,ac,ae,af,ag,ah,ai,ak,ay,ab⟩:=(se [aP,ar,aj] bK).g12 h2 h3 aa ac ae af ag ah ai ak ay ab
   rintro jO jP ⟨⟨bn,gk,gl,rfl,aE,aZ⟩,bL⟩
   have cS:=al3 ay.lt ak.lt aa.lt
   have eR:Gb w.heap.size cR.heap.size:=ab.size
   have hkeep_:=bL
   have hW:=C6 aZ aa.lt
   have ia:=C6 aZ ak.lt
   have ic:=C6 aZ ay.lt
   have eT:=KS aZ ab.size
   replace ⟨h2,h3,aa,ac,ae,af,ag,ah,ai,ak,ay,ab⟩:=(sz [aP,ar,aj] bL aZ).g12 h2 h3 aa ac ae af ag ah ai ak ay ab
   refine ⟨Ext.chg hkeep_,?_⟩
   replace aE:=Own.take (s0:=w.heap.size) (M:=[aP,ar,aj]) aE cS eR
   refine .r [8]<|.d fun jQ bM=>?_
   replace ⟨h2,h3,aa,ac,ae,af,ag,ah,ai,ak,ay,aE⟩:=(se [bn,aP,ar,aj] bM).g12 h2 h3 aa ac ae af ag ah ai ak ay aE
   replace ab:=(se [bn,aP,ar,aj] bM).g1 ab
   refine .ns 4 138 [vI 1,vI d.next,.slice cy ((CE aJ.part aA.part).1.ids.length) cz,.slice cA ((CE aJ.part aA.part).1.blocks.length) cB,AH,AH,vI 2,vI 0,AH,AH,vS aP (0+(at_.toNat - 0)+1+(d.list.length - (at_+2).toNat)) gj,vS bn gk gl,vI 3,vI bi,AH,AH,AH,AH,vI 3,vI bj,AH,AH,AH,AH] fun bo b8 aR cT eU eV=>?_
   have ii:=Ab aR aa.lt
   have ij:=Ab aR ak.lt
   have ik:=Ab aR ay.lt
   have il:=Ab aR aE.lt
   have eW:=Bq aR ab.size
   replace ⟨h2,h3,aa,ac,ae,af,ag,ah,ai,ay,aE,ab⟩:=(sn [bn,aP,ar,aj] cT aR).g12 h2 h3 aa ac ae af ag ah ai ay aE ab
   have cU:=ay.sl eQ
   replace ⟨h2,h3,ac,ae,af,ag,ah,ai,aE⟩:=(sd b8 [bo,bn,aP,ar,aj] aP).g9 h2 h3 ac ae af ag ah ai aE
   have gm:=aE.sl eT
   replace ⟨h2,h3,ac,ae,af,ag,ah,ai,cU⟩:=(sd b8 [bo,bn,ar,aj] bn).g9 h2 h3 ac ae af ag ah ai cU
   have eX:Own (α:=Stp) b8 bo 138 (nin (ge w.heap.size) [bo,ar,aj]) 4 4 [(⟨1,d.next,(⟨(CE aJ.part aA.part).1.ids,(CE aJ.part aA.part).1.blocks⟩:Prt),([]:List Int),([]:List (List Tag))⟩:Stp),(⟨2,0,(⟨([]:List Int),([]:List (List Row))⟩:Prt),((([]++((d.list.take (at_.toNat)).drop 0))++[d.next])++((d.list.take d.list.length).drop ((at_+2).toNat))),d.names⟩:Stp),(⟨3,bi,(⟨([]:List Int),([]:List (List Row))⟩:Prt),([]:List Int),([]:List (List Tag))⟩:Stp),(⟨3,bj,(⟨([]:List Int),([]:List (List Row))⟩:Prt),([]:List Int),([]:List (List Tag))⟩:Stp)]:=Own.lit eU rfl AE ⟨⟨_,_,_,_,_,_,_,_,_,_,_,_,rfl,ah.oi,ai.oi,(RepS.Ba _ _ none 0 AE),(RepS.Ba _ _ none 0 AE)⟩,⟨_,_,_,_,_,_,_,_,_,_,_,_,rfl,(RepS.Ba _ _ none 0 AE),(RepS.Ba _ _ none 0 AE),cU.oi,gm.oi⟩,⟨_,_,_,_,_,_,_,_,_,_,_,_,rfl,(RepS.Ba _ _ none 0 AE),(RepS.Ba _ _ none 0 AE),(RepS.Ba _ _ none 0 AE),(RepS.Ba _ _ none 0 AE)⟩,⟨_,_,_,_,_,_,_,_,_,_,_,_,rfl,(RepS.Ba _ _ none 0 AE),(RepS.Ba _ _ none 0 AE),(RepS.Ba _ _ none 0 AE),(RepS.Ba _ _ none 0 AE)⟩,rfl⟩
   refine .r 1<|.d ?_
   have gn:=eX.sl eW
   replace ⟨h2,h3,ac,ae,af,ag⟩:=(sd b8 [bo,ar,aj] bo).g6 h2 h3 ac ae af ag
   exact .rt func71 results71 (vS bo 4 4) ⟨(gn.vl (by exact Ud p0 ‹_› ‹_› ‹_› ‹_› ‹_› ‹_› ‹_›) (fun _ _ h=>h.1)),ab⟩
  refine .nw (fun b=>.pointer (some ⟨b,0,none⟩)) 104 [AH,AH] fun jR cV=>?_
  replace ⟨h2,h3,aa,ac,ae,af,ag,ab,aD⟩:=(se [aj] cV).g9 h2 h3 aa ac ae af ag ab aD
  intro ax jS bq cW ba eY
  have im:=Ab bq aa.lt
  have io:=ab.cn bq
  have eZ:=aD.cn bq
  replace ⟨h2,h3,aa,ac,ae,af,ag,ab⟩:=(sn [aj] cW bq).g8 h2 h3 aa ac ae af ag ab
  refine .go 16<|.cl (fun cX bd=>Ek aJ.part aA.part (ac.ta.ext bd) (ae.ta.ext bd) (af.ta.ext bd) (ag.ta.ext bd) (by exact (p0.file _ ‹_›).sz) (by exact (p0.file _ ‹_›).sz) (w:=cX) (F:=all)) ?_
  intro cX bd
  replace ⟨h2,h3,aa,ba,ab⟩:=(se [ax,aj] bd).g5 h2 h3 aa ba ab
  rintro jT jU ⟨⟨jV,rfl,⟨_,rfl,⟨cY,jW,cZ,c7,jX,c8,rfl,ao,aq⟩⟩⟩,bN⟩
  have bO:=al2 ba.lt aa.lt
  have da:Gb w.heap.size cX.heap.size:=ab.size
  have hkeep_:=bN
  replace ⟨h2,h3,aa,ba,ab⟩:=(se [ax,aj] bN).g5 h2 h3 aa ba ab
  refine ⟨Ext.chg hkeep_,?_⟩
  have ao:=ao.fr bO da
  have ip:=ao.max
  have aq:=aq.fr bO da
  have iq:=aq.max
  have e7:=ao.len
  subst e7
  have e8:=aq.len
  subst e8
  refine .r [17,18,19]<|.go 21<|GE.FM (t':=104) (o:=0) (v:=.agg #[.slice cY ((CE aJ.part aA.part).1.ids.length) cZ,.slice c7 ((CE aJ.part aA.part).1.blocks.length) c8]) [.slice cY ((CE aJ.part aA.part).1.ids.length) cZ,.slice c7 ((CE aJ.part aA.part).1.blocks.length) c8] ba AA AA AA fun jY db=>?_
  replace ⟨h2,h3,aa,ao,aq,ab⟩:=(se [ax,aj] db).g6 h2 h3 aa ao aq ab
  intro jZ bP am fa
  have hkeep_:=Chg.toS bP (Cov.toS eZ)
  replace ⟨h2,h3,aa,ao,aq,ab⟩:=(so [ax,aj] bP).g6 h2 h3 aa ao aq ab
  refine ⟨hkeep_,?_⟩
  refine .d fun j0 de=>?_
  replace ⟨h2,h3,aa,am,ao,aq,ab⟩:=(se [ax,aj] de).g7 h2 h3 aa am ao aq ab
  replace h2:=h2.BO
  replace h3:=h3.BO
  refine .r 1<|.d<|.s<|.g<|.ns 0 3 [] fun b9 gp bg df fb fd=>?_
  have fe:=Ab bg aa.lt
  have ff:=Ab bg am.lt
  have fg:=Bq bg ab.size
  have fi:=ab.cn bg
  replace ⟨h2,h3,aa,am,ao,aq,ab⟩:=(sn [ax,aj] df bg).g7 h2 h3 aa am ao aq ab
  have fj:Own (α:=Int) gp b9 3 (nin (ge w.heap.size) [b9,ax,aj]) 0 0 []:=Own.Ba fb
  refine .r 1<|.lb aa<|.r 1<|RG.sub (t:=33) (lo:=none) (hi:=some (vI at_)) h2 0 (at_.toNat) AA AA (.inl ⟨rfl,rfl⟩) (.inr ⟨_,_,rfl,by omega⟩) (by have:=p0.nl; omega) (by have:=p0.nl; omega) fun j1 j2 dh=>?_
  have ir:=dh.len; have iu:=dh.max
  refine RG.DZ (T:=33) (ty:=33) Az fj dh AA AA (fun b h e=>h.2 (e▸AI)) (by have:=p0.nl; omega) fun aK gq cd aC aN dj=>?_
  have bQ:=Bz aN fe aa.lt
  have fm:=Bz aN ff am.lt
  have fp:=Fj aN fg ab.size
  have fq:=IT aN fi ab.size
  replace ⟨h2,h3,aa,am,ao,aq,ab⟩:=(sa [b9,ax,aj] dj aN).g7 h2 h3 aa am ao aq ab
  replace aC:=aC.rn b9
  have iw:=aC.len
  refine .r 1<|.d<|.s ?_
  replace h2:=h2.Cn
  replace h3:=h3.Cn
  replace ao:=ao.Cn
  replace aq:=aq.Cn
  have dm:Gb (aj+1) cd.heap.size:=aa.lt
  have fu:Cov (mtb [aK] cd.heap.size) cd aK:=⟨.inl (.inl AI)⟩
  refine .gd (mtb [aK] cd.heap.size) 10 fun j3 dq=>?_
  replace ⟨h2,h3,aa,am,ao,aq,aC,ab⟩:=(se [aK,ax,aj] dq).g8 h2 h3 aa am ao aq aC ab
  refine .r [0,1]<|.lb 2 aa (C7 (all_cons (Nb.symm bQ) all_nil) dm)<|.r [5]<|.lb 6 aa (C7 (all_cons (Nb.symm bQ) all_nil) dm)<|.r [7]<|GA.int (i:=8) (at_+2) AA (by have:=p0.nl; omega)<|GA.sub (i:=9) (t:=33) (lo:=some (vI (at_+2))) (hi:=none) AA h2 ((at_+2).toNat) d.list.length AA AA (.inr ⟨_,_,rfl,by omega⟩) (.inl ⟨rfl,rfl⟩) (by have:=p0.nl; omega) (by have:=p0.nl; omega) fun j4 j5 aI=>?_
  have iz:=aI.len
  refine .go 3<|.ns 1 3 [vI d.next] fun j6 dt=>?_
  replace ⟨h3,aa,am,ao,aq,aC,aI,ab⟩:=(se [aK,ax,aj] dt).g8 h3 aa am ao aq aC aI ab
  intro du j7 br dv bR fv
  have fw:=Ab br aa.lt
  have fA:=Ab br am.lt
  have dw:=Ab br aC.lt
  have fB:=Bq br ab.size
  replace ⟨h3,aa,am,ao,aq,aC,aI,ab⟩:=(se [aK,ax,aj] dv).g8 h3 aa am ao aq aC aI ab
  refine .go 4<|GE.append (T:=33) (ty:=33) (args:=[vS aK (0+(at_.toNat - 0)) gq,vS du 1 1]) AA fun j8 dx=>?_
  replace ⟨h3,aa,am,ao,aq,aC,aI,bR,ab⟩:=(se [aK,ax,aj] dx).g9 h3 aa am ao aq aC aI bR ab
  have ci:nin (ge w.heap.size) [aK,ax,aj] du∧du≠aK:=Fv fB (all_cons dw (all_cons fA (all_cons fw all_nil))) dw
  obtain ⟨dy,j9,ka,dz,aS,aO,bS,fC⟩:=aC.DJ (P:=Tryz.prog) (T:=33) (ty:=33) (y:=d.next) AA bR rfl ci (by have:=p0.nl; omega)
  refine ⟨_,_,dz,Chg.toS bS (Cov.toS fu),?_⟩
  have fD:=Bz aO bQ aa.lt
  have fE:=Bz aO fm am.lt
  have fF:=Fj aO fp ab.size
  have iB:=IT aO fq ab.size
  replace ⟨h3,aa,am,ao,aq,aI,ab⟩:=(sa [aK,ax,aj] bS aO).g7 h3 aa am ao aq aI ab
  replace aS:=aS.rn aK
  have iC:=aS.len
  refine .d fun kb dA=>?_
  replace ⟨h3,aa,am,ao,aq,aS,aI,ab⟩:=(se [dy,ax,aj] dA).g8 h3 aa am ao aq aS aI ab
  replace h3:=h3.BO
  replace ao:=ao.BO
  replace aq:=aq.BO
  replace aI:=aI.BO
  refine RG.DZ (T:=33) (ty:=33) Az aS aI AA AA (fun b h e=>h.2 (e▸AI)) (by have:=p0.nl; omega) fun aV gr kd az aW dB=>?_
  have iE:=Bz aW fD aa.lt
  have iF:=Bz aW fE am.lt
  have fG:=Fj aW fF ab.size
  replace ⟨h3,aa,am,ao,aq,ab⟩:=(sa [dy,ax,aj] dB aW).g6 h3 aa am ao aq ab
  replace az:=az.rn dy
  refine .r 1<|.d<|.s<|.gd nil 13 fun ke dC=>?_
  replace ⟨h3,aa,am,ao,aq,az,ab⟩:=(se [aV,ax,aj] dC).g7 h3 aa am ao aq az ab
  refine .r [0]<|.lb 1 aa id<|.ln 2 am id<|.r [3,4,5]<|.lb 6 aa id<|.r [9,10,11,12]<|.go 7<|.cl (fun dD bT=>Ae d.names (h3.ta.ext bT) (by have:=p0.g.len; omega) (by (intro n hn; have:=(p0.g.sz n hn).1; omega)) (w:=dD) (F:=all)) ?_
  intro dD bT
  replace ⟨aa,am,ao,aq,az,ab⟩:=(se [aV,ax,aj] bT).g6 aa am ao aq az ab
  rintro kf kg ⟨⟨bu,gs,gt,rfl,aF,bh⟩,bU⟩
  have dE:=al3 az.lt am.lt aa.lt
  have fH:Gb w.heap.size dD.heap.size:=ab.size
  have hkeep_:=bU
  have iI:=C6 bh aa.lt
  have iJ:=C6 bh am.lt
  have iK:=C6 bh az.lt
  have fI:=KS bh ab.size
  replace ⟨aa,am,ao,aq,az,ab⟩:=(sz [aV,ax,aj] bU bh).g6 aa am ao aq az ab
  refine ⟨Ext.chg hkeep_,?_⟩
  replace aF:=Own.take (s0:=w.heap.size) (M:=[aV,ax,aj]) aF dE fH
  refine .r [8]<|.d fun kh dF=>?_
  replace ⟨aa,am,ao,aq,az,aF,ab⟩:=(se [bu,aV,ax,aj] dF).g7 aa am ao aq az aF ab
  refine .ns 4 138 [vI 1,vI d.next,.slice cY ((CE aJ.part aA.part).1.ids.length) cZ,.slice c7 ((CE aJ.part aA.part).1.blocks.length) c8,AH,AH,vI 2,vI 0,AH,AH,vS aV (0+(at_.toNat - 0)+1+(d.list.length - (at_+2).toNat)) gr,vS bu gs gt,vI 3,vI bi,AH,AH,AH,AH,vI 3,vI bj,AH,AH,AH,AH] fun bw dG aT dH fJ fK=>?_
  have iN:=Ab aT aa.lt
  have iO:=Ab aT am.lt
  have iP:=Ab aT az.lt
  have iQ:=Ab aT aF.lt
  have fM:=Bq aT ab.size
  replace ⟨aa,ao,aq,az,aF,ab⟩:=(sn [bu,aV,ax,aj] dH aT).g6 aa ao aq az aF ab
  have dI:=az.sl fG
  replace ⟨ao,aq,aF⟩:=(sd dG [bw,bu,aV,ax,aj] aV).g3 ao aq aF
  have gu:=aF.sl fI
  replace ⟨ao,aq,dI⟩:=(sd dG [bw,bu,ax,aj] bu).g3 ao aq dI
  have fN:Own (α:=Stp) dG bw 138 (nin (ge w.heap.size) [bw,ax,aj]) 4 4 [(⟨1,d.next,(⟨(CE aJ.part aA.part).1.ids,(CE aJ.part aA.part).1.blocks⟩:Prt),([]:List Int),([]:List (List Tag))⟩:Stp),(⟨2,0,(⟨([]:List Int),([]:List (List Row))⟩:Prt),((([]++((d.list.take (at_.toNat)).drop 0))++[d.next])++((d.list.take d.list.length).drop ((at_+2).toNat))),d.names⟩:Stp),(⟨3,bi,(⟨([]:List Int),([]:List (List Row))⟩:Prt),([]:List Int),([]:List (List Tag))⟩:Stp),(⟨3,bj,(⟨([]:List Int),([]:List (List Row))⟩:Prt),([]:List Int),([]:List (List Tag))⟩:Stp)]:=Own.lit fJ rfl AE ⟨⟨_,_,_,_,_,_,_,_,_,_,_,_,rfl,ao.oi,aq.oi,(RepS.Ba _ _ none 0 AE),(RepS.Ba _ _ none 0 AE)⟩,⟨_,_,_,_,_,_,_,_,_,_,_,_,rfl,(RepS.Ba _ _ none 0 AE),(RepS.Ba _ _ none 0 AE),dI.oi,gu.oi⟩,⟨_,_,_,_,_,_,_,_,_,_,_,_,rfl,(RepS.Ba _ _ none 0 AE),(RepS.Ba _ _ none 0 AE),(RepS.Ba _ _ none 0 AE),(RepS.Ba _ _ none 0 AE)⟩,⟨_,_,_,_,_,_,_,_,_,_,_,_,rfl,(RepS.Ba _ _ none 0 AE),(RepS.Ba _ _ none 0 AE),(RepS.Ba _ _ none 0 AE),(RepS.Ba _ _ none 0 AE)⟩,rfl⟩
  refine .r 1<|.d ?_
  have gv:=fN.sl fM
  exact .rt func71 results71 (vS bw 4 4) ⟨(gv.vl (by exact Ud p0 ‹_› ‹_› ‹_› ‹_› ‹_› ‹_› ‹_›) (fun _ _ h=>h.1)),ab⟩
 refine .r 1<|.d<|.ct<|.s<|.g<|.ns 0 138 [] fun dJ gw bV dK fO fP=>?_
 have iR:=Ab bV aa.lt
 have fQ:=Bq bV ab.size
 replace ab:=(se [] dK).g1 ab
 have fR:Own (α:=Stp) gw dJ 138 (nin (ge w.heap.size) [dJ,aj]) 0 0 []:=Own.Ba fO
 refine .r 1<|.d ?_
 have gy:=fR.sl fQ
 exact .rt func71 results71 (vS dJ 0 0) ⟨(gy.vl (by exact XP ‹_› (.inr ‹_›)) (fun _ _ h=>h.1)),ab⟩
end Go.Proofs.YtfninflnngpchaaGreatDoor
namespace Go.Proofs.YtfninflnngpchaaGreatDoor
set_option maxRecDepth 100000
set_option maxHeartbeats 4000000
variable {w:World} {F:Nat→Prop} {a1:Option Addr} {n1 c1:Nat}
theorem MV  {F:Nat→Prop}   : Calls Tryz.prog 30 [].toArray w (Am fun rv w'=>VS (ge w.heap.size) w' ((⟨[],[],[],1⟩:Dsk):Dsk) rv∧Ext w w'):=by
 refine goT func30 ?_
 have Z:=St.i0 F w
 refine .s<|.g<|RG.Np Z fun aa w Z=>.d<|.s<|.g<|RG.N0 Fil 0 Z fun ab w Z=>RG.N0 Int 0 Z fun ac w Z=>RG.N0 (List Tag) 0 Z fun ae w Z=>.r 1<|RG.Ss 3 Z fun w Z=>.d ?_
 have Z:=((Z.sl 2).sl 1).sl 0
 exact T.Rb 0 func30 results30 Z ⟨Z.rS (⟨([]:List Fil),([]:List Int),([]:List (List Tag)),1⟩:Dsk) [2,1,0] AF,Z.xt⟩
theorem K3  {F:Nat→Prop}   : Calls Tryz.prog 11 [].toArray w (Am fun rv w'=>VS (ge w.heap.size) w' (Ee:Wld) rv∧Ext w w'):=by
 refine goT func11 ?_
 have Z:=St.i0 F w
 refine .s<|.g<|RG.Np Z fun az w Z=>.d<|.s<|.g<|.r 1<|RG.cl (Dy (⟨(⟨([]:List (List Tag)),([]:List Pst)⟩:Idx),([]:List Prt),([]:List Smp)⟩:Sto) Z.na Z.na Z.na Z.na WV.new.wd.wi.sto.nm NsD.nil WV.new.sd.sz) ?_
 rintro _ w ⟨⟨aj,aA,ak,am,aB,ao,aq,aC,ar,ax,aD,ay,rfl,ac,ae,aa,af,ab,ag,ah⟩,ai⟩
 cases ac.len
 cases ae.len
 cases aa.len
 cases ab.len
 have Z:=Z.so ai [.own 0 aq 104 ar (((Ah (⟨(⟨([]:List (List Tag)),([]:List Pst)⟩:Idx),([]:List Prt),([]:List Smp)⟩:Sto))).parts),.own 0 ax 106 ay (((Ah (⟨(⟨([]:List (List Tag)),([]:List Pst)⟩:Idx),([]:List Prt),([]:List Smp)⟩:Sto))).mem)] [.rep aj ak ((((Ah (⟨(⟨([]:List (List Tag)),([]:List Pst)⟩:Idx),([]:List Prt),([]:List Smp)⟩:Sto))).idx).names),.rep am ao ((((Ah (⟨(⟨([]:List (List Tag)),([]:List Pst)⟩:Idx),([]:List Prt),([]:List Smp)⟩:Sto))).idx).AY)] (nd2 ah) (oN aa af (oN ab ag o0)) (fc ac (fc ae fn_))
 refine RG.CS (MV (F:=all)) Z fun aE aF aG aH aI aJ w Z=>.r 1<|RG.Ss 2 Z fun w Z=>.d ?_
 have Z:=(Z.sl 0).sl 0
 exact T.Rb 0 func11 results11 Z ⟨Z.rS (⟨(⟨(⟨(((Ah (⟨(⟨([]:List (List Tag)),([]:List Pst)⟩:Idx),([]:List Prt),([]:List Smp)⟩:Sto))).idx).names,(((Ah (⟨(⟨([]:List (List Tag)),([]:List Pst)⟩:Idx),([]:List Prt),([]:List Smp)⟩:Sto))).idx).AY⟩:Idx),((Ah (⟨(⟨([]:List (List Tag)),([]:List Pst)⟩:Idx),([]:List Prt),([]:List Smp)⟩:Sto))).parts,((Ah (⟨(⟨([]:List (List Tag)),([]:List Pst)⟩:Idx),([]:List Prt),([]:List Smp)⟩:Sto))).mem⟩:Sto),(⟨((⟨[],[],[],1⟩:Dsk)).files,((⟨[],[],[],1⟩:Dsk)).list,((⟨[],[],[],1⟩:Dsk)).names,((⟨[],[],[],1⟩:Dsk)).next⟩:Dsk)⟩:Wld) [5,6,1,0,2,3,4] AF,Z.xt⟩
theorem Ea (w_:Wld){bx:Nat}{ab0:Option Addr}{nb0 cb0:Nat}(hrb0:RepS w (nin F [bx]) ab0 nb0 cb0 w_.store.idx.names){ab1:Option Addr}{nb1 cb1:Nat}(hrb1:RepS w (nin F [bx]) ab1 nb1 cb1 w_.store.idx.AY){ab2:Option Addr}{nb2 cb2:Nat}(hrb2:RepS w (nin F [bx]) ab2 nb2 cb2 w_.store.parts){ab3:Option Addr}{nb3 cb3:Nat}(hrb3:RepS w (nin F [bx]) ab3 nb3 cb3 w_.store.mem){ab4:Option Addr}{nb4 cb4:Nat}(hrb4:RepS w (nin F [bx]) ab4 nb4 cb4 w_.disk.files){ab5:Option Addr}{nb5 cb5:Nat}(hrb5:RepS w (nin F [bx]) ab5 nb5 cb5 w_.disk.list){ab6:Option Addr}{nb6 cb6:Nat}(hrb6:RepS w (nin F [bx]) ab6 nb6 cb6 w_.disk.names) (hbx:Box w bx 37 [.slice ab0 nb0 cb0,.slice ab1 nb1 cb1,.slice ab2 nb2 cb2,.slice ab3 nb3 cb3,.slice ab4 nb4 cb4,.slice ab5 nb5 cb5,.slice ab6 nb6 cb6,.int .i64 w_.disk.next]) (p0:DD w_.disk) (p1:BC w_.disk=true):Calls Tryz.prog 73 [.pointer (some ⟨bx,0,none⟩)].toArray w (Am fun rv w'=>(rv=.tuple #[]∧(∃ (ao0:Option Addr) (no0 co0:Nat) (ao1:Option Addr) (no1 co1:Nat) (ao2:Option Addr) (no2 co2:Nat) (ao3:Option Addr) (no3 co3:Nat) (ao4:Option Addr) (no4 co4:Nat) (ao5:Option Addr) (no5 co5:Nat) (ao6:Option Addr) (no6 co6:Nat),Box w' bx 37 [.slice ao0 no0 co0,.slice ao1 no1 co1,.slice ao2 no2 co2,.slice ao3 no3 co3,.slice ao4 no4 co4,.slice ao5 no5 co5,.slice ao6 no6 co6,.int .i64 ((((BA w_)).disk).next)]∧RepS w' (nin (fo F w.heap.size) [bx]) ao0 no0 co0 (((((BA w_)).store).idx).names)∧RepS w' (nin (fo F w.heap.size) [bx]) ao1 no1 co1 (((((BA w_)).store).idx).AY)∧RepS w' (nin (fo F w.heap.size) [bx]) ao2 no2 co2 ((((BA w_)).store).parts)∧RepS w' (nin (fo F w.heap.size) [bx]) ao3 no3 co3 ((((BA w_)).store).mem)∧RepS w' (nin (fo F w.heap.size) [bx]) ao4 no4 co4 ((((BA w_)).disk).files)∧RepS w' (nin (fo F w.heap.size) [bx]) ao5 no5 co5 ((((BA w_)).disk).list)∧RepS w' (nin (fo F w.heap.size) [bx]) ao6 no6 co6 ((((BA w_)).disk).names)))∧Chg (ins [bx]) w w'):=by
 cases hrb0.len
 cases hrb1.len
 cases hrb2.len
 cases hrb3.len
 cases hrb4.len
 cases hrb5.len
 cases hrb6.len
 refine goT func73 ?_
 have Z:=(((((((St.i2 F hbx).p1 hrb0).p1 hrb1).p1 hrb2).p1 hrb3).p1 hrb4).p1 hrb5).p1 hrb6
 refine .s<|.g<|.r 4<|RG.Ln 0 Z<|RG.CS (K2 w_.disk (Z.a 2) (Z.a 1) (Z.a 0) p0) Z fun aa ab ac ae af ag w Z=>.r 2<|RG.Ss 0 Z fun w Z=>.d<|.g<|.r 4<|RG.Ln 0 Z<|RG.CS (Ky (CM w_.disk) (Z.mg 1 0) (Z.mg 1 1) (Z.mg 1 2) (Wh p0)) Z fun ah ai aj ak am ao aq ar w Z=>.r 2<|RG.Ss 0 Z fun w Z=>.d<|T.HC func73 results73 ?_
 rw [show (BA w_)=(⟨(⟨(⟨((Ck (CM w_.disk)).idx).names,((Ck (CM w_.disk)).idx).AY⟩:Idx),(Ck (CM w_.disk)).parts,(Ck (CM w_.disk)).mem⟩:Sto),(⟨(CM w_.disk).files,(CM w_.disk).list,(CM w_.disk).names,(CM w_.disk).next⟩:Dsk)⟩:Wld) from by exact YT p0 p1]
 exact ⟨⟨rfl,ah,(((Ck (CM w_.disk)).idx).names).length,ai,aj,(((Ck (CM w_.disk)).idx).AY).length,ak,am,((Ck (CM w_.disk)).parts).length,ao,aq,((Ck (CM w_.disk)).mem).length,ar,aa,(CM w_.disk).files.length,ab,ac,(CM w_.disk).list.length,ae,af,(CM w_.disk).names.length,ag,Z.bc 0,Z.qr (g:=1) [0] 0 (((Ck (CM w_.disk)).idx).names) rfl,Z.qr (g:=1) [0] 1 (((Ck (CM w_.disk)).idx).AY) rfl,Z.qr (g:=1) [0] 2 ((Ck (CM w_.disk)).parts) rfl,Z.qr (g:=1) [0] 3 ((Ck (CM w_.disk)).mem) rfl,Z.qr (g:=1) [0] 4 ((CM w_.disk).files) rfl,Z.qr (g:=1) [0] 5 ((CM w_.disk).list) rfl,Z.qr (g:=1) [0] 6 ((CM w_.disk).names) rfl⟩,Z.ch⟩
theorem Du (w_:Wld) (e:Evt){bx:Nat}{ab0:Option Addr}{nb0 cb0:Nat}(hrb0:RepS w (nin F [bx]) ab0 nb0 cb0 w_.store.idx.names){ab1:Option Addr}{nb1 cb1:Nat}(hrb1:RepS w (nin F [bx]) ab1 nb1 cb1 w_.store.idx.AY){ab2:Option Addr}{nb2 cb2:Nat}(hrb2:RepS w (nin F [bx]) ab2 nb2 cb2 w_.store.parts){ab3:Option Addr}{nb3 cb3:Nat}(hrb3:RepS w (nin F [bx]) ab3 nb3 cb3 w_.store.mem){ab4:Option Addr}{nb4 cb4:Nat}(hrb4:RepS w (nin F [bx]) ab4 nb4 cb4 w_.disk.files){ab5:Option Addr}{nb5 cb5:Nat}(hrb5:RepS w (nin F [bx]) ab5 nb5 cb5 w_.disk.list){ab6:Option Addr}{nb6 cb6:Nat}(hrb6:RepS w (nin F [bx]) ab6 nb6 cb6 w_.disk.names) (hbx:Box w bx 37 [.slice ab0 nb0 cb0,.slice ab1 nb1 cb1,.slice ab2 nb2 cb2,.slice ab3 nb3 cb3,.slice ab4 nb4 cb4,.slice ab5 nb5 cb5,.slice ab6 nb6 cb6,.int .i64 w_.disk.next]) (h1:RepS w (nin F [bx]) a1 n1 c1 e.name) (p0:WV w_) (p1:NmD e.name):Calls Tryz.prog 33 [.pointer (some ⟨bx,0,none⟩),.agg #[.int .i64 e.kind,.int .i64 e.at_,.int .i64 e.cut,.slice a1 n1 c1,.int .i64 e.row.t,.int .i64 e.row.v]].toArray w (Am fun rv w'=>(rv=.tuple #[]∧(∃ (ao0:Option Addr) (no0 co0:Nat) (ao1:Option Addr) (no1 co1:Nat) (ao2:Option Addr) (no2 co2:Nat) (ao3:Option Addr) (no3 co3:Nat) (ao4:Option Addr) (no4 co4:Nat) (ao5:Option Addr) (no5 co5:Nat) (ao6:Option Addr) (no6 co6:Nat),Box w' bx 37 [.slice ao0 no0 co0,.slice ao1 no1 co1,.slice ao2 no2 co2,.slice ao3 no3 co3,.slice ao4 no4 co4,.slice ao5 no5 co5,.slice ao6 no6 co6,.int .i64 ((((doW w_ e)).disk).next)]∧RepS w' (nin (fo F w.heap.size) [bx]) ao0 no0 co0 (((((doW w_ e)).store).idx).names)∧RepS w' (nin (fo F w.heap.size) [bx]) ao1 no1 co1 (((((doW w_ e)).store).idx).AY)∧RepS w' (nin (fo F w.heap.size) [bx]) ao2 no2 co2 ((((doW w_ e)).store).parts)∧RepS w' (nin (fo F w.heap.size) [bx]) ao3 no3 co3 ((((doW w_ e)).store).mem)∧RepS w' (nin (fo F w.heap.size) [bx]) ao4 no4 co4 ((((doW w_ e)).disk).files)∧RepS w' (nin (fo F w.heap.size) [bx]) ao5 no5 co5 ((((doW w_ e)).disk).list)∧RepS w' (nin (fo F w.heap.size) [bx]) ao6 no6 co6 ((((doW w_ e)).disk).names)))∧Chg (ins [bx]) w w'):=by
 refine goT func33 ?_
 have hcv_bx:Cov (ins [bx]) w bx:=Cov.mkI AI
 obtain rfl:=hrb0.len
 replace hrb0:=hrb0.JP (s:=w.heap.size)
 obtain rfl:=hrb1.len
 replace hrb1:=hrb1.JP (s:=w.heap.size)
 obtain rfl:=hrb2.len
 replace hrb2:=hrb2.JP (s:=w.heap.size)
 obtain rfl:=hrb3.len
 replace hrb3:=hrb3.JP (s:=w.heap.size)
 obtain rfl:=hrb4.len
 replace hrb4:=hrb4.JP (s:=w.heap.size)
 obtain rfl:=hrb5.len
 replace hrb5:=hrb5.JP (s:=w.heap.size)
 obtain rfl:=hrb6.len
 replace hrb6:=hrb6.JP (s:=w.heap.size)
 obtain rfl:=h1.len
 replace h1:=h1.JP (s:=w.heap.size)
 refine .s<|.g<|.np 60 [vI e.kind,vI e.at_,vI e.cut,.slice a1 e.name.length c1,vI e.row.t,vI e.row.v] fun af iW eg eh ab gU=>?_
 have ki:=Ab eg hbx.lt
 replace ⟨hrb0,hrb1,hrb2,hrb3,hrb4,hrb5,hrb6,hbx,h1⟩:=(sn [bx] eh eg).g9 hrb0 hrb1 hrb2 hrb3 hrb4 hrb5 hrb6 hbx h1
 have aa:Chg (ins [bx]) w iW:=Chg.KT (Chg.refl (ins [bx]) w) eh
 refine .d<|.s<|.g<|.ns 0 138 [] fun ae iX dM eR gV gW=>?_
 have eT:=Ab dM hbx.lt
 have ej:=Ab dM ab.lt
 replace ⟨hrb0,hrb1,hrb2,hrb3,hrb4,hrb5,hrb6,hbx,h1,ab,aa⟩:=(sn [af,bx] eR dM).g11 hrb0 hrb1 hrb2 hrb3 hrb4 hrb5 hrb6 hbx h1 ab aa
 have ac:Own (α:=Stp) iX ae 138 (nin (fo F w.heap.size) [ae,af,bx]) 0 0 []:=Own.Ba gV
 refine .r 1<|.d<|.s<|.g<|.r 3<|.ln hbx<|.np 31 [AH,AH,AH,AH] fun ag mA bH eU gX gY=>?_
 have gZ:=Ab bH hbx.lt
 have hC:=Ab bH ab.lt
 have kj:=Ab bH ac.lt
 have kl:=aa.cn bH
 replace ⟨hrb0,hrb1,hrb2,hrb3,hrb4,hrb5,hrb6,hbx,h1,ab,ac,aa⟩:=(sn [ae,af,bx] eU bH).g12 hrb0 hrb1 hrb2 hrb3 hrb4 hrb5 hrb6 hbx h1 ab ac aa
 refine .sc [.slice ab0 w_.store.idx.names.length cb0,.slice ab1 w_.store.idx.AY.length cb1,.slice ab2 w_.store.parts.length cb2,.slice ab3 w_.store.mem.length cb3] gX fun bG eV ah hE=>?_
 replace ⟨hrb0,hrb1,hrb2,hrb3,hrb4,hrb5,hrb6,hbx,h1,ab,ac,aa⟩:=(so [ag,ae,af,bx] eV).g12 hrb0 hrb1 hrb2 hrb3 hrb4 hrb5 hrb6 hbx h1 ab ac aa
 refine .d<|.s<|.s<|.g<|.r 1<|.lb ab<|.d<|.b 0<|.s<|.g<|.eq e.kind 1 (fun hH=>?_) (fun hH=>?_)
 ·refine .r 1<|.d<|.ct<|.s ?_
  replace hrb0:=hrb0.Cn
  replace hrb1:=hrb1.Cn
  replace hrb2:=hrb2.Cn
  replace hrb3:=hrb3.Cn
  replace hrb4:=hrb4.Cn
  replace hrb5:=hrb5.Cn
  replace hrb6:=hrb6.Cn
  replace h1:=h1.Cn
  have hO:Gb (bx+1) bG.heap.size:=hbx.lt
  have eW:Gb (af+1) bG.heap.size:=ab.lt
  refine .gd (mtb [ae] bG.heap.size) 14 fun iY dN=>?_
  replace ⟨hrb0,hrb1,hrb2,hrb3,hrb4,hrb5,hrb6,hbx,h1,ab,ac,ah⟩:=(se [ag,ae,af,bx] dN).g12 hrb0 hrb1 hrb2 hrb3 hrb4 hrb5 hrb6 hbx h1 ab ac ah
  replace aa:=(se [ag,ae,af,bx] dN).g1 aa
  have ai:Chg (mtb [ae] bG.heap.size) bG iY:=Chg.KT (Chg.refl (mtb [ae] bG.heap.size) bG) dN
  refine .r [0,1,2]<|.ln 3 hbx (C7 (all_cons (Nb.symm eT) all_nil) hO)<|.r [4]<|.lb 5 ab (C7 (all_cons (Nb.symm ej) all_nil) eW)<|.r [6]<|.ln 7 ab (C7 (all_cons (Nb.symm ej) all_nil) eW)<|.tw 8 12 ?_ ?_
  ·refine .cl (fun e7 bk=>G1 w_.store e.name e.row ((hrb0.base (fun _ _ h=>h.1)).ext bk) ((hrb1.base (fun _ _ h=>h.1)).ext bk) ((hrb2.base (fun _ _ h=>h.1)).ext bk) ((hrb3.base (fun _ _ h=>h.1)).ext bk) ((h1.base (fun _ _ h=>h.1)).ext bk) p0.sd p1 (w:=e7) (F:=nin (fo F w.heap.size) [ag,ae,af,bx])) ?_
   intro e7 bk
   replace ⟨hrb0,hrb1,hrb2,hrb3,hrb4,hrb5,hrb6,hbx,h1,ab,ac,ah⟩:=(se [ag,ae,af,bx] bk).g12 hrb0 hrb1 hrb2 hrb3 hrb4 hrb5 hrb6 hbx h1 ab ac ah
   replace ⟨aa,ai⟩:=(se [ag,ae,af,bx] bk).g2 aa ai
   rintro mB mC ⟨⟨mD,rfl,⟨_,rfl,⟨cJ,mE,cK,cL,mF,cM,cN,mG,cO,cP,mH,cQ,rfl,aH,aI,aJ,aK⟩⟩⟩,dO⟩
   have bZ:=al4 ah.lt ac.lt ab.lt hbx.lt
   have dP:Gb w.heap.size e7.heap.size:=aa.size
   have hkeep_:=dO
   replace ⟨hrb0,hrb1,hrb2,hrb3,hrb4,hrb5,hrb6,hbx,h1,ab,ac,ah⟩:=(se [ag,ae,af,bx] dO).g12 hrb0 hrb1 hrb2 hrb3 hrb4 hrb5 hrb6 hbx h1 ab ac ah
   replace ⟨aa,ai⟩:=(se [ag,ae,af,bx] dO).g2 aa ai
   refine ⟨Ext.chg hkeep_,?_⟩
   replace aH:=RepS.Ca (M:=[ag,ae,af,bx]) aH bZ dP
   have km:=aH.max
   replace aI:=RepS.Ca (M:=[ag,ae,af,bx]) aI bZ dP
   have ko:=aI.max
   replace aJ:=RepS.Ca (M:=[ag,ae,af,bx]) aJ bZ dP
   have kr:=aJ.max
   replace aK:=RepS.Ca (M:=[ag,ae,af,bx]) aK bZ dP
   have iZ:=aK.max
   have e8:=aH.len
   subst e8
   have fa:=aI.len
   subst fa
   have fb:=aJ.len
   subst fb
   have fd:=aK.len
   subst fd
   refine .r [9,10] ?_
   cases ja:(BX w_.store e.name e.row).2
   ·refine .r [11]<|.go 12<|.nw (fun b=>.pointer (some ⟨b,0,none⟩)) 31 [AH,AH,AH,AH] fun ku cR=>?_
    replace ⟨hrb0,hrb1,hrb2,hrb3,hrb4,hrb5,hrb6,hbx,h1,ab,ac,ah⟩:=(se [ag,ae,af,bx] cR).g12 hrb0 hrb1 hrb2 hrb3 hrb4 hrb5 hrb6 hbx h1 ab ac ah
    replace ⟨aH,aI,aJ,aK,aa,ai⟩:=(se [ag,ae,af,bx] cR).g6 aH aI aJ aK aa ai
    intro bI kv aR cS fe ff
    have jb:=Ab aR hbx.lt
    have jc:=Ab aR ab.lt
    have jd:=Ab aR ac.lt
    have je:=Ab aR ah.lt
    have jf:=aa.cn aR
    have fg:=ai.cn aR
    replace ⟨hrb0,hrb1,hrb2,hrb3,hrb4,hrb5,hrb6,hbx,h1,ab,ac,ah⟩:=(sn [ag,ae,af,bx] cS aR).g12 hrb0 hrb1 hrb2 hrb3 hrb4 hrb5 hrb6 hbx h1 ab ac ah
    replace ⟨aH,aI,aJ,aK,aa,ai⟩:=(sn [ag,ae,af,bx] cS aR).g6 aH aI aJ aK aa ai
    refine .go 13<|GE.FM (t':=31) (o:=0) (v:=.agg #[.slice cJ ((BX w_.store e.name e.row).1.idx.names.length) cK,.slice cL ((((BX w_.store e.name e.row).1.idx).AY).length) cM,.slice cN ((BX w_.store e.name e.row).1.parts.length) cO,.slice cP ((BX w_.store e.name e.row).1.mem.length) cQ]) [.slice cJ ((BX w_.store e.name e.row).1.idx.names.length) cK,.slice cL ((((BX w_.store e.name e.row).1.idx).AY).length) cM,.slice cN ((BX w_.store e.name e.row).1.parts.length) cO,.slice cP ((BX w_.store e.name e.row).1.mem.length) cQ] fe AA AA AA fun kw cT=>?_
    replace ⟨hrb0,hrb1,hrb2,hrb3,hrb4,hrb5,hrb6,hbx,h1,ab,ac,ah⟩:=(se [bI,ag,ae,af,bx] cT).g12 hrb0 hrb1 hrb2 hrb3 hrb4 hrb5 hrb6 hbx h1 ab ac ah
    replace ⟨aH,aI,aJ,aK,aa,ai⟩:=(se [bI,ag,ae,af,bx] cT).g6 aH aI aJ aK aa ai
    intro kx bJ jg fi
    have hkeep_:=Chg.toS bJ (Cov.toS fg)
    replace ⟨hrb0,hrb1,hrb2,hrb3,hrb4,hrb5,hrb6,hbx,h1,ab,ac,ah⟩:=(so [bI,ag,ae,af,bx] bJ).g12 hrb0 hrb1 hrb2 hrb3 hrb4 hrb5 hrb6 hbx h1 ab ac ah
    replace ⟨aH,aI,aJ,aK,aa,ai⟩:=(so [bI,ag,ae,af,bx] bJ).g6 aH aI aJ aK aa ai
    refine ⟨hkeep_,?_⟩
    refine .d fun ky cU=>?_
    replace ⟨hrb0,hrb1,hrb2,hrb3,hrb4,hrb5,hrb6,hbx,h1,ab,ac,ah⟩:=(se [bI,ag,ae,af,bx] cU).g12 hrb0 hrb1 hrb2 hrb3 hrb4 hrb5 hrb6 hbx h1 ab ac ah
    replace ⟨aH,aI,aJ,aK,aa,ai⟩:=(se [bI,ag,ae,af,bx] cU).g6 aH aI aJ aK aa ai
    replace hrb0:=hrb0.BO
    replace hrb1:=hrb1.BO
    replace hrb2:=hrb2.BO
    replace hrb3:=hrb3.BO
    replace hrb4:=hrb4.BO
    replace hrb5:=hrb5.BO
    replace hrb6:=hrb6.BO
    replace h1:=h1.BO
    refine .r 1<|.d<|.s<|.g<|.r 1<|.d<|.cf<|.sk<|.ib 0<|.s<|.s<|.g<|.r 8<|.d<|.ct<|T.MX AA func33 results33 ?_
    rw [show (doW w_ e)=w_ from by exact XQ p0 (by with_reducible assumption) (by with_reducible assumption)]
    exact ⟨⟨rfl,ab0,w_.store.idx.names.length,cb0,ab1,w_.store.idx.AY.length,cb1,ab2,w_.store.parts.length,cb2,ab3,w_.store.mem.length,cb3,ab4,w_.disk.files.length,cb4,ab5,w_.disk.list.length,cb5,ab6,w_.disk.names.length,cb6,hbx,(RepS.Aq hrb0 (all_cons AM all_nil)),(RepS.Aq hrb1 (all_cons AM all_nil)),(RepS.Aq hrb2 (all_cons AM all_nil)),(RepS.Aq hrb3 (all_cons AM all_nil)),(RepS.Aq hrb4 (all_cons AM all_nil)),(RepS.Aq hrb5 (all_cons AM all_nil)),(RepS.Aq hrb6 (all_cons AM all_nil))⟩,aa⟩
   refine .r [11]<|.go 12<|.nw (fun b=>.pointer (some ⟨b,0,none⟩)) 31 [AH,AH,AH,AH] fun kz cV=>?_
   replace ⟨hrb0,hrb1,hrb2,hrb3,hrb4,hrb5,hrb6,hbx,h1,ab,ac,ah⟩:=(se [ag,ae,af,bx] cV).g12 hrb0 hrb1 hrb2 hrb3 hrb4 hrb5 hrb6 hbx h1 ab ac ah
   replace ⟨aH,aI,aJ,aK,aa,ai⟩:=(se [ag,ae,af,bx] cV).g6 aH aI aJ aK aa ai
   intro bm kA aS cW fj fm
   have jh:=Ab aS hbx.lt
   have ji:=Ab aS ab.lt
   have jj:=Ab aS ac.lt
   have jk:=Ab aS ah.lt
   have jl:=aa.cn aS
   have fp:=ai.cn aS
   replace ⟨hrb0,hrb1,hrb2,hrb3,hrb4,hrb5,hrb6,hbx,h1,ab,ac,ah⟩:=(sn [ag,ae,af,bx] cW aS).g12 hrb0 hrb1 hrb2 hrb3 hrb4 hrb5 hrb6 hbx h1 ab ac ah
   replace ⟨aH,aI,aJ,aK,aa,ai⟩:=(sn [ag,ae,af,bx] cW aS).g6 aH aI aJ aK aa ai
   refine .go 13<|GE.FM (t':=31) (o:=0) (v:=.agg #[.slice cJ ((BX w_.store e.name e.row).1.idx.names.length) cK,.slice cL ((((BX w_.store e.name e.row).1.idx).AY).length) cM,.slice cN ((BX w_.store e.name e.row).1.parts.length) cO,.slice cP ((BX w_.store e.name e.row).1.mem.length) cQ]) [.slice cJ ((BX w_.store e.name e.row).1.idx.names.length) cK,.slice cL ((((BX w_.store e.name e.row).1.idx).AY).length) cM,.slice cN ((BX w_.store e.name e.row).1.parts.length) cO,.slice cP ((BX w_.store e.name e.row).1.mem.length) cQ] fj AA AA AA fun kB cX=>?_
   replace ⟨hrb0,hrb1,hrb2,hrb3,hrb4,hrb5,hrb6,hbx,h1,ab,ac,ah⟩:=(se [bm,ag,ae,af,bx] cX).g12 hrb0 hrb1 hrb2 hrb3 hrb4 hrb5 hrb6 hbx h1 ab ac ah
   replace ⟨aH,aI,aJ,aK,aa,ai⟩:=(se [bm,ag,ae,af,bx] cX).g6 aH aI aJ aK aa ai
   intro kC bK cY fq
   have hkeep_:=Chg.toS bK (Cov.toS fp)
   replace ⟨hrb0,hrb1,hrb2,hrb3,hrb4,hrb5,hrb6,hbx,h1,ab,ac,ah⟩:=(so [bm,ag,ae,af,bx] bK).g12 hrb0 hrb1 hrb2 hrb3 hrb4 hrb5 hrb6 hbx h1 ab ac ah
   replace ⟨aH,aI,aJ,aK,aa,ai⟩:=(so [bm,ag,ae,af,bx] bK).g6 aH aI aJ aK aa ai
   refine ⟨hkeep_,?_⟩
   refine .d fun kD cZ=>?_
   replace ⟨hrb0,hrb1,hrb2,hrb3,hrb4,hrb5,hrb6,hbx,h1,ab,ac,ah⟩:=(se [bm,ag,ae,af,bx] cZ).g12 hrb0 hrb1 hrb2 hrb3 hrb4 hrb5 hrb6 hbx h1 ab ac ah
   replace ⟨aH,aI,aJ,aK,cY,aa,ai⟩:=(se [bm,ag,ae,af,bx] cZ).g7 aH aI aJ aK cY aa ai
   replace hrb0:=hrb0.BO
   replace hrb1:=hrb1.BO
   replace hrb2:=hrb2.BO
   replace hrb3:=hrb3.BO
   replace hrb4:=hrb4.BO
   replace hrb5:=hrb5.BO
   replace hrb6:=hrb6.BO
   replace h1:=h1.BO
   refine .r 1<|.d<|.s<|.g<|.r 1<|.d<|.ct<|.g<|.r 1<|.ln cY<|.r 2<|.sb 0 (.agg #[.slice cJ ((BX w_.store e.name e.row).1.idx.names.length) cK,.slice cL ((((BX w_.store e.name e.row).1.idx).AY).length) cM,.slice cN ((BX w_.store e.name e.row).1.parts.length) cO,.slice cP ((BX w_.store e.name e.row).1.mem.length) cQ]) [.slice cJ ((BX w_.store e.name e.row).1.idx.names.length) cK,.slice cL ((((BX w_.store e.name e.row).1.idx).AY).length) cM,.slice cN ((BX w_.store e.name e.row).1.parts.length) cO,.slice cP ((BX w_.store e.name e.row).1.mem.length) cQ,.slice ab4 w_.disk.files.length cb4,.slice ab5 w_.disk.list.length cb5,.slice ab6 w_.disk.names.length cb6,vI w_.disk.next] hbx fun kE c7 fu fv=>?_
   replace ⟨hrb0,hrb1,hrb2,hrb3,hrb4,hrb5,hrb6,h1,ab,ac,ah,aH⟩:=(so [bm,ag,ae,af,bx] c7).g12 hrb0 hrb1 hrb2 hrb3 hrb4 hrb5 hrb6 h1 ab ac ah aH
   replace ⟨aI,aJ,aK,aa⟩:=(so [bm,ag,ae,af,bx] c7).g4 aI aJ aK aa
   refine .d<|.ib 0<|.s<|.s<|.g<|.r 8<|.d<|.ct<|T.MX AA func33 results33 ?_
   rw [show (doW w_ e)=(⟨(⟨(⟨(BX w_.store e.name e.row).1.idx.names,((BX w_.store e.name e.row).1.idx).AY⟩:Idx),(BX w_.store e.name e.row).1.parts,(BX w_.store e.name e.row).1.mem⟩:Sto),(⟨w_.disk.files,w_.disk.list,w_.disk.names,w_.disk.next⟩:Dsk)⟩:Wld) from by exact do_1 p0 (by with_reducible assumption) (by with_reducible assumption)]
   exact ⟨⟨rfl,cJ,(BX w_.store e.name e.row).1.idx.names.length,cK,cL,(((BX w_.store e.name e.row).1.idx).AY).length,cM,cN,(BX w_.store e.name e.row).1.parts.length,cO,cP,(BX w_.store e.name e.row).1.mem.length,cQ,ab4,w_.disk.files.length,cb4,ab5,w_.disk.list.length,cb5,ab6,w_.disk.names.length,cb6,fu,(RepS.Aq aH (all_cons AM all_nil)),(RepS.Aq aI (all_cons AM all_nil)),(RepS.Aq aJ (all_cons AM all_nil)),(RepS.Aq aK (all_cons AM all_nil)),(RepS.Aq hrb4 (all_cons AM all_nil)),(RepS.Aq hrb5 (all_cons AM all_nil)),(RepS.Aq hrb6 (all_cons AM all_nil))⟩,aa⟩
  refine .nw (fun b=>.pointer (some ⟨b,0,none⟩)) 31 [AH,AH,AH,AH] fun kF c8=>?_
  replace ⟨hrb0,hrb1,hrb2,hrb3,hrb4,hrb5,hrb6,hbx,h1,ab,ac,ah⟩:=(se [ag,ae,af,bx] c8).g12 hrb0 hrb1 hrb2 hrb3 hrb4 hrb5 hrb6 hbx h1 ab ac ah
  replace ⟨aa,ai⟩:=(se [ag,ae,af,bx] c8).g2 aa ai
  intro ar kG aT da aU fw
  have jm:=Ab aT hbx.lt
  have jn:=Ab aT ab.lt
  have jo:=Ab aT ac.lt
  have jp:=Ab aT ah.lt
  have jq:=aa.cn aT
  have ek:=ai.cn aT
  replace ⟨hrb0,hrb1,hrb2,hrb3,hrb4,hrb5,hrb6,hbx,h1,ab,ac,ah⟩:=(sn [ag,ae,af,bx] da aT).g12 hrb0 hrb1 hrb2 hrb3 hrb4 hrb5 hrb6 hbx h1 ab ac ah
  replace aa:=(sn [ag,ae,af,bx] da aT).g1 aa
  refine .go 8<|.cl (fun en aW=>G1 w_.store e.name e.row ((hrb0.base (fun _ _ h=>h.1)).ext aW) ((hrb1.base (fun _ _ h=>h.1)).ext aW) ((hrb2.base (fun _ _ h=>h.1)).ext aW) ((hrb3.base (fun _ _ h=>h.1)).ext aW) ((h1.base (fun _ _ h=>h.1)).ext aW) p0.sd p1 (w:=en) (F:=nin (fo F w.heap.size) [ar,ag,ae,af,bx])) ?_
  intro en aW
  replace ⟨hrb0,hrb1,hrb2,hrb3,hrb4,hrb5,hrb6,hbx,ab,ac,ah,aU⟩:=(se [ar,ag,ae,af,bx] aW).g12 hrb0 hrb1 hrb2 hrb3 hrb4 hrb5 hrb6 hbx ab ac ah aU
  replace aa:=(se [ar,ag,ae,af,bx] aW).g1 aa
  rintro kH kI ⟨⟨kJ,rfl,⟨_,rfl,⟨br,kK,bu,bv,kL,bw,bz,kM,bA,bB,kN,bC,rfl,aD,aE,aF,aG⟩⟩⟩,bL⟩
  have bD:=al5 aU.lt ah.lt ac.lt ab.lt hbx.lt
  have bM:Gb w.heap.size en.heap.size:=aa.size
  have hkeep_:=bL
  replace ⟨hrb0,hrb1,hrb2,hrb3,hrb4,hrb5,hrb6,hbx,ab,ac,ah,aU⟩:=(se [ar,ag,ae,af,bx] bL).g12 hrb0 hrb1 hrb2 hrb3 hrb4 hrb5 hrb6 hbx ab ac ah aU
  replace aa:=(se [ar,ag,ae,af,bx] bL).g1 aa
  refine ⟨Ext.chg hkeep_,?_⟩
  replace aD:=RepS.Ca (M:=[ar,ag,ae,af,bx]) aD bD bM
  have jr:=aD.max
  replace aE:=RepS.Ca (M:=[ar,ag,ae,af,bx]) aE bD bM
  have jt:=aE.max
  replace aF:=RepS.Ca (M:=[ar,ag,ae,af,bx]) aF bD bM
  have ju:=aF.max
  replace aG:=RepS.Ca (M:=[ar,ag,ae,af,bx]) aG bD bM
  have jv:=aG.max
  have fA:=aD.len
  subst fA
  have fB:=aE.len
  subst fB
  have fC:=aF.len
  subst fC
  have fD:=aG.len
  subst fD
  refine .r [9,10] ?_
  cases jw:(BX w_.store e.name e.row).2
  ·refine .r [11]<|.go 13<|GE.FM (t':=31) (o:=0) (v:=.agg #[.slice br ((BX w_.store e.name e.row).1.idx.names.length) bu,.slice bv ((((BX w_.store e.name e.row).1.idx).AY).length) bw,.slice bz ((BX w_.store e.name e.row).1.parts.length) bA,.slice bB ((BX w_.store e.name e.row).1.mem.length) bC]) [.slice br ((BX w_.store e.name e.row).1.idx.names.length) bu,.slice bv ((((BX w_.store e.name e.row).1.idx).AY).length) bw,.slice bz ((BX w_.store e.name e.row).1.parts.length) bA,.slice bB ((BX w_.store e.name e.row).1.mem.length) bC] aU AA AA AA fun kO db=>?_
   replace ⟨hrb0,hrb1,hrb2,hrb3,hrb4,hrb5,hrb6,hbx,ab,ac,ah,aU⟩:=(se [ar,ag,ae,af,bx] db).g12 hrb0 hrb1 hrb2 hrb3 hrb4 hrb5 hrb6 hbx ab ac ah aU
   replace ⟨aD,aE,aF,aG,aa⟩:=(se [ar,ag,ae,af,bx] db).g5 aD aE aF aG aa
   intro kP bN jx fE
   have hkeep_:=Chg.toS bN (Cov.toS ek)
   replace ⟨hrb0,hrb1,hrb2,hrb3,hrb4,hrb5,hrb6,hbx,ab,ac,ah,aD⟩:=(so [ar,ag,ae,af,bx] bN).g12 hrb0 hrb1 hrb2 hrb3 hrb4 hrb5 hrb6 hbx ab ac ah aD
   replace ⟨aE,aF,aG,aa⟩:=(so [ar,ag,ae,af,bx] bN).g4 aE aF aG aa
   refine ⟨hkeep_,?_⟩
   refine .d fun kQ de=>?_
   replace ⟨hrb0,hrb1,hrb2,hrb3,hrb4,hrb5,hrb6,hbx,ab,ac,ah,aD⟩:=(se [ar,ag,ae,af,bx] de).g12 hrb0 hrb1 hrb2 hrb3 hrb4 hrb5 hrb6 hbx ab ac ah aD
   replace ⟨aE,aF,aG,aa⟩:=(se [ar,ag,ae,af,bx] de).g4 aE aF aG aa
   replace hrb0:=hrb0.BO
   replace hrb1:=hrb1.BO
   replace hrb2:=hrb2.BO
   replace hrb3:=hrb3.BO
   replace hrb4:=hrb4.BO
   replace hrb5:=hrb5.BO
   replace hrb6:=hrb6.BO
   refine .r 1<|.d<|.s<|.g<|.r 1<|.d<|.cf<|.sk<|.ib 0<|.s<|.s<|.g<|.r 8<|.d<|.ct<|T.MX AA func33 results33 ?_
   rw [show (doW w_ e)=w_ from by exact XQ p0 (by with_reducible assumption) (by with_reducible assumption)]
   exact ⟨⟨rfl,ab0,w_.store.idx.names.length,cb0,ab1,w_.store.idx.AY.length,cb1,ab2,w_.store.parts.length,cb2,ab3,w_.store.mem.length,cb3,ab4,w_.disk.files.length,cb4,ab5,w_.disk.list.length,cb5,ab6,w_.disk.names.length,cb6,hbx,(RepS.Aq hrb0 (all_cons AM all_nil)),(RepS.Aq hrb1 (all_cons AM all_nil)),(RepS.Aq hrb2 (all_cons AM all_nil)),(RepS.Aq hrb3 (all_cons AM all_nil)),(RepS.Aq hrb4 (all_cons AM all_nil)),(RepS.Aq hrb5 (all_cons AM all_nil)),(RepS.Aq hrb6 (all_cons AM all_nil))⟩,aa⟩
  refine .r [11]<|.go 13<|GE.FM (t':=31) (o:=0) (v:=.agg #[.slice br ((BX w_.store e.name e.row).1.idx.names.length) bu,.slice bv ((((BX w_.store e.name e.row).1.idx).AY).length) bw,.slice bz ((BX w_.store e.name e.row).1.parts.length) bA,.slice bB ((BX w_.store e.name e.row).1.mem.length) bC]) [.slice br ((BX w_.store e.name e.row).1.idx.names.length) bu,.slice bv ((((BX w_.store e.name e.row).1.idx).AY).length) bw,.slice bz ((BX w_.store e.name e.row).1.parts.length) bA,.slice bB ((BX w_.store e.name e.row).1.mem.length) bC] aU AA AA AA fun kR df=>?_
  replace ⟨hrb0,hrb1,hrb2,hrb3,hrb4,hrb5,hrb6,hbx,ab,ac,ah,aD⟩:=(se [ar,ag,ae,af,bx] df).g12 hrb0 hrb1 hrb2 hrb3 hrb4 hrb5 hrb6 hbx ab ac ah aD
  replace ⟨aE,aF,aG,aa⟩:=(se [ar,ag,ae,af,bx] df).g4 aE aF aG aa
  intro kS bO dh fF
  have hkeep_:=Chg.toS bO (Cov.toS ek)
  replace ⟨hrb0,hrb1,hrb2,hrb3,hrb4,hrb5,hrb6,hbx,ab,ac,ah,aD⟩:=(so [ar,ag,ae,af,bx] bO).g12 hrb0 hrb1 hrb2 hrb3 hrb4 hrb5 hrb6 hbx ab ac ah aD
  replace ⟨aE,aF,aG,aa⟩:=(so [ar,ag,ae,af,bx] bO).g4 aE aF aG aa
  refine ⟨hkeep_,?_⟩
  refine .d fun kT dj=>?_
  replace ⟨hrb0,hrb1,hrb2,hrb3,hrb4,hrb5,hrb6,hbx,ab,ac,ah,dh⟩:=(se [ar,ag,ae,af,bx] dj).g12 hrb0 hrb1 hrb2 hrb3 hrb4 hrb5 hrb6 hbx ab ac ah dh
  replace ⟨aD,aE,aF,aG,aa⟩:=(se [ar,ag,ae,af,bx] dj).g5 aD aE aF aG aa
  replace hrb0:=hrb0.BO
  replace hrb1:=hrb1.BO
  replace hrb2:=hrb2.BO
  replace hrb3:=hrb3.BO
  replace hrb4:=hrb4.BO
  replace hrb5:=hrb5.BO
  replace hrb6:=hrb6.BO
  refine .r 1<|.d<|.s<|.g<|.r 1<|.d<|.ct<|.g<|.r 1<|.ln dh<|.r 2<|.sb 0 (.agg #[.slice br ((BX w_.store e.name e.row).1.idx.names.length) bu,.slice bv ((((BX w_.store e.name e.row).1.idx).AY).length) bw,.slice bz ((BX w_.store e.name e.row).1.parts.length) bA,.slice bB ((BX w_.store e.name e.row).1.mem.length) bC]) [.slice br ((BX w_.store e.name e.row).1.idx.names.length) bu,.slice bv ((((BX w_.store e.name e.row).1.idx).AY).length) bw,.slice bz ((BX w_.store e.name e.row).1.parts.length) bA,.slice bB ((BX w_.store e.name e.row).1.mem.length) bC,.slice ab4 w_.disk.files.length cb4,.slice ab5 w_.disk.list.length cb5,.slice ab6 w_.disk.names.length cb6,vI w_.disk.next] hbx fun kU dm fG fH=>?_
  replace ⟨hrb0,hrb1,hrb2,hrb3,hrb4,hrb5,hrb6,ab,ac,ah,aD,aE⟩:=(so [ar,ag,ae,af,bx] dm).g12 hrb0 hrb1 hrb2 hrb3 hrb4 hrb5 hrb6 ab ac ah aD aE
  replace ⟨aF,aG,aa⟩:=(so [ar,ag,ae,af,bx] dm).g3 aF aG aa
  refine .d<|.ib 0<|.s<|.s<|.g<|.r 8<|.d<|.ct<|T.MX AA func33 results33 ?_
  rw [show (doW w_ e)=(⟨(⟨(⟨(BX w_.store e.name e.row).1.idx.names,((BX w_.store e.name e.row).1.idx).AY⟩:Idx),(BX w_.store e.name e.row).1.parts,(BX w_.store e.name e.row).1.mem⟩:Sto),(⟨w_.disk.files,w_.disk.list,w_.disk.names,w_.disk.next⟩:Dsk)⟩:Wld) from by exact do_1 p0 (by with_reducible assumption) (by with_reducible assumption)]
  exact ⟨⟨rfl,br,(BX w_.store e.name e.row).1.idx.names.length,bu,bv,(((BX w_.store e.name e.row).1.idx).AY).length,bw,bz,(BX w_.store e.name e.row).1.parts.length,bA,bB,(BX w_.store e.name e.row).1.mem.length,bC,ab4,w_.disk.files.length,cb4,ab5,w_.disk.list.length,cb5,ab6,w_.disk.names.length,cb6,fG,(RepS.Aq aD (all_cons AM all_nil)),(RepS.Aq aE (all_cons AM all_nil)),(RepS.Aq aF (all_cons AM all_nil)),(RepS.Aq aG (all_cons AM all_nil)),(RepS.Aq hrb4 (all_cons AM all_nil)),(RepS.Aq hrb5 (all_cons AM all_nil)),(RepS.Aq hrb6 (all_cons AM all_nil))⟩,aa⟩
 refine .r 1<|.d<|.cf<|.s<|.g<|.eq e.kind 2 (fun fI=>?_) (fun fI=>?_)
 ·refine .r 1<|.d<|.ct<|.s<|.gd nil 8 fun kV eB=>?_
  replace ⟨hrb0,hrb1,hrb2,hrb3,hrb4,hrb5,hrb6,hbx,ab,ac,ah,aa⟩:=(se [ag,ae,af,bx] eB).g12 hrb0 hrb1 hrb2 hrb3 hrb4 hrb5 hrb6 hbx ab ac ah aa
  refine .r [0,1,2]<|.ln 3 hbx id<|.r [4,5,6]<|.ln 7 hbx id<|.d fun eX eC=>?_
  replace ⟨hrb0,hrb1,hrb2,hrb3,hrb4,hrb5,hrb6,hbx,ab,ac,ah,aa⟩:=(se [ag,ae,af,bx] eC).g12 hrb0 hrb1 hrb2 hrb3 hrb4 hrb5 hrb6 hbx ab ac ah aa
  refine .cl (JO w_.disk w_.store hrb4.ta hrb5.ta hrb6.ta hrb0.ta hrb1.ta hrb2.ta hrb3.ta p0.dd (SG.of p0.sd) (w:=eX) (F:=all)) ?_
  rintro kW eY ⟨⟨kX,kY,rfl,aV⟩,eD⟩
  have eE:=al4 ah.lt ac.lt ab.lt hbx.lt
  have fJ:Gb w.heap.size eX.heap.size:=aa.size
  replace ⟨hrb0,hrb1,hrb2,hrb3,hrb4,hrb5,hrb6,hbx,ab,ac,ah,aa⟩:=(se [ag,ae,af,bx] eD).g12 hrb0 hrb1 hrb2 hrb3 hrb4 hrb5 hrb6 hbx ab ac ah aa
  have aV:=aV.fr eE fJ
  replace aV:=aV.base (G':=fo F w.heap.size) (fun _ _ h=>.inr h)
  refine .r 1<|.d<|.g<|.r 3<|.ln hbx<|.cl (JH w_.store hrb0 hrb1 hrb2 hrb3 p0.sd (w:=eY) (F:=nin (fo F w.heap.size) [ag,ae,af,bx])) ?_
  rintro kZ k5 ⟨⟨k6,rfl,⟨_,rfl,⟨dQ,k7,dR,dS,k8,dT,dU,lc,dV,dW,ld,dX,rfl,ay,az,aA,aB⟩⟩⟩,dq⟩
  have bE:=al4 ah.lt ac.lt ab.lt hbx.lt
  have bP:Gb w.heap.size eY.heap.size:=aa.size
  replace ⟨hrb0,hrb1,hrb2,hrb3,hrb4,hrb5,hrb6,hbx,ab,ac,ah,aV⟩:=(se [ag,ae,af,bx] dq).g12 hrb0 hrb1 hrb2 hrb3 hrb4 hrb5 hrb6 hbx ab ac ah aV
  replace aa:=(se [ag,ae,af,bx] dq).g1 aa
  replace ay:=RepS.Ca (M:=[ag,ae,af,bx]) ay bE bP
  have jz:=ay.max
  replace az:=RepS.Ca (M:=[ag,ae,af,bx]) az bE bP
  have jA:=az.max
  replace aA:=RepS.Ca (M:=[ag,ae,af,bx]) aA bE bP
  have jB:=aA.max
  replace aB:=RepS.Ca (M:=[ag,ae,af,bx]) aB bE bP
  have jC:=aB.max
  have fK:=ay.len
  subst fK
  have fM:=az.len
  subst fM
  have fN:=aA.len
  subst fN
  have fO:=aB.len
  subst fO
  refine .r 3<|.sc [.slice dQ ((Bm w_.store).1.idx.names.length) dR,.slice dS ((((Bm w_.store).1.idx).AY).length) dT,.slice dU ((Bm w_.store).1.parts.length) dV,.slice dW ((Bm w_.store).1.mem.length) dX] ah fun lf dt aC fP=>?_
  replace ⟨hrb0,hrb1,hrb2,hrb3,hrb4,hrb5,hrb6,hbx,ab,ac,aV,ay⟩:=(so [ag,ae,af,bx] dt).g12 hrb0 hrb1 hrb2 hrb3 hrb4 hrb5 hrb6 hbx ab ac aV ay
  replace ⟨az,aA,aB,aa⟩:=(so [ag,ae,af,bx] dt).g4 az aA aB aa
  refine .d<|.ib 0<|.s<|.s<|.g<|.r 2<|.eq (((Af w_.disk w_.store).length):Int) 0 (fun fQ=>?_) (fun fQ=>?_)
  ·refine .r 5<|.d<|.ct<|T.MX AA func33 results33 ?_
   rw [show (doW w_ e)=w_ from by exact XR p0 (by with_reducible assumption) (.inl (by with_reducible assumption))]
   exact ⟨⟨rfl,ab0,w_.store.idx.names.length,cb0,ab1,w_.store.idx.AY.length,cb1,ab2,w_.store.parts.length,cb2,ab3,w_.store.mem.length,cb3,ab4,w_.disk.files.length,cb4,ab5,w_.disk.list.length,cb5,ab6,w_.disk.names.length,cb6,hbx,(RepS.Aq hrb0 (all_cons AL all_nil)),(RepS.Aq hrb1 (all_cons AL all_nil)),(RepS.Aq hrb2 (all_cons AL all_nil)),(RepS.Aq hrb3 (all_cons AL all_nil)),(RepS.Aq hrb4 (all_cons AL all_nil)),(RepS.Aq hrb5 (all_cons AL all_nil)),(RepS.Aq hrb6 (all_cons AL all_nil))⟩,aa⟩
  refine .r 2<|.lb ab<|.bp (e.cut< 0) (fun fR=>?_) (fun fR=>?_)
  ·refine .r 1<|.d<|.ct<|T.MX AA func33 results33 ?_
   rw [show (doW w_ e)=w_ from by exact XR p0 (by with_reducible assumption) (.inr (by with_reducible assumption))]
   exact ⟨⟨rfl,ab0,w_.store.idx.names.length,cb0,ab1,w_.store.idx.AY.length,cb1,ab2,w_.store.parts.length,cb2,ab3,w_.store.mem.length,cb3,ab4,w_.disk.files.length,cb4,ab5,w_.disk.list.length,cb5,ab6,w_.disk.names.length,cb6,hbx,(RepS.Aq hrb0 (all_cons AL all_nil)),(RepS.Aq hrb1 (all_cons AL all_nil)),(RepS.Aq hrb2 (all_cons AL all_nil)),(RepS.Aq hrb3 (all_cons AL all_nil)),(RepS.Aq hrb4 (all_cons AL all_nil)),(RepS.Aq hrb5 (all_cons AL all_nil)),(RepS.Aq hrb6 (all_cons AL all_nil))⟩,aa⟩
  refine .r 1<|.d<|.cf<|.sk<|.s<|.gd nil 9 fun li du=>?_
  replace ⟨hrb0,hrb1,hrb2,hrb3,hrb4,hrb5,hrb6,hbx,ab,ac,aC,aV⟩:=(se [ag,ae,af,bx] du).g12 hrb0 hrb1 hrb2 hrb3 hrb4 hrb5 hrb6 hbx ab ac aC aV
  replace ⟨ay,az,aA,aB,aa⟩:=(se [ag,ae,af,bx] du).g5 ay az aA aB aa
  refine .r [0,1,2,3]<|.ln 4 hbx id<|.r [5,6]<|.lb 7 ab id<|.go 8<|.cl (fun eF ba=>IL w_.disk (Af w_.disk w_.store) e.cut (hrb4.ext ba) (hrb5.ext ba) (hrb6.ext ba) (aV.ext ba) p0.dd (fun _=>by exact (KE p0.dd p0.sd).1) (w:=eF) (F:=nin (fo F w.heap.size) [ag,ae,af,bx])) ?_
  intro eF ba
  replace ⟨hrb0,hrb1,hrb2,hrb3,hrb4,hrb5,hrb6,hbx,ab,ac,aC,ay⟩:=(se [ag,ae,af,bx] ba).g12 hrb0 hrb1 hrb2 hrb3 hrb4 hrb5 hrb6 hbx ab ac aC ay
  replace ⟨az,aA,aB,aa⟩:=(se [ag,ae,af,bx] ba).g4 az aA aB aa
  rintro lj lk ⟨⟨_,rfl,⟨dY,ll,dZ,d0,lm,d3,d4,lp,d5,rfl,aL,aM,aN⟩⟩,bQ⟩
  have bR:=al4 aC.lt ac.lt ab.lt hbx.lt
  have dv:Gb w.heap.size eF.heap.size:=aa.size
  have hkeep_:=bQ
  replace ⟨hrb0,hrb1,hrb2,hrb3,hrb4,hrb5,hrb6,hbx,ab,ac,aC,ay⟩:=(se [ag,ae,af,bx] bQ).g12 hrb0 hrb1 hrb2 hrb3 hrb4 hrb5 hrb6 hbx ab ac aC ay
  replace ⟨az,aA,aB,aa⟩:=(se [ag,ae,af,bx] bQ).g4 az aA aB aa
  refine ⟨Ext.chg hkeep_,?_⟩
  replace aL:=RepS.Ca (M:=[ag,ae,af,bx]) aL bR dv
  have jD:=aL.max
  replace aM:=RepS.Ca (M:=[ag,ae,af,bx]) aM bR dv
  have jE:=aM.max
  replace aN:=RepS.Ca (M:=[ag,ae,af,bx]) aN bR dv
  have jF:=aN.max
  have fS:=aL.len
  subst fS
  have fT:=aM.len
  subst fT
  have fU:=aN.len
  subst fU
  refine .d fun lq dw=>?_
  replace ⟨hrb0,hrb1,hrb2,hrb3,hrb4,hrb5,hrb6,hbx,ab,ac,aC,ay⟩:=(se [ag,ae,af,bx] dw).g12 hrb0 hrb1 hrb2 hrb3 hrb4 hrb5 hrb6 hbx ab ac aC ay
  replace ⟨az,aA,aB,aL,aM,aN,aa⟩:=(se [ag,ae,af,bx] dw).g7 az aA aB aL aM aN aa
  refine .r 2<|.sb 4 (.agg #[.slice dY (((Ak w_.disk (Af w_.disk w_.store) e.cut).files).length) dZ,.slice d0 (((Ak w_.disk (Af w_.disk w_.store) e.cut).list).length) d3,.slice d4 (((Ak w_.disk (Af w_.disk w_.store) e.cut).names).length) d5,vI ((Ak w_.disk (Af w_.disk w_.store) e.cut).next)]) [.slice ab0 w_.store.idx.names.length cb0,.slice ab1 w_.store.idx.AY.length cb1,.slice ab2 w_.store.parts.length cb2,.slice ab3 w_.store.mem.length cb3,.slice dY (((Ak w_.disk (Af w_.disk w_.store) e.cut).files).length) dZ,.slice d0 (((Ak w_.disk (Af w_.disk w_.store) e.cut).list).length) d3,.slice d4 (((Ak w_.disk (Af w_.disk w_.store) e.cut).names).length) d5,vI ((Ak w_.disk (Af w_.disk w_.store) e.cut).next)] hbx fun eG dx dy fV=>?_
  replace ⟨hrb0,hrb1,hrb2,hrb3,hrb4,hrb5,hrb6,ab,ac,aC,ay,az⟩:=(so [ag,ae,af,bx] dx).g12 hrb0 hrb1 hrb2 hrb3 hrb4 hrb5 hrb6 ab ac aC ay az
  replace ⟨aA,aB,aL,aM,aN,aa⟩:=(so [ag,ae,af,bx] dx).g6 aA aB aL aM aN aa
  refine .d<|.s<|.g<|.r 1<|.lb ab<|.r 2<|.bp (e.cut< (((Af w_.disk w_.store).length):Int)) (fun fW=>?_) (fun fW=>?_)
  ·refine .d<|.ct<|.g<|.r 1<|.cl (Ea (⟨(⟨(⟨w_.store.idx.names,w_.store.idx.AY⟩:Idx),w_.store.parts,w_.store.mem⟩:Sto),(⟨(Ak w_.disk (Af w_.disk w_.store) e.cut).files,(Ak w_.disk (Af w_.disk w_.store) e.cut).list,(Ak w_.disk (Af w_.disk w_.store) e.cut).names,(Ak w_.disk (Af w_.disk w_.store) e.cut).next⟩:Dsk)⟩:Wld) (RepS.toM hrb0 (all_cons AL all_nil)) (RepS.toM hrb1 (all_cons AL all_nil)) (RepS.toM hrb2 (all_cons AL all_nil)) (RepS.toM hrb3 (all_cons AL all_nil)) (RepS.toM aL (all_cons AL all_nil)) (RepS.toM aM (all_cons AL all_nil)) (RepS.toM aN (all_cons AL all_nil)) dy (by exact (OI (e:=e) p0 (by with_reducible assumption) (by with_reducible assumption)).2.1) (by exact (OI (e:=e) p0 (by with_reducible assumption) (by with_reducible assumption)).2.2) (w:=eG) (F:=nin (fo F w.heap.size) [ag,ae,af,bx])) ?_
   rintro lu bn ⟨⟨rfl,hQ,lv,hV,hW,lw,ia,ic,ly,ie,ig,lz,ii,ij,lA,ik,il,lB,im,io,lC,ip,fX,b0,b6,b7,b8,b9,cd,ce⟩,bS⟩
   have aX:=al4 aC.lt ac.lt ab.lt dy.lt
   have bd:Gb w.heap.size eG.heap.size:=aa.size
   have dz:Mv [ag,ae,af,bx] [ag,ae,af,bx] eG bn:=Mv.inl bS (all_cons AL all_nil) (all_cons (.inl AI) (all_cons (.inl AJ) (all_cons (.inl AK) (all_cons (.inl AL) all_nil))))
   replace ⟨hrb0,hrb1,hrb2,hrb3,hrb4,hrb5,hrb6,ab,ac,aC,ay,az⟩:=(sp dz bS).g12 hrb0 hrb1 hrb2 hrb3 hrb4 hrb5 hrb6 ab ac aC ay az
   replace ⟨aA,aB,aL,aM,aN,aa⟩:=(sp dz bS).g6 aA aB aL aM aN aa
   replace b0:RepS bn (nin (fo F w.heap.size) [ag,ae,af,bx]) _ _ _ _:=RepS.bxM (M2:=[ag,ae,af,bx]) b0 aX (fun _ h=>.inr (Nat.le_trans bd h)) (all_cons (.inr AI) (all_cons (.inr AJ) (all_cons (.inr AK) (all_cons (.inl AI) all_nil))))
   replace b6:RepS bn (nin (fo F w.heap.size) [ag,ae,af,bx]) _ _ _ _:=RepS.bxM (M2:=[ag,ae,af,bx]) b6 aX (fun _ h=>.inr (Nat.le_trans bd h)) (all_cons (.inr AI) (all_cons (.inr AJ) (all_cons (.inr AK) (all_cons (.inl AI) all_nil))))
   replace b7:RepS bn (nin (fo F w.heap.size) [ag,ae,af,bx]) _ _ _ _:=RepS.bxM (M2:=[ag,ae,af,bx]) b7 aX (fun _ h=>.inr (Nat.le_trans bd h)) (all_cons (.inr AI) (all_cons (.inr AJ) (all_cons (.inr AK) (all_cons (.inl AI) all_nil))))
   replace b8:RepS bn (nin (fo F w.heap.size) [ag,ae,af,bx]) _ _ _ _:=RepS.bxM (M2:=[ag,ae,af,bx]) b8 aX (fun _ h=>.inr (Nat.le_trans bd h)) (all_cons (.inr AI) (all_cons (.inr AJ) (all_cons (.inr AK) (all_cons (.inl AI) all_nil))))
   replace b9:RepS bn (nin (fo F w.heap.size) [ag,ae,af,bx]) _ _ _ _:=RepS.bxM (M2:=[ag,ae,af,bx]) b9 aX (fun _ h=>.inr (Nat.le_trans bd h)) (all_cons (.inr AI) (all_cons (.inr AJ) (all_cons (.inr AK) (all_cons (.inl AI) all_nil))))
   replace cd:RepS bn (nin (fo F w.heap.size) [ag,ae,af,bx]) _ _ _ _:=RepS.bxM (M2:=[ag,ae,af,bx]) cd aX (fun _ h=>.inr (Nat.le_trans bd h)) (all_cons (.inr AI) (all_cons (.inr AJ) (all_cons (.inr AK) (all_cons (.inl AI) all_nil))))
   replace ce:RepS bn (nin (fo F w.heap.size) [ag,ae,af,bx]) _ _ _ _:=RepS.bxM (M2:=[ag,ae,af,bx]) ce aX (fun _ h=>.inr (Nat.le_trans bd h)) (all_cons (.inr AI) (all_cons (.inr AJ) (all_cons (.inr AK) (all_cons (.inl AI) all_nil))))
   have fY:=b0.len
   subst fY
   have fZ:=b6.len
   subst fZ
   have f5:=b7.len
   subst f5
   have f6:=b8.len
   subst f6
   have f7:=b9.len
   subst f7
   have f8:=cd.len
   subst f8
   have f9:=ce.len
   subst f9
   refine .d<|T.HC func33 results33 ?_
   rw [show (doW w_ e)=(⟨(⟨(⟨((((BA (⟨(⟨(⟨w_.store.idx.names,w_.store.idx.AY⟩:Idx),w_.store.parts,w_.store.mem⟩:Sto),(⟨(Ak w_.disk (Af w_.disk w_.store) e.cut).files,(Ak w_.disk (Af w_.disk w_.store) e.cut).list,(Ak w_.disk (Af w_.disk w_.store) e.cut).names,(Ak w_.disk (Af w_.disk w_.store) e.cut).next⟩:Dsk)⟩:Wld))).store).idx).names,((((BA (⟨(⟨(⟨w_.store.idx.names,w_.store.idx.AY⟩:Idx),w_.store.parts,w_.store.mem⟩:Sto),(⟨(Ak w_.disk (Af w_.disk w_.store) e.cut).files,(Ak w_.disk (Af w_.disk w_.store) e.cut).list,(Ak w_.disk (Af w_.disk w_.store) e.cut).names,(Ak w_.disk (Af w_.disk w_.store) e.cut).next⟩:Dsk)⟩:Wld))).store).idx).AY⟩:Idx),(((BA (⟨(⟨(⟨w_.store.idx.names,w_.store.idx.AY⟩:Idx),w_.store.parts,w_.store.mem⟩:Sto),(⟨(Ak w_.disk (Af w_.disk w_.store) e.cut).files,(Ak w_.disk (Af w_.disk w_.store) e.cut).list,(Ak w_.disk (Af w_.disk w_.store) e.cut).names,(Ak w_.disk (Af w_.disk w_.store) e.cut).next⟩:Dsk)⟩:Wld))).store).parts,(((BA (⟨(⟨(⟨w_.store.idx.names,w_.store.idx.AY⟩:Idx),w_.store.parts,w_.store.mem⟩:Sto),(⟨(Ak w_.disk (Af w_.disk w_.store) e.cut).files,(Ak w_.disk (Af w_.disk w_.store) e.cut).list,(Ak w_.disk (Af w_.disk w_.store) e.cut).names,(Ak w_.disk (Af w_.disk w_.store) e.cut).next⟩:Dsk)⟩:Wld))).store).mem⟩:Sto),(⟨(((BA (⟨(⟨(⟨w_.store.idx.names,w_.store.idx.AY⟩:Idx),w_.store.parts,w_.store.mem⟩:Sto),(⟨(Ak w_.disk (Af w_.disk w_.store) e.cut).files,(Ak w_.disk (Af w_.disk w_.store) e.cut).list,(Ak w_.disk (Af w_.disk w_.store) e.cut).names,(Ak w_.disk (Af w_.disk w_.store) e.cut).next⟩:Dsk)⟩:Wld))).disk).files,(((BA (⟨(⟨(⟨w_.store.idx.names,w_.store.idx.AY⟩:Idx),w_.store.parts,w_.store.mem⟩:Sto),(⟨(Ak w_.disk (Af w_.disk w_.store) e.cut).files,(Ak w_.disk (Af w_.disk w_.store) e.cut).list,(Ak w_.disk (Af w_.disk w_.store) e.cut).names,(Ak w_.disk (Af w_.disk w_.store) e.cut).next⟩:Dsk)⟩:Wld))).disk).list,(((BA (⟨(⟨(⟨w_.store.idx.names,w_.store.idx.AY⟩:Idx),w_.store.parts,w_.store.mem⟩:Sto),(⟨(Ak w_.disk (Af w_.disk w_.store) e.cut).files,(Ak w_.disk (Af w_.disk w_.store) e.cut).list,(Ak w_.disk (Af w_.disk w_.store) e.cut).names,(Ak w_.disk (Af w_.disk w_.store) e.cut).next⟩:Dsk)⟩:Wld))).disk).names,(((BA (⟨(⟨(⟨w_.store.idx.names,w_.store.idx.AY⟩:Idx),w_.store.parts,w_.store.mem⟩:Sto),(⟨(Ak w_.disk (Af w_.disk w_.store) e.cut).files,(Ak w_.disk (Af w_.disk w_.store) e.cut).list,(Ak w_.disk (Af w_.disk w_.store) e.cut).names,(Ak w_.disk (Af w_.disk w_.store) e.cut).next⟩:Dsk)⟩:Wld))).disk).next⟩:Dsk)⟩:Wld) from by exact ZU p0 (by with_reducible assumption) (by with_reducible assumption) (by with_reducible assumption) (by with_reducible assumption)]
   exact ⟨⟨rfl,hQ,(((((BA (⟨(⟨(⟨w_.store.idx.names,w_.store.idx.AY⟩:Idx),w_.store.parts,w_.store.mem⟩:Sto),(⟨(Ak w_.disk (Af w_.disk w_.store) e.cut).files,(Ak w_.disk (Af w_.disk w_.store) e.cut).list,(Ak w_.disk (Af w_.disk w_.store) e.cut).names,(Ak w_.disk (Af w_.disk w_.store) e.cut).next⟩:Dsk)⟩:Wld))).store).idx).names).length,hV,hW,(((((BA (⟨(⟨(⟨w_.store.idx.names,w_.store.idx.AY⟩:Idx),w_.store.parts,w_.store.mem⟩:Sto),(⟨(Ak w_.disk (Af w_.disk w_.store) e.cut).files,(Ak w_.disk (Af w_.disk w_.store) e.cut).list,(Ak w_.disk (Af w_.disk w_.store) e.cut).names,(Ak w_.disk (Af w_.disk w_.store) e.cut).next⟩:Dsk)⟩:Wld))).store).idx).AY).length,ia,ic,((((BA (⟨(⟨(⟨w_.store.idx.names,w_.store.idx.AY⟩:Idx),w_.store.parts,w_.store.mem⟩:Sto),(⟨(Ak w_.disk (Af w_.disk w_.store) e.cut).files,(Ak w_.disk (Af w_.disk w_.store) e.cut).list,(Ak w_.disk (Af w_.disk w_.store) e.cut).names,(Ak w_.disk (Af w_.disk w_.store) e.cut).next⟩:Dsk)⟩:Wld))).store).parts).length,ie,ig,((((BA (⟨(⟨(⟨w_.store.idx.names,w_.store.idx.AY⟩:Idx),w_.store.parts,w_.store.mem⟩:Sto),(⟨(Ak w_.disk (Af w_.disk w_.store) e.cut).files,(Ak w_.disk (Af w_.disk w_.store) e.cut).list,(Ak w_.disk (Af w_.disk w_.store) e.cut).names,(Ak w_.disk (Af w_.disk w_.store) e.cut).next⟩:Dsk)⟩:Wld))).store).mem).length,ii,ij,((((BA (⟨(⟨(⟨w_.store.idx.names,w_.store.idx.AY⟩:Idx),w_.store.parts,w_.store.mem⟩:Sto),(⟨(Ak w_.disk (Af w_.disk w_.store) e.cut).files,(Ak w_.disk (Af w_.disk w_.store) e.cut).list,(Ak w_.disk (Af w_.disk w_.store) e.cut).names,(Ak w_.disk (Af w_.disk w_.store) e.cut).next⟩:Dsk)⟩:Wld))).disk).files).length,ik,il,((((BA (⟨(⟨(⟨w_.store.idx.names,w_.store.idx.AY⟩:Idx),w_.store.parts,w_.store.mem⟩:Sto),(⟨(Ak w_.disk (Af w_.disk w_.store) e.cut).files,(Ak w_.disk (Af w_.disk w_.store) e.cut).list,(Ak w_.disk (Af w_.disk w_.store) e.cut).names,(Ak w_.disk (Af w_.disk w_.store) e.cut).next⟩:Dsk)⟩:Wld))).disk).list).length,im,io,((((BA (⟨(⟨(⟨w_.store.idx.names,w_.store.idx.AY⟩:Idx),w_.store.parts,w_.store.mem⟩:Sto),(⟨(Ak w_.disk (Af w_.disk w_.store) e.cut).files,(Ak w_.disk (Af w_.disk w_.store) e.cut).list,(Ak w_.disk (Af w_.disk w_.store) e.cut).names,(Ak w_.disk (Af w_.disk w_.store) e.cut).next⟩:Dsk)⟩:Wld))).disk).names).length,ip,fX,(RepS.Aq b0 (all_cons AL all_nil)),(RepS.Aq b6 (all_cons AL all_nil)),(RepS.Aq b7 (all_cons AL all_nil)),(RepS.Aq b8 (all_cons AL all_nil)),(RepS.Aq b9 (all_cons AL all_nil)),(RepS.Aq cd (all_cons AL all_nil)),(RepS.Aq ce (all_cons AL all_nil))⟩,aa⟩
  refine .d<|.cf<|.g<|.r 1<|.ln aC<|.r 2<|.sb 0 (.agg #[.slice dQ ((Bm w_.store).1.idx.names.length) dR,.slice dS ((((Bm w_.store).1.idx).AY).length) dT,.slice dU ((Bm w_.store).1.parts.length) dV,.slice dW ((Bm w_.store).1.mem.length) dX]) [.slice dQ ((Bm w_.store).1.idx.names.length) dR,.slice dS ((((Bm w_.store).1.idx).AY).length) dT,.slice dU ((Bm w_.store).1.parts.length) dV,.slice dW ((Bm w_.store).1.mem.length) dX,.slice dY (((Ak w_.disk (Af w_.disk w_.store) e.cut).files).length) dZ,.slice d0 (((Ak w_.disk (Af w_.disk w_.store) e.cut).list).length) d3,.slice d4 (((Ak w_.disk (Af w_.disk w_.store) e.cut).names).length) d5,vI ((Ak w_.disk (Af w_.disk w_.store) e.cut).next)] dy fun lD dA gb gf=>?_
  replace ⟨hrb0,hrb1,hrb2,hrb3,hrb4,hrb5,hrb6,ab,ac,ay,az,aA⟩:=(so [ag,ae,af,bx] dA).g12 hrb0 hrb1 hrb2 hrb3 hrb4 hrb5 hrb6 ab ac ay az aA
  replace ⟨aB,aL,aM,aN,aa⟩:=(so [ag,ae,af,bx] dA).g5 aB aL aM aN aa
  refine .d<|T.HC func33 results33 ?_
  rw [show (doW w_ e)=(⟨(⟨(⟨(Bm w_.store).1.idx.names,((Bm w_.store).1.idx).AY⟩:Idx),(Bm w_.store).1.parts,(Bm w_.store).1.mem⟩:Sto),(⟨(Ak w_.disk (Af w_.disk w_.store) e.cut).files,(Ak w_.disk (Af w_.disk w_.store) e.cut).list,(Ak w_.disk (Af w_.disk w_.store) e.cut).names,(Ak w_.disk (Af w_.disk w_.store) e.cut).next⟩:Dsk)⟩:Wld) from by exact ZV p0 (by with_reducible assumption) (by with_reducible assumption) (by with_reducible assumption) (by with_reducible assumption)]
  exact ⟨⟨rfl,dQ,(Bm w_.store).1.idx.names.length,dR,dS,(((Bm w_.store).1.idx).AY).length,dT,dU,(Bm w_.store).1.parts.length,dV,dW,(Bm w_.store).1.mem.length,dX,dY,((Ak w_.disk (Af w_.disk w_.store) e.cut).files).length,dZ,d0,((Ak w_.disk (Af w_.disk w_.store) e.cut).list).length,d3,d4,((Ak w_.disk (Af w_.disk w_.store) e.cut).names).length,d5,gb,(RepS.Aq ay (all_cons AL all_nil)),(RepS.Aq az (all_cons AL all_nil)),(RepS.Aq aA (all_cons AL all_nil)),(RepS.Aq aB (all_cons AL all_nil)),(RepS.Aq aL (all_cons AL all_nil)),(RepS.Aq aM (all_cons AL all_nil)),(RepS.Aq aN (all_cons AL all_nil))⟩,aa⟩
 refine .r 1<|.d<|.cf<|.s<|.g<|.eq e.kind 3 (fun gh=>?_) (fun gh=>?_)
 ·refine .r 1<|.d<|.ct<|.s<|.gd nil 6 fun lE eH=>?_
  replace ⟨hrb0,hrb1,hrb2,hrb3,hrb4,hrb5,hrb6,hbx,ab,ac,ah,aa⟩:=(se [ag,ae,af,bx] eH).g12 hrb0 hrb1 hrb2 hrb3 hrb4 hrb5 hrb6 hbx ab ac ah aa
  refine .r [0,1,2]<|.ln 3 hbx id<|.r [4]<|.lb 5 ab id<|.d fun eZ eI=>?_
  replace ⟨hrb0,hrb1,hrb2,hrb3,hrb4,hrb5,hrb6,hbx,ab,ac,ah,aa⟩:=(se [ag,ae,af,bx] eI).g12 hrb0 hrb1 hrb2 hrb3 hrb4 hrb5 hrb6 hbx ab ac ah aa
  refine .cl (JZ w_.disk e.at_ hrb4.ta hrb5.ta hrb6.ta p0.dd (w:=eZ) (F:=all)) ?_
  rintro lF cg ⟨⟨lG,lH,rfl,aq⟩,eJ⟩
  have eK:=al4 ah.lt ac.lt ab.lt hbx.lt
  have gi:Gb w.heap.size eZ.heap.size:=aa.size
  replace ⟨hrb0,hrb1,hrb2,hrb3,hrb4,hrb5,hrb6,hbx,ab,ac,ah,aa⟩:=(se [ag,ae,af,bx] eJ).g12 hrb0 hrb1 hrb2 hrb3 hrb4 hrb5 hrb6 hbx ab ac ah aa
  have aq:=aq.fr eK gi
  replace aq:=aq.base (G':=fo F w.heap.size) (fun _ _ h=>.inr h)
  refine .r 1<|.d ?_
  replace hrb0:=hrb0.Cn
  replace hrb1:=hrb1.Cn
  replace hrb2:=hrb2.Cn
  replace hrb3:=hrb3.Cn
  replace hrb4:=hrb4.Cn
  replace hrb5:=hrb5.Cn
  replace hrb6:=hrb6.Cn
  replace aq:=aq.Cn
  have gj:Gb (bx+1) cg.heap.size:=hbx.lt
  have gk:Gb (af+1) cg.heap.size:=ab.lt
  have gl:Cov (mtb [ae,ag] cg.heap.size) cg ag:=⟨.inl (.inl AJ)⟩
  refine .gd (mtb [ae,ag] cg.heap.size) 11 fun lI dB=>?_
  replace ⟨hrb0,hrb1,hrb2,hrb3,hrb4,hrb5,hrb6,hbx,ab,ac,ah,aq⟩:=(se [ag,ae,af,bx] dB).g12 hrb0 hrb1 hrb2 hrb3 hrb4 hrb5 hrb6 hbx ab ac ah aq
  replace aa:=(se [ag,ae,af,bx] dB).g1 aa
  refine .r [0,1,2]<|.ln 3 hbx (C7 (all_cons (Nb.symm eT) (all_cons (Nb.symm gZ) all_nil)) gj)<|.r [4]<|.lb 5 ab (C7 (all_cons (Nb.symm ej) (all_cons (Nb.symm hC) all_nil)) gk)<|.go 6<|.cl (fun eM bg=>JK w_.store e.at_ ((hrb0.base (fun _ _ h=>h.1)).ext bg) ((hrb1.base (fun _ _ h=>h.1)).ext bg) ((hrb2.base (fun _ _ h=>h.1)).ext bg) ((hrb3.base (fun _ _ h=>h.1)).ext bg) p0.sd (w:=eM) (F:=nin (fo F w.heap.size) [ag,ae,af,bx])) ?_
  intro eM bg
  replace ⟨hrb0,hrb1,hrb2,hrb3,hrb4,hrb5,hrb6,hbx,ab,ac,ah,aq⟩:=(se [ag,ae,af,bx] bg).g12 hrb0 hrb1 hrb2 hrb3 hrb4 hrb5 hrb6 hbx ab ac ah aq
  replace aa:=(se [ag,ae,af,bx] bg).g1 aa
  rintro lJ lK ⟨⟨lL,rfl,⟨_,rfl,⟨ci,lM,cj,ck,lN,cm,co,lO,cp,cq,lP,cr,rfl,aj,ak,am,ao⟩⟩⟩,bT⟩
  have bF:=al4 ah.lt ac.lt ab.lt hbx.lt
  have bU:Gb w.heap.size eM.heap.size:=aa.size
  have hkeep_:=bT
  replace ⟨hrb0,hrb1,hrb2,hrb3,hrb4,hrb5,hrb6,hbx,ab,ac,ah,aq⟩:=(se [ag,ae,af,bx] bT).g12 hrb0 hrb1 hrb2 hrb3 hrb4 hrb5 hrb6 hbx ab ac ah aq
  replace aa:=(se [ag,ae,af,bx] bT).g1 aa
  refine ⟨Ext.chg hkeep_,?_⟩
  replace aj:=RepS.Ca (M:=[ag,ae,af,bx]) aj bF bU
  have jO:=aj.max
  replace ak:=RepS.Ca (M:=[ag,ae,af,bx]) ak bF bU
  have jP:=ak.max
  replace am:=RepS.Ca (M:=[ag,ae,af,bx]) am bF bU
  have jQ:=am.max
  replace ao:=RepS.Ca (M:=[ag,ae,af,bx]) ao bF bU
  have jR:=ao.max
  have gm:=aj.len
  subst gm
  have gn:=ak.len
  subst gn
  have gp:=am.len
  subst gp
  have gq:=ao.len
  subst gq
  refine .r [7,8,9]<|.go 10<|GE.FM (t':=31) (o:=0) (v:=.agg #[.slice ci ((BR w_.store e.at_).1.idx.names.length) cj,.slice ck ((((BR w_.store e.at_).1.idx).AY).length) cm,.slice co ((BR w_.store e.at_).1.parts.length) cp,.slice cq ((BR w_.store e.at_).1.mem.length) cr]) [.slice ci ((BR w_.store e.at_).1.idx.names.length) cj,.slice ck ((((BR w_.store e.at_).1.idx).AY).length) cm,.slice co ((BR w_.store e.at_).1.parts.length) cp,.slice cq ((BR w_.store e.at_).1.mem.length) cr] ah AA AA AA fun lQ dC=>?_
  replace ⟨hrb0,hrb1,hrb2,hrb3,hrb4,hrb5,hrb6,hbx,ab,ac,ah,aq⟩:=(se [ag,ae,af,bx] dC).g12 hrb0 hrb1 hrb2 hrb3 hrb4 hrb5 hrb6 hbx ab ac ah aq
  replace ⟨aj,ak,am,ao,aa⟩:=(se [ag,ae,af,bx] dC).g5 aj ak am ao aa
  intro lR bV ax gr
  have hkeep_:=Chg.toS bV (Cov.toS gl)
  replace ⟨hrb0,hrb1,hrb2,hrb3,hrb4,hrb5,hrb6,hbx,ab,ac,aq,aj⟩:=(so [ag,ae,af,bx] bV).g12 hrb0 hrb1 hrb2 hrb3 hrb4 hrb5 hrb6 hbx ab ac aq aj
  replace ⟨ak,am,ao,aa⟩:=(so [ag,ae,af,bx] bV).g4 ak am ao aa
  refine ⟨hkeep_,?_⟩
  refine .d fun lS dD=>?_
  replace ⟨hrb0,hrb1,hrb2,hrb3,hrb4,hrb5,hrb6,hbx,ab,ac,ax,aq⟩:=(se [ag,ae,af,bx] dD).g12 hrb0 hrb1 hrb2 hrb3 hrb4 hrb5 hrb6 hbx ab ac ax aq
  replace ⟨aj,ak,am,ao,aa⟩:=(se [ag,ae,af,bx] dD).g5 aj ak am ao aa
  replace hrb0:=hrb0.BO
  replace hrb1:=hrb1.BO
  replace hrb2:=hrb2.BO
  replace hrb3:=hrb3.BO
  replace hrb4:=hrb4.BO
  replace hrb5:=hrb5.BO
  replace hrb6:=hrb6.BO
  replace aq:=aq.BO
  refine .d<|.ib 0<|.s<|.s<|.g<|.r 2<|.eq (((Ag w_.disk e.at_).length):Int) 0 (fun gs=>?_) (fun gs=>?_)
  ·refine .r 5<|.d<|.ct<|T.MX AA func33 results33 ?_
   rw [show (doW w_ e)=w_ from by exact XS p0 (by with_reducible assumption) (.inl (by with_reducible assumption))]
   exact ⟨⟨rfl,ab0,w_.store.idx.names.length,cb0,ab1,w_.store.idx.AY.length,cb1,ab2,w_.store.parts.length,cb2,ab3,w_.store.mem.length,cb3,ab4,w_.disk.files.length,cb4,ab5,w_.disk.list.length,cb5,ab6,w_.disk.names.length,cb6,hbx,(RepS.Aq hrb0 (all_cons AL all_nil)),(RepS.Aq hrb1 (all_cons AL all_nil)),(RepS.Aq hrb2 (all_cons AL all_nil)),(RepS.Aq hrb3 (all_cons AL all_nil)),(RepS.Aq hrb4 (all_cons AL all_nil)),(RepS.Aq hrb5 (all_cons AL all_nil)),(RepS.Aq hrb6 (all_cons AL all_nil))⟩,aa⟩
  refine .r 2<|.lb ab<|.bp (e.cut< 0) (fun gt=>?_) (fun gt=>?_)
  ·refine .r 1<|.d<|.ct<|T.MX AA func33 results33 ?_
   rw [show (doW w_ e)=w_ from by exact XS p0 (by with_reducible assumption) (.inr (by with_reducible assumption))]
   exact ⟨⟨rfl,ab0,w_.store.idx.names.length,cb0,ab1,w_.store.idx.AY.length,cb1,ab2,w_.store.parts.length,cb2,ab3,w_.store.mem.length,cb3,ab4,w_.disk.files.length,cb4,ab5,w_.disk.list.length,cb5,ab6,w_.disk.names.length,cb6,hbx,(RepS.Aq hrb0 (all_cons AL all_nil)),(RepS.Aq hrb1 (all_cons AL all_nil)),(RepS.Aq hrb2 (all_cons AL all_nil)),(RepS.Aq hrb3 (all_cons AL all_nil)),(RepS.Aq hrb4 (all_cons AL all_nil)),(RepS.Aq hrb5 (all_cons AL all_nil)),(RepS.Aq hrb6 (all_cons AL all_nil))⟩,aa⟩
  refine .r 1<|.d<|.cf<|.sk<|.s<|.gd nil 9 fun lT dE=>?_
  replace ⟨hrb0,hrb1,hrb2,hrb3,hrb4,hrb5,hrb6,hbx,ab,ac,ax,aq⟩:=(se [ag,ae,af,bx] dE).g12 hrb0 hrb1 hrb2 hrb3 hrb4 hrb5 hrb6 hbx ab ac ax aq
  replace ⟨aj,ak,am,ao,aa⟩:=(se [ag,ae,af,bx] dE).g5 aj ak am ao aa
  refine .r [0,1,2,3]<|.ln 4 hbx id<|.r [5,6]<|.lb 7 ab id<|.go 8<|.cl (fun eO bh=>IL w_.disk (Ag w_.disk e.at_) e.cut (hrb4.ext bh) (hrb5.ext bh) (hrb6.ext bh) (aq.ext bh) p0.dd (fun _=>by exact (KF p0.dd _).1) (w:=eO) (F:=nin (fo F w.heap.size) [ag,ae,af,bx])) ?_
  intro eO bh
  replace ⟨hrb0,hrb1,hrb2,hrb3,hrb4,hrb5,hrb6,hbx,ab,ac,ax,aj⟩:=(se [ag,ae,af,bx] bh).g12 hrb0 hrb1 hrb2 hrb3 hrb4 hrb5 hrb6 hbx ab ac ax aj
  replace ⟨ak,am,ao,aa⟩:=(se [ag,ae,af,bx] bh).g4 ak am ao aa
  rintro lU lV ⟨⟨_,rfl,⟨d6,lW,d7,d8,lX,d9,ec,lY,ee,rfl,aO,aP,aQ⟩⟩,bW⟩
  have bX:=al4 ax.lt ac.lt ab.lt hbx.lt
  have dF:Gb w.heap.size eO.heap.size:=aa.size
  have hkeep_:=bW
  replace ⟨hrb0,hrb1,hrb2,hrb3,hrb4,hrb5,hrb6,hbx,ab,ac,ax,aj⟩:=(se [ag,ae,af,bx] bW).g12 hrb0 hrb1 hrb2 hrb3 hrb4 hrb5 hrb6 hbx ab ac ax aj
  replace ⟨ak,am,ao,aa⟩:=(se [ag,ae,af,bx] bW).g4 ak am ao aa
  refine ⟨Ext.chg hkeep_,?_⟩
  replace aO:=RepS.Ca (M:=[ag,ae,af,bx]) aO bX dF
  have jS:=aO.max
  replace aP:=RepS.Ca (M:=[ag,ae,af,bx]) aP bX dF
  have jT:=aP.max
  replace aQ:=RepS.Ca (M:=[ag,ae,af,bx]) aQ bX dF
  have jU:=aQ.max
  have gu:=aO.len
  subst gu
  have gv:=aP.len
  subst gv
  have gw:=aQ.len
  subst gw
  refine .d fun lZ dG=>?_
  replace ⟨hrb0,hrb1,hrb2,hrb3,hrb4,hrb5,hrb6,hbx,ab,ac,ax,aj⟩:=(se [ag,ae,af,bx] dG).g12 hrb0 hrb1 hrb2 hrb3 hrb4 hrb5 hrb6 hbx ab ac ax aj
  replace ⟨ak,am,ao,aO,aP,aQ,aa⟩:=(se [ag,ae,af,bx] dG).g7 ak am ao aO aP aQ aa
  refine .r 2<|.sb 4 (.agg #[.slice d6 (((Ak w_.disk (Ag w_.disk e.at_) e.cut).files).length) d7,.slice d8 (((Ak w_.disk (Ag w_.disk e.at_) e.cut).list).length) d9,.slice ec (((Ak w_.disk (Ag w_.disk e.at_) e.cut).names).length) ee,vI ((Ak w_.disk (Ag w_.disk e.at_) e.cut).next)]) [.slice ab0 w_.store.idx.names.length cb0,.slice ab1 w_.store.idx.AY.length cb1,.slice ab2 w_.store.parts.length cb2,.slice ab3 w_.store.mem.length cb3,.slice d6 (((Ak w_.disk (Ag w_.disk e.at_) e.cut).files).length) d7,.slice d8 (((Ak w_.disk (Ag w_.disk e.at_) e.cut).list).length) d9,.slice ec (((Ak w_.disk (Ag w_.disk e.at_) e.cut).names).length) ee,vI ((Ak w_.disk (Ag w_.disk e.at_) e.cut).next)] hbx fun eP dH dI gy=>?_
  replace ⟨hrb0,hrb1,hrb2,hrb3,hrb4,hrb5,hrb6,ab,ac,ax,aj,ak⟩:=(so [ag,ae,af,bx] dH).g12 hrb0 hrb1 hrb2 hrb3 hrb4 hrb5 hrb6 ab ac ax aj ak
  replace ⟨am,ao,aO,aP,aQ,aa⟩:=(so [ag,ae,af,bx] dH).g6 am ao aO aP aQ aa
  refine .d<|.s<|.g<|.r 1<|.lb ab<|.r 2<|.bp (e.cut< (((Ag w_.disk e.at_).length):Int)) (fun gz=>?_) (fun gz=>?_)
  ·refine .d<|.ct<|.g<|.r 1<|.cl (Ea (⟨(⟨(⟨w_.store.idx.names,w_.store.idx.AY⟩:Idx),w_.store.parts,w_.store.mem⟩:Sto),(⟨(Ak w_.disk (Ag w_.disk e.at_) e.cut).files,(Ak w_.disk (Ag w_.disk e.at_) e.cut).list,(Ak w_.disk (Ag w_.disk e.at_) e.cut).names,(Ak w_.disk (Ag w_.disk e.at_) e.cut).next⟩:Dsk)⟩:Wld) (RepS.toM hrb0 (all_cons AL all_nil)) (RepS.toM hrb1 (all_cons AL all_nil)) (RepS.toM hrb2 (all_cons AL all_nil)) (RepS.toM hrb3 (all_cons AL all_nil)) (RepS.toM aO (all_cons AL all_nil)) (RepS.toM aP (all_cons AL all_nil)) (RepS.toM aQ (all_cons AL all_nil)) dI (by exact (OJ (e:=e) p0 (by with_reducible assumption) (by with_reducible assumption)).2.1) (by exact (OJ (e:=e) p0 (by with_reducible assumption) (by with_reducible assumption)).2.2) (w:=eP) (F:=nin (fo F w.heap.size) [ag,ae,af,bx])) ?_
   rintro l0 bo ⟨⟨rfl,iq,l3,ir,iu,l4,iw,iy,l6,iz,iA,l7,iB,iC,l8,iD,iE,l9,iF,iG,mh,iH,gA,cu,cw,cx,cy,cz,cA,cB⟩,bY⟩
   have aY:=al4 ax.lt ac.lt ab.lt dI.lt
   have bi:Gb w.heap.size eP.heap.size:=aa.size
   have dJ:Mv [ag,ae,af,bx] [ag,ae,af,bx] eP bo:=Mv.inl bY (all_cons AL all_nil) (all_cons (.inl AI) (all_cons (.inl AJ) (all_cons (.inl AK) (all_cons (.inl AL) all_nil))))
   replace ⟨hrb0,hrb1,hrb2,hrb3,hrb4,hrb5,hrb6,ab,ac,ax,aj,ak⟩:=(sp dJ bY).g12 hrb0 hrb1 hrb2 hrb3 hrb4 hrb5 hrb6 ab ac ax aj ak
   replace ⟨am,ao,aO,aP,aQ,aa⟩:=(sp dJ bY).g6 am ao aO aP aQ aa
   replace cu:RepS bo (nin (fo F w.heap.size) [ag,ae,af,bx]) _ _ _ _:=RepS.bxM (M2:=[ag,ae,af,bx]) cu aY (fun _ h=>.inr (Nat.le_trans bi h)) (all_cons (.inr AI) (all_cons (.inr AJ) (all_cons (.inr AK) (all_cons (.inl AI) all_nil))))
   replace cw:RepS bo (nin (fo F w.heap.size) [ag,ae,af,bx]) _ _ _ _:=RepS.bxM (M2:=[ag,ae,af,bx]) cw aY (fun _ h=>.inr (Nat.le_trans bi h)) (all_cons (.inr AI) (all_cons (.inr AJ) (all_cons (.inr AK) (all_cons (.inl AI) all_nil))))
   replace cx:RepS bo (nin (fo F w.heap.size) [ag,ae,af,bx]) _ _ _ _:=RepS.bxM (M2:=[ag,ae,af,bx]) cx aY (fun _ h=>.inr (Nat.le_trans bi h)) (all_cons (.inr AI) (all_cons (.inr AJ) (all_cons (.inr AK) (all_cons (.inl AI) all_nil))))
   replace cy:RepS bo (nin (fo F w.heap.size) [ag,ae,af,bx]) _ _ _ _:=RepS.bxM (M2:=[ag,ae,af,bx]) cy aY (fun _ h=>.inr (Nat.le_trans bi h)) (all_cons (.inr AI) (all_cons (.inr AJ) (all_cons (.inr AK) (all_cons (.inl AI) all_nil))))
   replace cz:RepS bo (nin (fo F w.heap.size) [ag,ae,af,bx]) _ _ _ _:=RepS.bxM (M2:=[ag,ae,af,bx]) cz aY (fun _ h=>.inr (Nat.le_trans bi h)) (all_cons (.inr AI) (all_cons (.inr AJ) (all_cons (.inr AK) (all_cons (.inl AI) all_nil))))
   replace cA:RepS bo (nin (fo F w.heap.size) [ag,ae,af,bx]) _ _ _ _:=RepS.bxM (M2:=[ag,ae,af,bx]) cA aY (fun _ h=>.inr (Nat.le_trans bi h)) (all_cons (.inr AI) (all_cons (.inr AJ) (all_cons (.inr AK) (all_cons (.inl AI) all_nil))))
   replace cB:RepS bo (nin (fo F w.heap.size) [ag,ae,af,bx]) _ _ _ _:=RepS.bxM (M2:=[ag,ae,af,bx]) cB aY (fun _ h=>.inr (Nat.le_trans bi h)) (all_cons (.inr AI) (all_cons (.inr AJ) (all_cons (.inr AK) (all_cons (.inl AI) all_nil))))
   have gC:=cu.len
   subst gC
   have gD:=cw.len
   subst gD
   have gE:=cx.len
   subst gE
   have gF:=cy.len
   subst gF
   have gG:=cz.len
   subst gG
   have gH:=cA.len
   subst gH
   have gI:=cB.len
   subst gI
   refine .d<|T.HC func33 results33 ?_
   rw [show (doW w_ e)=(⟨(⟨(⟨((((BA (⟨(⟨(⟨w_.store.idx.names,w_.store.idx.AY⟩:Idx),w_.store.parts,w_.store.mem⟩:Sto),(⟨(Ak w_.disk (Ag w_.disk e.at_) e.cut).files,(Ak w_.disk (Ag w_.disk e.at_) e.cut).list,(Ak w_.disk (Ag w_.disk e.at_) e.cut).names,(Ak w_.disk (Ag w_.disk e.at_) e.cut).next⟩:Dsk)⟩:Wld))).store).idx).names,((((BA (⟨(⟨(⟨w_.store.idx.names,w_.store.idx.AY⟩:Idx),w_.store.parts,w_.store.mem⟩:Sto),(⟨(Ak w_.disk (Ag w_.disk e.at_) e.cut).files,(Ak w_.disk (Ag w_.disk e.at_) e.cut).list,(Ak w_.disk (Ag w_.disk e.at_) e.cut).names,(Ak w_.disk (Ag w_.disk e.at_) e.cut).next⟩:Dsk)⟩:Wld))).store).idx).AY⟩:Idx),(((BA (⟨(⟨(⟨w_.store.idx.names,w_.store.idx.AY⟩:Idx),w_.store.parts,w_.store.mem⟩:Sto),(⟨(Ak w_.disk (Ag w_.disk e.at_) e.cut).files,(Ak w_.disk (Ag w_.disk e.at_) e.cut).list,(Ak w_.disk (Ag w_.disk e.at_) e.cut).names,(Ak w_.disk (Ag w_.disk e.at_) e.cut).next⟩:Dsk)⟩:Wld))).store).parts,(((BA (⟨(⟨(⟨w_.store.idx.names,w_.store.idx.AY⟩:Idx),w_.store.parts,w_.store.mem⟩:Sto),(⟨(Ak w_.disk (Ag w_.disk e.at_) e.cut).files,(Ak w_.disk (Ag w_.disk e.at_) e.cut).list,(Ak w_.disk (Ag w_.disk e.at_) e.cut).names,(Ak w_.disk (Ag w_.disk e.at_) e.cut).next⟩:Dsk)⟩:Wld))).store).mem⟩:Sto),(⟨(((BA (⟨(⟨(⟨w_.store.idx.names,w_.store.idx.AY⟩:Idx),w_.store.parts,w_.store.mem⟩:Sto),(⟨(Ak w_.disk (Ag w_.disk e.at_) e.cut).files,(Ak w_.disk (Ag w_.disk e.at_) e.cut).list,(Ak w_.disk (Ag w_.disk e.at_) e.cut).names,(Ak w_.disk (Ag w_.disk e.at_) e.cut).next⟩:Dsk)⟩:Wld))).disk).files,(((BA (⟨(⟨(⟨w_.store.idx.names,w_.store.idx.AY⟩:Idx),w_.store.parts,w_.store.mem⟩:Sto),(⟨(Ak w_.disk (Ag w_.disk e.at_) e.cut).files,(Ak w_.disk (Ag w_.disk e.at_) e.cut).list,(Ak w_.disk (Ag w_.disk e.at_) e.cut).names,(Ak w_.disk (Ag w_.disk e.at_) e.cut).next⟩:Dsk)⟩:Wld))).disk).list,(((BA (⟨(⟨(⟨w_.store.idx.names,w_.store.idx.AY⟩:Idx),w_.store.parts,w_.store.mem⟩:Sto),(⟨(Ak w_.disk (Ag w_.disk e.at_) e.cut).files,(Ak w_.disk (Ag w_.disk e.at_) e.cut).list,(Ak w_.disk (Ag w_.disk e.at_) e.cut).names,(Ak w_.disk (Ag w_.disk e.at_) e.cut).next⟩:Dsk)⟩:Wld))).disk).names,(((BA (⟨(⟨(⟨w_.store.idx.names,w_.store.idx.AY⟩:Idx),w_.store.parts,w_.store.mem⟩:Sto),(⟨(Ak w_.disk (Ag w_.disk e.at_) e.cut).files,(Ak w_.disk (Ag w_.disk e.at_) e.cut).list,(Ak w_.disk (Ag w_.disk e.at_) e.cut).names,(Ak w_.disk (Ag w_.disk e.at_) e.cut).next⟩:Dsk)⟩:Wld))).disk).next⟩:Dsk)⟩:Wld) from by exact ZW p0 (by with_reducible assumption) (by with_reducible assumption) (by with_reducible assumption) (by with_reducible assumption)]
   exact ⟨⟨rfl,iq,(((((BA (⟨(⟨(⟨w_.store.idx.names,w_.store.idx.AY⟩:Idx),w_.store.parts,w_.store.mem⟩:Sto),(⟨(Ak w_.disk (Ag w_.disk e.at_) e.cut).files,(Ak w_.disk (Ag w_.disk e.at_) e.cut).list,(Ak w_.disk (Ag w_.disk e.at_) e.cut).names,(Ak w_.disk (Ag w_.disk e.at_) e.cut).next⟩:Dsk)⟩:Wld))).store).idx).names).length,ir,iu,(((((BA (⟨(⟨(⟨w_.store.idx.names,w_.store.idx.AY⟩:Idx),w_.store.parts,w_.store.mem⟩:Sto),(⟨(Ak w_.disk (Ag w_.disk e.at_) e.cut).files,(Ak w_.disk (Ag w_.disk e.at_) e.cut).list,(Ak w_.disk (Ag w_.disk e.at_) e.cut).names,(Ak w_.disk (Ag w_.disk e.at_) e.cut).next⟩:Dsk)⟩:Wld))).store).idx).AY).length,iw,iy,((((BA (⟨(⟨(⟨w_.store.idx.names,w_.store.idx.AY⟩:Idx),w_.store.parts,w_.store.mem⟩:Sto),(⟨(Ak w_.disk (Ag w_.disk e.at_) e.cut).files,(Ak w_.disk (Ag w_.disk e.at_) e.cut).list,(Ak w_.disk (Ag w_.disk e.at_) e.cut).names,(Ak w_.disk (Ag w_.disk e.at_) e.cut).next⟩:Dsk)⟩:Wld))).store).parts).length,iz,iA,((((BA (⟨(⟨(⟨w_.store.idx.names,w_.store.idx.AY⟩:Idx),w_.store.parts,w_.store.mem⟩:Sto),(⟨(Ak w_.disk (Ag w_.disk e.at_) e.cut).files,(Ak w_.disk (Ag w_.disk e.at_) e.cut).list,(Ak w_.disk (Ag w_.disk e.at_) e.cut).names,(Ak w_.disk (Ag w_.disk e.at_) e.cut).next⟩:Dsk)⟩:Wld))).store).mem).length,iB,iC,((((BA (⟨(⟨(⟨w_.store.idx.names,w_.store.idx.AY⟩:Idx),w_.store.parts,w_.store.mem⟩:Sto),(⟨(Ak w_.disk (Ag w_.disk e.at_) e.cut).files,(Ak w_.disk (Ag w_.disk e.at_) e.cut).list,(Ak w_.disk (Ag w_.disk e.at_) e.cut).names,(Ak w_.disk (Ag w_.disk e.at_) e.cut).next⟩:Dsk)⟩:Wld))).disk).files).length,iD,iE,((((BA (⟨(⟨(⟨w_.store.idx.names,w_.store.idx.AY⟩:Idx),w_.store.parts,w_.store.mem⟩:Sto),(⟨(Ak w_.disk (Ag w_.disk e.at_) e.cut).files,(Ak w_.disk (Ag w_.disk e.at_) e.cut).list,(Ak w_.disk (Ag w_.disk e.at_) e.cut).names,(Ak w_.disk (Ag w_.disk e.at_) e.cut).next⟩:Dsk)⟩:Wld))).disk).list).length,iF,iG,((((BA (⟨(⟨(⟨w_.store.idx.names,w_.store.idx.AY⟩:Idx),w_.store.parts,w_.store.mem⟩:Sto),(⟨(Ak w_.disk (Ag w_.disk e.at_) e.cut).files,(Ak w_.disk (Ag w_.disk e.at_) e.cut).list,(Ak w_.disk (Ag w_.disk e.at_) e.cut).names,(Ak w_.disk (Ag w_.disk e.at_) e.cut).next⟩:Dsk)⟩:Wld))).disk).names).length,iH,gA,(RepS.Aq cu (all_cons AL all_nil)),(RepS.Aq cw (all_cons AL all_nil)),(RepS.Aq cx (all_cons AL all_nil)),(RepS.Aq cy (all_cons AL all_nil)),(RepS.Aq cz (all_cons AL all_nil)),(RepS.Aq cA (all_cons AL all_nil)),(RepS.Aq cB (all_cons AL all_nil))⟩,aa⟩
  refine .d<|.cf<|.g<|.r 1<|.ln ax<|.r 2<|.sb 0 (.agg #[.slice ci ((BR w_.store e.at_).1.idx.names.length) cj,.slice ck ((((BR w_.store e.at_).1.idx).AY).length) cm,.slice co ((BR w_.store e.at_).1.parts.length) cp,.slice cq ((BR w_.store e.at_).1.mem.length) cr]) [.slice ci ((BR w_.store e.at_).1.idx.names.length) cj,.slice ck ((((BR w_.store e.at_).1.idx).AY).length) cm,.slice co ((BR w_.store e.at_).1.parts.length) cp,.slice cq ((BR w_.store e.at_).1.mem.length) cr,.slice d6 (((Ak w_.disk (Ag w_.disk e.at_) e.cut).files).length) d7,.slice d8 (((Ak w_.disk (Ag w_.disk e.at_) e.cut).list).length) d9,.slice ec (((Ak w_.disk (Ag w_.disk e.at_) e.cut).names).length) ee,vI ((Ak w_.disk (Ag w_.disk e.at_) e.cut).next)] dI fun mj dK gJ gK=>?_
  replace ⟨hrb0,hrb1,hrb2,hrb3,hrb4,hrb5,hrb6,ab,ac,aj,ak,am⟩:=(so [ag,ae,af,bx] dK).g12 hrb0 hrb1 hrb2 hrb3 hrb4 hrb5 hrb6 ab ac aj ak am
  replace ⟨ao,aO,aP,aQ,aa⟩:=(so [ag,ae,af,bx] dK).g5 ao aO aP aQ aa
  refine .d<|T.HC func33 results33 ?_
  rw [show (doW w_ e)=(⟨(⟨(⟨(BR w_.store e.at_).1.idx.names,((BR w_.store e.at_).1.idx).AY⟩:Idx),(BR w_.store e.at_).1.parts,(BR w_.store e.at_).1.mem⟩:Sto),(⟨(Ak w_.disk (Ag w_.disk e.at_) e.cut).files,(Ak w_.disk (Ag w_.disk e.at_) e.cut).list,(Ak w_.disk (Ag w_.disk e.at_) e.cut).names,(Ak w_.disk (Ag w_.disk e.at_) e.cut).next⟩:Dsk)⟩:Wld) from by exact ZX p0 (by with_reducible assumption) (by with_reducible assumption) (by with_reducible assumption) (by with_reducible assumption)]
  exact ⟨⟨rfl,ci,(BR w_.store e.at_).1.idx.names.length,cj,ck,(((BR w_.store e.at_).1.idx).AY).length,cm,co,(BR w_.store e.at_).1.parts.length,cp,cq,(BR w_.store e.at_).1.mem.length,cr,d6,((Ak w_.disk (Ag w_.disk e.at_) e.cut).files).length,d7,d8,((Ak w_.disk (Ag w_.disk e.at_) e.cut).list).length,d9,ec,((Ak w_.disk (Ag w_.disk e.at_) e.cut).names).length,ee,gJ,(RepS.Aq aj (all_cons AL all_nil)),(RepS.Aq ak (all_cons AL all_nil)),(RepS.Aq am (all_cons AL all_nil)),(RepS.Aq ao (all_cons AL all_nil)),(RepS.Aq aO (all_cons AL all_nil)),(RepS.Aq aP (all_cons AL all_nil)),(RepS.Aq aQ (all_cons AL all_nil))⟩,aa⟩
 refine .r 1<|.d<|.cf<|.s<|.g<|.eq e.kind 4 (fun gL=>?_) (fun gL=>?_)
 ·refine .r 1<|.d<|.ct<|.g<|.r 1<|.cl (Ea w_ (RepS.toM hrb0 (all_cons AL all_nil)) (RepS.toM hrb1 (all_cons AL all_nil)) (RepS.toM hrb2 (all_cons AL all_nil)) (RepS.toM hrb3 (all_cons AL all_nil)) (RepS.toM hrb4 (all_cons AL all_nil)) (RepS.toM hrb5 (all_cons AL all_nil)) (RepS.toM hrb6 (all_cons AL all_nil)) hbx (by exact p0.dd) (by exact p0.dk) (w:=bG) (F:=nin (fo F w.heap.size) [ag,ae,af,bx])) ?_
  rintro ml bq ⟨⟨rfl,iI,mp,iJ,iK,mq,iL,iM,mr,iN,iO,mt,iP,iQ,mu,iR,iS,mw,iT,iU,mz,iV,gM,cC,cD,cE,cF,cG,cH,cI⟩,dL⟩
  have aZ:=al4 ah.lt ac.lt ab.lt hbx.lt
  have bj:Gb w.heap.size bG.heap.size:=aa.size
  have eQ:Mv [ag,ae,af,bx] [ag,ae,af,bx] bG bq:=Mv.inl dL (all_cons AL all_nil) (all_cons (.inl AI) (all_cons (.inl AJ) (all_cons (.inl AK) (all_cons (.inl AL) all_nil))))
  replace ⟨hrb0,hrb1,hrb2,hrb3,hrb4,hrb5,hrb6,aa⟩:=(sp eQ dL).g8 hrb0 hrb1 hrb2 hrb3 hrb4 hrb5 hrb6 aa
  replace cC:RepS bq (nin (fo F w.heap.size) [ag,ae,af,bx]) _ _ _ _:=RepS.bxM (M2:=[ag,ae,af,bx]) cC aZ (fun _ h=>.inr (Nat.le_trans bj h)) (all_cons (.inr AI) (all_cons (.inr AJ) (all_cons (.inr AK) (all_cons (.inl AI) all_nil))))
  replace cD:RepS bq (nin (fo F w.heap.size) [ag,ae,af,bx]) _ _ _ _:=RepS.bxM (M2:=[ag,ae,af,bx]) cD aZ (fun _ h=>.inr (Nat.le_trans bj h)) (all_cons (.inr AI) (all_cons (.inr AJ) (all_cons (.inr AK) (all_cons (.inl AI) all_nil))))
  replace cE:RepS bq (nin (fo F w.heap.size) [ag,ae,af,bx]) _ _ _ _:=RepS.bxM (M2:=[ag,ae,af,bx]) cE aZ (fun _ h=>.inr (Nat.le_trans bj h)) (all_cons (.inr AI) (all_cons (.inr AJ) (all_cons (.inr AK) (all_cons (.inl AI) all_nil))))
  replace cF:RepS bq (nin (fo F w.heap.size) [ag,ae,af,bx]) _ _ _ _:=RepS.bxM (M2:=[ag,ae,af,bx]) cF aZ (fun _ h=>.inr (Nat.le_trans bj h)) (all_cons (.inr AI) (all_cons (.inr AJ) (all_cons (.inr AK) (all_cons (.inl AI) all_nil))))
  replace cG:RepS bq (nin (fo F w.heap.size) [ag,ae,af,bx]) _ _ _ _:=RepS.bxM (M2:=[ag,ae,af,bx]) cG aZ (fun _ h=>.inr (Nat.le_trans bj h)) (all_cons (.inr AI) (all_cons (.inr AJ) (all_cons (.inr AK) (all_cons (.inl AI) all_nil))))
  replace cH:RepS bq (nin (fo F w.heap.size) [ag,ae,af,bx]) _ _ _ _:=RepS.bxM (M2:=[ag,ae,af,bx]) cH aZ (fun _ h=>.inr (Nat.le_trans bj h)) (all_cons (.inr AI) (all_cons (.inr AJ) (all_cons (.inr AK) (all_cons (.inl AI) all_nil))))
  replace cI:RepS bq (nin (fo F w.heap.size) [ag,ae,af,bx]) _ _ _ _:=RepS.bxM (M2:=[ag,ae,af,bx]) cI aZ (fun _ h=>.inr (Nat.le_trans bj h)) (all_cons (.inr AI) (all_cons (.inr AJ) (all_cons (.inr AK) (all_cons (.inl AI) all_nil))))
  have gN:=cC.len
  subst gN
  have gO:=cD.len
  subst gO
  have gP:=cE.len
  subst gP
  have gQ:=cF.len
  subst gQ
  have gR:=cG.len
  subst gR
  have gS:=cH.len
  subst gS
  have gT:=cI.len
  subst gT
  refine .d<|.ib 0<|.s<|.s<|.g<|.r 8<|.d<|.ct<|T.MX AA func33 results33 ?_
  rw [show (doW w_ e)=(⟨(⟨(⟨((((BA w_)).store).idx).names,((((BA w_)).store).idx).AY⟩:Idx),(((BA w_)).store).parts,(((BA w_)).store).mem⟩:Sto),(⟨(((BA w_)).disk).files,(((BA w_)).disk).list,(((BA w_)).disk).names,(((BA w_)).disk).next⟩:Dsk)⟩:Wld) from by exact Z3 (by with_reducible assumption)]
  exact ⟨⟨rfl,iI,(((((BA w_)).store).idx).names).length,iJ,iK,(((((BA w_)).store).idx).AY).length,iL,iM,((((BA w_)).store).parts).length,iN,iO,((((BA w_)).store).mem).length,iP,iQ,((((BA w_)).disk).files).length,iR,iS,((((BA w_)).disk).list).length,iT,iU,((((BA w_)).disk).names).length,iV,gM,(RepS.Aq cC (all_cons AL all_nil)),(RepS.Aq cD (all_cons AL all_nil)),(RepS.Aq cE (all_cons AL all_nil)),(RepS.Aq cF (all_cons AL all_nil)),(RepS.Aq cG (all_cons AL all_nil)),(RepS.Aq cH (all_cons AL all_nil)),(RepS.Aq cI (all_cons AL all_nil))⟩,aa⟩
 refine .r 1<|.d<|.cf<|.sk<|.ib 0<|.s<|.s<|.g<|.r 8<|.d<|.ct<|T.MX AA func33 results33 ?_
 rw [show (doW w_ e)=w_ from by exact Ox (by with_reducible assumption) (by with_reducible assumption) (by with_reducible assumption) (by with_reducible assumption)]
 exact ⟨⟨rfl,ab0,w_.store.idx.names.length,cb0,ab1,w_.store.idx.AY.length,cb1,ab2,w_.store.parts.length,cb2,ab3,w_.store.mem.length,cb3,ab4,w_.disk.files.length,cb4,ab5,w_.disk.list.length,cb5,ab6,w_.disk.names.length,cb6,hbx,(RepS.Aq hrb0 (all_cons AL all_nil)),(RepS.Aq hrb1 (all_cons AL all_nil)),(RepS.Aq hrb2 (all_cons AL all_nil)),(RepS.Aq hrb3 (all_cons AL all_nil)),(RepS.Aq hrb4 (all_cons AL all_nil)),(RepS.Aq hrb5 (all_cons AL all_nil)),(RepS.Aq hrb6 (all_cons AL all_nil))⟩,aa⟩
end Go.Proofs.YtfninflnngpchaaGreatDoor
