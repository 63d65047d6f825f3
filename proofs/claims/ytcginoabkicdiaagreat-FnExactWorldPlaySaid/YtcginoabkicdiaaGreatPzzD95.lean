/- walks; pruned haves; hints pruned; squeezed -/
import Derived.Test.YtcginoabkicdiaaGreatPzzMod30
import Derived.Test.YtcginoabkicdiaaGreatPzzDi
open Go.Proofs.Tryz
set_option linter.unusedVariables false
set_option linter.unusedSimpArgs false
namespace Go.Proofs.YtcginoabkicdiaaGreat
set_option maxRecDepth 100000
set_option maxHeartbeats 4000000
variable {w:World} {F:Nat→Prop} {a1:Option Addr} {n1 c1:Nat}
theorem IW (names:List (List Tag)) (h1:RepS w F a1 n1 c1 names) (p0:names.length≤1100000) (p1:∀ n∈names,n.length≤1100000):Calls Tryz.prog 104 [.slice a1 n1 c1].toArray w (Ag fun rv w'=>VE 69 w.heap.size w' names rv∧Ext w w'):=by
 refine (Al names h1 p0 p1).mono ?_
 rintro e w' ⟨v,rfl,hv,hx⟩
 exact ⟨v,rfl,XL hv,hx⟩
theorem CN (names:List (List Tag)) (h1:RepS w F a1 n1 c1 names) (p0:NmI names) (p1:NsD names):Calls Tryz.prog 102 [.slice a1 n1 c1].toArray w (Ag fun rv w'=>VD w.heap.size w' (idxOf names) rv∧Ext w w'):=by
 refine goT func102 ?_
 obtain ⟨rfl,dU,h1⟩:=h1.tp
 refine .s<|.g<|.np 27 [AH,AH] fun ae cS bF bv aq cT=>?_
 have hw0_:=bv.size; have hb0_:=aq.lt
 have cU:=Cy bF (Nat.le_refl _)
 replace h1:=(sn [] bv bF).g1 h1
 have ar:=bv
 clear bv cT bF
 refine .d<|.s<|.g<|.r 1<|.cl (IW names h1.ta (by have:=p0.len; omega) (fun n hn=>by have:=(p1 n hn).1; omega) (w:=cS) (F:=all)) ?_
 rintro eE ag ⟨⟨bE,bX,bY,rfl,aJ,bw,hDN⟩,bG⟩
 have dK:=bG.size
 have b9:=al1 aq.lt
 have cV:Gb w.heap.size cS.heap.size:=ar.size
 have dV:=Cj bw aq.lt
 have cW:=H6 bw ar.size
 replace ⟨h1,aq,ar⟩:=(sz [ae] bG bw).g3 h1 aq ar
 clear bG bw
 replace aJ:=Own.take (s0:=w.heap.size) (M:=[ae]) aJ b9 cV
 clear b9
 have aA:=aJ.sl cW
 replace h1:=(sd ag [bE,ae] bE).g1 h1
 have cm:w.heap.size≤ag.heap.size:=ar.size
 replace aA:RepS ag (nin (GN w.heap.size ag.heap.size ae) [ae]) _ _ _ _:=aA.Ww.Bd (fun b _ h=>⟨h,by simp; exact h.2.2⟩)
 have h1c:=h1.Uz; have hEc:=ar; have hb2c:=aq
 refine .ns 0 204 [] fun aO dL bH bI cX cY=>?_
 have cZ:Cov nil ag aO:=H7 bH (Nat.le_refl _)
 replace aA:=(sn [ae] bI bH).g1 aA
 have ax:=bI
 clear bI cY bH
 have ay:Own (α:=Pst) dL aO 204 (nin (ge w.heap.size) [aO,ae]) 0 0 []:=Own.By cX
 refine .r 1<|.np 27 [AH,AH] fun af eF bz cd c7 c8=>?_
 have da:=Ay bz ay.lt
 have db:=ax.cn bz
 replace ⟨aA,ay,ax⟩:=(sn [aO,ae] cd bz).g3 aA ay ax
 clear cd c8 bz
 refine .sc [vS bE bX bY,vS aO 0 0] c7 fun eG ce de df=>?_
 replace ⟨aA,ay,ax⟩:=(so [af,aO,ae] ce).g3 aA ay ax
 clear ce df
 refine .d<|.s<|.s<|.g<|.r 3<|.d<|.b 0 ?_
 have hix:=IX.Wx (tX:=27) (tP:=204) (tI:=3) (s0:=w.heap.size) (s1:=ag.heap.size) cm (GN.lt (b2:=ae)) aA.w1 de ay da (Cov.ge db) (Cov.ge cZ)
 have hE:=ax
 refine T.loop (X:=Nat × Nat × Nat × List RP × List Pst × List Nat) (aO,0,0,[],[],[]) (fun (r,c,k,ys,xs,rs)=>[(2,.pointer (some ⟨ae,0,none⟩)),(3,.pointer (some ⟨af,0,none⟩)),(13,.slice a1 names.length c1),(14,vI (names.length:Int)),(15,vI (k:Int))]) (fun (r,c,k,ys,xs,rs) w_=>Ext ag w_∧IX 27 204 3 w.heap.size ag.heap.size (GN w.heap.size ag.heap.size ae) w_ af r c (some ⟨bE,0,none⟩) bX bY names ys xs rs∧k≤names.length∧xs.length≤5 * k∧(∀ x∈xs,x.ids.length≤5 * k)∧GR k xs (names.drop k)=GR 0 [] names) (fun (r,c,k,ys,xs,rs)=>names.length - k) AA ⟨AA,AA,AA,AA,AA,trivial⟩ ⟨hE,hix,by omega,by simp,by simp,rfl⟩ ?_
 clear hix hE
 rintro ⟨r,c,k,ys,xs,rs⟩ e1_ eH ⟨hE,hix,hk,hxl,hil,hbl⟩ bZ
 have hnm:=h1c.ext hE
 refine .s<|.g<|.bp ((k:Int)< (names.length:Int)) (fun dh=>?_) (fun dh=>?_)
 ·refine .d<|.s<|.ct<|.sk<|.s<|.b 1<|.s<|.g<|.r 1 ?_
  have dj:k< names.length:=AB
  refine .ix k 1 hnm dj ?_
  obtain ⟨am,aK⟩:∃ y,names[k]? = some y:=⟨_,AU AB⟩
  obtain ⟨_,⟨dM,eI,dN,rfl,co⟩,dm⟩:=hnm.elem k am aK
  have dq:=co.len
  subst dq
  have dZ:=co.max
  refine .lh 0 dm<|.r 2<|.d<|.s<|.g<|.r 3<|.d<|.b 2 ?_
  have hEA:=hE; have eJ:=(p1 am (AV aK)).1; have hnl:=p0.len
  refine T.loop (X:=Nat × Nat × Nat × List RP × List Pst × List Nat) (r,c,0,ys,xs,rs) (fun (rq,cq,j,ac,ab,ai)=>[(2,.pointer (some ⟨ae,0,none⟩)),(3,.pointer (some ⟨af,0,none⟩)),(4,vI (k:Int)),(13,.slice a1 names.length c1),(14,vI (names.length:Int)),(15,vI (k:Int)),(20,.slice dM am.length dN),(21,vI (am.length:Int)),(22,vI (j:Int))]) (fun (rq,cq,j,ac,ab,ai) w_=>Ext ag w_∧IX 27 204 3 w.heap.size ag.heap.size (GN w.heap.size ag.heap.size ae) w_ af rq cq (some ⟨bE,0,none⟩) bX bY names ac ab ai∧j≤am.length∧ab.length≤5 * k+j∧(∀ x∈ab,x.ids.length≤5 * k+j)∧(am.drop j).foldl (Eo ((k:Int)+1)) ab=am.foldl (Eo ((k:Int)+1)) xs) (fun (rq,cq,j,ac,ab,ai)=>am.length - j) AA ⟨AA,AA,AA,AA,AA,AA,AA,AA,AA,trivial⟩ ⟨hE,hix,by omega,by omega,fun x hx=>by have:=hil x hx; omega,rfl⟩ ?_
  clear hix hE
  rintro ⟨rq,cq,j,ac,ab,ai⟩ e2_ eK ⟨hE,hix,hj,cg,ao,hfl⟩ bA
  have dt:=co.via hEA hE
  refine .s<|.g<|.bp ((j:Int)< (am.length:Int)) (fun du=>?_) (fun du=>.d<|.s<|.cf<|.x 2 rfl<|.ib 1<|.g<|.it ((k:Int)+1)<|.r 1<|.d<|bZ (rq,cq,k+1,ac,ab,ai) _ _ ⟨AA,AA,AA,AA,AA,trivial⟩ ⟨hE,hix,by omega,by omega,fun x hx=>by have:=ao x hx; omega,P4 hbl (AZ aK) (En hfl AB)⟩ (by (simp only []; omega)))
  refine .d<|.s<|.ct<|.sk<|.s<|.b 3<|.s<|.g ?_
  have dv:j< am.length:=AB
  refine .ix j 2 dt dv ?_
  obtain ⟨aa,aL⟩:∃ y,am[j]? = some y:=⟨_,AU AB⟩
  obtain ⟨_,rfl,dw⟩:=dt.elem j aa aL
  refine .lg 0 dw<|.np 118 [.string (bs []),.string (bs [])] fun dx eM bJ bK dy cp=>?_
  have cr:∀ q_∈af::rq::ai,Nb dx q_:=fun q_ hq_=>Ay bJ (hix.lt q_ hq_)
  have bL:ag.heap.size≤dx:=Nat.le_trans hE.size (Nat.le_of_eq (Eq.symm bJ))
  replace hix:=hix.ext bK
  replace hE:=hE.trans bK
  clear bK cp bJ
  refine .sc [vT aa.key,vT aa.val] dy fun dA aP aB cu=>?_
  replace hix:=hix.one aP cr bL
  replace hE:=Chg.Dh hE aP ⟨.inr bL⟩
  clear aP cu
  refine .d<|.s<|.g<|.r 1<|.lb hix.box<|.r 1<|.cl (FC ab aa (hix.rep.Bd (F':=all) (fun _ _ _=>trivial)) aB (w:=dA) (F:=all)) ?_
  rintro d3 bM ⟨rfl,aC⟩
  replace aB:=aB.ext aC
  replace hix:=hix.ext aC
  replace hE:=hE.trans aC
  clear aC
  refine .r 1<|.d<|.s<|.s<|.g<|.r 1<|.bp (Be aa 0 ab< 0) (fun cw=>?_) (fun cw=>?_)
  ·refine .d<|.ct<|.s<|.g<|.r 1<|.lb hix.box<|.r 2<|.d<|.g<|.r 1<|.lb hix.box<|.ln aB<|.r 1<|.ns 1 204 [vT aa.key,vT aa.val,AH] fun az d4 aQ aR bN cx=>?_
   have bO:∀ q_∈af::rq::ai,Nb az q_:=fun q_ hq_=>Ay aQ (hix.lt q_ hq_)
   have cy:ag.heap.size≤az:=Nat.le_trans hE.size (Nat.le_of_eq (Eq.symm aQ))
   replace hix:=hix.ext aR
   replace hE:=hE.trans aR
   clear aR cx aQ
   have ci:=hix.lx; have dB:=hix.lr; have hvl_:=bN.lt; have hge_r:=hix.new rq AJ; have cz:=hix.new af AI; have hEs:=hE.size
   refine RG.Ei (T:=25) (ty:=25) (y:=(⟨aa.key,aa.val,none,0,0⟩:RP)) hix.own bN AA AA rfl ⟨trivial,bO rq AJ⟩ AB fun ah cj d5 cA b6 aS=>?_
   replace hE:=Chg.Dh hE aS ⟨.inr hge_r⟩
   refine .r 1<|.ss 1 (vS ah (ac.length+1) cj) (hix.box.chg aS (Nb.one hix.ne)) fun bP aT cB cC=>?_
   replace hix:=hix.push (t:=⟨aa.key,aa.val⟩) (vb:=az) hEs aS cA b6 bO cy hvl_ aT cB
   replace hE:=Chg.Dh hE aT ⟨.inr cz⟩
   clear aT cC
   refine .d ?_
   obtain ⟨xi,hxi⟩:∃ q,(ab++[(⟨⟨aa.key,aa.val⟩,[]⟩:Pst)])[ac.length]? = some q:=⟨_,AU (by (simp; omega))⟩
   obtain ⟨yi,hyi⟩:∃ q,(ac++[(⟨aa.key,aa.val,none,0,0⟩:RP)])[ac.length]? = some q:=⟨_,AU (by (simp; done))⟩
   obtain ⟨ri,hri⟩:∃ q,(ai++[az])[ac.length]? = some q:=⟨_,AU (by (simp; omega))⟩
   have hiy:ac.length< (ac++[(⟨aa.key,aa.val,none,0,0⟩:RP)]).length:=(List.getElem?_eq_some_iff.1 hyi).1
   have hl3_:af< bP.heap.size:=hix.lt _ AI; have hlr_:ah< bP.heap.size:=hix.lt _ AJ; have hn3_:=hix.ne3 hri; have hnr_:=hix.ner hri
   refine .gd (mtb [ri] bP.heap.size) 13 fun dC aU=>?_
   replace hix:=hix.ext aU
   replace hE:=hE.trans aU
   clear aU
   refine .r [0]<|.lb 1 hix.box (C5 (all_cons hn3_ all_nil) hl3_)<|.r [2,3]<|.lb 4 hix.box (C5 (all_cons hn3_ all_nil) hl3_)<|.r [5] ?_
   have cD:ac.length< (ac++[(⟨aa.key,aa.val,none,0,0⟩:RP)]).length:=AB
   refine GA.idx (i:=6) (b:=ah) (o:=0) ac.length (len:=(ac++[(⟨aa.key,aa.val,none,0,0⟩:RP)]).length) (z:=(ac.length:Int)) (sz:=3) AA AB cD rfl<|.r [7] ?_
   obtain ⟨_,rfl,aV⟩:=hix.own.elem ac.length yi hyi
   replace aV:Has dC ⟨ah,0+ac.length * Rep.sz RP,none⟩ [vT yi.key,vT yi.val,.slice yi.a yi.n yi.c]:=by rw [Nat.zero_add]; exact aV
   refine .lh 8 2 aV (C5 (all_cons hnr_ all_nil) hlr_)<|.r [9]<|GA.int (i:=10) ((k:Int)+1) AA AB<|.go 11<|.ns 1 3 [vI ((k:Int)+1)] fun d6 aW=>?_
   replace hix:=hix.ext aW
   replace hE:=hE.trans aW
   clear aW
   intro bQ d7 aX aY aZ cE
   have cF:∀ q_∈af::ah::(ai++[az]),Nb bQ q_:=fun q_ hq_=>Ay aX (hix.lt q_ hq_)
   replace hix:=hix.ext aY
   replace hE:=hE.trans aY
   clear aY cE aX
   refine .go 12<|GE.append (T:=33) (ty:=33) (args:=[.slice yi.a yi.n yi.c,vS bQ 1 1]) AA fun d8 aD=>?_
   replace aZ:=aZ.ext aD
   replace hix:=hix.ext aD
   replace hE:=hE.trans aD
   clear aD
   have hyn:=(hix.el ac.length xi yi ri hxi hyi hri).2.2.n; have hyl:xi.ids.length≤5000000:=by have hm:=AV hxi; (rcases List.mem_append.1 hm with hm | hm; (have:=ao _ hm; omega); (simp at hm; subst hm; simp))
   have bR:=hE.size; have hge_ri:=hix.new ri (IX.mi hri)
   obtain ⟨aM,bC,d9,bS,ba,b7,aj⟩:=Jt.app (P:=Tryz.prog) (T:=33) (ty:=33) (hix.el ac.length xi yi ri hxi hyi hri).2.2 AA aZ (cF ri (IX.mi hri)) AB
   refine ⟨_,_,bS,Chg.toS aj (.inl AI),?_⟩
   replace hE:=Chg.Dh hE aj ⟨.inr hge_ri⟩
   refine .d fun dD aE=>?_
   replace aj:=Chg.trans aj (Ext.chg aE)
   replace ba:=ba.ext aE
   replace hE:=hE.trans aE
   clear aE
   have cG:ac.length< (ac++[(⟨aa.key,aa.val,none,0,0⟩:RP)]).length:=AB
   refine RG.idx (b:=ah) (o:=0) ac.length (len:=(ac++[(⟨aa.key,aa.val,none,0,0⟩:RP)]).length) (i:=(ac.length:Int)) (sz:=3) AA AB cG rfl<|.r 1 ?_
   have bT:=N1 HH hix.own aj (Nb.one (hix.ner hri))
   obtain ⟨_,rfl,bg⟩:=bT.elem ac.length yi hyi
   replace bg:Has dD ⟨ah,0+ac.length * Rep.sz RP,none⟩ [vT yi.key,vT yi.val,.slice yi.a yi.n yi.c]:=by rw [Nat.zero_add]; exact bg
   refine RG.Gc (t':=33) (i:=ac.length) (k:=2) (v:=vS aM (yi.n+1) bC) (cs:=[vT yi.key,vT yi.val,.slice yi.a yi.n yi.c]) (⟨yi.key,yi.val,some ⟨aM,0,none⟩,yi.n+1,bC⟩:RP) bT hyi bg AA AA AA rfl fun ec cH bh cI=>?_
   have hge_r2:=hix.new ah AJ
   replace hix:=hix.upd (i:=ac.length) (z:=(k:Int)+1) bR hxi hyi hri aj ba b7 bh (y':=(⟨yi.key,yi.val,some ⟨aM,0,none⟩,yi.n+1,bC⟩:RP)) rfl cH
   replace hE:=Chg.Dh hE bh ⟨.inr hge_r2⟩
   clear bh cI
   refine .d<|.ib 3<|.g<|.it ((j:Int)+1)<|.r 1<|.d ?_
   have hxN:((ab++[(⟨⟨aa.key,aa.val⟩,[]⟩:Pst)]).set ac.length ⟨xi.tag,xi.ids++[(k:Int)+1]⟩)=Eo ((k:Int)+1) ab aa:=(Rp hxi (by rw [← ci])).trans (IH ‹_›).symm
   have hbd:=IJ ((k:Int)+1) ab aa (5 * k+j) cg ao; rw [← hxN] at hbd
   have hfs:=D5 hfl (AZ aL); rw [← hxN] at hfs
   exact bA (ah,cj,j+1,((ac++[(⟨aa.key,aa.val,none,0,0⟩:RP)]).set ac.length (⟨yi.key,yi.val,some ⟨aM,0,none⟩,yi.n+1,bC⟩:RP)),((ab++[(⟨⟨aa.key,aa.val⟩,[]⟩:Pst)]).set ac.length ⟨xi.tag,xi.ids++[(k:Int)+1]⟩),((ai++[az]).set ac.length aM)) _ _ ⟨AA,AA,AA,AA,AA,AA,AA,AA,AA,trivial⟩ ⟨hE,hix,by omega,by have:=hbd.1; omega,fun x hx=>by have:=hbd.2 x hx; omega,hfs⟩ (by (simp only []; omega))
  refine .d<|.cf<|.sk ?_
  have ci:=hix.lx; have dB:=hix.lr; have hib:=P3 (t:=aa) (xs:=ab) ‹_›
  obtain ⟨xi,hxi⟩:∃ q,ab[(Be aa 0 ab).toNat]? = some q:=⟨_,AU AB⟩
  obtain ⟨yi,hyi⟩:∃ q,ac[(Be aa 0 ab).toNat]? = some q:=⟨_,AU AB⟩
  obtain ⟨ri,hri⟩:∃ q,ai[(Be aa 0 ab).toNat]? = some q:=⟨_,AU AB⟩
  have hiy:(Be aa 0 ab).toNat< ac.length:=(List.getElem?_eq_some_iff.1 hyi).1
  have hl3_:af< bM.heap.size:=hix.lt _ AI; have hlr_:rq< bM.heap.size:=hix.lt _ AJ; have hn3_:=hix.ne3 hri; have hnr_:=hix.ner hri
  refine .gd (mtb [ri] bM.heap.size) 13 fun dE bi=>?_
  replace hix:=hix.ext bi
  replace hE:=hE.trans bi
  clear bi
  refine .r [0]<|.lb 1 hix.box (C5 (all_cons hn3_ all_nil) hl3_)<|.r [2,3]<|.lb 4 hix.box (C5 (all_cons hn3_ all_nil) hl3_)<|.r [5] ?_
  have cJ:(Be aa 0 ab).toNat< ac.length:=AB
  refine GA.idx (i:=6) (b:=rq) (o:=0) ((Be aa 0 ab).toNat) (len:=ac.length) (z:=Be aa 0 ab) (sz:=3) AA AB cJ rfl<|.r [7] ?_
  obtain ⟨_,rfl,bj⟩:=hix.own.elem ((Be aa 0 ab).toNat) yi hyi
  replace bj:Has dE ⟨rq,0+((Be aa 0 ab).toNat) * Rep.sz RP,none⟩ [vT yi.key,vT yi.val,.slice yi.a yi.n yi.c]:=by rw [Nat.zero_add]; exact bj
  refine .lh 8 2 bj (C5 (all_cons hnr_ all_nil) hlr_)<|.r [9]<|GA.int (i:=10) ((k:Int)+1) AA AB<|.go 11<|.ns 1 3 [vI ((k:Int)+1)] fun ee bk=>?_
  replace hix:=hix.ext bk
  replace hE:=hE.trans bk
  clear bk
  intro bU eg bm bn bo cK
  have cL:∀ q_∈af::rq::ai,Nb bU q_:=fun q_ hq_=>Ay bm (hix.lt q_ hq_)
  replace hix:=hix.ext bn
  replace hE:=hE.trans bn
  clear bn cK bm
  refine .go 12<|GE.append (T:=33) (ty:=33) (args:=[.slice yi.a yi.n yi.c,vS bU 1 1]) AA fun ej aF=>?_
  replace bo:=bo.ext aF
  replace hix:=hix.ext aF
  replace hE:=hE.trans aF
  clear aF
  have hyn:=(hix.el (Be aa 0 ab).toNat xi yi ri hxi hyi hri).2.2.n; have hyl:xi.ids.length≤5000000:=by have hm:=AV hxi; (have:=ao _ hm; omega)
  have bR:=hE.size; have hge_ri:=hix.new ri (IX.mi hri)
  obtain ⟨aN,bD,ek,bV,bq,b8,ak⟩:=Jt.app (P:=Tryz.prog) (T:=33) (ty:=33) (hix.el (Be aa 0 ab).toNat xi yi ri hxi hyi hri).2.2 AA bo (cL ri (IX.mi hri)) AB
  refine ⟨_,_,bV,Chg.toS ak (.inl AI),?_⟩
  replace hE:=Chg.Dh hE ak ⟨.inr hge_ri⟩
  refine .d fun dF aG=>?_
  replace ak:=Chg.trans ak (Ext.chg aG)
  replace bq:=bq.ext aG
  replace hE:=hE.trans aG
  clear aG
  have cM:(Be aa 0 ab).toNat< ac.length:=AB
  refine RG.idx (b:=rq) (o:=0) ((Be aa 0 ab).toNat) (len:=ac.length) (i:=Be aa 0 ab) (sz:=3) AA AB cM rfl<|.r 1 ?_
  have bW:=N1 HH hix.own ak (Nb.one (hix.ner hri))
  obtain ⟨_,rfl,br⟩:=bW.elem ((Be aa 0 ab).toNat) yi hyi
  replace br:Has dF ⟨rq,0+((Be aa 0 ab).toNat) * Rep.sz RP,none⟩ [vT yi.key,vT yi.val,.slice yi.a yi.n yi.c]:=by rw [Nat.zero_add]; exact br
  refine RG.Gc (t':=33) (i:=((Be aa 0 ab).toNat)) (k:=2) (v:=vS aN (yi.n+1) bD) (cs:=[vT yi.key,vT yi.val,.slice yi.a yi.n yi.c]) (⟨yi.key,yi.val,some ⟨aN,0,none⟩,yi.n+1,bD⟩:RP) bW hyi br AA AA AA rfl fun en cN bu cO=>?_
  have hge_r2:=hix.new rq AJ
  replace hix:=hix.upd (i:=(Be aa 0 ab).toNat) (z:=(k:Int)+1) bR hxi hyi hri ak bq b8 bu (y':=(⟨yi.key,yi.val,some ⟨aN,0,none⟩,yi.n+1,bD⟩:RP)) rfl cN
  replace hE:=Chg.Dh hE bu ⟨.inr hge_r2⟩
  clear bu cO
  refine .d<|.ib 3<|.g<|.it ((j:Int)+1)<|.r 1<|.d ?_
  have hxN:(ab.set ((Be aa 0 ab).toNat) ⟨xi.tag,xi.ids++[(k:Int)+1]⟩)=Eo ((k:Int)+1) ab aa:=(II ‹_› hxi).symm
  have hbd:=IJ ((k:Int)+1) ab aa (5 * k+j) cg ao; rw [← hxN] at hbd
  have hfs:=D5 hfl (AZ aL); rw [← hxN] at hfs
  exact bA (rq,cq,j+1,(ac.set ((Be aa 0 ab).toNat) (⟨yi.key,yi.val,some ⟨aN,0,none⟩,yi.n+1,bD⟩:RP)),(ab.set ((Be aa 0 ab).toNat) ⟨xi.tag,xi.ids++[(k:Int)+1]⟩),(ai.set ((Be aa 0 ab).toNat) aN)) _ _ ⟨AA,AA,AA,AA,AA,AA,AA,AA,AA,trivial⟩ ⟨hE,hix,by omega,by have:=hbd.1; omega,fun x hx=>by have:=hbd.2 x hx; omega,hfs⟩ (by (simp only []; omega))
 refine .d<|.s<|.cf<|.x 0 rfl<|.s<|.g<|.r 1 ?_
 have hEw:=hEc.trans hE; have hb2n:=hb2c.ext hE; have hb2l:=hb2c.lt; have hoP:=hix.U0 hb2l; have hNn:=hix.Ro; have hb3n:=hix.box; have hn3r:=hix.ne
 have eB:Nb af ae:=Cj (hix.new _ AI) hb2l; have eC:Nb r ae:=Cj (hix.new _ AJ) hb2l
 have hgr:Gb w.heap.size r:=Nat.le_trans cm (hix.new _ AJ)
 have hbe:=Rq hbl AB
 refine .lb hb3n ?_
 obtain ⟨L_,dG,dQ,dR,dS⟩:=hix.sx hoP
 refine .cl (HZ hoP (Nat.le_trans (by rw [hix.lx,hbe]; exact PI p0 p1) (by decide:1000≤1100000)) dG dR) ?_
 rintro eD dH ⟨rfl,σ_,hpm_,hsort_,cP,hHs_,aH⟩
 obtain ⟨M_,dT,rfl⟩:=Qz hpm_ rfl
 have hperm_:=dG▸hpm_.map SX.p
 have kS:=aH; have kH:=hHs_; have kO:=cP
 replace ⟨hNn,hb3n,hb2n⟩:=(so [af,r,ae] aH).g3 hNn hb3n hb2n
 replace hEw:Chg nil w dH:=Chg.Dh hEw aH ⟨.inr hgr⟩
 clear aH
 refine .d<|.s<|.g<|.ln hb3n<|.sc [vS bE bX bY,vS r ys.length c] hb2n fun ck aI cQ cR=>?_
 have kT:=aI
 replace ⟨hNn,hb3n⟩:=(so [af,r,ae] aI).g2 hNn hb3n
 replace hEw:Chg nil w ck:=Chg.Dh hEw aI ⟨.inr cU⟩
 clear aI cR
 refine .d ?_
 replace hNn:=(sd ck [af,r,ae] r).g1 hNn
 exact .rb func102 results102 cQ ⟨V5 hix hDN hE hw0_ dK hb0_ dQ dS dT kO kH kS kT (N7 p0 p1 hperm_ hsort_ hbe),hEw⟩
end Go.Proofs.YtcginoabkicdiaaGreat
namespace Go.Proofs.YtcginoabkicdiaaGreat
variable {w:World} {F:Nat→Prop} {a1 a2 a3 a4:Option Addr} {n1 c1 n2 c2 n3 c3 n4 c4:Nat}
set_option maxRecDepth 100000 in
theorem Ff (a:Prt) (b:Prt) (h1:RepS w F a1 n1 c1 a.ids) (h2:RepS w F a2 n2 c2 a.blocks) (h3:RepS w F a3 n3 c3 b.ids) (h4:RepS w F a4 n4 c4 b.blocks) (p0:CK a) (p1:CK b):Calls Tryz.prog 130 [.agg #[.slice a1 n1 c1,.slice a2 n2 c2],.agg #[.slice a3 n3 c3,.slice a4 n4 c4]].toArray w (Ag fun rv w'=>(∃ v0,rv=.tuple #[v0,.bool ((BS a b).2)]∧VS (ge w.heap.size) w' ((BS a b).1:Prt) v0)∧Ext w w'):=by
 refine (Fe a b h1 h2 h3 h4 p0 p1).mono ?_
 rintro e w' ⟨v,rfl,⟨v0,e0,h⟩,hx⟩
 exact ⟨v,rfl,⟨v0,e0,R0 h⟩,hx⟩
set_option maxRecDepth 100000 in
theorem CC (s:Sto) (h1:RepS w F a1 n1 c1 s.idx.names) (h2:RepS w F a2 n2 c2 s.idx.AY) (h3:RepS w F a3 n3 c3 s.parts) (h4:RepS w F a4 n4 c4 s.mem) (p0:∀ m∈s.mem,BU m.row=true) (p1:∀ m∈s.mem,1≤m.id∧m.id≤6) (p2:s.mem.length≤1000):Calls Tryz.prog 127 [.agg #[.slice a1 n1 c1,.slice a2 n2 c2,.slice a3 n3 c3,.slice a4 n4 c4]].toArray w (Ag fun rv w'=>VS (ge w.heap.size) w' (Ah s.mem:Prt) rv∧Ext w w'):=by
 refine (EW s h1 h2 h3 h4 p0 p1 p2).mono ?_
 rintro e w' ⟨v,rfl,h,hx⟩
 exact ⟨v,rfl,R0 h,hx⟩
end Go.Proofs.YtcginoabkicdiaaGreat
namespace Go.Proofs.YtcginoabkicdiaaGreat
theorem OK {P:Program}{T ty t:TypeId}{sz:Nat}{w:World}{r i c m c':Nat}{a2:Option Addr}{cs vs:List Value}(hT:Eh P T t sz=true) (hB:Box w r t cs) (hsrc:0< m→∃ x,a2=some x∧Has w x vs) (hvs:vs.length=m * sz) (hroom:i+m≤c) (hfit:i * sz+vs.length≤cs.length) (hone:∀ v∈vs,Cn v=true) :
 ∃ w',(Builtin.append_ #[T,T] ty #[.slice (some ⟨r,0,none⟩) i c,.slice a2 m c']).run P w=.ok (.slice (some ⟨r,0,none⟩) (i+m) c) w'∧Box w' r t (Av cs (i * sz) vs)∧Chg (one r) w w':=by
 obtain ⟨g1,inf,z,hinf,hsz,_,_,_⟩:=Er hT
 by_cases hm:m=0
 ·subst hm
  have:vs=[]:=List.length_eq_zero_iff.1 AB
  subst this
  refine ⟨w,GG g1 hinf _ _ _ _ _ AB w,?_,Chg.refl _ _⟩
  unfold Av
  simpa using hB
 ·obtain ⟨x,rfl,hx⟩:=hsrc AB
  unfold Box at hB
  have hr:=run_append_room (P:=P) w T ty t inf g1 hinf r i c cs.toArray hB x m c' vs (by rw [hsz]; exact hvs) hx (fun u hu=>Na (hone u hu)) hroom (by rw [hsz]; simpa using hfit)
  rw [hsz] at hr
  have hset:(w.setRow r (Av cs (i * sz) vs).toArray).heap[r]? = some (.cells (Av cs (i * sz) vs).toArray t (0,0)):=setRow_heap w r cs.toArray _ t _ hB
  refine ⟨_,hr,hset,⟨rfl,rfl,rfl,by simp [World.setRow],fun k _ hn=>setRow_other w r k _ hn⟩⟩
def UP (P:Program) (T t:TypeId) (sz:Nat):Bool :=
 (match P.underlying T with | some (.slice e)=>Nat.beq e t | _=>false) &&
 (match P.info? t with | some i=>(match i.zero with | some z=>Nat.beq z.cells.size sz&&z.cells.toList.all Cn | none=>false) | none=>false)
theorem OL {P:Program}{T ty t:TypeId}{sz:Nat}{w:World}{r o c:Nat}{cs:List Value}(hT:UP P T t sz=true) (hB:Box w r t cs) (hfit:o+sz≤cs.length) :
 ∃ vs w',(Builtin.clear_ #[T] ty #[.slice (some ⟨r,o,none⟩) 1 c]).run P w=.ok (.tuple #[]) w'∧vs.length=sz∧Box w' r t (Av cs o vs)∧Chg (one r) w w':=by
 unfold UP at hT
 simp only [AW] at hT
 obtain ⟨h1,h2⟩:=hT
 split at h1
 ·rename_i e he
  have:=Nat.eq_of_beq_eq_true h1
  subst this
  split at h2
  ·rename_i inf hinf
   split at h2
   ·rename_i z hz
    simp only [AW,List.all_eq_true] at h2
    have hsz:=Nat.eq_of_beq_eq_true h2.1
    have hl:(Builtin.zeroCells z.cells 1).toList.length=sz:=by rw [Array.length_toList,size_zeroCells,hsz]; omega
    have ho:∀ v∈(Builtin.zeroCells z.cells 1).toList,Cn v=true:=fun v hv=>by
     unfold Builtin.zeroCells at hv
     simp only [Array.toList_map,List.mem_map,Array.toList_range,List.mem_range] at hv
     obtain ⟨k,hk,rfl⟩:=hv
     have hk2:k % z.cells.size< z.cells.size:=Nat.mod_lt _ AB
     refine h2.2 _ ?_
     rw [getElem!_pos z.cells _ hk2]
     exact Array.getElem_mem_toList hk2
    obtain ⟨w',g1,g2,g3,_⟩:=hB.Mf (P:=P) (Builtin.zeroCells z.cells 1).toList (o:=o) (i:=0) AB ho
    refine ⟨_,w',?_,hl,g2,g3⟩
    have hv:(zeroValue e).run P w=.ok z w:=by simp [zeroValue,typeInfo,hinf,hz,go_sem]
    unfold Builtin.clear_
    simp only [List.getElem?_toArray,List.getElem?_cons_zero]
    rw [AX (run_underlying he w)]
    simp only []
    rw [AX hv,AX g1]
    rfl
   ·cases h2
  ·cases h2
 ·cases h1
section
variable {P:Program} {n:Nat} {K:Env→World→Prop} {ops:Array Oper} {j:Nat} {e:Env} {w:World}
theorem RG.clear {ats:List TypeId}{ty:TypeId}{args:List Value}{v:Value}{w':World}(h:Bg n ops j e=some (.clear,ats,ty,args))
 (hr:(Builtin.clear_ ats.toArray ty args.toArray).run P w=.ok v w') (H:RG P n K ops (j+1) (Af e (Ac ops j).dst v) w'):RG P n K ops j e w:=by
 obtain ⟨hg,h⟩:=CE h
 refine RG.val (v:=v) hg ?_ H
 split at h
 ·rename_i c hop
  split at h
  ·rename_i b hcal
   simp only [Option.some.injEq,Prod.mk.injEq] at h
   obtain ⟨rfl,rfl,rfl,rfl⟩:=h
   have ha:(c.args.toList.map (ev e)).toArray=c.args.map (ev e):=by apply Array.toList_inj.1; simp
   rw [ha,Array.toArray_toList] at hr
   simp only [execOp,hop,resolve,hcal]
   exact AX hr
  ·cases h
 ·cases h
def XM (n:Nat) (ops:Array Oper) (j:Nat) (e:Env):Option (TypeId × Value × Value × Value × Value) :=
 bif CA n ops j e then
  match (Ac ops j).op with
  | .slice t x (some lo) (some hi) (some mx)=>some (t,ev e x,ev e lo,ev e hi,ev e mx)
  | _=>none
 else none
theorem RG.XN {t:TypeId}{sz:Nat}{a:Option Addr}{len cap:Nat}{k k2 k3:IntKind}{i1 i2 i3:Int}(l h' m:Nat) (h:XM n ops j e=some (t,.slice a len cap,.int k i1,.int k2 i2,.int k3 i3)) (ht:Jl P t sz=true) (e1:i1=(l:Int)) (e2:i2=(h':Int)) (e3:i3=(m:Int)) (hlh:l≤h') (hh:h'≤m) (hm:m≤cap)
 (H:∀ v,RG P n K ops (j+1) (Af e (Ac ops j).dst v) w):RG P n K ops j e w:=by
 obtain ⟨hg,h⟩:=CE h
 unfold Jl at ht
 split at ht
 ·rename_i el hu
  split at ht
  ·rename_i inf hinf
   have hun:(underlying t).run P w=.ok (.slice el) w:=by simp [underlying,hu,go_sem]
   refine RG.val (v:=.slice (if m=l then a else a.map (·.add (l * inf.size))) (h' - l) (m - l)) hg ?_ (H _)
   split at h
   ·rename_i t' x lo hi mx hop
    simp only [Option.some.injEq,Prod.mk.injEq] at h
    obtain ⟨rfl,hx,hlo,hhi,hmx⟩:=h
    simp only [execOp,hop]
    refine AX ?_
    simp only [Option.map_some,hx,hlo,hhi,hmx]
    unfold Instr.sliceAt
    rw [AX hun]
    simp only []
    unfold Instr.slice
    rw [AX hun]
    simp only []
    have hb:(Instr.sliceBounds true len cap (some (.int k i1)) (some (.int k2 i2)) (some (.int k3 i3))).run P w=.ok (l,h',m) w:=by
     unfold Instr.sliceBounds
     simp only []
     rw [AX (EL e3 hm w),AX (EL e2 hh w),AX (EL e1 hlh w)]
     rfl
    rw [AX hb]
    simp only []
    rw [AX (show (sizeOf el).run P w=.ok inf.size w by simp [sizeOf,typeInfo,hinf,go_sem])]
    rfl
   ·cases h
  ·cases ht
 ·cases ht
end
theorem GA.XO {P:Program}{S:Nat→Prop}{n m:Nat}{L:Env→World→Prop}{ops:Array Oper}{l:List Nat}{e:Env}{w:World}{i:Nat}{t:TypeId}{sz r len cap:Nat}{lo hi:Option Value}(l' h':Nat) (hb:gB n m ops l i=true) (h:DN n ops i e=some (t,.slice (some ⟨r,0,none⟩) len cap,lo,hi)) (ht:Jl P t sz=true) (hlo:bnd lo 0 l') (hhi:bnd hi len h') (hlh:l'≤h') (hh:h'≤cap)
 (H:∀ a2 c2,(0< h' - l'→a2=some ⟨r,l' * sz,none⟩)→GA P S n m L ops (i::l) (Af e (Ac ops i).dst (.slice a2 (h' - l') c2)) w):GA P S n m L ops l e w:=by
 refine GA.Mn hb (fun w=>?_) (H (if cap=l' then some ⟨r,0,none⟩ else some ⟨r,l' * sz,none⟩) (cap - l') (fun hp=>by rw [if_neg AB]))
 have h1:=Es h (HA ht hlo hhi hlh hh w)
 simp only [Option.map_some,add_lit,Nat.zero_add] at h1
 exact h1
theorem Own.V6 {α:Type}[Rep α] {w:World}{r:Nat}{t:TypeId}{F:Nat→Prop}{n c:Nat}{xs:List α}(h:Own w r t F n c xs):∃ cs,Box w r t cs∧cs.length=c * Rep.sz α:=by
 obtain ⟨cur,h1,h2⟩:=h.row
 exact ⟨cur.toList,by unfold Box; simpa using h1,by simpa using h2⟩
theorem Own.Sa {α:Type}[Rep α] {w w':World}{r:Nat}{t:TypeId}{F:Nat→Prop}{n c i:Nat}{xs:List α}{cs cs':List Value}(h:Own w r t F n c xs) (hx:Chg (one r) w w') (hB:Box w r t cs) (hB':Box w' r t cs') (hl:cs'.length=c * Rep.sz α) (hi:i< n)
 (hp:∀ p,p< (n - 1) * Rep.sz α→cs'[p]? = if p< i * Rep.sz α then cs[p]? else cs[p+Rep.sz α]?):Own w' r t F (n - 1) c (xs.take i++xs.drop (i+1)):=by
 have hn:=h.len
 have hle:=h.le
 have hcap:=h.cap
 unfold Box at hB hB'
 refine ⟨by rw [List.length_append,List.length_take,List.length_drop]; omega,by omega,hcap,⟨cs'.toArray,hB',by simpa using hl⟩,fun k x hk=>?_⟩
 have hfr:∀ b,b< w.heap.size→F b∧b≠r→(F b∧b≠r)∧w'.heap[b]? = w.heap[b]? := fun b hb hF=>⟨hF,hx.block b hb (fun e=>hF.2 e)⟩
 have hk2:k< (xs.take i++xs.drop (i+1)).length:=(List.getElem?_eq_some_iff.1 hk).1
 rw [List.length_append,List.length_take,List.length_drop] at hk2
 by_cases hki:k< i
 ·rw [List.getElem?_append_left (by rw [List.length_take]; omega),List.getElem?_take,if_pos hki] at hk
  obtain ⟨c1,g1,g2⟩:=h.elem k x hk
  refine ⟨c1,Rep.frame g1 hfr,fun u v hv=>?_⟩
  have h3:=g2 u v hv
  have hu:u< Rep.sz α:=by have:=(List.getElem?_eq_some_iff.1 hv).1; rw [Rep.len g1] at this; exact this
  have hm:k * Rep.sz α+Rep.sz α≤i * Rep.sz α:=by rw [← Nat.succ_mul]; exact Nat.mul_le_mul_right _ hki
  have hm2:i * Rep.sz α≤(n - 1) * Rep.sz α:=Nat.mul_le_mul_right _ AB
  rw [add_lit] at h3 ⊢
  simp only [World.cell?,hB] at h3
  simp only [World.cell?,hB']
  have:=hp (k * Rep.sz α+u) AB
  rw [if_pos AB] at this
  simpa [this] using h3
 ·rw [List.getElem?_append_right (by rw [List.length_take]; omega),List.length_take,Nat.min_eq_left AB,List.getElem?_drop] at hk
  rw [show i+1+(k - i)=k+1 by omega] at hk
  obtain ⟨c1,g1,g2⟩:=h.elem (k+1) x hk
  refine ⟨c1,Rep.frame g1 hfr,fun u v hv=>?_⟩
  have h3:=g2 u v hv
  have hu:u< Rep.sz α:=by have:=(List.getElem?_eq_some_iff.1 hv).1; rw [Rep.len g1] at this; exact this
  have hm:k * Rep.sz α+Rep.sz α≤(n - 1) * Rep.sz α:=by rw [← Nat.succ_mul]; exact Nat.mul_le_mul_right _ AB
  have hm2:i * Rep.sz α≤k * Rep.sz α:=Nat.mul_le_mul_right _ AB
  rw [add_lit] at h3 ⊢
  simp only [World.cell?,hB] at h3
  simp only [World.cell?,hB']
  have:=hp (k * Rep.sz α+u) AB
  rw [if_neg AB] at this
  rw [Nat.succ_mul,show k * Rep.sz α+Rep.sz α+u=k * Rep.sz α+u+Rep.sz α by omega] at h3
  simpa [this] using h3
theorem MM {cs v1 v2:List Value}{n c i sz:Nat}(hl:cs.length=c * sz) (hi:i< n) (hn:n≤c) (h1:v1=(cs.drop ((i+1) * sz)).take ((n - (i+1)) * sz)) (h2:v2.length=sz) :
 (Av (Av cs (i * sz) v1) ((n - 1) * sz) v2).length=c * sz∧∀ p,p< (n - 1) * sz→(Av (Av cs (i * sz) v1) ((n - 1) * sz) v2)[p]? = if p< i * sz then cs[p]? else cs[p+sz]? := by
 have m1:(i+1) * sz+(n - (i+1)) * sz=n * sz:=by rw [← Nat.add_mul]; congr 1; omega
 have m2:(n - 1) * sz+sz=n * sz:=by rw [← Nat.succ_mul]; congr 1; omega
 have m3:n * sz≤c * sz:=Nat.mul_le_mul_right _ hn
 have m4:(i+1) * sz=i * sz+sz:=Nat.succ_mul _ _
 have l1:v1.length=(n - (i+1)) * sz:=by rw [h1,List.length_take,List.length_drop]; omega
 have l2:(Av cs (i * sz) v1).length=c * sz:=by rw [D4 AB]; exact hl
 refine ⟨by rw [D4 AB]; exact l2,fun p hp=>?_⟩
 unfold Av
 rw [List.append_assoc,List.getElem?_append_left (by rw [List.length_take]; unfold Av at l2; omega),List.getElem?_take,if_pos hp,List.append_assoc]
 by_cases hpi:p< i * sz
 ·rw [if_pos hpi,List.getElem?_append_left (by rw [List.length_take]; omega),List.getElem?_take,if_pos hpi]
 ·rw [if_neg hpi,List.getElem?_append_right (by rw [List.length_take]; omega),List.length_take,Nat.min_eq_left AB,List.getElem?_append_left AB,h1,List.getElem?_take,if_pos AB,List.getElem?_drop]
  congr 1
  omega
variable {w:World} {F:Nat→Prop}
theorem UQ {x:Prt}{cs:List Value}(h:Rep.rep w F x cs):∀ v∈cs,Cn v=true:=Rep.flat h
theorem Own.Cn {w:World}{r:Nat}{t:TypeId}{F:Nat→Prop}{n c i:Nat}{xs:List Prt}{cs:List Value}(h:Own w r t F n c xs) (hB:Box w r t cs):∀ v,i+(n - i)≤n→v∈(cs.drop (i * 2)).take ((n - i) * 2)→Go.Proofs.YtcginoabkicdiaaGreat.Cn v=true:=by
 intro v hin hv
 obtain ⟨k,hk⟩:=List.mem_iff_getElem?.1 hv
 rw [List.getElem?_take] at hk
 split at hk
 ·rename_i hlt
  rw [List.getElem?_drop] at hk
  have hn:=h.len
  have hj:i+k / 2< xs.length:=by omega
  obtain ⟨c1,g1,g2⟩:=h.elem (i+k / 2) xs[i+k / 2] (AU hj)
  have hl:c1.length=2:=Rep.len g1
  have hk2:k % 2< c1.length:=by omega
  have h3:=g2 (k % 2) c1[k % 2] (AU hk2)
  have hz:Rep.sz Prt=2:=rfl
  unfold Box at hB
  rw [add_lit,hz] at h3
  simp only [World.cell?,hB] at h3
  have e:(i+k / 2) * 2+k % 2=i * 2+k:=by omega
  rw [e] at h3
  have h4:cs[i * 2+k]? = some c1[k % 2]:=by simpa using h3
  rw [hk] at h4
  cases h4
  exact UQ g1 _ (List.getElem_mem hk2)
 ·cases hk
theorem Q0:∀ (is:List Int) (bs:List (List Row)) (o:Option Int),Bm o is bs=true→is.length=bs.length→∀ b∈bs,Bf b=true:=by
 intro is
 induction is with
 | nil =>
   intro bs o _ hl b hb
   cases bs with
   | nil=>cases hb
   | cons c cs=>simp at hl
 | cons i is ih =>
   intro bs o h hl b hb
   cases bs with
   | nil=>cases hb
   | cons c cs =>
     unfold Bm at h
     simp only [AW] at h
     rcases List.mem_cons.1 hb with rfl | hb
     ·exact h.1.2
     ·exact ih cs (some i) h.2 (by simpa using hl) b hb
theorem Fg {p:Prt}(h:Am p=true) (id:Int):Bf (partOf p id)=true:=by
 rcases Iq id p.ids p.blocks with h1 | h1
 ·unfold partOf; rw [h1]; rfl
 ·unfold Am at h
  simp only [AW,decide_eq_true_eq] at h
  exact Q0 p.ids p.blocks none h.2 h.1 _ h1
theorem PQ {id t:Int}:∀ (ps:List Prt) (o:List Row),(∀ p∈ps,PrtI p)→Blk o→((look t o).isSome=true∨∃ p∈ps,(look t (partOf p id)).isSome=true)→(look t (ps.foldl (Bx id) o)).isSome=true:=by
 intro ps
 induction ps with
 | nil =>
   rintro o _ _ (h | ⟨p,hp,_⟩)
   ·exact h
   ·cases hp
 | cons p ps ih =>
   intro o hI ho h
   have hp:Blk (partOf p id):=(hI p AD).of id
   refine ih _ (fun q hq=>hI q (by simp [hq])) (ho.merge hp) ?_
   have e:look t (Bx id o p)=(look t (partOf p id)).or (look t o):=CX t o ho hp
   rcases h with h | ⟨q,hq,h⟩
   ·refine .inl ?_
    rw [e]
    cases look t (partOf p id) with
    | none=>exact h
    | some x=>rfl
   ·rcases List.mem_cons.1 hq with rfl | hq
    ·refine .inl ?_
     rw [e]
     obtain ⟨x,hx⟩:=Option.isSome_iff_exists.1 h
     rw [hx]; rfl
    ·exact .inr ⟨q,hq,h⟩
theorem KL {p:Prt}{n:Int}(h:Bj p n=true):∀ i∈p.ids,i≤n:=by
 unfold Bj at h
 simp only [AW] at h
 obtain ⟨h1,h2⟩:=h
 unfold Am at h1
 simp only [AW,decide_eq_true_eq] at h1
 have key:∀ (is:List Int) (bs:List (List Row)) (o:Option Int),Bm o is bs=true→(∀ q,o=some q→∀ i∈is,q< i)∧∀ l,is.getLast? = some l→∀ i∈is,i≤l:=by
  intro is
  induction is with
  | nil=>intro bs o _; exact ⟨fun _ _ i hi=>(by cases hi),fun l hl=>(by simp at hl)⟩
  | cons x xs ih =>
    intro bs o hg
    cases bs with
    | nil=>simp [Bm] at hg
    | cons b bs =>
      simp only [Bm,AW] at hg
      obtain ⟨k1,k2⟩:=ih bs (some x) hg.2
      have hx:∀ q,o=some q→q< x:=fun q hq=>by
       have:=hg.1.1.1.2
       rw [hq] at this
       simpa using this
      refine ⟨fun q hq i hi=>?_,fun l hl i hi=>?_⟩
      ·rcases List.mem_cons.1 hi with rfl | hi
       ·exact hx q hq
       ·have:=k1 x rfl i hi; have:=hx q hq; omega
      ·cases hc:xs.getLast? with
       | none =>
         have:xs=[]:=List.getLast?_eq_none_iff.1 hc
         subst this
         simp at hl hi
         omega
       | some l2 =>
         have e:(x::xs).getLast? = some l2:=by rw [List.getLast?_cons,hc]; rfl
         rw [e] at hl
         cases hl
         rcases List.mem_cons.1 hi with rfl | hi
         ·have:=k1 i rfl l (List.mem_of_getLast? hc); omega
         ·exact k2 l hc i hi
 intro i hi
 cases hl:p.ids.getLast? with
 | none=>rw [hl] at h2; cases h2
 | some l =>
   rw [hl] at h2
   have:=(key p.ids p.blocks none h1.2).2 l hl i hi
   have h3:l≤n:=by simpa using h2
   omega
theorem JH {p:Prt}{id:Int}(h:∀ i∈p.ids,i< id):partOf p id=[]:=by
 have key:∀ (is:List Int) (bs:List (List Row)),(∀ i∈is,i< id)→Ba id is bs=[]:=by
  intro is
  induction is with
  | nil=>intro bs _; unfold Ba; rfl
  | cons i is ih =>
    intro bs h
    cases bs with
    | nil=>unfold Ba; rfl
    | cons b bs =>
      unfold Ba
      rw [if_neg (by have:=h i AD; simp; omega)]
      exact ih bs (fun j hj=>h j (by simp [hj]))
 exact key _ _ h
theorem Kz {s:Sto}(h:SD s) (hk:Ae s=true){x y:Prt}(hx:x∈s.parts) (hy:y∈s.parts):BS x y=(BA x y,true):=by
 have hK:=StoK.of h hk
 have ox:=(hK.part x hx).2
 have oy:=(hK.part y hy).2
 unfold BS
 rw [if_pos]
 refine ⟨ox,oy,?_⟩
 unfold okM
 rw [List.all_eq_true]
 intro i hi
 rw [List.mem_range] at hi
 have e1:Az x ((i:Int)+1)=partOf x ((i:Int)+1):=by unfold Az; rw [if_pos ox]
 have e2:Az y ((i:Int)+1)=partOf y ((i:Int)+1):=by unfold Az; rw [if_pos oy]
 rw [e1,e2]
 have b1:=Fg ox ((i:Int)+1)
 have b2:=Fg oy ((i:Int)+1)
 have hl:(Bb (partOf x ((i:Int)+1)) (partOf y ((i:Int)+1))).length≤24:=by
  unfold Ae at hk
  simp only [AW,decide_eq_true_eq,List.all_eq_true,List.mem_range,Ee] at hk
  by_cases hin:i< s.idx.names.length
  ·have bb:=(Jf b1).merge (Jf b2)
   have hP:Blk (s.parts.foldl (Bx ((i:Int)+1)) []):=Fb h.part Blk.nil
   refine Nat.le_trans (ND bb (b:=rowsOf s ((i:Int)+1)) ?_ (fun t ht=>?_)) (hk.2 i hin)
   ·exact (EC 0 _ s.mem _ hK.row hP).2
   ·refine QA hK _ t (.inl (PQ s.parts [] h.part Blk.nil (.inr ?_)))
    rw [CX t _ (Jf b1) (Jf b2)] at ht
    cases hc:look t (partOf y ((i:Int)+1)) with
    | some q=>exact ⟨y,hy,by rw [hc]; rfl⟩
    | none=>rw [hc] at ht; exact ⟨x,hx,ht⟩
  ·have g:=fun p hp=>JH (p:=p) (id:=(i:Int)+1) (fun j hj=>by have:=KL (hk.1.1.2 p hp) j hj; omega)
   rw [g x hx,g y hy]
   decide
 unfold Bs
 rw [if_pos ⟨b1,b2,by omega⟩]
theorem K0 {s:Sto}{i:Int}(_h:SD s) (hk:Ae s=true) (h1:inR i 0 ((s.parts.length:Int) - 2)=false):Bw s i=(Ad s,false):=by
 rw [F8 hk]; exact KY h1
theorem OM {s:Sto}{i:Int}{x y:Prt}(h:SD s) (hk:Ae s=true) (h1:inR i 0 ((s.parts.length:Int) - 2)=true) (hx:s.parts[i.toNat]? = some x) (hy:s.parts[(i+1).toNat]? = some y) :
 Bw s i=(⟨(Ad s).idx,[]++(((Ad s).parts.set i.toNat (BS x y).1).take (i.toNat+1)++((Ad s).parts.set i.toNat (BS x y).1).drop (i.toNat+1+1)),(Ad s).mem⟩,true):=by
 have h2:=Bu h1
 have hx2:=(List.getElem?_eq_some_iff.1 hx).1
 rw [F8 hk]
 have e:=KZ (s:=Ad s) (a:=i) (x:=x) (y:=y) h1 hx hy
 rw [e,Kz h hk (AV hx) (AV hy)]
 have ep:(Ad s).parts=s.parts:=rfl
 rw [ep]
 have e2:(i+2).toNat=i.toNat+2:=by omega
 congr 2
 rw [e2,List.nil_append,List.nil_append,List.drop_zero,List.take_length]
 congr 1
 ·rw [List.take_add_one,List.take_set_of_le (Nat.le_refl _),List.getElem?_set_self (by exact hx2)]
  rfl
 ·rw [List.drop_set_of_lt AB]
end Go.Proofs.YtcginoabkicdiaaGreat
namespace Go.Proofs.YtcginoabkicdiaaGreat
theorem MN {s:Sto}(h:SD s) (hk:Ae s=true){id:Int}{p:List Tag→Bool}(hid:id∈Dq p 0 s.idx.names) (lo hi:Int):NH (Ha s id) lo hi=Qw (rowsOf s id) lo hi:=by
 have:=Ky hid
 rw [SS hk this.1 this.2,Qy h hk this.1 this.2]
def Dg (s:Sto) (f:List Cnd) (lo hi:Int) (i k:Nat):Prop:=((Dq (Fc f) 0 s.idx.names).drop i).flatMap (NI s lo hi)=(LY s f lo hi).drop k
theorem Dg.skip {s:Sto}{f:List Cnd}{lo hi:Int}{i k:Nat}{id:Int}(h:Dg s f lo hi i k) (hs:SD s) (hk:Ae s=true) (hd:(Dq (Fc f) 0 s.idx.names).drop i=id::(Dq (Fc f) 0 s.idx.names).drop (i+1)) (hl:((NH (Ha s id) lo hi).length:Int)=0):Dg s f lo hi (i+1) k:=by
 have hm:id∈Dq (Fc f) 0 s.idx.names:=List.mem_of_mem_drop (by rw [hd]; simp)
 rw [MN hs hk hm] at hl
 unfold Dg at h ⊢
 rw [hd,List.flatMap_cons] at h
 have e:NI s lo hi id=[]:=by unfold NI; rw [if_neg AB]
 rw [e,List.nil_append] at h
 exact h
theorem Dg.hit {s:Sto}{f:List Cnd}{lo hi:Int}{i k:Nat}{id:Int}(h:Dg s f lo hi i k) (hs:SD s) (hk:Ae s=true) (hd:(Dq (Fc f) 0 s.idx.names).drop i=id::(Dq (Fc f) 0 s.idx.names).drop (i+1)) (hl:((NH (Ha s id) lo hi).length:Int)≠0){n:List Tag}(hn:s.idx.names[(id - 1).toNat]? = some n) :
 (LY s f lo hi)[k]? = some ⟨MJ n,NH (Ha s id) lo hi⟩∧Dg s f lo hi (i+1) (k+1):=by
 have hm:id∈Dq (Fc f) 0 s.idx.names:=List.mem_of_mem_drop (by rw [hd]; simp)
 rw [MN hs hk hm] at hl ⊢
 unfold Dg at h ⊢
 rw [hd,List.flatMap_cons] at h
 have e:NI s lo hi id=[⟨MJ n,Qw (rowsOf s id) lo hi⟩]:=by
  unfold NI
  rw [if_pos AB,List.getD_eq_getElem?_getD,hn,SV (hs.nm.ok n (AV hn))]
  rfl
 rw [e,List.cons_append,List.nil_append] at h
 constructor
 ·have:=congrArg (fun l=>l[0]?) h
  simp only [List.getElem?_cons_zero,List.getElem?_drop,Nat.add_zero] at this
  exact this.symm
 ·have:=congrArg List.tail h
  rw [List.tail_cons,List.tail_drop] at this
  exact this
theorem Dg.fin {s:Sto}{f:List Cnd}{lo hi:Int}{i k:Nat}(h:Dg s f lo hi i k) (hi2:(Dq (Fc f) 0 s.idx.names).length≤i):(LY s f lo hi).length≤k:=by
 unfold Dg at h
 rw [Aa hi2] at h
 have:=congrArg List.length h
 simp only [List.flatMap_nil,List.length_nil,List.length_drop] at this
 omega
theorem Dg.no1 {s:Sto}{f:List Cnd}{lo hi:Int}{i k:Nat}{id:Int}(h:Dg s f lo hi i k) (hs:SD s) (hk:Ae s=true) (hd:(Dq (Fc f) 0 s.idx.names).drop i=id::(Dq (Fc f) 0 s.idx.names).drop (i+1)) (hl:((NH (Ha s id) lo hi).length:Int)≠0) (hb:(k:Int)≥((LY s f lo hi).length:Int)):False:=by
 have hm:id∈Dq (Fc f) 0 s.idx.names:=List.mem_of_mem_drop (by rw [hd]; simp)
 have h2:=Ky hm
 obtain ⟨n,hn⟩:∃ n,s.idx.names[(id - 1).toNat]? = some n:=⟨_,AU AB⟩
 have h3:=(List.getElem?_eq_some_iff.1 (h.hit hs hk hd hl hn).1).1
 omega
theorem Dg.no2 {s:Sto}{f:List Cnd}{lo hi:Int}{i k:Nat}{id:Int}(h:Dg s f lo hi i k) (hs:SD s) (hk:Ae s=true) (hd:(Dq (Fc f) 0 s.idx.names).drop i=id::(Dq (Fc f) 0 s.idx.names).drop (i+1)) (hl:((NH (Ha s id) lo hi).length:Int)≠0){n:List Tag}(hn:s.idx.names[(id - 1).toNat]? = some n){b:Hit}(hb:(LY s f lo hi)[k]? = some b)
 (hf:(b.name==MJ n)=false∨(b.name != MJ n)=true∨(b.rows==NH (Ha s id) lo hi)=false):False:=by
 have h3:=(h.hit hs hk hd hl hn).1
 rw [hb] at h3
 simp only [Option.some.injEq] at h3
 subst h3
 rcases hf with hf | hf | hf <;> simp at hf
end Go.Proofs.YtcginoabkicdiaaGreat
namespace Go.Proofs.YtcginoabkicdiaaGreat
theorem Q1 {s:Sto}(h:SD s) (h1:(Cl s).2=true):(Cl s).1=DL s∧Ae s=true∧s.mem≠[]∧s.parts.length< 6:=by
 cases hk:Ae s with
 | false=>rw [JF hk] at h1; cases h1
 | true =>
   by_cases hc:(s.mem.length:Int)=0∨(s.parts.length:Int)=6
   ·rw [G4 h hk hc] at h1; cases h1
   ·have h6:=NF hk
    rw [IU h hk AB AB]
    refine ⟨?_,rfl,fun e=>?_,by omega⟩
    ·show (⟨(Ad s).idx,(Ad s).parts++[Ah s.mem],[]⟩:Sto)=DL s
     rw [h.copy]
     rfl
    ·rw [e] at hc; simp at hc
theorem Sc {s x:Sto}{f:List Cnd}(hi:x.idx=s.idx) (hk:Ae s=Ae x) (hr:Ae s=true→∀ id:Int,1≤id→id≤s.idx.names.length→rowsOf x id=rowsOf s id) (lo hi2:Int):LY x f lo hi2=LY s f lo hi2:=by
 unfold LY
 rw [← hk]
 cases hs:Ae s&&PO f with
 | false=>rfl
 | true =>
   simp only [AW] at hs
   rw [if_pos rfl,if_pos rfl]
   unfold XJ
   rw [hi]
   have key:∀ (l:List Int),(∀ i∈l,1≤i∧i≤s.idx.names.length)→l.flatMap (NI x lo hi2)=l.flatMap (NI s lo hi2):=by
    intro l
    induction l with
    | nil=>intro _; rfl
    | cons i is ih =>
      intro h
      rw [List.flatMap_cons,List.flatMap_cons,ih (fun j hj=>h j (by simp [hj]))]
      have h1:=h i AD
      unfold NI
      rw [hr hs.1 i h1.1 h1.2,hi]
   exact key _ (fun i hi=>Ky hi)
end Go.Proofs.YtcginoabkicdiaaGreat
namespace Go.Proofs.YtcginoabkicdiaaGreat
theorem MO (a b:Prt){id:Int}(h1:1≤id) (h2:id≤6):partOf (BA a b) id=Bb (partOf a id) (partOf b id):=by
 unfold BA
 rw [OA _ h1,List.getD_eq_getElem?_getD]
 unfold BT
 rw [List.getElem?_map,List.getElem?_range AB]
 simp only [Option.map_some,Option.getD_some]
 rw [show (((id - 1).toNat:Nat):Int)+1=id by omega]
def Cm (s:Sto) (k:Nat):Sto:=⟨s.idx,F1 s.parts k,s.mem⟩
theorem KM {s:Sto}{i:Int}(h:SD s) (h1:(Bw s i).2=true):Ae s=true∧0≤i∧i+2≤s.parts.length∧(Bw s i).1=Cm s i.toNat:=by
 cases hk:Ae s with
 | false=>rw [JG hk] at h1; cases h1
 | true =>
   cases hr:inR i 0 ((s.parts.length:Int) - 2) with
   | false=>rw [K0 h hk hr] at h1; cases h1
   | true =>
     have h2:=Bu hr
     refine ⟨rfl,h2.1,by omega,?_⟩
     rw [F8 hk,h.copy]
     unfold BG
     rw [if_pos hr]
     rfl
theorem Ev {s:Sto}{k:Nat}(hk:k+2≤s.parts.length):∃ x y,s.parts[k]? = some x∧s.parts[k+1]? = some y∧(Cm s k).parts=s.parts.take k++[BA x y]++s.parts.drop (k+2):=by
 refine ⟨_,_,AU AB,AU AB,?_⟩
 exact HF (AU AB) (AU AB)
theorem G5 {s:Sto}(h:StoK s){k:Nat}(hk:k+2≤s.parts.length){id:Int}(h1:1≤id) (h2:id≤6):(Cm s k).parts.foldl (Bx id) []=s.parts.foldl (Bx id) []∧rowsOf (Cm s k) id=rowsOf s id:=by
 obtain ⟨x,y,hx,hy,e⟩:=Ev hk
 have key:(Cm s k).parts.foldl (Bx id) []=s.parts.foldl (Bx id) []:=by
  have hs:s.parts=s.parts.take k++[x,y]++s.parts.drop (k+2):=by
   have e1:=List.take_append_drop k s.parts
   rw [AZ hx,AZ hy] at e1
   rw [List.append_assoc]
   exact e1.symm
  rw [e]
  conv=>rhs; rw [hs]
  simp only [List.foldl_append,List.foldl_cons,List.foldl_nil]
  congr 1
  have px:=h.sd.part x (AV hx)
  have py:=h.sd.part y (AV hy)
  have ho:Blk ((s.parts.take k).foldl (Bx id) []):=Fb (fun p hp=>h.sd.part p (List.mem_of_mem_take hp)) Blk.nil
  unfold Bx
  rw [MO x y h1 h2]
  exact (NE ho (px.of id) (py.of id)).symm
 refine ⟨key,?_⟩
 unfold rowsOf
 rw [key]
 rfl
theorem PR {p:Prt}{n:Int}(h:Bj p n=true):∃ id:Int,1≤id∧id≤6∧id≤n∧0< (partOf p id).length:=by
 have hle:=KL h
 unfold Bj at h
 simp only [AW] at h
 obtain ⟨h1,h2⟩:=h
 unfold Am at h1
 simp only [AW,decide_eq_true_eq] at h1
 obtain ⟨h3,h4⟩:=h1
 unfold partOf
 cases hi:p.ids with
 | nil=>rw [hi] at h2; simp at h2
 | cons i is =>
   cases hb:p.blocks with
   | nil=>rw [hi,hb] at h3; simp at h3
   | cons b bs =>
     rw [hi,hb] at h4
     unfold Bm at h4
     simp only [AW,decide_eq_true_eq] at h4
     have h5:=Bu h4.1.1.1.1
     refine ⟨i,h5.1,h5.2,hle i (by rw [hi]; simp),?_⟩
     unfold Ba
     rw [if_pos AD]
     exact h4.1.1.2
theorem ON {s:Sto}(h:SD s) (hk:Ae s=true){x y:Prt}(hx:x∈s.parts) (hy:y∈s.parts){id:Int}(h1:1≤id) (h2:id≤6):Blk (Bb (partOf x id) (partOf y id))∧(Bb (partOf x id) (partOf y id)).length≤24:=by
 have e:=Kz h hk hx hy
 unfold BS at e
 split at e
 ·rename_i hc
  obtain ⟨ox,oy,hm⟩:=hc
  unfold okM at hm
  rw [List.all_eq_true] at hm
  have:=hm (id - 1).toNat (by rw [List.mem_range]; omega)
  rw [show (((id - 1).toNat:Nat):Int)+1=id by omega] at this
  have e1:Az x id=partOf x id:=by unfold Az; rw [if_pos ox]
  have e2:Az y id=partOf y id:=by unfold Az; rw [if_pos oy]
  rw [e1,e2] at this
  refine ⟨(Jf (Fg ox id)).merge (Jf (Fg oy id)),?_⟩
  unfold Bs at this
  split at this
  ·rename_i hc; have:=hc.2.2; omega
  ·cases this
 ·exact absurd (congrArg Prod.snd e) AD
theorem HL {s:Sto}(h:SD s) (hk:Ae s=true){k:Nat}(hl:k+2≤s.parts.length):Ae (Cm s k)=true:=by
 have hK:=StoK.of h hk
 obtain ⟨x,y,hx,hy,e⟩:=Ev hl
 have mx:=AV hx
 have my:=AV hy
 have hn:=h.nm.len
 have hk2:=hk
 unfold Ae at hk2 ⊢
 simp only [AW,decide_eq_true_eq,List.all_eq_true,List.mem_range,Ee] at hk2 ⊢
 obtain ⟨⟨⟨⟨a1,a2⟩,a3⟩,a4⟩,a5⟩:=hk2
 refine ⟨⟨⟨⟨?_,a2⟩,fun p hp=>?_⟩,a4⟩,fun i hi=>?_⟩
 ·rw [e]
  simp only [List.length_append,List.length_take,List.length_drop,List.length_cons,List.length_nil]
  omega
 ·rw [e] at hp
  simp only [List.mem_append,List.mem_cons,List.not_mem_nil,or_false] at hp
  rcases hp with (hp | rfl) | hp
  ·exact a3 p (List.mem_of_mem_take hp)
  ·show Bj (Dy (BT x y 6)) s.idx.names.length=true
   have hblk:∀ (i:Nat) b,(BT x y 6)[i]? = some b→i< 6∧b=Bb (partOf x ((i:Int)+1)) (partOf y ((i:Int)+1)):=fun i b hb=>by
    unfold BT at hb
    rw [List.getElem?_map] at hb
    by_cases hi:i< 6
    ·rw [List.getElem?_range hi] at hb
     simp only [Option.map_some,Option.some.injEq] at hb
     exact ⟨hi,hb.symm⟩
    ·rw [List.getElem?_eq_none (by simp; omega)] at hb
     cases hb
   refine OC (fun b hb=>?_) (by rw [Dk]; omega) ?_ (fun i b hb hp=>?_)
   ·obtain ⟨i,hi⟩:=List.mem_iff_getElem?.1 hb
    obtain ⟨h6,rfl⟩:=hblk i b hi
    exact ON h hk mx my AB AB
   ·obtain ⟨id,g1,g2,_,g4⟩:=PR (a3 x mx)
    refine ⟨Bb (partOf x id) (partOf y id),?_,?_⟩
    ·unfold BT
     refine List.mem_map.2 ⟨(id - 1).toNat,by simp; omega,?_⟩
     rw [show (((id - 1).toNat:Nat):Int)+1=id by omega]
    ·have bx:=(h.part x mx).of id
     have by':=(h.part y my).of id
     have:=ND bx (bx.merge by') (fun t ht=>by
      rw [CX t _ bx by']
      cases look t (partOf y id) with
      | none=>exact ht
      | some q=>rfl)
     omega
   ·obtain ⟨h6,rfl⟩:=hblk i b hb
    by_cases hin:i< s.idx.names.length
    ·exact hin
    ·rw [JH (p:=x) (fun j hj=>by have:=KL (a3 x mx) j hj; omega),JH (p:=y) (fun j hj=>by have:=KL (a3 y my) j hj; omega)] at hp
     exact absurd hp AE
  ·exact a3 p (List.mem_of_mem_drop hp)
 ·rw [(G5 hK hl AB (by have:i< s.idx.names.length:=hi; omega)).2]
  exact a5 i hi
theorem Q2 {s:Sto}(h:SD s){k:Nat}(hl:k+2≤s.parts.length):SD (Cm s k):=by
 obtain ⟨x,y,hx,hy,e⟩:=Ev hl
 refine ⟨h.idx,h.nm,h.nd,?_,fun p hp=>?_,h.nm2,h.mem⟩
 ·have:=h.np
  rw [e]
  simp only [List.length_append,List.length_take,List.length_drop,List.length_cons,List.length_nil]
  omega
 ·rw [e] at hp
  simp only [List.mem_append,List.mem_cons,List.not_mem_nil,or_false] at hp
  rcases hp with (hp | rfl) | hp
  ·exact h.part p (List.mem_of_mem_take hp)
  ·exact (h.part x (AV hx)).merge (h.part y (AV hy))
  ·exact h.part p (List.mem_of_mem_drop hp)
section
variable {s:Sto} {i:Int}
theorem Sd (h:SD s) (h1:(Bw s i).2=true):SD (Bw s i).1:=by
 obtain ⟨_,h2,h3,e⟩:=KM h h1
 rw [e]
 exact Q2 h AB
theorem PS (h:SD s) (h1:(Bw s i).2=true):LY (Bw s i).1 [] 0 99=LY s [] 0 99∧Ae (Bw s i).1=true:=by
 obtain ⟨hk,h2,h3,e⟩:=KM h h1
 have h5:=HL h hk (k:=i.toNat) AB
 rw [e]
 exact ⟨Sc (x:=Cm s i.toNat) (s:=s) rfl (hk.trans h5.symm) (fun _ id a b=>(G5 (StoK.of h hk) AB a (by have:=h.nm.len; omega)).2) _ _,h5⟩
theorem Q3 (h:SD s) (h1:(Bw s i).2=true):(Bw s i).1.parts.length+1=s.parts.length∧0≤i∧i+2≤s.parts.length∧i+1≤(Bw s i).1.parts.length:=by
 obtain ⟨hk,h2,h3,e⟩:=KM h h1
 obtain ⟨x,y,hx,hy,e2⟩:=Ev (s:=s) (k:=i.toNat) AB
 rw [e,e2]
 simp only [List.length_append,List.length_take,List.length_drop,List.length_cons,List.length_nil]
 omega
end
end Go.Proofs.YtcginoabkicdiaaGreat
namespace Go.Proofs.YtcginoabkicdiaaGreat
theorem Sf (v:Int):∀ (l:List Int) (i:Nat),l.contains v=decide (EM v i l≥0):=by
 intro l
 induction l with
 | nil=>intro i; simp [EM]
 | cons x xs ih =>
   intro i
   have:=ih (i+1)
   have e:EM v i (x::xs)=if x==v then (i:Int) else EM v (i+1) xs:=rfl
   rw [e,List.contains_cons,this]
   by_cases h:x=v
   ·subst h; simp
   ·have h1:(x==v)=false:=beq_eq_false_iff_ne.2 h
    have h2:(v==x)=false:=beq_eq_false_iff_ne.2 (fun e=>h e.symm)
    rw [h1,h2]
    simp
def DQ (nx:Int):Option Int→List Fil→Bool
 | _,[]=>true
 | o,f::fs=>inR f.num 1 (nx - 1)&&(match o with | some q=>decide (q< f.num) | none=>true)&&Am f.part&&DQ nx (some f.num) fs
def Ds (d:Dsk):Bool:=d.list.all (fun n=>decide (0≤Ak d n))&&decide d.list.Nodup
def Ax (d:Dsk):Bool:=inR d.next 1 999&&decide (d.files.length≤20)&&decide (d.list.length≤6)&&DQ d.next none d.files&&Ds d&&(nmB d.names&&Ae (Aj d))
structure DD (d:Dsk):Prop where
 g:NmG d.names
 nl:d.list.length≤7
 nf:d.files.length≤20
 file:∀ f∈d.files,PrtI f.part
 next:0≤d.next∧d.next≤999
theorem DD.part {d:Dsk}(h:DD d) (n:Int):PrtI (As d n):=by
 unfold As
 rw [List.getD_eq_getElem?_getD]
 cases hx:d.files[(Ak d n).toNat]? with
 | none=>exact PrtI.nil
 | some f=>exact h.file f (AV hx)
theorem DD.sg {d:Dsk}(h:DD d):SG (Aj d):=by
 refine ⟨⟨h.g,fun _=>rfl⟩,by simp [Aj]; exact h.nl,fun p hp=>?_,by simp [Aj],by simp [Aj]⟩
 simp only [Aj,List.mem_map] at hp
 obtain ⟨n,_,rfl⟩:=hp
 exact h.part n
def Jv (fs:List Fil) (k:Nat):Option Int:=prev (fs.map Fil.num) k
theorem OO {nx:Int}{fs:List Fil}{k:Nat}{f:Fil}{b:Bool}(h:DQ nx (Jv fs k) (fs.drop k)=b) (hd:fs.drop k=f::fs.drop (k+1)) (hf:fs[k]? = some f) (h1:inR f.num 1 (nx - 1)=true) (h2:k=0∨∃ q,fs[k - 1]? = some q∧¬ q.num≥f.num) (h3:Am f.part=true):DQ nx (Jv fs (k+1)) (fs.drop (k+1))=b:=by
 rw [hd] at h
 unfold DQ at h
 have e:Jv fs (k+1)=some f.num:=by unfold Jv; rw [QW,List.getElem?_map,hf]; rfl
 have e2:(match Jv fs k with | some q=>decide (q< f.num) | none=>true)=true:=by
  rcases h2 with rfl | ⟨q,hq,hlt⟩
  ·rfl
  ·by_cases hk:k=0
   ·subst hk; rfl
   ·have:Jv fs k=some q.num:=by unfold Jv; rw [Nj _ _ AB,List.getElem?_map,hq]; rfl
    rw [this]
    simp
    omega
 rw [h1,h3,e2] at h
 rw [e]
 simpa using h
theorem NJ {nx:Int}{fs:List Fil}{k:Nat}{f:Fil}{b:Bool}(h:DQ nx (Jv fs k) (fs.drop k)=b) (hd:fs.drop k=f::fs.drop (k+1)) (h1:inR f.num 1 (nx - 1)=false∨(0< k∧∃ q,fs[k - 1]? = some q∧q.num≥f.num)∨Am f.part=false):b=false:=by
 rw [hd] at h
 unfold DQ at h
 rw [← h]
 rcases h1 with h1 | ⟨hk,q,hq,hge⟩ | h1
 ·rw [h1]; simp
 ·have:Jv fs k=some q.num:=by unfold Jv; rw [Nj _ _ AB,List.getElem?_map,hq]; rfl
  have e2:decide (q.num< f.num)=false:=decide_eq_false AB
  rw [this]
  simp only [e2]
  simp
 ·rw [h1]; simp
theorem UR {nx:Int}{fs:List Fil}{k:Nat}{b:Bool}(h:DQ nx (Jv fs k) (fs.drop k)=b) (hk:fs.length≤k):b=true:=by
 rw [Aa hk] at h
 exact h.symm
def Sh (d:Dsk) (k:Nat):Prop:=∀ j n,j< k→d.list[j]? = some n→0≤Ak d n∧n∉d.list.take j
theorem V7 (d:Dsk):Sh d 0:=fun j _ h=>absurd h AB
def fresh (d:Dsk) (n:Int) (k:Nat):Prop:=n∉d.list.take k
theorem Si {d:Dsk}{n:Int}{k:Nat}(h:((d.list.take k).drop 0).contains n=false):fresh d n k:=by
 unfold fresh
 rw [List.drop_zero] at h
 intro hm
 rw [List.contains_iff_mem.2 hm] at h
 cases h
theorem Q4 {d:Dsk}{k j:Nat}{n:Int}(h:Sh d k) (hn:d.list[k]? = some n) (h1:¬ Ak d n< 0) (h2:fresh d n j) (hj:k≤j):Sh d (k+1):=fun i m hi hm=>by
 by_cases e:i=k
 ·subst e
  rw [hn] at hm
  cases hm
  refine ⟨by omega,fun hmem=>h2 ?_⟩
  obtain ⟨a,ha⟩:=List.mem_iff_getElem?.1 hmem
  rw [List.getElem?_take] at ha
  split at ha
  ·exact List.mem_iff_getElem?.2 ⟨a,by rw [List.getElem?_take,if_pos AB]; exact ha⟩
  ·cases ha
 ·exact h i m AB hm
theorem OP {d:Dsk}{k:Nat}(h:Sh d k) (hk:d.list.length≤k):Ds d=true:=by
 unfold Ds
 rw [AW,List.all_eq_true,decide_eq_true_eq]
 refine ⟨fun n hn=>?_,?_⟩
 ·obtain ⟨j,hj⟩:=List.mem_iff_getElem?.1 hn
  have:=(h j n (by have:=(List.getElem?_eq_some_iff.1 hj).1; omega) hj).1
  simpa using this
 ·unfold List.Nodup
  rw [List.pairwise_iff_getElem]
  intro i j hi hj hij e
  refine (h j d.list[j] AB (AU hj)).2 ?_
  rw [← e]
  exact List.mem_iff_getElem?.2 ⟨i,by rw [List.getElem?_take,if_pos hij]; exact AU hi⟩
theorem V8 {d:Dsk}{k:Nat}{n:Int}(hn:d.list[k]? = some n) (h:Ak d n< 0):Ds d=false:=by
 cases hb:Ds d with
 | false=>rfl
 | true =>
   unfold Ds at hb
   rw [AW,List.all_eq_true] at hb
   have:=hb.1 n (AV hn)
   simp at this
   omega
theorem V9 {d:Dsk}{k:Nat}{n:Int}(hn:d.list[k]? = some n) (h:n∈d.list.take k):Ds d=false:=by
 cases hb:Ds d with
 | false=>rfl
 | true =>
   unfold Ds at hb
   rw [AW,decide_eq_true_eq] at hb
   obtain ⟨i,hi⟩:=List.mem_iff_getElem?.1 h
   rw [List.getElem?_take] at hi
   split at hi
   ·rename_i hik
    have hd:=hb.2
    unfold List.Nodup at hd
    rw [List.pairwise_iff_getElem] at hd
    obtain ⟨a1,a2⟩:=List.getElem?_eq_some_iff.1 hi
    obtain ⟨b1,b2⟩:=List.getElem?_eq_some_iff.1 hn
    exact absurd (a2.trans b2.symm) (hd i k a1 b1 hik)
   ·cases hi
theorem EX {d:Dsk}(h:Ds d=true):∀ n∈d.list,0≤Ak d n:=fun n hn=>by
 unfold Ds at h
 rw [AW,List.all_eq_true] at h
 have:=h.1 n hn
 simpa using this
theorem WA {d:Dsk}{k:Nat}{n:Int}(hn:d.list[k]? = some n) (h:((d.list.take k).drop 0).contains n=true):Ds d=false:=by
 rw [List.drop_zero] at h
 exact V9 hn (List.contains_iff_mem.1 h)
section
variable {d:Dsk}
theorem WB (h:inR d.next 1 999=false∨(d.files.length:Int) > 20∨(d.list.length:Int) > 6∨(d.names.length:Int) > 6):Ax d=false:=by
 unfold Ax
 rcases h with h | h | h | h
 ·rw [h]; simp
 ·rw [decide_eq_false (p:=d.files.length≤20) AB]; simp
 ·rw [decide_eq_false (p:=d.list.length≤6) AB]; simp
 ·rw [← UB h]; simp
theorem US (h:DQ d.next none d.files=false):Ax d=false:=by unfold Ax; rw [h]; simp
theorem XP (h:Ds d=false):Ax d=false:=by unfold Ax; rw [h]; simp
theorem X0 (h1:inR d.next 1 999=true) (h2:¬ (d.files.length:Int) > 20) (h3:¬ (d.list.length:Int) > 6) (h5:DQ d.next none d.files=true) (h6:Ds d=true):Ax d=(nmB d.names&&Ae (Aj d)):=by
 unfold Ax
 rw [h1,h5,h6,decide_eq_true AB,decide_eq_true AB]
 simp
theorem X2 {y:Sto}(h1:inR d.next 1 999=true) (h2:¬ (d.files.length:Int) > 20) (h3:¬ (d.list.length:Int) > 6) (h5:DQ d.next none d.files=true) (h6:Ds d=true) (hd:NsD d.names) (hy:y.idx.names=d.names∧(NmI d.names→NsD d.names→y=Aj d)):(nmB y.idx.names&&Ae y)=Ax d:=by
 rw [X0 h1 h2 h3 h5 h6,hy.1]
 cases hb:nmB d.names with
 | false=>rfl
 | true=>rw [hy.2 (EB.1 hb) hd]
theorem Ew (h:Ax d=true):NmI d.names∧Ae (Aj d)=true∧Ds d=true:=by
 unfold Ax at h
 simp only [AW] at h
 exact ⟨EB.1 h.2.1,h.2.2,h.1.2⟩
theorem DD.sd (h:DD d) (hk:Ax d=true):SD (Aj d):=by
 obtain ⟨h1,h2,_⟩:=Ew hk
 have h3:=NF h2
 exact h.sg.sd (EB.2 h1) h3
def EP (d:Dsk):Sto:=if Ax d then Aj d else ⟨⟨[],[]⟩,[],[]⟩
theorem UT (h:Ax d=false):EP d=⟨⟨[],[]⟩,[],[]⟩:=by unfold EP; rw [if_neg (by simp [h])]
theorem IY (h:Ax d=true):EP d=Aj d:=by unfold EP; rw [if_pos h]
end
theorem MP {d:Dsk}{l:List Int}{i:Nat}{n:Int}{k Y:List Prt}{f:Fil}(h:k++(l.drop i).map (As d)=Y) (hd:l.drop i=n::l.drop (i+1)) (hf:d.files[(Ak d n).toNat]? = some f):(k++[f.part])++(l.drop (i+1)).map (As d)=Y:=by
 rw [hd,List.map_cons] at h
 rw [← h]
 have:As d n=f.part:=by unfold As; rw [List.getD_eq_getElem?_getD,hf]; rfl
 rw [this]
 simp
theorem OQ {d:Dsk}{l:List Int}{i:Nat}{k Y:List Prt}(h:k++(l.drop i).map (As d)=Y) (hi:l.length≤i):k=Y:=by
 rw [Aa hi] at h
 simpa using h
theorem FD {d:Dsk}{n:Int}(h:0≤Ak d n):(Ak d n).toNat< d.files.length∧Ak d n=((Ak d n).toNat:Int):=by
 have:=(KH n d.files 0).1
 unfold Ak at h ⊢
 omega
def EY (d:Dsk) (y:Sto):Prop:=y.idx.names=d.names∧y.parts=(Aj d).parts∧y.mem=[]∧(NmI d.names→NsD d.names→y=Aj d)
theorem EY.mk {d:Dsk}{a:List (List Tag)}{b:List Pst}{c:List Prt}{e:List Smp}(h1:a=d.names) (h2:c=d.list.map (As d)) (h3:e=[]) (h4:NmI d.names→NsD d.names→(⟨a,b⟩:Idx)=idxOf d.names):EY d ⟨⟨a,b⟩,c,e⟩:=by
 subst h2 h3
 refine ⟨h1,rfl,rfl,fun x y=>?_⟩
 unfold Aj
 rw [h4 x y]
theorem EY.sg {d:Dsk}{y:Sto}(q:EY d y) (h:DD d):SG y:=by
 obtain ⟨q1,q2,q3,q4⟩:=q
 refine ⟨⟨by rw [q1]; exact h.g,fun hn=>?_⟩,by rw [q2]; exact h.sg.np,fun p hp=>h.sg.part p (by rw [← q2]; exact hp),by rw [q3]; simp,by rw [q3]; simp⟩
 rw [q1] at hn ⊢
 have:=q4 hn h.g.nd
 rw [this]
 rfl
theorem EY.eq {d:Dsk}{y:Sto}(q:EY d y) (h:DD d) (hk:Ax d=true):y=EP d:=by rw [IY hk]; exact q.2.2.2 (Ew hk).1 h.g.nd
theorem EY.dk {d:Dsk}{y:Sto}(hy:EY d y) (h:DD d) (h1:inR d.next 1 999=true) (h2:¬ (d.files.length:Int) > 20) (h3:¬ (d.list.length:Int) > 6) (h5:DQ d.next none d.files=true) (h6:Ds d=true):(nmB y.idx.names&&Ae y)=Ax d:=X2 h1 h2 h3 h5 h6 h.g.nd ⟨hy.1,hy.2.2.2⟩
end Go.Proofs.YtcginoabkicdiaaGreat
namespace Go.Proofs.YtcginoabkicdiaaGreat
set_option maxRecDepth 100000
set_option maxHeartbeats 4000000
variable {w:World} {F:Nat→Prop} {a1 a2 a3:Option Addr} {n1 c1 n2 c2 n3 c3:Nat}
theorem Hw (f:Fil) (num:Int) (h1:RepS w F a1 n1 c1 f.part.ids) (h2:RepS w F a2 n2 c2 f.part.blocks){bq_num:Nat}(hb_num:Box w bq_num 3 [.int .i64 num])  : Calls Tryz.prog 185 [.agg #[.int .i64 f.num,.slice a1 n1 c1,.slice a2 n2 c2],.pointer (some ⟨bq_num,0,none⟩)].toArray w (Ag fun rv w'=>rv=.bool ((f.num==num))∧Ext w w'):=by
 cases h1.len
 cases h2.len
 refine goT func185 ?_
 have Z:=(((St.i0 F w).p h1).p h2).pb' hb_num
 exact .s<|.g<|RG.Np Z fun ac w Z=>.r 1<|.d<|.s<|.g<|.r 1<|RG.Lb 0 Z<|RG.Lh 0 0 Z<|.r 2<|.d<|T.rt func185 results185 (.bool (f.num==num)) ⟨(AG AF),Z.xt⟩
theorem IZ (s:List Fil) (num:Int) (h1:RepS w F a1 n1 c1 s){bq_num:Nat}(hb_num:Box w bq_num 3 [.int .i64 num])  : Calls Tryz.prog 184 [.slice a1 n1 c1,.func (.func 185) #[] #[.pointer (some ⟨bq_num,0,none⟩)]].toArray w (Ag fun rv w'=>rv=.int .i64 (C3 num 0 s)∧Ext w w'):=by
 refine goT func184 ?_
 obtain ⟨rfl,az,h1⟩:=h1.tp
 refine .s<|.g<|.r 1<|.d<|.s<|.s<|.g<|.r 3<|.d<|.b 0<|T.loop (X:=Nat) 0 (fun k=>[(0,.slice a1 s.length c1),(1,.func (.func 185) #[] #[.pointer (some ⟨bq_num,0,none⟩)]),(7,vI (s.length:Int)),(8,vI (k:Int))]) (fun k ac=>Chg (ins []) w ac∧(k≤s.length)∧(C3 num k (s.drop k)=C3 num 0 s)) (fun k=>s.length - k) AA ⟨AA,AA,AA,AA,trivial⟩ ⟨Chg.refl _ _,AD,AD⟩ ?_
 rintro k aG ac ⟨aa,aA,aB⟩ ae
 have ag:Mv [] [] w ac:=Mv.inl aa all_nil all_nil
 replace ⟨h1,hb_num⟩:=(sp ag aa).g2 h1 hb_num
 have ab:Chg nil w ac:=Chg.Nf (Chg.refl nil w) aa all_nil
 refine .s<|.g<|.bp ((k:Int)< (s.length:Int)) (fun am=>?_) (fun am=>.d<|.s<|.cf<|.x 0 rfl<|.s<|.g<|.r 1<|.d<|.rt func184 results184 (vI (-1)) ⟨(congrArg (Value.int .i64) (by grind [C3,Aa])),ab⟩)
 refine .d<|.s<|.ct<|.sk<|.s<|.b 1<|.s<|.g<|.r 2<|.d<|.s<|.g<|.r 3 ?_
 have ao:k< s.length:=AB
 refine .ix k 3 h1 ao ?_
 obtain ⟨ai,af⟩:∃ y,s[k]? = some y:=⟨_,AU AB⟩
 have aC:=AZ af
 obtain ⟨_,⟨aH,aI,aJ,aK,aL,aM,rfl,aj,ak⟩,aq⟩:=h1.elem k ai af
 have ar:=aj.len
 subst ar
 have ax:=ak.len
 subst ax
 refine .lg 0 aq<|.cl (Hw ai num aj.ta ak.ta hb_num (w:=ac) (F:=all)) ?_
 rintro aN aO ⟨rfl,ah⟩
 replace ⟨hb_num,ab,aa⟩:=(se [] ah).g3 hb_num ab aa
 cases aF:(ai.num==num)
 ·exact .d<|.cf<|.sk<|.ib 1<|.g<|.it ((k:Int)+1)<|.r 1<|.d<|ae (k+1) _ _ ⟨AA,AA,AA,AA,trivial⟩ ⟨aa,AB,(by grind [C3])⟩ AB
 exact .d<|.ct<|.s<|.g<|.r 2<|.d<|.rt func184 results184 (vI (k:Int)) ⟨(congrArg (Value.int .i64) (by grind [C3,Aa])),ab⟩
theorem CH (d:Dsk) (num:Int) (h1:RepS w F a1 n1 c1 d.files) (h2:RepS w F a2 n2 c2 d.list) (h3:RepS w F a3 n3 c3 d.names)  : Calls Tryz.prog 131 [.agg #[.slice a1 n1 c1,.slice a2 n2 c2,.slice a3 n3 c3,.int .i64 d.next],.int .i64 num].toArray w (Ag fun rv w'=>rv=.int .i64 (Ak d num)∧Ext w w'):=by
 cases h1.len
 cases h2.len
 cases h3.len
 refine goT func131 ?_
 have Z:=(((St.i0 F w).p h1).p h2).p h3
 exact .s<|.g<|RG.Np Z fun ae w Z=>RG.Np Z fun af w Z=>.r 1<|.d<|.s<|.g<|.r 1<|RG.Lb 1 Z<|.r 1<|RG.C0 (IZ d.files num (Z.a 2) (Z.bc 0)) Z fun w Z=>.r 1<|.d<|T.rt func131 results131 (vI (C3 num 0 d.files)) ⟨(congrArg (Value.int .i64) AF),Z.xt⟩
theorem CQ (s:List Int) (v:Int) (h1:RepS w F a1 n1 c1 s)  : Calls Tryz.prog 182 [.slice a1 n1 c1,.int .i64 v].toArray w (Ag fun rv w'=>rv=.bool (s.contains v)∧Ext w w'):=by
 cases h1.len
 refine goT func182 ?_
 have Z:=(St.i0 F w).p h1
 exact .s<|.g<|.r 1<|.d<|.s<|.g<|.r 2<|RG.C0 (D2 s v (Z.a 0)) Z fun w Z=>.r 2<|.d<|T.rt func182 results182 (.bool (decide (EM v 0 s≥0))) ⟨(AG (by exact (Sf v s 0).symm)),Z.xt⟩
theorem Fh (d:Dsk) (h1:RepS w F a1 n1 c1 d.files) (h2:RepS w F a2 n2 c2 d.list) (h3:RepS w F a3 n3 c3 d.names) (p0:DD d) (p1:∀ n∈d.list,0≤Ak d n):Calls Tryz.prog 158 [.agg #[.slice a1 n1 c1,.slice a2 n2 c2,.slice a3 n3 c3,.int .i64 d.next]].toArray w (Ag fun rv w'=>(∃ (y:Sto),VS (ge w.heap.size) w' (y:Sto) rv∧(EY d y))∧Ext w w'):=by
 cases h1.len
 cases h2.len
 cases h3.len
 refine goT func158 ?_
 have Z:=(((St.i0 F w).p h1).p h2).p h3
 have aL:=h2.max
 refine .s<|.g<|RG.Np Z fun ao w Z=>RG.Np Z fun aq w Z=>.d<|.s<|.g<|.r 1<|RG.Lb 1 Z<|RG.cl (GL d.names (Z.a 0) p0.g.len p0.g.l5 p0.g.bl) ?_
 rintro aW w ⟨⟨ah,aA,aN⟩,ar⟩
 refine RG.vS Z aA ar ?_
 intro aB aC aD aE Z
 refine RG.N0 Prt 0 Z fun aF w Z=>RG.N0 Smp 0 Z fun aG w Z=>.r 1<|RG.Np Z fun aj w Z=>RG.Ss 0 Z fun w Z=>.d<|.s<|.s<|.g<|.r 1<|RG.Lb 4 Z<|.r 2<|.d<|.b 0<|T.Lp ((0:Nat),(ah.names:List (List Tag)),aB,aC,(ah.AY:List Pst),aD,aE,([]:List Prt),aF,(0:Nat),([]:List Smp),aG,(0:Nat)) (fun (k,ab,a_s_0,c_s_0,ac,a_s_1,c_s_1,aa,r_s_2,c_s_2,ae,r_s_3,c_s_3)=>([(1,vP ao),(2,vP aq),(3,vP aj),(13,.slice a2 d.list.length c2),(14,vI (d.list.length:Int)),(15,vI (k:Int))],[(0,.box aj 31 [.slice a_s_0 ab.length c_s_0,.slice a_s_1 ac.length c_s_1,vS r_s_2 aa.length c_s_2,vS r_s_3 ae.length c_s_3]),(1,.own 0 r_s_3 158 c_s_3 ae),(2,.own 0 r_s_2 146 c_s_2 aa)],[⟨0,none,.rep a_s_0 c_s_0 ab⟩,⟨0,none,.rep a_s_1 c_s_1 ac⟩],d.list.length - k,(k≤d.list.length)∧(aa.length≤k)∧(aa++(d.list.drop k).map (As d)=d.list.map (As d))∧(ae=[])∧(ab=d.names)∧((NmI d.names→NsD d.names→(⟨ab,ac⟩:Idx)=idxOf d.names)))) [0,1] Z ⟨AD,AD,AF,AF,(by have q1:ah.names=d.names∧(NmI d.names→NsD d.names→ah=idxOf d.names):=‹_›; exact q1.1),(by have q1:ah.names=d.names∧(NmI d.names→NsD d.names→ah=idxOf d.names):=‹_›; exact q1.2)⟩ ?_
 rintro ⟨k,ab,a_s_0,c_s_0,ac,a_s_1,c_s_1,aa,r_s_2,c_s_2,ae,r_s_3,c_s_3⟩ aX w Z ⟨aO,aP,aQ,aR,aS,aT⟩ ai
 refine .s<|.g<|.bp ((k:Int)< (d.list.length:Int)) (fun ax=>?_) (fun ax=>?_)
 ·refine .d<|.s<|.ct<|.sk<|.s<|.b 1<|.s<|.g<|gx (h:=AB) d.list k fun ak af=>?_
  have aU:=AZ af; have ay:=AV af
  refine RG.Ix 5 af Z<|Z.el 5 af fun Z=>RG.Lh 0 0 Z<|.r 1<|.d<|T.GS 12 [aj,aq,ao] Z fun _ w Z=>.r [0]<|GA.Lb 1 0 Z<|.r [2]<|GA.Lb (q:=2) 3 4 Z<|GA.Ln (q:=2) 4 4 Z<|.r [5]<|GA.D0 6 Z (fun w Y=>CH d ak (Y.a 7) (Y.a 6) (Y.a 5))<|gx (h:=(by exact (FD (p1 _ ‹_›)).1)) d.files ((Ak d ak).toNat) fun am ag=>?_
  have az:=AV ag
  exact GA.Jx (hz:=(by exact (FD (p1 _ ‹_›)).2)) 7 7 (Ak d ak) ag Z<|.r [8]<|Z.el 7 ag fun aY aZ ba bg Z=>GA.Lg 9 0 1 Z<|.go 10<|GE.CS (fun w Z=>FZ am.part (Z.a 1) (Z.a 2) (p0.file _ ‹_›).sz) Z fun bh bi bj bk w Z=>.go 11<|GE.Nb 1 Z fun bm w Z=>GA.Do Z fun w Z=>RG.Ap (hs:=by exact (by have:=p0.nl; omega)) 2 0 aa am.part [0,1] Z fun aI aJ w Z=>.r 1<|RG.Ss 0 Z fun w Z=>.d<|.ib 1<|.g<|RG.int ((k:Int)+1) AA AB<|.r 1<|.d<|ai (k+1,ab,a_s_0,c_s_0,ac,a_s_1,c_s_1,(aa++[am.part]),aI,aJ,ae,r_s_3,c_s_3) _ _ AA (Z.to 0 [6,7] 8) ⟨AB,(by simp; omega),(by exact MP ‹_› ‹_› ‹_›),‹_›,‹_›,‹_›⟩ (by (simp only []; omega))
 refine .d<|.s<|.cf<|.x 0 rfl<|.s<|.g<|RG.Ln 0 Z<|RG.Ss 3 Z fun w Z=>.d ?_
 have Z:=(Z.sl 2).sl 1
 exact T.Rb 1 func158 results158 Z ⟨⟨((⟨(⟨ab,ac⟩:Idx),aa,ae⟩:Sto):Sto),Z.rS (⟨(⟨ab,ac⟩:Idx),aa,ae⟩:Sto) [2,3,1,0] rfl,(by exact EY.mk ‹_› (OQ ‹_› AB) ‹_› ‹_›)⟩,Z.xt⟩
theorem Cv (d:Dsk) (h1:RepS w F a1 n1 c1 d.files) (h2:RepS w F a2 n2 c2 d.list) (h3:RepS w F a3 n3 c3 d.names) (p0:DD d):Calls Tryz.prog 128 [.agg #[.slice a1 n1 c1,.slice a2 n2 c2,.slice a3 n3 c3,.int .i64 d.next]].toArray w (Ag fun rv w'=>rv=.bool (Ax d)∧Ext w w'):=by
 cases h1.len
 cases h2.len
 cases h3.len
 refine goT func128 ?_
 have Z:=(((St.i0 F w).p h1).p h2).p h3
 have aI:=h1.max
 have aJ:=h2.max
 refine .s<|.g<|RG.Np Z fun am w Z=>.r 1<|.d<|.s<|.s<|.g<|.r 1<|RG.Lb 0 Z<|RG.C0 (Bz d.next 1 999 (F:=all)) Z fun w Z=>?_
 cases ai:(inR d.next 1 999)
 ·exact .r 13<|.d<|.ct<|.s<|.g<|.r 1<|.d<|T.rt func128 results128 (.bool false) ⟨(AG (by symm; exact WB (.inl ‹_›))),Z.xt⟩
 have aM:=Bu ai
 refine .r 3<|RG.Lb 0 Z<|.r 1<|.bp ((d.files.length:Int) > 20) (fun ao=>.r 7<|.d<|.ct<|.s<|.g<|.r 1<|.d<|T.rt func128 results128 (.bool false) ⟨(AG (by symm; exact WB (.inr (.inl ‹_›)))),Z.xt⟩) fun ao=>.r 3<|RG.Lb 0 Z<|.r 1<|.bp ((d.list.length:Int) > 6) (fun aq=>.r 1<|.d<|.ct<|.s<|.g<|.r 1<|.d<|T.rt func128 results128 (.bool false) ⟨(AG (by symm; exact WB (.inr (.inr (.inl ‹_›))))),Z.xt⟩) fun aq=>.r 1<|.d<|.cf<|.sk<|.s<|.s<|.g<|.r 1<|RG.Lb 0 Z<|.r 2<|.d<|.b 0<|T.Lp (0:Nat) (fun k=>([(1,vP am),(24,.slice a1 d.files.length c1),(25,vI (d.files.length:Int)),(26,vI (k:Int))],[],[],d.files.length - k,(k≤d.files.length)∧(DQ d.next (Jv d.files k) (d.files.drop k)=DQ d.next none d.files))) [] Z ⟨AD,AF⟩ ?_
 rintro k bg w Z ⟨aN,aO⟩ aa
 refine .s<|.g<|.bp ((k:Int)< (d.files.length:Int)) (fun ar=>?_) (fun ar=>?_)
 ·refine .d<|.s<|.ct<|.sk<|.s<|.b 1<|.s<|.g<|.r 1<|gx d.files k fun ab ac=>?_
  have aP:=AZ ac
  refine RG.Ix 2 ac Z<|Z.el 2 ac fun bh bi bj bk Z=>RG.Lg 0 0 Z<|RG.Np Z fun bm w Z=>.r 1<|RG.Ss 0 Z fun w Z=>.d<|.s<|T.Gd 20 Z fun w Z=>.r [0]<|GA.Lb 1 0 Z<|.r [2]<|GA.Lb 3 1 Z<|GA.int (i:=4) (d.next - 1) AA (by have q1:=p0.next; omega)<|GA.C0 5 Z (fun w Z=>Bz ab.num 1 (d.next - 1) (F:=all)) ?_
  cases aj:(inR ab.num 1 (d.next - 1))
  ·exact .r [6,7]<|GA.Sk Z fun w Z=>.r 9<|.d<|.ct<|.s<|.g<|.r 1<|.d<|T.rt func128 results128 (.bool false) ⟨(AG (by symm; exact US (NJ ‹_› ‹_› (.inl ‹_›)))),Z.xt⟩
  refine .r [6,7,8]<|GA.GY (i:=9) ((k:Int) > 0) AA (fun ax=>?_) (fun ax=>?_)
  ·refine .r [10,11]<|GA.Lb 12 1 Z<|.r [13]<|GA.int (i:=14) ((k:Int) - 1) AA (by have q1:=p0.next; omega)<|gx d.files (k - 1) fun aG ae=>?_
   refine GA.Jx 15 5 ((k:Int) - 1) ae Z<|.r [16]<|Z.el 5 ae fun bn bo bq br Z=>GA.Lh 17 0 0 Z<|.r [18]<|GA.Lb 19 0 Z<|GA.Dn Z fun w Z=>.bp (aG.num≥ab.num) (fun ay=>.r 8<|.d<|.ct<|.s<|.g<|.r 1<|.d<|T.rt func128 results128 (.bool false) ⟨(AG (by symm; exact US (NJ ‹_› ‹_› (.inr (.inl ⟨by omega,_,by assumption,by assumption⟩))))),Z.xt⟩) fun ay=>.r 4<|RG.Ln 0 Z<|RG.C0 (Cu ab.part (Z.a 4) (Z.a 5)) Z fun w Z=>?_
   cases aT:(Am ab.part)
   ·exact .r 2<|.d<|.ct<|.s<|.g<|.r 1<|.d<|T.rt func128 results128 (.bool false) ⟨(AG (by symm; exact US (NJ ‹_› ‹_› (.inr (.inr ‹_›))))),Z.xt⟩
   exact .r 2<|.d<|.cf<|.sk<|.ib 1<|.g<|RG.int ((k:Int)+1) AA (by have q1:=p0.next; omega)<|.r 1<|.d<|aa (k+1) _ _ AA (Z.to 1 [] 6) ⟨AB,(by exact OO ‹_› ‹_› ‹_› ‹_› (.inr ⟨_,by assumption,by assumption⟩) ‹_›)⟩ (by (simp only []; omega))
  refine .r [10]<|GA.Sk Z fun w Z=>.r 5<|RG.Ln 0 Z<|RG.C0 (Cu ab.part (Z.a 1) (Z.a 2)) Z fun w Z=>?_
  cases aU:(Am ab.part)
  ·exact .r 2<|.d<|.ct<|.s<|.g<|.r 1<|.d<|T.rt func128 results128 (.bool false) ⟨(AG (by symm; exact US (NJ ‹_› ‹_› (.inr (.inr ‹_›))))),Z.xt⟩
  exact .r 2<|.d<|.cf<|.sk<|.ib 1<|.g<|RG.int ((k:Int)+1) AA (by have q1:=p0.next; omega)<|.r 1<|.d<|aa (k+1) _ _ AA (Z.to 1 [] 3) ⟨AB,(by exact OO ‹_› ‹_› ‹_› ‹_› (.inl AB) ‹_›)⟩ (by (simp only []; omega))
 refine .d<|.s<|.cf<|.x 0 rfl<|.s<|.s<|.g<|.r 1<|RG.Lb 0 Z<|.r 2<|.d<|.b 2<|T.Lp (0:Nat) (fun k=>([(1,vP am),(62,.slice a2 d.list.length c2),(63,vI (d.list.length:Int)),(64,vI (k:Int))],[],[],d.list.length - k,(k≤d.list.length)∧(DQ d.next none d.files=true)∧(Sh d k))) [] Z ⟨AD,(by exact UR ‹_› AB),(by exact V7 _)⟩ ?_
 rintro k bu w Z ⟨aV,aW,aX⟩ ag
 refine .s<|.g<|.bp ((k:Int)< (d.list.length:Int)) (fun az=>?_) (fun az=>?_)
 ·refine .d<|.s<|.ct<|.sk<|.s<|.b 3<|.s<|.g<|.r 1<|gx d.list k fun ah af=>?_
  refine RG.Ix 1 af Z<|Z.el 1 af fun Z=>RG.Lh 0 0 Z<|.r 2<|.d<|.s<|.g<|RG.Ln 0 Z<|.r 1<|RG.C0 (CH d ah (Z.a 3) (Z.a 2) (Z.a 1)) Z fun w Z=>.bp (Ak d ah< 0) (fun aA=>.r 8<|.d<|.ct<|.s<|.g<|.r 1<|.d<|T.rt func128 results128 (.bool false) ⟨(AG (by symm; exact XP (V8 ‹_› ‹_›))),Z.xt⟩) fun aA=>.r 2<|RG.Lb 0 Z<|.r 1<|RG.Sb (hhi:=bdS AA) 2 0 k d.list Z fun bv bw Z=>.r 1<|RG.C0 (CQ ((d.list.take k).drop 0) ah (Z.a 0)) Z fun w Z=>?_
  cases aZ:((d.list.take k).drop 0).contains ah
  ·exact .r 1<|.d<|.cf<|.sk<|.ib 3<|.g<|RG.int ((k:Int)+1) AA (by have q1:=p0.next; omega)<|.r 1<|.d<|ag (k+1) _ _ AA (Z.to 0 [] 2) ⟨AB,‹_›,(by exact Q4 ‹_› ‹_› ‹_› (Si ‹_›) (Nat.le_refl _))⟩ (by (simp only []; omega))
  exact .r 1<|.d<|.ct<|.s<|.g<|.r 1<|.d<|T.rt func128 results128 (.bool false) ⟨(AG (by symm; exact XP (WA ‹_› ‹_›))),Z.xt⟩
 refine .d<|.s<|.cf<|.x 2 rfl<|.s<|.g<|RG.Ln 0 Z<|RG.cl (Fh d (Z.a 2) (Z.a 1) (Z.a 0) p0 (EX (OP ‹_› AB))) ?_
 rintro bz w ⟨⟨ak,aH,ba⟩,aB⟩
 refine RG.vS Z aH aB ?_
 intro bA bC bD bE bF bG bH bI Z
 exact RG.C0 (Eb ak (Z.a 0) (Z.a 1) (Z.a 2) (Z.a 3) (EY.sg (by assumption:EY d _) p0)) Z fun w Z=>.r 1<|.d<|T.rt func128 results128 (.bool (nmB ak.idx.names&&Ae ak)) ⟨(AG (by exact EY.dk (by assumption:EY d _) p0 ‹_› AB AB ‹_› (OP ‹_› AB))),Z.xt⟩
end Go.Proofs.YtcginoabkicdiaaGreat
namespace Go.Proofs.YtcginoabkicdiaaGreat
structure MI (s y:Sto) (i:Nat):Prop where
 sd:SD y
 ok:Ae y=true
 idx:y.idx=s.idx
 mem:y.mem=s.mem
 lo:1≤y.parts.length
 hi:y.parts.length≤1∨y.parts.length+i≤6
 rows:∀ id:Int,1≤id→id≤6→y.parts.foldl (Bx id) []=s.parts.foldl (Bx id) []
theorem MI.step {s y:Sto}{i:Nat}{a:Int}(h:MI s y i) (h1:(Bw y a).2=true):MI s (Bw y a).1 (i+1):=by
 obtain ⟨hk,h2,h3,e⟩:=KM h.sd h1
 have hl:=Q3 h.sd h1
 refine ⟨Sd h.sd h1,(PS h.sd h1).2,by rw [e]; exact h.idx,by rw [e]; exact h.mem,by omega,?_,fun id a1 a2=>?_⟩
 ·have:=h.hi; omega
 ·rw [e,(G5 (StoK.of h.sd hk) AB a1 a2).1]
  exact h.rows id a1 a2
theorem MI.one {s y:Sto}{i:Nat}(h:MI s y i) (hi:6≤i):y.parts.length=1:=by have:=h.lo; have:=h.hi; omega
theorem Sj:∀ (is:List Int) (bs:List (List Row)) (o:Option Int),Bm o is bs=true→is.length=bs.length→∀ is' bs',Bm o is' bs'=true→is'.length=bs'.length→(∀ id:Int,Ba id is bs=Ba id is' bs')→is=is'∧bs=bs':=by
 have low:∀ (is:List Int) (bs:List (List Row)) (o:Option Int),Bm o is bs=true→∀ q,o=some q→∀ i∈is,q< i:=by
  intro is
  induction is with
  | nil=>intro bs o _ q _ i hi; cases hi
  | cons x xs ih =>
    intro bs o hg q hq i hi
    cases bs with
    | nil=>simp [Bm] at hg
    | cons b bs =>
      simp only [Bm,AW] at hg
      have hx:q< x:=by have:=hg.1.1.1.2; rw [hq] at this; simpa using this
      rcases List.mem_cons.1 hi with rfl | hi
      ·exact hx
      ·have:=ih bs (some x) hg.2 x rfl i hi; omega
 have none_of:∀ (is:List Int) (bs:List (List Row)) (id:Int),(∀ i∈is,i≠id)→Ba id is bs=[]:=by
  intro is
  induction is with
  | nil=>intro bs id _; unfold Ba; rfl
  | cons i is ih =>
    intro bs id h
    cases bs with
    | nil=>unfold Ba; rfl
    | cons b bs =>
      unfold Ba
      rw [if_neg (by have:=h i AD; simpa using this)]
      exact ih bs id (fun j hj=>h j (by simp [hj]))
 have mem_of:∀ (is:List Int) (bs:List (List Row)) (id:Int),Ba id is bs≠[]→id∈is:=by
  intro is bs id h
  rcases Classical.em (id∈is) with h1 | h1
  ·exact h1
  ·exact absurd (none_of is bs id (fun i hi e=>h1 (e▸hi))) h
 intro is
 induction is with
 | nil =>
   intro bs o hg hl is' bs' hg' hl' h
   cases bs with
   | cons _ _=>simp at hl
   | nil =>
     cases is' with
     | nil =>
       cases bs' with
       | nil=>exact ⟨rfl,rfl⟩
       | cons _ _=>simp at hl'
     | cons i is' =>
       cases bs' with
       | nil=>simp at hl'
       | cons b bs' =>
         simp only [Bm,AW,decide_eq_true_eq] at hg'
         have:=h i
         unfold Ba at this
         rw [if_pos AD] at this
         rw [← this] at hg'
         exact absurd hg'.1.1.2 AD
 | cons i is ih =>
   intro bs o hg hl is' bs' hg' hl' h
   cases bs with
   | nil=>simp at hl
   | cons b bs =>
     have hg0:=hg
     simp only [Bm,AW,decide_eq_true_eq] at hg
     cases is' with
     | nil =>
       cases bs' with
       | cons _ _=>simp at hl'
       | nil =>
         have:=h i
         unfold Ba at this
         rw [if_pos AD] at this
         rw [this] at hg
         exact absurd hg.1.1.2 AD
     | cons i' is' =>
       cases bs' with
       | nil=>simp at hl'
       | cons b' bs' =>
         have hg0':=hg'
         simp only [Bm,AW,decide_eq_true_eq] at hg'
         have a1:Ba i (i'::is') (b'::bs')=b:=by rw [← h i]; unfold Ba; rw [if_pos AD]
         have a2:Ba i' (i::is) (b::bs)=b':=by rw [h i']; unfold Ba; rw [if_pos AD]
         have m1:=mem_of _ _ i (by rw [a1]; exact List.ne_nil_of_length_pos hg.1.1.2)
         have m2:=mem_of _ _ i' (by rw [a2]; exact List.ne_nil_of_length_pos hg'.1.1.2)
         have hii:i=i':=by
          rcases List.mem_cons.1 m1 with e | e
          ·exact e
          ·rcases List.mem_cons.1 m2 with e2 | e2
           ·exact e2.symm
           ·have:=low is' bs' (some i') hg'.2 i' rfl i e
            have:=low is bs (some i) hg.2 i rfl i' e2
            omega
         subst hii
         have hbb:b=b':=by
          rw [← a1]
          unfold Ba
          rw [if_pos AD]
         subst hbb
         have:=ih bs (some i) hg.2 (by simpa using hl) is' bs' hg'.2 (by simpa using hl') (fun id=>by
          by_cases e:i=id
          ·subst e
           rw [none_of is bs i (fun j hj e=>by have:=low is bs (some i) hg.2 i rfl j hj; omega),none_of is' bs' i (fun j hj e=>by have:=low is' bs' (some i) hg'.2 i rfl j hj; omega)]
          ·have:=h id
           unfold Ba at this
           rw [if_neg (by simpa using e),if_neg (by simpa using e)] at this
           exact this)
         rw [this.1,this.2]
         exact ⟨rfl,rfl⟩
theorem OR {p q:Prt}(hp:Am p=true) (hq:Am q=true) (h:∀ id:Int,partOf p id=partOf q id):p=q:=by
 unfold Am at hp hq
 simp only [AW,decide_eq_true_eq] at hp hq
 obtain ⟨e1,e2⟩:=Sj p.ids p.blocks none hp.2 hp.1 q.ids q.blocks hq.2 hq.1 h
 cases p
 cases q
 simp only [Prt.mk.injEq]
 exact ⟨e1,e2⟩
theorem MI.same {s y z:Sto}{i:Nat}(hy:MI s y i) (hz:MI s z i) (hi:6≤i){p q:Prt}(hp:y.parts[0]? = some p) (hq:z.parts[0]? = some q) (hf:(p==q)=false):False:=by
 have l1:=hy.one hi
 have l2:=hz.one hi
 have e1:y.parts=[p]:=by
  match hh:y.parts,l1 with
  | [x],_=>rw [hh] at hp; simp at hp; rw [hp]
 have e2:z.parts=[q]:=by
  match hh:z.parts,l2 with
  | [x],_=>rw [hh] at hq; simp at hq; rw [hq]
 have kp:=(StoK.of hy.sd hy.ok).part p (by rw [e1]; simp)
 have kq:=(StoK.of hz.sd hz.ok).part q (by rw [e2]; simp)
 have key:p=q:=OR kp.2 kq.2 (fun id=>by
  by_cases hid:1≤id∧id≤6
  ·have h1:=hy.rows id hid.1 hid.2
   have h2:=hz.rows id hid.1 hid.2
   rw [e1] at h1
   rw [e2] at h2
   simp only [List.foldl_cons,List.foldl_nil] at h1 h2
   unfold Bx at h1 h2
   rw [Kw (kp.1.of id)] at h1
   rw [Kw (kq.1.of id)] at h2
   rw [h1,h2]
  ·have g:∀ p:Prt,Am p=true→partOf p id=[]:=fun p hp=>by
    unfold Am at hp
    simp only [AW,decide_eq_true_eq] at hp
    have key:∀ (is:List Int) (bs:List (List Row)) (o:Option Int),Bm o is bs=true→Ba id is bs=[]:=by
     intro is
     induction is with
     | nil=>intro bs o _; unfold Ba; rfl
     | cons i is ih =>
       intro bs o hg
       cases bs with
       | nil=>unfold Ba; rfl
       | cons b bs =>
         simp only [Bm,AW] at hg
         have h5:=Bu hg.1.1.1.1
         unfold Ba
         rw [if_neg (by simp; omega)]
         exact ih bs _ hg.2
    exact key _ _ _ hp.2
   rw [g p kp.2,g q kq.2])
 rw [key] at hf
 simp at hf
end Go.Proofs.YtcginoabkicdiaaGreat
namespace Go.Proofs.YtcginoabkicdiaaGreat
theorem WD.dd {w:Wld}(h:WD w):DD w.disk:=⟨NmG.of h.wi.dsk.nm h.dn,by have:=h.wi.dsk.nl; omega,h.wi.dsk.nf,h.wi.dsk.file,by have:=h.wi.dsk.next; omega⟩
end Go.Proofs.YtcginoabkicdiaaGreat
namespace Go.Proofs.YtcginoabkicdiaaGreat
theorem RG.b2s {P:Program}{n:Nat}{K:Env→World→Prop}{ops:Array Oper}{j:Nat}{e:Env}{w:World}{s d:TypeId}{r c:Nat}{y:UInt8}{t:TypeId}{F:Nat→Prop}
 (ho:Own w r t F 1 c [y]) (h:Re n ops j e=some (s,d,.slice (some ⟨r,0,none⟩) 1 c)) (ht:Te P s d=true)
 (H:RG P n K ops (j+1) (Af e (Ac ops j).dst (.string (bs [y]))) w):RG P n K ops j e w:=by
 obtain ⟨cs,h1,h2⟩:=ho.elem 0 y rfl
 cases h1
 have h3:Has w ⟨r,0,none⟩ [.int .u8 (y.toNat:Int)]:=by simpa using h2
 have h4:=I1 (P:=P) (w:=w) h (Ke h3 ht)
 exact RG.val h4.1 h4.2 H
theorem UU {n:Int}(h:0≤n∧n≤255):∃ y:UInt8,(y.toNat:Int)=n:=by
 refine ⟨UInt8.ofNat n.toNat,?_⟩
 rw [UInt8.toNat_ofNat']
 omega
theorem Q5 {n:Int}{y:UInt8}(h:(y.toNat:Int)=n):Value.int .u8 (IntKind.u8.wrap n)=Value.int .u8 (y.toNat:Int):=by
 have:=UInt8.toNat_lt y
 rw [← h,IntWalk.u8_in _ AB]
theorem OS:∀ (fs:List Fil) (nx:Int) (o:Option Int),DQ nx o fs=true→∀ f∈fs,1≤f.num∧f.num≤nx - 1∧Am f.part=true:=by
 intro fs
 induction fs with
 | nil=>intro nx o _ f hf; cases hf
 | cons x xs ih =>
   intro nx o h f hf
   unfold DQ at h
   simp only [AW] at h
   rcases List.mem_cons.1 hf with rfl | hf
   ·have:=Bu h.1.1.1
    exact ⟨this.1,this.2,h.1.2⟩
   ·exact ih nx _ h.2 f hf
theorem PT {p:Prt}(h:PrtI p) (hk:Am p=true):BA p ⟨[],[]⟩=p:=by
 have hb:∀ id:Int,(partOf p id).length≤24:=fun id=>by
  have:=Fg hk id
  unfold Bf at this
  simp only [AW,decide_eq_true_eq] at this
  exact this.2
 have e:∀ id:Int,partOf (⟨[],[]⟩:Prt) id=[]:=fun id=>by unfold partOf Ba; rfl
 have hz:∀ id:Int,¬ (1≤id∧id≤6)→∀ q:Prt,Am q=true→partOf q id=[]:=fun id hid q hq=>by
  unfold Am at hq
  simp only [AW,decide_eq_true_eq] at hq
  have key:∀ (is:List Int) (bs:List (List Row)) (o:Option Int),Bm o is bs=true→Ba id is bs=[]:=by
   intro is
   induction is with
   | nil=>intro bs o _; unfold Ba; rfl
   | cons i is ih =>
     intro bs o hg
     cases bs with
     | nil=>unfold Ba; rfl
     | cons b bs =>
       simp only [Bm,AW] at hg
       have h5:=Bu hg.1.1.1.1
       unfold Ba
       rw [if_neg (by simp; omega)]
       exact ih bs _ hg.2
  exact key _ _ _ hq.2
 have hm:Am (BA p ⟨[],[]⟩)=true:=by
  unfold BA
  refine OB (fun b hb2=>?_) (by rw [Dk]; omega)
  unfold BT at hb2
  obtain ⟨i,_,rfl⟩:=List.mem_map.1 hb2
  rw [e,Kv]
  exact ⟨h.of _,hb _⟩
 refine OR hm hk (fun id=>?_)
 by_cases hid:1≤id∧id≤6
 ·rw [MO _ _ hid.1 hid.2,e,Kv]
 ·rw [hz id hid _ hm,hz id hid _ hk]
theorem Cs {d:Dsk}(h:Ax d=true):(1≤d.next∧d.next≤999)∧d.list.length≤6∧DQ d.next none d.files=true∧Ds d=true:=by
 unfold Ax at h
 simp only [AW,decide_eq_true_eq] at h
 exact ⟨Bu h.1.1.1.1.1,h.1.1.1.2,h.1.1.2,h.1.2⟩
theorem DD.U6 {d:Dsk}(h:DD d) (hk:Ax d=true):BK d=d:=by
 have hf:=(Cs hk).2.2.1
 have:d.files.map Kb=d.files:=by
  have key:∀ f∈d.files,Kb f=f:=fun f hm=>by
   unfold Kb
   rw [PT (h.file f hm) (OS _ _ _ hf f hm).2.2]
  exact (List.map_congr_left key).trans (List.map_id _)
 unfold BK
 rw [this]
theorem DD.di {d:Dsk}(h:DD d) (hk:Ax d=true):DskI d:=by
 obtain ⟨h1,h2,h3,h4⟩:=Cs hk
 have hth:∀ n∈d.list,∃ f∈d.files,f.num=n:=fun n hn=>(F4 d n).1 (EX h4 n hn)
 refine ⟨(Ew hk).1,h.nf,h.file,h2,hth,fun n hn=>?_,h1⟩
 obtain ⟨f,hf,rfl⟩:=hth n hn
 have:=OS _ _ _ h3 f hf
 omega
theorem Sl:(GR 0 [] []).length≤1000:=by decide
theorem Sm:DD ⟨[],[],[],0⟩:=⟨⟨by simp,NsD.nil,Sl⟩,by simp,by simp,by simp,by simp⟩
end Go.Proofs.YtcginoabkicdiaaGreat
namespace Go.Proofs.YtcginoabkicdiaaGreat
def Cd (d:Dsk) (s:Sto):Bool:=Ax d&&(nmB s.idx.names&&Ae s)&&decide (s.parts=d.list.map (As d))&&decide (d.names=s.idx.names.take d.names.length)
theorem WC {d:Dsk}{s:Sto}(h:Ax d=false):false=Cd d s:=by unfold Cd; rw [h]; rfl
theorem WE {d:Dsk}{s:Sto}(h:(nmB s.idx.names&&Ae s)=false):false=Cd d s:=by unfold Cd; rw [h,Bool.and_false]; rfl
theorem WG {d:Dsk}{s:Sto}(h:s.parts≠d.list.map (As d)):false=Cd d s:=by unfold Cd; rw [decide_eq_false h,Bool.and_false]; rfl
theorem Sn {d:Dsk}{s:Sto}(h:d.names≠s.idx.names.take d.names.length):false=Cd d s:=by unfold Cd; rw [decide_eq_false h,Bool.and_false]
theorem UW {d:Dsk}{s:Sto}(h:(s.idx.names.length:Int)< d.names.length):false=Cd d s:=Sn (fun e=>by
 have:=congrArg List.length e
 rw [List.length_take] at this
 omega)
theorem OT {d:Dsk}{s:Sto}(h1:Ax d=true) (h2:(nmB s.idx.names&&Ae s)=true) (h3:s.parts=d.list.map (As d)) (h4:d.names=s.idx.names.take d.names.length):true=Cd d s:=by unfold Cd; rw [h1,h2,decide_eq_true h3,decide_eq_true h4]; rfl
structure Fits (d:Dsk) (s:Sto):Prop where
 dk:Ax d=true
 nm:nmB s.idx.names=true
 sk:Ae s=true
 p:s.parts=d.list.map (As d)
 m:d.names=s.idx.names.take d.names.length
theorem C2 {d:Dsk}{s:Sto}(h:Cd d s=true):Fits d s:=by
 unfold Cd at h
 simp only [AW,decide_eq_true_eq] at h
 exact ⟨h.1.1.1,h.1.1.2.1,h.1.1.2.2,h.1.2,h.2⟩
def Ao (d:Dsk) (s:Sto):List Stp:=if Cd d s then BE d s else []
theorem E6 {d:Dsk}{s:Sto}(h:Cd d s=true):Ao d s=BE d s:=by unfold Ao; rw [if_pos h]
theorem OU {d:Dsk}{s:Sto}(h:Cd d s=false):Ao d s=[]:=by unfold Ao; rw [if_neg (by simp [h])]
end Go.Proofs.YtcginoabkicdiaaGreat
namespace Go.Proofs.YtcginoabkicdiaaGreat
theorem WH {d:Dsk}{s y:Sto}(hy:EY d y) (h:(s.parts==y.parts)=false):false=Cd d s:=WG (fun e=>by
 have e2:s.parts=y.parts:=e.trans hy.2.1.symm
 rw [e2] at h
 simp at h)
theorem WJ {d:Dsk}{s y:Sto}(hy:EY d y) (h:(s.parts==y.parts)=true):s.parts=d.list.map (As d):=(eq_of_beq h).trans hy.2.1
theorem WK {d:Dsk}{s:Sto}(h:¬ (d.names.length:Int)≤s.idx.names.length):false=Cd d s:=UW AB
theorem WL {d:Dsk}{s y:Sto}{l:List (List Tag)}(hy:EY d y) (h1:Ax d=true) (h2:(nmB s.idx.names&&Ae s)=true) (h3:(s.parts==y.parts)=true) (hl:l=s.idx.names.take d.names.length):(d.names==l)=Cd d s:=by
 subst hl
 by_cases e:d.names=s.idx.names.take d.names.length
 ·rw [beq_iff_eq.2 e]
  exact OT h1 h2 (WJ hy h3) e
 ·rw [beq_eq_false_iff_ne.2 e]
  exact Sn e
def Ef (d:Dsk):Bool:=(d.next==999) || decide ((d.files.length:Int)=20)
theorem UX {d:Dsk}(h:(d.next==999)=true):true=Ef d:=by unfold Ef; rw [h]; rfl
theorem So {d:Dsk}(h:d.next=999):true=Ef d:=UX (by simp [h])
theorem UY {d:Dsk}(h:¬ d.next=999):((d.files.length:Int)==20)=Ef d:=by unfold Ef; rw [beq_eq_false_iff_ne.2 h,Bool.false_or]; by_cases e:(d.files.length:Int)=20 <;> simp [e]
theorem QI {d:Dsk}(h:Ef d=false):¬ d.next=999∧¬ (d.files.length:Int)=20:=by
 unfold Ef at h
 simpa using h
theorem QJ {d:Dsk}(h:Ef d=true):d.next=999∨(d.files.length:Int)=20:=by
 unfold Ef at h
 simpa using h
theorem XQ {d:Dsk}{s:Sto}(h:Cd d s=false):[]=Ao d s:=(OU h).symm
theorem WM {d:Dsk}{s:Sto}(h:(s.mem.length:Int)=0∨(d.list.length:Int)=6∨Ef d=true):[]=Ao d s:=by
 cases hf:Cd d s with
 | false=>exact XQ hf
 | true =>
   rw [E6 hf,E1]
   rcases h with h | h | h
   ·exact .inl h
   ·exact .inr (.inl AB)
   ·rcases QJ h with h | h
    ·exact .inr (.inr (.inl AB))
    ·exact .inr (.inr (.inr AB))
theorem OV {d:Dsk}{s:Sto}(hf:Cd d s=true) (h1:¬ (s.mem.length:Int)=0) (h2:¬ (d.list.length:Int)=6) (h3:Ef d=false) (hd:DD d):[⟨1,d.next,Ah s.mem,[],[]⟩,⟨2,0,⟨[],[]⟩,d.list++[d.next],s.idx.names⟩]=Ao d s:=by
 have hk:=(C2 hf).dk
 have:=(Cs hk).2.1
 have:=(Cs hk).1
 have:=hd.nf
 have:=QI h3
 rw [E6 hf,C9 h1 AB AB AB]
theorem Cw {d:Dsk}{s:Sto}(hs:SG s) (h:Cd d s=true):SD s:=by
 obtain ⟨h1,h2,h3,h4,h5⟩:=C2 h
 exact hs.sd h2 (NF h3)
end Go.Proofs.YtcginoabkicdiaaGreat
namespace Go.Proofs.YtcginoabkicdiaaGreat
set_option maxRecDepth 100000
set_option maxHeartbeats 4000000
variable {w:World} {F:Nat→Prop} {a1 a2 a3 a4 a5 a6 a7:Option Addr} {n1 c1 n2 c2 n3 c3 n4 c4 n5 c5 n6 c6 n7 c7:Nat}
theorem ED (a:List Row) (b:List Row) (h1:RepS w F a1 n1 c1 a) (h2:RepS w F a2 n2 c2 b)  : Calls Tryz.prog 205 [.slice a1 n1 c1,.slice a2 n2 c2].toArray w (Ag fun rv w'=>rv=.bool ((a==b))∧Ext w w'):=by
 cases h1.len
 cases h2.len
 refine goT func205 ?_
 have Z:=((St.i0 F w).p h1).p h2
 have ak:=h1.max
 refine .s<|.g<|.r 1<|.d<|.s<|.s<|.g<|.r 4<|.ne (a.length:Int) (b.length:Int) (fun ae=>.d<|.ct<|.s<|.g<|.r 1<|.d<|T.rt func205 results205 (.bool false) ⟨(AG (by grind [Aa])),Z.xt⟩) fun ae=>.d<|.cf<|.sk<|.s<|.s<|.g<|.r 3<|.d<|.b 0<|T.Lp (0:Nat) (fun k=>([(0,.slice a1 a.length c1),(1,.slice a2 b.length c2),(12,vI (a.length:Int)),(13,vI (k:Int))],[],[],a.length - k,(k≤a.length)∧(a.drop k=b.drop k↔a=b))) [] Z ⟨AD,AD⟩ ?_
 rintro k az w Z ⟨ao,aq⟩ ac
 refine .s<|.g<|.bp ((k:Int)< (a.length:Int)) (fun af=>?_) (fun af=>.d<|.s<|.cf<|.x 0 rfl<|.s<|.g<|.r 1<|.d<|T.rt func205 results205 (.bool true) ⟨(AG (by grind [Aa])),Z.xt⟩)
 refine .d<|.s<|.ct<|.sk<|.s<|.b 1<|.s<|.g<|.r 2<|.d<|.s<|T.Gd 8 Z fun w Z=>.r [0,1]<|gx a k fun ag aa=>?_
 have ar:=AZ aa
 refine GA.Ix 2 1 aa Z<|Z.el 1 aa fun Z=>GA.Lg 3 0 0 Z<|.r [4,5]<|gx b k fun ah ab=>?_
 have ax:=AZ ab
 refine GA.Ix 6 1 ab Z<|Z.el 1 ab fun Z=>GA.Lg 7 0 0 Z<|GA.Dn Z fun w Z=>RG.Ur (t:=70) (x:=ag) (y:=ah) AA AA ?_
 cases ay:(ag==ah)
 ·exact .d<|.ct<|.s<|.g<|.r 1<|.d<|T.rt func205 results205 (.bool false) ⟨(AG (by grind [Aa])),Z.xt⟩
 exact .d<|.cf<|.sk<|.ib 1<|.g<|.it ((k:Int)+1)<|.r 1<|.d<|ac (k+1) _ _ AA (Z.to 0 [] 2) ⟨AB,(by grind)⟩ (by (simp only []; omega))
theorem Hx (s1:List (List Row)) (s2:List (List Row)) (h1:RepS w F a1 n1 c1 s1) (h2:RepS w F a2 n2 c2 s2)  : Calls Tryz.prog 204 [.slice a1 n1 c1,.slice a2 n2 c2,.func (.func 205) #[] #[]].toArray w (Ag fun rv w'=>rv=.bool ((s1==s2))∧Ext w w'):=by
 cases h1.len
 cases h2.len
 refine goT func204 ?_
 have Z:=((St.i0 F w).p h1).p h2
 have ak:=h1.max
 refine .s<|.g<|.r 1<|.d<|.s<|.s<|.g<|.r 4<|.ne (s1.length:Int) (s2.length:Int) (fun ae=>.d<|.ct<|.s<|.g<|.r 1<|.d<|T.rt func204 results204 (.bool false) ⟨(AG (by grind [Aa])),Z.xt⟩) fun ae=>.d<|.cf<|.sk<|.s<|.s<|.g<|.r 3<|.d<|.b 0<|T.Lp (0:Nat) (fun k=>([(1,.slice a2 s2.length c2),(2,.func (.func 205) #[] #[]),(15,.slice a1 s1.length c1),(16,vI (s1.length:Int)),(17,vI (k:Int))],[],[],s1.length - k,(k≤s1.length)∧(s1.drop k=s2.drop k↔s1=s2))) [] Z ⟨AD,AD⟩ ?_
 rintro k az w Z ⟨ao,aq⟩ ac
 refine .s<|.g<|.bp ((k:Int)< (s1.length:Int)) (fun af=>?_) (fun af=>.d<|.s<|.cf<|.x 0 rfl<|.s<|.g<|.r 1<|.d<|T.rt func204 results204 (.bool true) ⟨(AG (by grind [Aa])),Z.xt⟩)
 refine .d<|.s<|.ct<|.sk<|.s<|.b 1<|.s<|.g<|.r 1<|gx s1 k fun ag aa=>?_
 have ar:=AZ aa
 refine RG.Ix 1 aa Z<|Z.el 1 aa fun aA aB Z=>RG.Lh 0 0 Z<|.r 2<|.d<|.s<|.g<|.r 2<|gx s2 k fun ah ab=>?_
 have ax:=AZ ab
 refine RG.Ix 2 ab Z<|Z.el 2 ab fun aC aD Z=>RG.Lh 0 0 Z<|.r 1<|.d<|.s<|.g<|.r 3<|RG.C0 (ED ag ah (Z.a 3) (Z.a 1)) Z fun w Z=>?_
 cases ay:(ag==ah)
 ·exact .r 1<|.d<|.ct<|.s<|.g<|.r 1<|.d<|T.rt func204 results204 (.bool false) ⟨(AG (by grind [Aa])),Z.xt⟩
 exact .r 1<|.d<|.cf<|.sk<|.ib 1<|.g<|.it ((k:Int)+1)<|.r 1<|.d<|ac (k+1) _ _ AA (Z.to 0 [] 4) ⟨AB,(by grind)⟩ (by (simp only []; omega))
theorem Ia (s1:List (List Tag)) (s2:List (List Tag)) (h1:RepS w F a1 n1 c1 s1) (h2:RepS w F a2 n2 c2 s2)  : Calls Tryz.prog 160 [.slice a1 n1 c1,.slice a2 n2 c2,.func (.func 161) #[] #[]].toArray w (Ag fun rv w'=>rv=.bool ((s1==s2))∧Ext w w'):=by
 cases h1.len
 cases h2.len
 refine goT func160 ?_
 have Z:=((St.i0 F w).p h1).p h2
 have ak:=h1.max
 refine .s<|.g<|.r 1<|.d<|.s<|.s<|.g<|.r 4<|.ne (s1.length:Int) (s2.length:Int) (fun ae=>.d<|.ct<|.s<|.g<|.r 1<|.d<|T.rt func160 results160 (.bool false) ⟨(AG (by grind [Aa])),Z.xt⟩) fun ae=>.d<|.cf<|.sk<|.s<|.s<|.g<|.r 3<|.d<|.b 0<|T.Lp (0:Nat) (fun k=>([(1,.slice a2 s2.length c2),(2,.func (.func 161) #[] #[]),(15,.slice a1 s1.length c1),(16,vI (s1.length:Int)),(17,vI (k:Int))],[],[],s1.length - k,(k≤s1.length)∧(s1.drop k=s2.drop k↔s1=s2))) [] Z ⟨AD,AD⟩ ?_
 rintro k az w Z ⟨ao,aq⟩ ac
 refine .s<|.g<|.bp ((k:Int)< (s1.length:Int)) (fun af=>?_) (fun af=>.d<|.s<|.cf<|.x 0 rfl<|.s<|.g<|.r 1<|.d<|T.rt func160 results160 (.bool true) ⟨(AG (by grind [Aa])),Z.xt⟩)
 refine .d<|.s<|.ct<|.sk<|.s<|.b 1<|.s<|.g<|.r 1<|gx s1 k fun ag aa=>?_
 have ar:=AZ aa
 refine RG.Ix 1 aa Z<|Z.el 1 aa fun aA aB Z=>RG.Lh 0 0 Z<|.r 2<|.d<|.s<|.g<|.r 2<|gx s2 k fun ah ab=>?_
 have ax:=AZ ab
 refine RG.Ix 2 ab Z<|Z.el 2 ab fun aC aD Z=>RG.Lh 0 0 Z<|.r 1<|.d<|.s<|.g<|.r 3<|RG.C0 (CR ag ah (Z.a 3) (Z.a 1)) Z fun w Z=>?_
 cases ay:(ag==ah)
 ·exact .r 1<|.d<|.ct<|.s<|.g<|.r 1<|.d<|T.rt func160 results160 (.bool false) ⟨(AG (by grind [Aa])),Z.xt⟩
 exact .r 1<|.d<|.cf<|.sk<|.ib 1<|.g<|.it ((k:Int)+1)<|.r 1<|.d<|ac (k+1) _ _ AA (Z.to 0 [] 4) ⟨AB,(by grind)⟩ (by (simp only []; omega))
theorem Jw (a:Prt) (b:Prt) (h1:RepS w F a1 n1 c1 a.ids) (h2:RepS w F a2 n2 c2 a.blocks) (h3:RepS w F a3 n3 c3 b.ids) (h4:RepS w F a4 n4 c4 b.blocks)  : Calls Tryz.prog 159 [.agg #[.slice a1 n1 c1,.slice a2 n2 c2],.agg #[.slice a3 n3 c3,.slice a4 n4 c4]].toArray w (Ag fun rv w'=>rv=.bool ((a==b))∧Ext w w'):=by
 cases h1.len
 cases h2.len
 cases h3.len
 cases h4.len
 refine goT func159 ?_
 have Z:=((((St.i0 F w).p h1).p h2).p h3).p h4
 have aa:=h1.max
 have ab:=h2.max
 have ac:=h3.max
 have ae:=h4.max
 refine .s<|.g<|RG.Np Z fun ag w Z=>RG.Np Z fun ah w Z=>.r 1<|.d<|.s<|.g<|.r 1<|RG.Lb 1 Z<|.r 1<|RG.Lb 0 Z<|RG.C0 (Dz a.ids b.ids (Z.a 3) (Z.a 1)) Z fun w Z=>?_
 cases af:(a.ids==b.ids)
 ·exact .r 8<|.d<|T.rt func159 results159 (.bool false) ⟨(AG (by cases a; cases b; grind)),Z.xt⟩
 exact .r 2<|RG.Lb 1 Z<|.r 1<|RG.Lb 0 Z<|RG.C0 (Hx a.blocks b.blocks (Z.a 2) (Z.a 0)) Z fun w Z=>.r 2<|.d<|T.rt func159 results159 (.bool (a.blocks==b.blocks)) ⟨(AG (by cases a; cases b; grind)),Z.xt⟩
theorem Ib (s1:List Prt) (s2:List Prt) (h1:RepS w F a1 n1 c1 s1) (h2:RepS w F a2 n2 c2 s2)  : Calls Tryz.prog 157 [.slice a1 n1 c1,.slice a2 n2 c2,.func (.func 159) #[] #[]].toArray w (Ag fun rv w'=>rv=.bool ((s1==s2))∧Ext w w'):=by
 cases h1.len
 cases h2.len
 refine goT func157 ?_
 have Z:=((St.i0 F w).p h1).p h2
 have ak:=h1.max
 refine .s<|.g<|.r 1<|.d<|.s<|.s<|.g<|.r 4<|.ne (s1.length:Int) (s2.length:Int) (fun ae=>.d<|.ct<|.s<|.g<|.r 1<|.d<|T.rt func157 results157 (.bool false) ⟨(AG (by grind [Aa])),Z.xt⟩) fun ae=>.d<|.cf<|.sk<|.s<|.s<|.g<|.r 3<|.d<|.b 0<|T.Lp (0:Nat) (fun k=>([(1,.slice a2 s2.length c2),(2,.func (.func 159) #[] #[]),(15,.slice a1 s1.length c1),(16,vI (s1.length:Int)),(17,vI (k:Int))],[],[],s1.length - k,(k≤s1.length)∧(s1.drop k=s2.drop k↔s1=s2))) [] Z ⟨AD,AD⟩ ?_
 rintro k az w Z ⟨ao,aq⟩ ac
 refine .s<|.g<|.bp ((k:Int)< (s1.length:Int)) (fun af=>?_) (fun af=>.d<|.s<|.cf<|.x 0 rfl<|.s<|.g<|.r 1<|.d<|T.rt func157 results157 (.bool true) ⟨(AG (by grind [Aa])),Z.xt⟩)
 refine .d<|.s<|.ct<|.sk<|.s<|.b 1<|.s<|.g<|.r 1<|gx s1 k fun ag aa=>?_
 have ar:=AZ aa
 refine RG.Ix 1 aa Z<|Z.el 1 aa fun aA aB aC aD Z=>RG.Lg 0 0 Z<|RG.Np Z fun aE w Z=>.r 1<|RG.Ss 0 Z fun w Z=>.d<|.s<|.g<|.r 2<|gx s2 k fun ah ab=>?_
 have ax:=AZ ab
 refine RG.Ix 3 ab Z<|Z.el 3 ab fun aF aG aH aI Z=>RG.Lg 0 0 Z<|RG.Np Z fun aJ w Z=>RG.Ss 0 Z fun w Z=>.d<|.s<|.g<|.r 1<|RG.Ln 1 Z<|RG.Ln 0 Z<|RG.C0 (Jw ag ah (Z.a 4) (Z.a 5) (Z.a 1) (Z.a 2)) Z fun w Z=>?_
 cases ay:(ag==ah)
 ·exact .r 1<|.d<|.ct<|.s<|.g<|.r 1<|.d<|T.rt func157 results157 (.bool false) ⟨(AG (by grind [Aa])),Z.xt⟩
 exact .r 1<|.d<|.cf<|.sk<|.ib 1<|.g<|.it ((k:Int)+1)<|.r 1<|.d<|ac (k+1) _ _ AA (Z.to 2 [] 6) ⟨AB,(by grind)⟩ (by (simp only []; omega))
theorem Fi (d:Dsk) (h1:RepS w F a1 n1 c1 d.files) (h2:RepS w F a2 n2 c2 d.list) (h3:RepS w F a3 n3 c3 d.names)  : Calls Tryz.prog 126 [.agg #[.slice a1 n1 c1,.slice a2 n2 c2,.slice a3 n3 c3,.int .i64 d.next]].toArray w (Ag fun rv w'=>rv=.bool (Ef d)∧Ext w w'):=by
 cases h1.len
 cases h2.len
 cases h3.len
 refine goT func126 ?_
 have Z:=(((St.i0 F w).p h1).p h2).p h3
 exact .s<|.g<|RG.Np Z fun af w Z=>.r 1<|.d<|.s<|.g<|.r 1<|RG.Lb 0 Z<|.eq d.next 999 (fun aa=>.r 7<|.d<|T.rt func126 results126 (.bool true) ⟨(AG (by exact So ‹_›)),Z.xt⟩) fun aa=>.r 2<|RG.Lb 0 Z<|.r 4<|.d<|T.rt func126 results126 (.bool ((d.files.length:Int)==20)) ⟨(AG (by exact UY ‹_›)),Z.xt⟩
theorem K1 (s:Sto) (d:Dsk) (h1:RepS w F a1 n1 c1 s.idx.names) (h2:RepS w F a2 n2 c2 s.idx.AY) (h3:RepS w F a3 n3 c3 s.parts) (h4:RepS w F a4 n4 c4 s.mem) (h5:RepS w F a5 n5 c5 d.files) (h6:RepS w F a6 n6 c6 d.list) (h7:RepS w F a7 n7 c7 d.names) (p0:SG s) (p1:DD d):Calls Tryz.prog 101 [.agg #[.slice a1 n1 c1,.slice a2 n2 c2,.slice a3 n3 c3,.slice a4 n4 c4],.agg #[.slice a5 n5 c5,.slice a6 n6 c6,.slice a7 n7 c7,.int .i64 d.next]].toArray w (Ag fun rv w'=>rv=.bool (Cd d s)∧Ext w w'):=by
 cases h1.len
 cases h2.len
 cases h3.len
 cases h4.len
 cases h5.len
 cases h6.len
 cases h7.len
 refine goT func101 ?_
 have Z:=(((((((St.i0 F w).p h1).p h2).p h3).p h4).p h5).p h6).p h7
 have am:=h7.max
 refine .s<|.g<|RG.Np Z fun ay w Z=>RG.Np Z fun az w Z=>.r 1<|.d<|.s<|.s<|T.Gd 14 Z fun w Z=>GA.Ln 0 1 Z<|GA.C0 1 Z (fun w Z=>Eb s (Z.a 6) (Z.a 5) (Z.a 4) (Z.a 3) p0) ?_
 cases ao:(nmB s.idx.names&&Ae s)
 ·exact .r [2,3,4,5,6,7,8]<|GA.Sk Z fun w Z=>.r 3<|.d<|.ct<|.s<|.g<|.r 1<|.d<|T.rt func101 results101 (.bool false) ⟨(AG (by exact WE ‹_›)),Z.xt⟩
 refine .r [2,3]<|GA.Ln 4 0 Z<|GA.C0 5 Z (fun w Z=>Cv d (Z.a 2) (Z.a 1) (Z.a 0) p1) ?_
 cases aq:(Ax d)
 ·exact .r [6,7,8]<|GA.Sk Z fun w Z=>.r 3<|.d<|.ct<|.s<|.g<|.r 1<|.d<|T.rt func101 results101 (.bool false) ⟨(AG (by exact WC ‹_›)),Z.xt⟩
 refine .r [6,7,8,9]<|GA.Lb 10 1 Z<|GA.Ln 11 0 Z<|.go 12<|GE.Cg (fun w Z=>Fh d (Z.a 2) (Z.a 1) (Z.a 0) p1 (EX (Cs ‹_›).2.2.2)) Z ?_
 rintro w aA w Z ⟨⟨ab,ae,ar⟩,aa⟩
 refine ⟨Ext.chg aa,?_⟩
 refine GA.vS Z ae aa ?_
 intro aB aC aD aE aF aG aH aI Z
 refine .r [13]<|GA.Dn Z fun w Z=>RG.C0 (Ib s.parts ab.parts (Z.a 8) (Z.a 2)) Z fun w Z=>?_
 cases ax:(s.parts==ab.parts)
 ·exact .r 2<|.d<|.ct<|.s<|.g<|.r 1<|.d<|T.rt func101 results101 (.bool false) ⟨(AG (by exact WH ‹_› ‹_›)),Z.xt⟩
 exact .r 2<|.d<|.cf<|.sk<|.s<|.g<|.r 1<|RG.Lb 0 Z<|.r 2<|.d<|.s<|T.Gd 14 Z fun w Z=>.r [0,1,2]<|GA.Lb 3 1 Z<|.r [4]<|GA.GY (i:=5) ((d.names.length:Int)≤(s.idx.names.length:Int)) AA (fun ac=>.r [6,7]<|GA.Lb 8 0 Z<|.r [9,10]<|GA.Lb 11 1 Z<|.r [12]<|GA.Sb (hhi:=bdS AA) 13 10 0 d.names.length s.idx.names Z fun aJ aK Z=>GA.Dn Z fun w Z=>RG.C0 (Ia d.names ((s.idx.names.take d.names.length).drop 0) (Z.a 5) (Z.a 0)) Z fun w Z=>.r 2<|.d<|T.rt func101 results101 (.bool (d.names==((s.idx.names.take d.names.length).drop 0))) ⟨(AG (by exact WL ‹_› ‹_› ‹_› ‹_› AD)),Z.xt⟩) fun ac=>.r [6]<|GA.Sk Z fun w Z=>.r 3<|.d<|T.rt func101 results101 (.bool false) ⟨(AG (by exact WK ‹_›)),Z.xt⟩
theorem Ic (d:Dsk) (s:Sto) (h1:RepS w F a1 n1 c1 d.files) (h2:RepS w F a2 n2 c2 d.list) (h3:RepS w F a3 n3 c3 d.names) (h4:RepS w F a4 n4 c4 s.idx.names) (h5:RepS w F a5 n5 c5 s.idx.AY) (h6:RepS w F a6 n6 c6 s.parts) (h7:RepS w F a7 n7 c7 s.mem) (p0:DD d) (p1:SG s):Calls Tryz.prog 61 [.agg #[.slice a1 n1 c1,.slice a2 n2 c2,.slice a3 n3 c3,.int .i64 d.next],.agg #[.slice a4 n4 c4,.slice a5 n5 c5,.slice a6 n6 c6,.slice a7 n7 c7]].toArray w (Ag fun rv w'=>VL (ge w.heap.size) w' (Ao d s:List Stp) rv∧Ext w w'):=by
 cases h1.len
 cases h2.len
 cases h3.len
 cases h4.len
 cases h5.len
 cases h6.len
 cases h7.len
 refine goT func61 ?_
 have Z:=(((((((St.i0 F w).p h1).p h2).p h3).p h4).p h5).p h6).p h7
 have ag:=h2.max
 have ai:=h4.max
 have am:=h7.max
 refine .s<|.g<|RG.Np Z fun ac w Z=>RG.Np Z fun ae w Z=>.r 1<|.d<|.s<|.s<|.g<|RG.Ln 0 Z<|RG.Ln 1 Z<|RG.C0 (K1 s d (Z.a 3) (Z.a 2) (Z.a 1) (Z.a 0) (Z.a 6) (Z.a 5) (Z.a 4) p1 p0) Z fun w Z=>?_
 cases ao:(Cd d s)
 ·exact .r 17<|.d<|.ct<|.s<|.g<|RG.N0 Stp 0 Z fun bi w Z=>.r 1<|.d<|T.Rt func61 results61 ⟨Z.rM 0 ([]:List Stp) (by exact XQ ‹_›),Z.xt⟩
 refine .r 3<|RG.Lb 0 Z<|.r 1<|.eq (s.mem.length:Int) 0 (fun aa=>.r 11<|.d<|.ct<|.s<|.g<|RG.N0 Stp 0 Z fun bj w Z=>.r 1<|.d<|T.Rt func61 results61 ⟨Z.rM 0 ([]:List Stp) (by exact WM (.inl ‹_›)),Z.xt⟩) fun aa=>.r 3<|RG.Lb 1 Z<|.r 1<|.eq (d.list.length:Int) 6 (fun ab=>.r 5<|.d<|.ct<|.s<|.g<|RG.N0 Stp 0 Z fun bk w Z=>.r 1<|.d<|T.Rt func61 results61 ⟨Z.rM 0 ([]:List Stp) (by exact WM (.inr (.inl ‹_›))),Z.xt⟩) fun ab=>.r 2<|RG.Ln 1 Z<|RG.C0 (Fi d (Z.a 6) (Z.a 5) (Z.a 4)) Z fun w Z=>?_
 cases aq:(Ef d)
 ·refine .r 1<|.d<|.cf<|.sk<|.s<|T.GS 18 [ae,ac] Z fun _ w Z=>.r [0]<|GA.Lb (q:=1) 1 1 Z<|GA.Ln 2 0 Z<|.r [6]<|GA.Lb (q:=1) 7 1 Z<|.r [9]<|GA.Lb (q:=1) 10 1 Z<|.r [13,14]<|GA.Lb 15 0 Z<|GE.many [3,5,11] AA (all_cons ?_ (all_cons ?_ (all_cons ?_ all_nil)))
  ·refine GE.CS (fun w Z=>CC s (Z.a 3) (Z.a 2) (Z.a 1) (Z.a 0) (StoK.of (Cw p1 ‹_›) (C2 ‹_›).sk).row (StoK.of (Cw p1 ‹_›) (C2 ‹_›).sk).IN.Iz (by have:=p1.nm2; omega)) Z fun bm bn bo bq w Z=>.r [4]<|.tw 5 11 ?_ ?_
   ·refine GE.N0 Int 0 Z fun br w Z=>.tw 8 11 ?_ ?_
    ·exact GE.An (hs:=by (simp only [List.nil_append,List.length_nil,List.length_append,List.length_cons] <;> exact (by have:=p0.nl; omega))) (hf:=.inr Au) 0 7 ([]:List Int) d.list [1,2] Z fun bu bv w Z=>.go 11<|GE.Nb 1 Z fun bw w Z=>.go 12<|GE.Ap (hs:=by (simp only [List.nil_append,List.length_nil,List.length_append,List.length_cons] <;> exact (by have:=p0.nl; omega))) 0 0 ([]++d.list) d.next [] [1,2] Z fun bz bA w Z=>.go 16<|GE.CO 0 (fun w Z=>BH s.idx.names (Z.a 5) (by have:=p1.ix.g.len; omega) (by (intro n hn; have:=(p1.ix.g.sz n hn).1; omega))) Z fun bC bD w Z=>.r [17]<|GA.Do Z fun w Z=>RG.Nl 0 ([(⟨1,d.next,(⟨(Ah s.mem).ids,(Ah s.mem).blocks⟩:Prt),([]:List Int),([]:List (List Tag))⟩:Stp),(⟨2,0,(⟨([]:List Int),([]:List (List Row))⟩:Prt),(([]++d.list)++[d.next]),s.idx.names⟩:Stp)]:List Stp) [[6,7,5,4],[1,0,3,2]] ((((((Z.nl Int).nl (List Tag)).sl 1).sl 0).nl Int).nl (List Row)) fun bE w Z=>.r 1<|.d<|T.Rt func61 results61 ⟨Z.rM 0 ([(⟨1,d.next,(⟨(Ah s.mem).ids,(Ah s.mem).blocks⟩:Prt),([]:List Int),([]:List (List Tag))⟩:Stp),(⟨2,0,(⟨([]:List Int),([]:List (List Row))⟩:Prt),(([]++d.list)++[d.next]),s.idx.names⟩:Stp)]:List Stp) (by exact OV ‹_› ‹_› ‹_› ‹_› p0),Z.xt⟩
    exact GE.Nb 1 Z fun bF w Z=>.go 8<|GE.An (hs:=by (simp only [List.nil_append,List.length_nil,List.length_append,List.length_cons] <;> exact (by have:=p0.nl; omega))) (hf:=.inr Au) 1 7 ([]:List Int) d.list [2,3] Z fun bG bH w Z=>.go 12<|GE.Ap (hs:=by (simp only [List.nil_append,List.length_nil,List.length_append,List.length_cons] <;> exact (by have:=p0.nl; omega))) 0 0 ([]++d.list) d.next [] [1,2] Z fun bI bJ w Z=>.go 16<|GE.CO 0 (fun w Z=>BH s.idx.names (Z.a 5) (by have:=p1.ix.g.len; omega) (by (intro n hn; have:=(p1.ix.g.sz n hn).1; omega))) Z fun bK bL w Z=>.r [17]<|GA.Do Z fun w Z=>RG.Nl 0 ([(⟨1,d.next,(⟨(Ah s.mem).ids,(Ah s.mem).blocks⟩:Prt),([]:List Int),([]:List (List Tag))⟩:Stp),(⟨2,0,(⟨([]:List Int),([]:List (List Row))⟩:Prt),(([]++d.list)++[d.next]),s.idx.names⟩:Stp)]:List Stp) [[6,7,5,4],[1,0,3,2]] ((((((Z.nl Int).nl (List Tag)).sl 1).sl 0).nl Int).nl (List Row)) fun bM w Z=>.r 1<|.d<|T.Rt func61 results61 ⟨Z.rM 0 ([(⟨1,d.next,(⟨(Ah s.mem).ids,(Ah s.mem).blocks⟩:Prt),([]:List Int),([]:List (List Tag))⟩:Stp),(⟨2,0,(⟨([]:List Int),([]:List (List Row))⟩:Prt),(([]++d.list)++[d.next]),s.idx.names⟩:Stp)]:List Stp) (by exact OV ‹_› ‹_› ‹_› ‹_› p0),Z.xt⟩
   exact GE.Nb 1 Z fun bN w Z=>.go 5<|GE.N0 Int 0 Z fun bO w Z=>.go 8<|GE.An (hs:=by (simp only [List.nil_append,List.length_nil,List.length_append,List.length_cons] <;> exact (by have:=p0.nl; omega))) (hf:=.inr Au) 0 7 ([]:List Int) d.list [2,3] Z fun bP bQ w Z=>.go 12<|GE.Ap (hs:=by (simp only [List.nil_append,List.length_nil,List.length_append,List.length_cons] <;> exact (by have:=p0.nl; omega))) 0 1 ([]++d.list) d.next [] [1,2] Z fun bR bS w Z=>.go 16<|GE.CO 0 (fun w Z=>BH s.idx.names (Z.a 5) (by have:=p1.ix.g.len; omega) (by (intro n hn; have:=(p1.ix.g.sz n hn).1; omega))) Z fun bT bU w Z=>.r [17]<|GA.Do Z fun w Z=>RG.Nl 0 ([(⟨1,d.next,(⟨(Ah s.mem).ids,(Ah s.mem).blocks⟩:Prt),([]:List Int),([]:List (List Tag))⟩:Stp),(⟨2,0,(⟨([]:List Int),([]:List (List Row))⟩:Prt),(([]++d.list)++[d.next]),s.idx.names⟩:Stp)]:List Stp) [[6,7,5,4],[1,0,3,2]] ((((((Z.nl Int).nl (List Tag)).sl 1).sl 0).nl Int).nl (List Row)) fun bV w Z=>.r 1<|.d<|T.Rt func61 results61 ⟨Z.rM 0 ([(⟨1,d.next,(⟨(Ah s.mem).ids,(Ah s.mem).blocks⟩:Prt),([]:List Int),([]:List (List Tag))⟩:Stp),(⟨2,0,(⟨([]:List Int),([]:List (List Row))⟩:Prt),(([]++d.list)++[d.next]),s.idx.names⟩:Stp)]:List Stp) (by exact OV ‹_› ‹_› ‹_› ‹_› p0),Z.xt⟩
  ·refine GE.N0 Int 0 Z fun bW w Z=>.tw 3 11 ?_ ?_
   ·refine GE.CS (fun w Z=>CC s (Z.a 3) (Z.a 2) (Z.a 1) (Z.a 0) (StoK.of (Cw p1 ‹_›) (C2 ‹_›).sk).row (StoK.of (Cw p1 ‹_›) (C2 ‹_›).sk).IN.Iz (by have:=p1.nm2; omega)) Z fun bX bY bZ b6 w Z=>.r [4]<|.tw 8 11 ?_ ?_
    ·exact GE.An (hs:=by (simp only [List.nil_append,List.length_nil,List.length_append,List.length_cons] <;> exact (by have:=p0.nl; omega))) (hf:=.inr Au) 0 7 ([]:List Int) d.list [1,2] Z fun b7 b8 w Z=>.go 11<|GE.Nb 1 Z fun b9 w Z=>.go 12<|GE.Ap (hs:=by (simp only [List.nil_append,List.length_nil,List.length_append,List.length_cons] <;> exact (by have:=p0.nl; omega))) 0 0 ([]++d.list) d.next [] [1,2] Z fun cd ce w Z=>.go 16<|GE.CO 0 (fun w Z=>BH s.idx.names (Z.a 5) (by have:=p1.ix.g.len; omega) (by (intro n hn; have:=(p1.ix.g.sz n hn).1; omega))) Z fun cg ci w Z=>.r [17]<|GA.Do Z fun w Z=>RG.Nl 0 ([(⟨1,d.next,(⟨(Ah s.mem).ids,(Ah s.mem).blocks⟩:Prt),([]:List Int),([]:List (List Tag))⟩:Stp),(⟨2,0,(⟨([]:List Int),([]:List (List Row))⟩:Prt),(([]++d.list)++[d.next]),s.idx.names⟩:Stp)]:List Stp) [[6,7,5,4],[1,0,3,2]] ((((((Z.nl Int).nl (List Tag)).sl 1).sl 0).nl Int).nl (List Row)) fun cj w Z=>.r 1<|.d<|T.Rt func61 results61 ⟨Z.rM 0 ([(⟨1,d.next,(⟨(Ah s.mem).ids,(Ah s.mem).blocks⟩:Prt),([]:List Int),([]:List (List Tag))⟩:Stp),(⟨2,0,(⟨([]:List Int),([]:List (List Row))⟩:Prt),(([]++d.list)++[d.next]),s.idx.names⟩:Stp)]:List Stp) (by exact OV ‹_› ‹_› ‹_› ‹_› p0),Z.xt⟩
    exact GE.Nb 1 Z fun ck w Z=>.go 8<|GE.An (hs:=by (simp only [List.nil_append,List.length_nil,List.length_append,List.length_cons] <;> exact (by have:=p0.nl; omega))) (hf:=.inr Au) 1 7 ([]:List Int) d.list [2,3] Z fun cm co w Z=>.go 12<|GE.Ap (hs:=by (simp only [List.nil_append,List.length_nil,List.length_append,List.length_cons] <;> exact (by have:=p0.nl; omega))) 0 0 ([]++d.list) d.next [] [1,2] Z fun cp cq w Z=>.go 16<|GE.CO 0 (fun w Z=>BH s.idx.names (Z.a 5) (by have:=p1.ix.g.len; omega) (by (intro n hn; have:=(p1.ix.g.sz n hn).1; omega))) Z fun cr cu w Z=>.r [17]<|GA.Do Z fun w Z=>RG.Nl 0 ([(⟨1,d.next,(⟨(Ah s.mem).ids,(Ah s.mem).blocks⟩:Prt),([]:List Int),([]:List (List Tag))⟩:Stp),(⟨2,0,(⟨([]:List Int),([]:List (List Row))⟩:Prt),(([]++d.list)++[d.next]),s.idx.names⟩:Stp)]:List Stp) [[6,7,5,4],[1,0,3,2]] ((((((Z.nl Int).nl (List Tag)).sl 1).sl 0).nl Int).nl (List Row)) fun cw w Z=>.r 1<|.d<|T.Rt func61 results61 ⟨Z.rM 0 ([(⟨1,d.next,(⟨(Ah s.mem).ids,(Ah s.mem).blocks⟩:Prt),([]:List Int),([]:List (List Tag))⟩:Stp),(⟨2,0,(⟨([]:List Int),([]:List (List Row))⟩:Prt),(([]++d.list)++[d.next]),s.idx.names⟩:Stp)]:List Stp) (by exact OV ‹_› ‹_› ‹_› ‹_› p0),Z.xt⟩
   exact GE.Nb 1 Z fun cx w Z=>.go 3<|GE.CS (fun w Z=>CC s (Z.a 3) (Z.a 2) (Z.a 1) (Z.a 0) (StoK.of (Cw p1 ‹_›) (C2 ‹_›).sk).row (StoK.of (Cw p1 ‹_›) (C2 ‹_›).sk).IN.Iz (by have:=p1.nm2; omega)) Z fun cy cz cA cB w Z=>.r [4]<|.go 8<|GE.An (hs:=by (simp only [List.nil_append,List.length_nil,List.length_append,List.length_cons] <;> exact (by have:=p0.nl; omega))) (hf:=.inr Au) 1 7 ([]:List Int) d.list [2,3] Z fun ar ax w Z=>.go 12<|GE.Ap (hs:=by (simp only [List.nil_append,List.length_nil,List.length_append,List.length_cons] <;> exact (by have:=p0.nl; omega))) 0 0 ([]++d.list) d.next [] [1,2] Z fun ay az w Z=>.go 16<|GE.CO 0 (fun w Z=>BH s.idx.names (Z.a 5) (by have:=p1.ix.g.len; omega) (by (intro n hn; have:=(p1.ix.g.sz n hn).1; omega))) Z fun aA aB w Z=>.r [17]<|GA.Do Z fun w Z=>RG.Nl 0 ([(⟨1,d.next,(⟨(Ah s.mem).ids,(Ah s.mem).blocks⟩:Prt),([]:List Int),([]:List (List Tag))⟩:Stp),(⟨2,0,(⟨([]:List Int),([]:List (List Row))⟩:Prt),(([]++d.list)++[d.next]),s.idx.names⟩:Stp)]:List Stp) [[6,7,5,4],[1,0,3,2]] ((((((Z.nl Int).nl (List Tag)).sl 1).sl 0).nl Int).nl (List Row)) fun aC w Z=>.r 1<|.d<|T.Rt func61 results61 ⟨Z.rM 0 ([(⟨1,d.next,(⟨(Ah s.mem).ids,(Ah s.mem).blocks⟩:Prt),([]:List Int),([]:List (List Tag))⟩:Stp),(⟨2,0,(⟨([]:List Int),([]:List (List Row))⟩:Prt),(([]++d.list)++[d.next]),s.idx.names⟩:Stp)]:List Stp) (by exact OV ‹_› ‹_› ‹_› ‹_› p0),Z.xt⟩
  refine GE.Nb 1 Z fun aD w Z=>.tw 3 5 ?_ ?_
  ·exact GE.CS (fun w Z=>CC s (Z.a 3) (Z.a 2) (Z.a 1) (Z.a 0) (StoK.of (Cw p1 ‹_›) (C2 ‹_›).sk).row (StoK.of (Cw p1 ‹_›) (C2 ‹_›).sk).IN.Iz (by have:=p1.nm2; omega)) Z fun aE aF aG aH w Z=>.r [4]<|.go 5<|GE.N0 Int 0 Z fun aI w Z=>.go 8<|GE.An (hs:=by (simp only [List.nil_append,List.length_nil,List.length_append,List.length_cons] <;> exact (by have:=p0.nl; omega))) (hf:=.inr Au) 0 7 ([]:List Int) d.list [2,3] Z fun aJ aK w Z=>.go 12<|GE.Ap (hs:=by (simp only [List.nil_append,List.length_nil,List.length_append,List.length_cons] <;> exact (by have:=p0.nl; omega))) 0 1 ([]++d.list) d.next [] [1,2] Z fun aL aM w Z=>.go 16<|GE.CO 0 (fun w Z=>BH s.idx.names (Z.a 5) (by have:=p1.ix.g.len; omega) (by (intro n hn; have:=(p1.ix.g.sz n hn).1; omega))) Z fun aN aO w Z=>.r [17]<|GA.Do Z fun w Z=>RG.Nl 0 ([(⟨1,d.next,(⟨(Ah s.mem).ids,(Ah s.mem).blocks⟩:Prt),([]:List Int),([]:List (List Tag))⟩:Stp),(⟨2,0,(⟨([]:List Int),([]:List (List Row))⟩:Prt),(([]++d.list)++[d.next]),s.idx.names⟩:Stp)]:List Stp) [[6,7,5,4],[1,0,3,2]] ((((((Z.nl Int).nl (List Tag)).sl 1).sl 0).nl Int).nl (List Row)) fun aP w Z=>.r 1<|.d<|T.Rt func61 results61 ⟨Z.rM 0 ([(⟨1,d.next,(⟨(Ah s.mem).ids,(Ah s.mem).blocks⟩:Prt),([]:List Int),([]:List (List Tag))⟩:Stp),(⟨2,0,(⟨([]:List Int),([]:List (List Row))⟩:Prt),(([]++d.list)++[d.next]),s.idx.names⟩:Stp)]:List Stp) (by exact OV ‹_› ‹_› ‹_› ‹_› p0),Z.xt⟩
  exact GE.N0 Int 0 Z fun aQ w Z=>.go 3<|GE.CS (fun w Z=>CC s (Z.a 3) (Z.a 2) (Z.a 1) (Z.a 0) (StoK.of (Cw p1 ‹_›) (C2 ‹_›).sk).row (StoK.of (Cw p1 ‹_›) (C2 ‹_›).sk).IN.Iz (by have:=p1.nm2; omega)) Z fun aR aS aT aU w Z=>.r [4]<|.go 8<|GE.An (hs:=by (simp only [List.nil_append,List.length_nil,List.length_append,List.length_cons] <;> exact (by have:=p0.nl; omega))) (hf:=.inr Au) 0 7 ([]:List Int) d.list [2,3] Z fun aV aW w Z=>.go 12<|GE.Ap (hs:=by (simp only [List.nil_append,List.length_nil,List.length_append,List.length_cons] <;> exact (by have:=p0.nl; omega))) 0 1 ([]++d.list) d.next [] [1,2] Z fun aX aY w Z=>.go 16<|GE.CO 0 (fun w Z=>BH s.idx.names (Z.a 5) (by have:=p1.ix.g.len; omega) (by (intro n hn; have:=(p1.ix.g.sz n hn).1; omega))) Z fun aZ ba w Z=>.r [17]<|GA.Do Z fun w Z=>RG.Nl 0 ([(⟨1,d.next,(⟨(Ah s.mem).ids,(Ah s.mem).blocks⟩:Prt),([]:List Int),([]:List (List Tag))⟩:Stp),(⟨2,0,(⟨([]:List Int),([]:List (List Row))⟩:Prt),(([]++d.list)++[d.next]),s.idx.names⟩:Stp)]:List Stp) [[6,7,5,4],[1,0,3,2]] ((((((Z.nl Int).nl (List Tag)).sl 1).sl 0).nl Int).nl (List Row)) fun bg w Z=>.r 1<|.d<|T.Rt func61 results61 ⟨Z.rM 0 ([(⟨1,d.next,(⟨(Ah s.mem).ids,(Ah s.mem).blocks⟩:Prt),([]:List Int),([]:List (List Tag))⟩:Stp),(⟨2,0,(⟨([]:List Int),([]:List (List Row))⟩:Prt),(([]++d.list)++[d.next]),s.idx.names⟩:Stp)]:List Stp) (by exact OV ‹_› ‹_› ‹_› ‹_› p0),Z.xt⟩
 exact .r 1<|.d<|.ct<|.s<|.g<|RG.N0 Stp 0 Z fun bh w Z=>.r 1<|.d<|T.Rt func61 results61 ⟨Z.rM 0 ([]:List Stp) (by exact WM (.inr (.inr ‹_›))),Z.xt⟩
end Go.Proofs.YtcginoabkicdiaaGreat
namespace Go.Proofs.YtcginoabkicdiaaGreat
section
variable {α:Type} [Rep α] {w:World} {G F:Nat→Prop} {M ML M2:List Nat} {o:Option Addr} {n c r s b x:Nat} {t:TypeId} {xs:List α}
theorem RepS.Q6 (h:RepS w (nin F M) o n c xs):RepS w (nin (fo F s) M) o n c xs:=h.Bd fun _ _ hF=>⟨.inl hF.1,hF.2⟩
theorem RepS.toM (h:RepS w (nin G M) o n c xs) (hs:∀ b∈ML,b∈M):RepS w (nin (nin G M) ML) o n c xs:=h.Bd fun k _ hk=>⟨hk,fun e=>hk.2 (hs k e)⟩
theorem Own.toM (h:Own w r t (nin G M) n c xs) (hs:∀ b∈ML,b∈M):Own w r t (nin (nin G M) ML) n c xs:=h.Bd fun k _ hk=>⟨hk,fun e=>hk.2 (hs k e)⟩
theorem Cov.mkI {L:List Nat}(h:b∈L):Cov (ins L) w b:=⟨.inl h⟩
theorem JI (h:Cov (ins [b,r]) w x) (hn:Nb x b):OrB x r w.heap.size:=by
 rcases h.or with h | h
 ·have h2:x∈[b,r]:=h
  rcases List.mem_cons.1 h2 with rfl | h2
  ·exact absurd rfl hn.ne
  ·simp at h2
   exact .inl h2
 ·exact .inr h
theorem Sq {k:Nat}(h:nin (fo (nin G M) s) ML k) (hM:∀ b∈M,b< s) (hG:∀ b,s≤b→G b) (h2:∀ b∈M2,b∈ML∨b∈M):nin G M2 k:=by
 refine ⟨?_,fun hm=>?_⟩
 ·rcases h.1 with h1 | h1
  ·exact h1.1
  ·exact hG _ h1
 ·rcases h2 k hm with h3 | h3
  ·exact h.2 h3
  ·rcases h.1 with h1 | h1
   ·exact h1.2 h3
   ·have:=hM k h3; omega
theorem RepS.bxM (h:RepS w (nin (fo (nin G M) s) ML) o n c xs) (hM:∀ b∈M,b< s) (hG:∀ b,s≤b→G b) (h2:∀ b∈M2,b∈ML∨b∈M):RepS w (nin G M2) o n c xs:=h.Bd fun _ _ hk=>Sq hk hM hG h2
theorem Own.bxM (h:Own w r t (nin (fo (nin G M) s) ML) n c xs) (hM:∀ b∈M,b< s) (hG:∀ b,s≤b→G b) (h2:∀ b∈M2,b∈ML∨b∈M):Own w r t (nin G M2) n c xs:=h.Bd fun _ _ hk=>Sq hk hM hG h2
end
theorem Own.X3 {w:World}{r:Nat}{t:TypeId}{F:Nat→Prop}{n c i:Nat}{xs:List Fil}{cs:List Value}(h:Own w r t F n c xs) (hB:Box w r t cs):∀ v,i+(n - i)≤n→v∈(cs.drop (i * 3)).take ((n - i) * 3)→Go.Proofs.YtcginoabkicdiaaGreat.Cn v=true:=by
 intro v hin hv
 obtain ⟨k,hk⟩:=List.mem_iff_getElem?.1 hv
 rw [List.getElem?_take] at hk
 split at hk
 ·rename_i hlt
  rw [List.getElem?_drop] at hk
  have hn:=h.len
  have hj:i+k / 3< xs.length:=by omega
  obtain ⟨c1,g1,g2⟩:=h.elem (i+k / 3) xs[i+k / 3] (AU hj)
  have hl:c1.length=3:=Rep.len g1
  have hk2:k % 3< c1.length:=by omega
  have h3:=g2 (k % 3) c1[k % 3] (AU hk2)
  have hz:Rep.sz Fil=3:=rfl
  unfold Box at hB
  rw [add_lit,hz] at h3
  simp only [World.cell?,hB] at h3
  have e:(i+k / 3) * 3+k % 3=i * 3+k:=by omega
  rw [e] at h3
  have h4:cs[i * 3+k]? = some c1[k % 3]:=by simpa using h3
  rw [hk] at h4
  cases h4
  exact Rep.flat g1 _ (List.getElem_mem hk2)
 ·cases hk
theorem Su {P:Program}{T ty t:TypeId}{sz:Nat}{w:World}{r o c m:Nat}{cs:List Value}(hT:UP P T t sz=true) (hB:Box w r t cs) (hm:0< m) (hfit:o+m * sz≤cs.length) :
 ∃ vs w',(Builtin.clear_ #[T] ty #[.slice (some ⟨r,o,none⟩) m c]).run P w=.ok (.tuple #[]) w'∧vs.length=m * sz∧Box w' r t (Av cs o vs)∧Chg (one r) w w':=by
 unfold UP at hT
 simp only [AW] at hT
 obtain ⟨h1,h2⟩:=hT
 split at h1
 ·rename_i e he
  have:=Nat.eq_of_beq_eq_true h1
  subst this
  split at h2
  ·rename_i inf hinf
   split at h2
   ·rename_i z hz
    simp only [AW,List.all_eq_true] at h2
    have hsz:=Nat.eq_of_beq_eq_true h2.1
    have hl:(Builtin.zeroCells z.cells m).toList.length=m * sz:=by rw [Array.length_toList,size_zeroCells,hsz]
    have ho:∀ v∈(Builtin.zeroCells z.cells m).toList,Cn v=true:=fun v hv=>by
     unfold Builtin.zeroCells at hv
     simp only [Array.toList_map,List.mem_map,Array.toList_range,List.mem_range] at hv
     obtain ⟨k,hk,rfl⟩:=hv
     have hk2:k % z.cells.size< z.cells.size:=Nat.mod_lt _ (Nat.pos_of_ne_zero (fun e=>by rw [e,Nat.mul_zero] at hk; omega))
     refine h2.2 _ ?_
     rw [getElem!_pos z.cells _ hk2]
     exact Array.getElem_mem_toList hk2
    obtain ⟨w',g1,g2,g3,_⟩:=hB.Mf (P:=P) (Builtin.zeroCells z.cells m).toList (o:=o) (i:=0) AB ho
    refine ⟨_,w',?_,hl,g2,g3⟩
    have hv:(zeroValue e).run P w=.ok z w:=by simp [zeroValue,typeInfo,hinf,hz,go_sem]
    unfold Builtin.clear_
    simp only [List.getElem?_toArray,List.getElem?_cons_zero]
    rw [AX (run_underlying he w)]
    obtain ⟨m',rfl⟩:∃ k,m=k+1:=⟨m - 1,by omega⟩
    simp only []
    rw [AX hv,AX g1]
    rfl
   ·cases h2
  ·cases h2
 ·cases h1
theorem Own.WN {α:Type}[Rep α] {w w':World}{r:Nat}{t:TypeId}{F:Nat→Prop}{n c i:Nat}{xs:List α}{cs cs':List Value}(h:Own w r t F n c xs) (hx:Chg (one r) w w') (hB:Box w r t cs) (hB':Box w' r t cs') (hl:cs'.length=c * Rep.sz α) (hi:i≤n)
 (hp:∀ p,p< i * Rep.sz α→cs'[p]? = cs[p]?):Own w' r t F i c (xs.take i):=by
 have hn:=h.len
 have hle:=h.le
 have hcap:=h.cap
 unfold Box at hB hB'
 refine ⟨by rw [List.length_take]; omega,by omega,hcap,⟨cs'.toArray,hB',by simpa using hl⟩,fun k x hk=>?_⟩
 have hfr:∀ b,b< w.heap.size→F b∧b≠r→(F b∧b≠r)∧w'.heap[b]? = w.heap[b]? := fun b hb hF=>⟨hF,hx.block b hb (fun e=>hF.2 e)⟩
 rw [List.getElem?_take] at hk
 split at hk
 ·rename_i hki
  obtain ⟨c1,g1,g2⟩:=h.elem k x hk
  refine ⟨c1,Rep.frame g1 hfr,fun u v hv=>?_⟩
  have h3:=g2 u v hv
  have hu:u< Rep.sz α:=by have:=(List.getElem?_eq_some_iff.1 hv).1; rw [Rep.len g1] at this; exact this
  have hm:k * Rep.sz α+Rep.sz α≤i * Rep.sz α:=by rw [← Nat.succ_mul]; exact Nat.mul_le_mul_right _ hki
  rw [add_lit] at h3 ⊢
  simp only [World.cell?,hB] at h3
  simp only [World.cell?,hB']
  have:=hp (k * Rep.sz α+u) AB
  simpa [this] using h3
 ·cases hk
theorem Q7 {cs v:List Value}{i p:Nat}(hp:p< i) (hi:i≤cs.length):(Av cs i v)[p]? = cs[p]? := by
 unfold Av
 rw [List.append_assoc,List.getElem?_append_left (by rw [List.length_take]; omega),List.getElem?_take,if_pos hp]
end Go.Proofs.YtcginoabkicdiaaGreat
namespace Go.Proofs.YtcginoabkicdiaaGreat
def XR:Dsk:=⟨[],[],[],0⟩
def BI (d:Dsk) (st:List Stp) (c:Int):Dsk:=if Ax d=true∧0≤c∧Ax (toD d st c)=true then toD d st c else XR
def Dt (d:Dsk):Dsk:=if Ax d then BR d else XR
def Aq (d:Dsk) (a:Int):List Stp:=if Ax d then BF d a else []
theorem EE {d:Dsk}{a:Int}(h:Ax d=true):Aq d a=BF d a:=by unfold Aq; rw [if_pos h]
theorem OW {d:Dsk}{a:Int}(h:Ax d=false):Aq d a=[]:=by unfold Aq; rw [if_neg (by simp [h])]
structure StW (d:Dsk) (st:List Stp):Prop where
 len:st.length≤4
 sz:∀ x∈st,Ja x
 pt:∀ x∈st,CK x.part
 ok:∀ k:Nat,DD ((st.take k).foldl doD d)
theorem DD.U7 {d:Dsk}(h:DD d){x:Stp}(hk:x.kind=1) (hf:d.files.length< 20) (hn:0≤x.num∧x.num≤998) (hp:PrtI x.part):DD (doD d x):=by
 rw [E2 hk]
 refine ⟨h.g,h.nl,by simp; omega,fun f hf=>?_,by show 0≤x.num+1∧x.num+1≤999; omega⟩
 rcases List.mem_append.1 hf with hf | hf
 ·exact h.file f hf
 ·simp at hf; subst hf; exact hp
theorem DD.XS {d:Dsk}(h:DD d){x:Stp}(hk:x.kind=2) (hl:x.list.length≤7) (hn:NmG x.names):DD (doD d x):=by
 rw [Gr hk]
 exact ⟨hn,hl,h.nf,h.file,h.next⟩
theorem OX {d:Dsk}{n:Int}:∀ f∈D3 d n,f∈d.files:=fun f hf=>by
 unfold D3 at hf
 split at hf
 ·rcases List.mem_append.1 hf with hf | hf
  ·exact List.mem_of_mem_take hf
  ·exact List.mem_of_mem_drop hf
 ·exact hf
theorem K2 {d:Dsk}{n:Int}:(D3 d n).length≤d.files.length:=by
 unfold D3
 split
 ·rw [List.length_append,List.length_take,List.length_drop]; omega
 ·exact Nat.le_refl _
theorem DD.XT {d:Dsk}(h:DD d){x:Stp}(hk:x.kind=3):DD (doD d x):=by
 rw [FB hk]
 exact ⟨h.g,h.nl,Nat.le_trans K2 h.nf,fun f hf=>h.file f (OX f hf),h.next⟩
theorem Sv {d:Dsk}{x:Stp}{xs:List Stp}(h0:DD d) (h:∀ k:Nat,DD ((xs.take k).foldl doD (doD d x))):∀ k:Nat,DD (((x::xs).take k).foldl doD d):=by
 intro k
 cases k with
 | zero=>exact h0
 | succ k=>exact h k
theorem Sw {d:Dsk}(h0:DD d):∀ k:Nat,DD ((([]:List Stp).take k).foldl doD d):=by intro k; simpa using h0
theorem StW.nil {d:Dsk}(h:DD d):StW d []:=⟨by simp,by simp,by simp,Sw h⟩
theorem Ie {x:Stp}(hl:x.list.length≤7) (hn:x.names.length≤7) (h5:∀ n∈x.names,n.length≤1000) (hx:-9000000≤x.num∧x.num≤9000000):Ja x:=⟨by omega,by omega,h5,hx.1,hx.2⟩
theorem Sx {ns:List (List Tag)}(h:NmG ns):∀ n∈ns,n.length≤1000:=fun n hn=>(h.sz n hn).1
theorem MQ:CK ⟨[],[]⟩:=⟨rfl,by simp,by simp⟩
theorem Ig {d:Dsk}(h:DD d){l:List Int}{ns:List (List Tag)}{xs:List Stp}(hl:l.length≤7) (hn:NmG ns) (hx:∀ x∈xs,x.kind=3∧Ja x∧x.part=⟨[],[]⟩) (h3:xs.length≤2):StW d (⟨2,0,⟨[],[]⟩,l,ns⟩ :: xs):=by
 refine ⟨by simp; omega,fun x hm=>?_,fun x hm=>?_,Sv h ?_⟩
 ·rcases List.mem_cons.1 hm with rfl | hm
  ·exact Ie hl hn.len (Sx hn) AD
  ·exact (hx x hm).2.1
 ·rcases List.mem_cons.1 hm with rfl | hm
  ·exact MQ
  ·rw [(hx x hm).2.2]; exact MQ
 ·have key:∀ (xs:List Stp) (d:Dsk),DD d→(∀ x∈xs,x.kind=3)→∀ k:Nat,DD ((xs.take k).foldl doD d):=by
   intro xs
   induction xs with
   | nil=>intro d h _; exact Sw h
   | cons x xs ih=>intro d h hk; exact Sv h (ih _ (h.XT (hk x AD)) (fun y hy=>hk y (by simp [hy])))
  exact key xs _ (h.XS rfl hl hn) (fun x hm=>(hx x hm).1)
theorem StW.U8 {d:Dsk}(h:DD d){n:Int}{p:Prt}{xs:List Stp}(hf:d.files.length< 20) (hn:0≤n∧n≤998) (hp:PrtI p) (h3:xs.length≤3) (hx:StW (doD d ⟨1,n,p,[],[]⟩) xs):StW d (⟨1,n,p,[],[]⟩ :: xs):=by
 refine ⟨by simp; omega,fun x hm=>?_,fun x hm=>?_,Sv h hx.ok⟩
 ·rcases List.mem_cons.1 hm with rfl | hm
  ·exact Ie AD AD AD (by show -9000000≤n∧n≤9000000; omega)
  ·exact hx.sz x hm
 ·rcases List.mem_cons.1 hm with rfl | hm
  ·exact hp.sz
  ·exact hx.pt x hm
theorem U9 {s:Sto}(h:SD s):NmG s.idx.names:=NmG.of h.nm h.nd
theorem MR {s:Sto}(h:StoK s):PrtI (Ah s.mem):=PrtI.mem h.row
theorem JJ {d:Dsk}{s:Sto}(h:DD d) (hs:SD s):StW d (Ao d s)∧StW d (((Ao d s).take (Ao d s).length).drop 1):=by
 rw [List.take_length]
 unfold Ao
 split
 ·rename_i hf
  have q:=C2 hf
  have hk:=Cs q.dk
  by_cases hc:s.mem.length=0∨d.list.length≥6∨d.next≥999∨d.files.length≥20
  ·have e:BE d s=[]:=by unfold BE; rw [if_pos hc]
   rw [e]; exact ⟨StW.nil h,StW.nil h⟩
  ·have e:=C9 (d:=d) (s:=s) AB AB AB AB
   rw [e]
   have hn:=h.next
   have h1:=Ig (l:=d.list++[d.next]) (xs:=[]) h (by simp; omega) (U9 hs) AD AD
   have h2:DD (doD d ⟨1,d.next,Ah s.mem,[],[]⟩):=h.U7 rfl AB (by show 0≤d.next∧d.next≤998; omega) (MR (StoK.of hs q.sk))
   exact ⟨StW.U8 h AB AB (MR (StoK.of hs q.sk)) AD (Ig h2 (by simp; omega) (U9 hs) AD AD),h1⟩
 ·exact ⟨StW.nil h,StW.nil h⟩
theorem JK {d:Dsk}(h:DD d) (a:Int):StW d (Aq d a)∧StW d (((Aq d a).take (Aq d a).length).drop 1):=by
 rw [List.take_length]
 unfold Aq
 split
 ·rename_i hk0
  have hk:=Cs hk0
  have hdi:=h.di hk0
  unfold BF
  split
  ·exact ⟨StW.nil h,StW.nil h⟩
  ·rename_i h1
   simp only [Bool.or_eq_true,not_or,Bool.not_eq_true,Bool.not_eq_false',decide_eq_true_eq] at h1
   obtain ⟨⟨h1,h3⟩,h4⟩:=h1
   have h0:=Bu (by simpa using h1)
   have hl:a.toNat+1< d.list.length:=by omega
   have ha:d.list.getD a.toNat 0∈d.list:=by rw [List.getD_eq_getElem?_getD,AU AB]; exact List.getElem_mem _
   have hb:d.list.getD (a.toNat+1) 0∈d.list:=by rw [List.getD_eq_getElem?_getD,AU hl]; exact List.getElem_mem _
   have na:=hdi.num _ ha
   have nb:=hdi.num _ hb
   have hn:=h.next
   generalize d.list.getD a.toNat 0=x at *
   generalize d.list.getD (a.toNat+1) 0=y at *
   have hp:PrtI (BA (As d x) (As d y)):=(h.part x).merge (h.part y)
   have hlen:(d.list.take a.toNat++[d.next]++d.list.drop (a.toNat+2)).length≤7:=by
    simp only [List.length_append,List.length_take,List.length_drop,List.length_cons,List.length_nil]; omega
   have hg:∀ z∈[(⟨3,x,⟨[],[]⟩,[],[]⟩:Stp),⟨3,y,⟨[],[]⟩,[],[]⟩],z.kind=3∧Ja z∧z.part=⟨[],[]⟩:=fun z hz=>by
    simp only [List.mem_cons,List.not_mem_nil,or_false] at hz
    rcases hz with rfl | rfl
    ·exact ⟨rfl,Ie AD AD AD (by show -9000000≤x∧x≤9000000; omega),rfl⟩
    ·exact ⟨rfl,Ie AD AD AD (by show -9000000≤y∧y≤9000000; omega),rfl⟩
   have h2:DD (doD d ⟨1,d.next,BA (As d x) (As d y),[],[]⟩):=h.U7 rfl AB (by show 0≤d.next∧d.next≤998; omega) hp
   exact ⟨StW.U8 h AB AB hp AD (Ig h2 hlen h.g hg AD),Ig h hlen h.g hg AD⟩
 ·exact ⟨StW.nil h,StW.nil h⟩
theorem UZ {l:List Stp}{i:Nat}{d:Dsk}{q:Stp}{Y:Dsk}(h:(l.drop i).foldl doD d=Y) (hd:l.drop i=q::l.drop (i+1)):(l.drop (i+1)).foldl doD (doD d q)=Y:=by
 rw [hd] at h
 exact h
theorem PU {l:List Stp}{i:Nat}{d:Dsk}{Y:Dsk}(h:(l.drop i).foldl doD d=Y) (hi:l.length≤i):d=Y:=by
 rw [Aa hi] at h
 exact h
theorem WO {d:Dsk}{st:List Stp}{c:Int}(hc:¬ c< 0):((st.take (if (st.length:Int)< c then (st.length:Int) else c).toNat).drop 0).foldl doD d=toD d st c:=by
 unfold toD
 rw [List.drop_zero]
 split
 ·rw [show ((st.length:Int)).toNat=st.length by omega,List.take_length,List.take_of_length_le AB]
 ·rfl
theorem JL {l:List Stp}{i:Nat}{x d:Dsk}{st:List Stp}{c:Int}(h:(l.drop i).foldl doD x=toD d st c) (hi:l.length≤i) (hw:StW d st):DD x:=by
 rw [PU h hi]
 exact hw.ok c.toNat
theorem Sy {d:Dsk}(x:Stp):(doD d x).files.length≤d.files.length+1:=by
 unfold doD
 split
 ·simp
 ·split
  ·simp
  ·split
   ·have:=K2 (d:=d) (n:=x.num); simp only; omega
   ·omega
theorem XU {st:List Stp}{c:Int}{k:Nat}{x:Stp}(h:((st.take (if (st.length:Int)< c then (st.length:Int) else c).toNat).drop 0)[k]? = some x):k< st.length:=by
 have:=(List.getElem?_eq_some_iff.1 h).1
 rw [List.length_drop,List.length_take] at this
 omega
theorem WQ {d:Dsk}(h:DD d):d.files.length≤1000:=by have:=h.nf; omega
theorem WR {d:Dsk}(h:DD d):∀ f∈d.files,CK f.part:=fun f hf=>(h.file f hf).sz
theorem WS {d:Dsk}(h:DD d):d.list.length≤1000:=by have:=h.nl; omega
theorem WT {d:Dsk}(h:DD d):d.names.length≤1000:=by have:=h.g.len; omega
theorem WU {d:Dsk}(h:DD d):∀ n∈d.names,n.length≤1000:=Sx h.g
theorem Sz {d:Dsk}{st:List Stp}{c:Int}(h:Ax d=false∨c< 0∨Ax (toD d st c)=false):(⟨[],[],[],0⟩:Dsk)=BI d st c:=by
 unfold BI
 rw [if_neg]
 ·rfl
 ·rintro ⟨h1,h2,h3⟩
  rcases h with h | h | h
  ·rw [h] at h1; cases h1
  ·omega
  ·rw [h] at h3; cases h3
theorem VC {d:Dsk}{st:List Stp}{c:Int}(h:Ax d=true) (h1:¬ c< 0) (h2:Ax (toD d st c)=true):BI d st c=toD d st c:=by
 unfold BI
 rw [if_pos ⟨h,by omega,h2⟩]
theorem Ua {l:List Stp}{i:Nat}{x d:Dsk}{st:List Stp}{c:Int}(h:(l.drop i).foldl doD x=toD d st c) (hi:l.length≤i) (h2:Ax x=false):(⟨[],[],[],0⟩:Dsk)=BI d st c:=by
 rw [PU h hi] at h2
 exact Sz (.inr (.inr h2))
theorem Ub {l:List Stp}{i:Nat}{x d:Dsk}{st:List Stp}{c:Int}(h:(l.drop i).foldl doD x=toD d st c) (hi:l.length≤i) (h0:Ax d=true) (h1:¬ c< 0) (h2:Ax x=true):x=BI d st c:=by
 rw [PU h hi] at h2 ⊢
 exact (VC h0 h1 h2).symm
theorem WW {d:Dsk}{st:List Stp}(c:Int) (h:StW d st):DD (toD d st c):=h.ok c.toNat
theorem DD.tidy {d:Dsk}(h:DD d):DD (BR d):=⟨h.g,h.nl,Nat.le_trans (List.length_filter_le _ _) h.nf,fun f hf=>h.file f (List.mem_filter.1 hf).1,h.next⟩
theorem Uc {d:Dsk}(h:Ax d=false):(⟨[],[],[],0⟩:Dsk)=Dt d:=by unfold Dt; rw [if_neg (by simp [h])]; rfl
theorem KN {d:Dsk}(h:Ax d=true):Dt d=BR d:=by unfold Dt; rw [if_pos h]
theorem Ce {l:List Fil}{i:Nat}{k:List Fil}{q:Fil}(h:k++l.drop i=l) (hd:l.drop i=q::l.drop (i+1)):(k++[q])++l.drop (i+1)=l:=by
 rw [hd] at h
 simpa using h
theorem BN {α:Type}{l:List α}{i:Nat}{k:List α}(h:k++l.drop i=l) (hi:l.length≤i):k=l:=by
 rw [Aa hi] at h
 simpa using h
theorem VF {d:Dsk}{a:Int}(h:Ax d=true) (h1:inR a 0 ((d.list.length:Int) - 2)=false∨Ef d=true):[]=Aq d a:=by
 rw [EE h,IB]
 rcases h1 with h1 | h1
 ·exact .inl h1
 ·rcases QJ h1 with h1 | h1
  ·exact .inr (.inl AB)
  ·exact .inr (.inr AB)
theorem MS {d:Dsk}{n:Int}(hn:n∈d.list):As d n∈(Aj d).parts:=by
 show _∈d.list.map (As d)
 exact List.mem_map.2 ⟨n,hn,rfl⟩
theorem S0 {d:Dsk}{at_ a b:Int}{f g:Fil}(hd:DD d) (h:Ax d=true) (h1:inR at_ 0 ((d.list.length:Int) - 2)=true) (h2:Ef d=false) (ha:d.list[at_.toNat]? = some a) (hb:d.list[(at_+1).toNat]? = some b) (hf:d.files[(Ak d a).toNat]? = some f) (hg:d.files[(Ak d b).toNat]? = some g) :
 [⟨1,d.next,(BS f.part g.part).1,[],[]⟩,⟨2,0,⟨[],[]⟩,(([]++(d.list.take at_.toNat).drop 0)++[d.next])++(d.list.take d.list.length).drop (at_+2).toNat,d.names⟩,⟨3,a,⟨[],[]⟩,[],[]⟩,⟨3,b,⟨[],[]⟩,[],[]⟩]=Aq d at_:=by
 have hx:=QI h2
 have hk:=Cs h
 have:=hd.nf
 have hs:=hd.sd h
 have hso:=(Ew h).2.1
 have e:=Kz hs hso (MS (AV ha)) (MS (AV hb))
 rw [Et hf,Et hg] at e
 rw [e,EE h,EO h1 AB AB ha hb hf hg]
end Go.Proofs.YtcginoabkicdiaaGreat
namespace Go.Proofs.YtcginoabkicdiaaGreat
theorem Jg {α:Type}{a b:List α}{j:Nat}{x:α}(h:a.drop j=b.drop j) (hx:a[j]? = some x):b[j]? = some x:=by
 have h1:(a.drop j)[0]? = (b.drop j)[0]? := by rw [h]
 rw [List.getElem?_drop,List.getElem?_drop,Nat.add_zero] at h1
 rw [← h1]; exact hx
theorem MU {α:Type}{b:List α}{j:Int}{x:α}(hj:0≤j) (hx:b[j.toNat]? = some x):b.take (j+1).toNat=b.take j.toNat++[x]:=by
 rw [show (j+1).toNat=j.toNat+1 by omega,List.take_add_one,hx]
 rfl
end Go.Proofs.YtcginoabkicdiaaGreat
namespace Go.Proofs.YtcginoabkicdiaaGreat
theorem Ud:∀ (fs:List Fil) (n:Int) (i:Nat),0≤C3 n i fs→∃ f,fs[(C3 n i fs).toNat - i]? = some f∧f.num=n∧i≤(C3 n i fs).toNat:=by
 intro fs
 induction fs with
 | nil=>intro n i h; exact absurd h (by unfold C3; omega)
 | cons x xs ih =>
   intro n i h
   unfold C3 at h ⊢
   split at h
   ·next e =>
    rw [if_pos e]
    exact ⟨x,by simp,by simpa using e,by simp⟩
   ·next e =>
    rw [if_neg e]
    obtain ⟨f,h1,h2,h3⟩:=ih n (i+1) h
    refine ⟨f,?_,h2,by omega⟩
    rw [show (C3 n (i+1) xs).toNat - i=((C3 n (i+1) xs).toNat - (i+1))+1 by omega,List.getElem?_cons_succ]
    exact h1
end Go.Proofs.YtcginoabkicdiaaGreat
namespace Go.Proofs.YtcginoabkicdiaaGreat
theorem MW (nx:Int):∀ (fs:List Fil) (o:Option Int),DQ nx o fs=true↔(∀ f∈fs,1≤f.num∧f.num≤nx - 1∧Am f.part=true)∧fs.Pairwise (fun a b=>a.num< b.num)∧∀ q,o=some q→∀ f∈fs,q< f.num:=by
 intro fs
 induction fs with
 | nil=>intro o; simp [DQ]
 | cons x xs ih =>
   intro o
   unfold DQ
   simp only [AW]
   rw [ih]
   constructor
   ·rintro ⟨⟨⟨h1,h2⟩,h3⟩,h4,h5,h6⟩
    have h1:=Bu h1
    refine ⟨fun f hf=>?_,List.pairwise_cons.2 ⟨fun f hf=>h6 _ rfl f hf,h5⟩,fun q hq f hf=>?_⟩
    ·rcases List.mem_cons.1 hf with rfl | hf
     ·exact ⟨h1.1,h1.2,h3⟩
     ·exact h4 f hf
    ·subst hq
     have hx:q< x.num:=by simpa using h2
     rcases List.mem_cons.1 hf with rfl | hf
     ·exact hx
     ·have:=h6 _ rfl f hf; omega
   ·rintro ⟨h1,h2,h3⟩
    obtain ⟨h4,h5⟩:=List.pairwise_cons.1 h2
    have hx:=h1 x AD
    refine ⟨⟨⟨?_,?_⟩,hx.2.2⟩,fun f hf=>h1 f (by simp [hf]),h5,fun q hq f hf=>?_⟩
    ·unfold inR; rw [decide_eq_true hx.1,decide_eq_true hx.2.1]; rfl
    ·cases o with
     | none=>rfl
     | some q=>simpa using h3 q rfl x AD
    ·cases hq
     exact h4 f hf
theorem QK:∀ (fs:List Fil) (i:Nat) (f:Fil),fs.Pairwise (fun a b=>a.num< b.num)→f∈fs→∃ k:Nat,C3 f.num i fs=((i+k:Nat):Int)∧fs[k]? = some f:=by
 intro fs
 induction fs with
 | nil=>intro i f _ hf; cases hf
 | cons x xs ih =>
   intro i f hp hf
   obtain ⟨h1,h2⟩:=List.pairwise_cons.1 hp
   unfold C3
   rcases List.mem_cons.1 hf with rfl | hf
   ·exact ⟨0,by simp,rfl⟩
   ·have:=h1 f hf
    rw [if_neg (by simp; omega)]
    obtain ⟨k,g1,g2⟩:=ih (i+1) f h2 hf
    exact ⟨k+1,by rw [g1]; omega,by rw [List.getElem?_cons_succ]; exact g2⟩
theorem EZ {d:Dsk}(hp:d.files.Pairwise (fun a b=>a.num< b.num)){f:Fil}(hf:f∈d.files):As d f.num=f.part∧0≤Ak d f.num:=by
 obtain ⟨k,h1,h2⟩:=QK d.files 0 f hp hf
 have h3:Ak d f.num=(k:Int):=by unfold Ak; rw [h1]; simp
 refine ⟨Et (by rw [h3]; exact h2),by omega⟩
structure DskV (d:Dsk):Prop where
 next:1≤d.next∧d.next≤999
 nf:d.files.length≤20
 nl:d.list.length≤6
 file:∀ f∈d.files,1≤f.num∧f.num≤d.next - 1∧Am f.part=true
 asc:d.files.Pairwise (fun a b=>a.num< b.num)
 at_:∀ n∈d.list,∃ f∈d.files,f.num=n
 nd:d.list.Nodup
 nm:nmB d.names=true
 so:Ae (Aj d)=true
theorem Cf {d:Dsk}:Ax d=true↔DskV d:=by
 unfold Ax
 simp only [AW,decide_eq_true_eq]
 constructor
 ·rintro ⟨⟨⟨⟨⟨h1,h2⟩,h3⟩,h4⟩,h5⟩,h6,h7⟩
  obtain ⟨g1,g2,_⟩:=(MW _ _ _).1 h4
  unfold Ds at h5
  simp only [AW,decide_eq_true_eq,List.all_eq_true] at h5
  exact ⟨Bu h1,h2,h3,g1,g2,fun n hn=>(F4 d n).1 (h5.1 n hn),h5.2,h6,h7⟩
 ·rintro ⟨h1,h2,h3,h4,h5,h6,h7,h8,h9⟩
  refine ⟨⟨⟨⟨⟨?_,h2⟩,h3⟩,(MW _ _ _).2 ⟨h4,h5,by simp⟩⟩,?_⟩,h8,h9⟩
  ·unfold inR; rw [decide_eq_true h1.1,decide_eq_true h1.2]; rfl
  ·unfold Ds
   simp only [AW,decide_eq_true_eq,List.all_eq_true]
   exact ⟨fun n hn=>(F4 d n).2 (h6 n hn),h7⟩
theorem DskV.lt {d:Dsk}(h:DskV d):∀ n∈d.list,1≤n∧n< d.next:=fun n hn=>by
 obtain ⟨f,hf,rfl⟩:=h.at_ n hn
 have:=h.file f hf
 omega
theorem Ue {d e:Dsk}(hn:e.names=d.names) (hl:e.list=d.list) (hp:∀ n∈d.list,As e n=As d n):Aj e=Aj d:=by
 unfold Aj
 rw [hn,hl,List.map_congr_left hp]
theorem DskV.files {d:Dsk}(h:DskV d){fs:List Fil}{nx:Int}(h1:1≤nx∧nx≤999) (h2:fs.length≤20) (h3:∀ f∈fs,1≤f.num∧f.num≤nx - 1∧Am f.part=true) (h4:fs.Pairwise (fun a b=>a.num< b.num)) (h5:∀ f∈d.files,f.num∈d.list→f∈fs) :
 DskV ⟨fs,d.list,d.names,nx⟩∧Aj ⟨fs,d.list,d.names,nx⟩=Aj d:=by
 have e:Aj ⟨fs,d.list,d.names,nx⟩=Aj d:=Ue rfl rfl (fun n hn=>by
  obtain ⟨f,hf,rfl⟩:=h.at_ n hn
  rw [(EZ h.asc hf).1,(EZ (d:=⟨fs,d.list,d.names,nx⟩) h4 (h5 f hf hn)).1])
 refine ⟨⟨h1,h2,h.nl,h3,h4,fun n hn=>?_,h.nd,h.nm,by rw [e]; exact h.so⟩,e⟩
 obtain ⟨f,hf,rfl⟩:=h.at_ n hn
 exact ⟨f,h5 f hf hn,rfl⟩
theorem DskV.add {d:Dsk}(h:DskV d){p:Prt}(hp:Am p=true) (h1:d.next< 999) (h2:d.files.length< 20):DskV ⟨d.files++[⟨d.next,p⟩],d.list,d.names,d.next+1⟩∧Aj ⟨d.files++[⟨d.next,p⟩],d.list,d.names,d.next+1⟩=Aj d:=by
 have hn:=h.next
 refine h.files AB (by simp; omega) (fun f hf=>?_) ?_ (fun f hf _=>List.mem_append.2 (.inl hf))
 ·rcases List.mem_append.1 hf with hf | hf
  ·have:=h.file f hf
   exact ⟨this.1,by omega,this.2.2⟩
  ·simp at hf
   subst hf
   exact ⟨hn.1,by simp,hp⟩
 ·rw [List.pairwise_append]
  refine ⟨h.asc,by simp,fun a ha b hb=>?_⟩
  simp at hb
  subst hb
  have:=h.file a ha
  show a.num< d.next
  omega
theorem DskV.gone {d:Dsk}(h:DskV d) (n:Int):DskV ⟨D3 d n,d.list,d.names,d.next⟩∧Aj ⟨D3 d n,d.list,d.names,d.next⟩=Aj d:=by
 refine h.files h.next (Nat.le_trans K2 h.nf) (fun f hf=>h.file f (OX f hf)) ?_ (fun f hf hm=>?_)
 ·refine h.asc.sublist ?_
  unfold D3
  split
  ·have e:=List.take_append_drop (Ak d n).toNat d.files
   conv=>rhs; rw [← e]
   refine List.Sublist.append (List.Sublist.refl _) ?_
   rw [← List.drop_drop]
   exact List.drop_sublist 1 _
  ·exact List.Sublist.refl _
 ·unfold D3
  split
  ·rename_i hc
   obtain ⟨k,g1,g2⟩:=QK d.files 0 f h.asc hf
   have g3:Ak d f.num=(k:Int):=by unfold Ak; rw [g1]; simp
   by_cases hk:k< (Ak d n).toNat
   ·refine List.mem_append.2 (.inl (List.mem_iff_getElem?.2 ⟨k,?_⟩))
    rw [List.getElem?_take,if_pos hk]
    exact g2
   ·by_cases hk2:k=(Ak d n).toNat
    ·obtain ⟨y,hy1,hy2,_⟩:=(fun hh=>Ud d.files n 0 hh) hc.1
     have hy1':d.files[(Ak d n).toNat]? = some y:=hy1
     rw [← hk2,g2] at hy1'
     cases hy1'
     rw [hy2] at hm
     have:=hc.2
     rw [List.contains_iff_mem.2 hm] at this
     cases this
    ·refine List.mem_append.2 (.inr (List.mem_iff_getElem?.2 ⟨k - ((Ak d n).toNat+1),?_⟩))
     rw [List.getElem?_drop,show (Ak d n).toNat+1+(k - ((Ak d n).toNat+1))=k by omega]
     exact g2
  ·exact hf
theorem DskV.tidy {d:Dsk}(h:DskV d):DskV (BR d)∧Aj (BR d)=Aj d:=by
 refine h.files h.next (Nat.le_trans (List.length_filter_le _ _) h.nf) (fun f hf=>h.file f (List.mem_filter.1 hf).1) (h.asc.sublist List.filter_sublist) (fun f hf hm=>List.mem_filter.2 ⟨hf,?_⟩)
 simpa using hm
theorem MX {d:Dsk}{st:List Stp}{c:Int}(h:c≤0):toD d st c=d:=by
 unfold toD
 rw [show c.toNat=0 by omega]
 rfl
theorem Ct {d:Dsk}{x:Stp}{st:List Stp}{c:Int}(h:1≤c):toD d (x::st) c=toD (doD d x) st (c - 1):=by
 unfold toD
 rw [show c.toNat=(c - 1).toNat+1 by omega]
 rfl
theorem KO {d:Dsk}{c:Int}:toD d [] c=d:=by
 unfold toD
 simp
theorem S1 {s:Sto}(h:s.idx=idxOf s.idx.names){ps:List Prt}{m:List Smp}:(⟨idxOf s.idx.names,ps,m⟩:Sto)=⟨s.idx,ps,m⟩:=by rw [← h]
structure FlD (d:Dsk) (s:Sto):Prop where
 v:DskV d
 sd:SD s
 k:Ae s=true
 nb:nmB s.idx.names=true
 p:s.parts=d.list.map (As d)
 m:s.mem≠[]
 l:d.list.length< 6
 n:d.next< 999
 f:d.files.length< 20
theorem PV {s:Sto}(h:SD s) (hk:Ae s=true) (h1:s.mem≠[]) (h2:s.parts.length< 6):Am (Ah s.mem)=true:=by
 have h5:=Kx h hk h1 h2
 unfold Ae at h5
 simp only [AW,decide_eq_true_eq,List.all_eq_true] at h5
 exact Eu (h5.1.1.2 (Ah s.mem) (by unfold DL; simp))
theorem FlD.to {d:Dsk}{s:Sto}(q:FlD d s) (c:Int):DskV (toD d (BE d s) c)∧Aj (toD d (BE d s) c)=if c< 2 then Aj d else DL s:=by
 have hpl:s.parts.length< 6:=by rw [q.p,List.length_map]; exact q.l
 have e:=C9 (d:=d) (s:=s) (by have:=q.m; rw [← List.length_pos_iff] at this; omega) (by have:=q.l; omega) (by have:=q.n; omega) (by have:=q.f; omega)
 rw [e]
 by_cases h0:c≤0
 ·rw [MX h0,if_pos AB]
  exact ⟨q.v,rfl⟩
 ·have hp:=PV q.sd q.k q.m hpl
  obtain ⟨v1,o1⟩:=q.v.add hp q.n q.f
  rw [Ct AB,E2 rfl]
  by_cases h1:c≤1
  ·rw [MX AB,if_pos AB]
   exact ⟨v1,o1⟩
  ·rw [Ct AB,Gr rfl,KO,if_neg AB]
   have hnew:As ⟨d.files++[⟨d.next,Ah s.mem⟩],d.list++[d.next],s.idx.names,d.next+1⟩ d.next=Ah s.mem:=(EZ (d:=⟨d.files++[⟨d.next,Ah s.mem⟩],d.list++[d.next],s.idx.names,d.next+1⟩) v1.asc (f:=⟨d.next,Ah s.mem⟩) AD).1
   have hold:∀ n∈d.list,As ⟨d.files++[⟨d.next,Ah s.mem⟩],d.list++[d.next],s.idx.names,d.next+1⟩ n=As d n:=fun n hn=>by
    obtain ⟨f,hf,rfl⟩:=q.v.at_ n hn
    rw [(EZ q.v.asc hf).1,(EZ (d:=⟨d.files++[⟨d.next,Ah s.mem⟩],d.list++[d.next],s.idx.names,d.next+1⟩) v1.asc (f:=f) (List.mem_append.2 (.inl hf))).1]
   have eo:Aj ⟨d.files++[⟨d.next,Ah s.mem⟩],d.list++[d.next],s.idx.names,d.next+1⟩=DL s:=by
    unfold Aj DL
    rw [S1 q.sd.idx]
    simp only [List.map_append,List.map_cons,List.map_nil]
    rw [hnew,List.map_congr_left hold,q.p]
   refine ⟨⟨v1.next,v1.nf,by have:=q.l; simp; omega,v1.file,v1.asc,fun n hn=>?_,?_,q.nb,by rw [eo]; exact Kx q.sd q.k q.m hpl⟩,eo⟩
   ·rcases List.mem_append.1 hn with hn | hn
    ·exact v1.at_ n hn
    ·simp at hn
     exact ⟨⟨d.next,Ah s.mem⟩,by simp,hn.symm⟩
   ·rw [List.nodup_append]
    refine ⟨q.v.nd,by simp,fun a ha b hb=>?_⟩
    simp at hb
    subst hb
    have:=q.v.lt a ha
    omega
theorem FlD.of {d:Dsk}{s:Sto}(hs:SD s) (h:¬ ((Ao d s).length:Int)=0):FlD d s∧Ao d s=BE d s:=by
 cases hf:Cd d s with
 | false=>rw [OU hf] at h; exact absurd rfl h
 | true =>
   have q:=C2 hf
   have e:=E6 hf
   by_cases hc:s.mem.length=0∨d.list.length≥6∨d.next≥999∨d.files.length≥20
   ·have e2:BE d s=[]:=by unfold BE; rw [if_pos hc]
    rw [e,e2] at h; exact absurd rfl h
   ·exact ⟨⟨Cf.1 q.dk,hs,q.sk,q.nm,q.p,fun e2=>hc (.inl (by rw [e2]; rfl)),by omega,by omega,by omega⟩,e⟩
structure MgD (d:Dsk) (a:Nat) (x y:Int):Prop where
 v:DskV d
 dd:DD d
 l:a+2≤d.list.length
 hx:d.list[a]? = some x
 hy:d.list[a+1]? = some y
 n:d.next< 999
 f:d.files.length< 20
 e:BF d a=[⟨1,d.next,BA (As d x) (As d y),[],[]⟩,⟨2,0,⟨[],[]⟩,d.list.take a++[d.next]++d.list.drop (a+2),d.names⟩,⟨3,x,⟨[],[]⟩,[],[]⟩,⟨3,y,⟨[],[]⟩,[],[]⟩]
theorem MgD.of {d:Dsk}{i:Int}(hd:DD d) (h:¬ ((Aq d i).length:Int)=0):∃ x y,MgD d i.toNat x y∧Aq d i=BF d i.toNat∧i=(i.toNat:Int):=by
 cases hk:Ax d with
 | false=>rw [OW hk] at h; exact absurd rfl h
 | true =>
   rw [EE hk] at h ⊢
   by_cases hc:(!(inR i 0 ((d.list.length:Int) - 2)) || decide (d.next≥999) || decide (d.files.length≥20))=true
   ·unfold BF at h
    rw [if_pos hc] at h
    exact absurd rfl h
   ·have hc2:=hc
    simp only [Bool.or_eq_true,not_or,Bool.not_eq_true,Bool.not_eq_false',decide_eq_true_eq] at hc2
    obtain ⟨⟨h1,h3⟩,h4⟩:=hc2
    have h0:=Bu (by simpa using h1)
    have ei:i=(i.toNat:Int):=by omega
    have hx:=AU (l:=d.list) (i:=i.toNat) AB
    have hy:=AU (l:=d.list) (i:=i.toNat+1) AB
    refine ⟨_,_,⟨Cf.1 hk,hd,by omega,hx,hy,by omega,by omega,?_⟩,by rw [← ei],ei⟩
    rw [← ei]
    unfold BF
    rw [if_neg hc]
    simp only [List.getD_eq_getElem?_getD,hx,hy,Option.getD_some]
section
variable {d:Dsk} {a:Nat} {x y:Int}
theorem MgD.list (q:MgD d a x y):d.list=d.list.take a++x::y::d.list.drop (a+2):=by
 have e:=List.take_append_drop a d.list
 rw [AZ q.hx,AZ q.hy] at e
 exact e.symm
theorem MgD.open (q:MgD d a x y):(Aj d).parts[a]? = some (As d x)∧(Aj d).parts[a+1]? = some (As d y)∧(Aj d).parts.length=d.list.length:=by
 unfold Aj
 simp only [List.getElem?_map,q.hx,q.hy,List.length_map]
 exact ⟨rfl,rfl,trivial⟩
theorem MgD.sd (q:MgD d a x y):SD (Aj d):=q.dd.sd (Cf.2 q.v)
theorem MgD.part (q:MgD d a x y):Am (BA (As d x) (As d y))=true:=by
 have hl:a+2≤(Aj d).parts.length:=by rw [q.open.2.2]; exact q.l
 have h:=HL q.sd q.v.so hl
 obtain ⟨u,w,hu,hw,e⟩:=Ev hl
 rw [q.open.1] at hu
 rw [q.open.2.1] at hw
 cases hu
 cases hw
 unfold Ae at h
 simp only [AW,decide_eq_true_eq,List.all_eq_true] at h
 exact Eu (h.1.1.2 _ (by rw [e]; simp))
theorem MgD.mem (q:MgD d a x y):∀ n∈d.list.take a++[d.next]++d.list.drop (a+2),n∈d.list∧n≠x∧n≠y∨n=d.next:=fun n hn=>by
 have hnd:=q.v.nd
 rw [q.list] at hnd
 rw [List.nodup_append,List.nodup_cons,List.nodup_cons] at hnd
 obtain ⟨n1,⟨n2,n3,n4⟩,n5⟩:=hnd
 rcases List.mem_append.1 hn with hn | hn
 ·rcases List.mem_append.1 hn with hn | hn
  ·exact .inl ⟨List.mem_of_mem_take hn,n5 n hn x AD,n5 n hn y AD⟩
  ·simp at hn; exact .inr hn
 ·exact .inl ⟨List.mem_of_mem_drop hn,fun e=>n2 (by rw [← e]; simp [hn]),fun e=>n3 (by rw [← e]; exact hn)⟩
def mgD (d:Dsk) (a:Nat) (x y:Int):Dsk:=⟨d.files++[⟨d.next,BA (As d x) (As d y)⟩],d.list.take a++[d.next]++d.list.drop (a+2),d.names,d.next+1⟩
theorem MgD.v2 (q:MgD d a x y):DskV (mgD d a x y)∧Aj (mgD d a x y)=Cm (Aj d) a:=by
 obtain ⟨v1,o1⟩:=q.v.add q.part q.n q.f
 have hnew:As (mgD d a x y) d.next=BA (As d x) (As d y):=(EZ (d:=mgD d a x y) v1.asc (f:=⟨d.next,BA (As d x) (As d y)⟩) (by unfold mgD; simp)).1
 have hold:∀ n∈d.list,As (mgD d a x y) n=As d n:=fun n hn=>by
  obtain ⟨f,hf,rfl⟩:=q.v.at_ n hn
  rw [(EZ q.v.asc hf).1,(EZ (d:=mgD d a x y) v1.asc (f:=f) (List.mem_append.2 (.inl hf))).1]
 have hl:a+2≤(Aj d).parts.length:=by rw [q.open.2.2]; exact q.l
 have eo:Aj (mgD d a x y)=Cm (Aj d) a:=by
  obtain ⟨u,w,hu,hw,e⟩:=Ev hl
  rw [q.open.1] at hu
  rw [q.open.2.1] at hw
  cases hu
  cases hw
  have h1:(Aj (mgD d a x y)).parts=(Cm (Aj d) a).parts:=by
   rw [e]
   show (d.list.take a++[d.next]++d.list.drop (a+2)).map (As (mgD d a x y))=(d.list.map (As d)).take a++[_]++(d.list.map (As d)).drop (a+2)
   simp only [List.map_append,List.map_cons,List.map_nil]
   rw [hnew,List.map_congr_left (fun n hn=>hold n (List.mem_of_mem_take hn)),List.map_congr_left (l:=d.list.drop (a+2)) (fun n hn=>hold n (List.mem_of_mem_drop hn)),List.map_take,List.map_drop]
  show (⟨_,_,_⟩:Sto)=⟨_,_,_⟩
  have h2:(Aj (mgD d a x y)).parts=F1 (Aj d).parts a:=h1
  unfold Aj at h2 ⊢
  simp only [] at h2 ⊢
  rw [h2]
  rfl
 refine ⟨⟨v1.next,v1.nf,?_,v1.file,v1.asc,fun n hn=>?_,?_,q.v.nm,by rw [eo]; exact HL q.sd q.v.so hl⟩,eo⟩
 ·have:=q.v.nl
  show (d.list.take a++[d.next]++d.list.drop (a+2)).length≤6
  simp only [List.length_append,List.length_take,List.length_drop,List.length_cons,List.length_nil]
  have:=q.l
  omega
 ·rcases q.mem n hn with hn | rfl
  ·exact v1.at_ n hn.1
  ·exact ⟨⟨d.next,BA (As d x) (As d y)⟩,by unfold mgD; simp,rfl⟩
 ·show (d.list.take a++[d.next]++d.list.drop (a+2)).Nodup
  have hnd:=q.v.nd
  rw [q.list] at hnd
  rw [List.nodup_append,List.nodup_cons,List.nodup_cons] at hnd
  obtain ⟨n1,⟨n2,n3,n4⟩,n5⟩:=hnd
  have hlt:=q.v.lt
  rw [List.append_assoc,List.nodup_append]
  refine ⟨n1,?_,fun u hu w hw=>?_⟩
  ·rw [List.singleton_append,List.nodup_cons]
   exact ⟨fun hm=>by have:=hlt _ (List.mem_of_mem_drop hm); omega,n4⟩
  ·have hu2:=hlt u (List.mem_of_mem_take hu)
   rcases List.mem_append.1 hw with hw | hw
   ·simp at hw; omega
   ·exact n5 u hu w (by simp [hw])
theorem MgD.to (q:MgD d a x y) (c:Int):DskV (toD d (BF d a) c)∧Aj (toD d (BF d a) c)=if c< 2 then Aj d else Cm (Aj d) a:=by
 rw [q.e]
 by_cases h0:c≤0
 ·rw [MX h0,if_pos AB]
  exact ⟨q.v,rfl⟩
 ·obtain ⟨v1,o1⟩:=q.v.add q.part q.n q.f
  rw [Ct AB,E2 rfl]
  by_cases h1:c≤1
  ·rw [MX AB,if_pos AB]
   exact ⟨v1,o1⟩
  ·obtain ⟨v2,o2⟩:=q.v2
   have e2:doD (⟨d.files++[⟨d.next,BA (As d x) (As d y)⟩],d.list,d.names,d.next+1⟩:Dsk) ⟨2,0,⟨[],[]⟩,d.list.take a++[d.next]++d.list.drop (a+2),d.names⟩=mgD d a x y:=Gr rfl
   rw [Ct AB,e2,if_neg AB]
   by_cases h2:c≤2
   ·rw [MX AB]
    exact ⟨v2,o2⟩
   ·obtain ⟨v3,o3⟩:=v2.gone x
    rw [Ct AB,FB rfl]
    by_cases h3:c≤3
    ·rw [MX AB]
     exact ⟨v3,o3.trans o2⟩
    ·obtain ⟨v4,o4⟩:=v3.gone y
     rw [Ct AB,FB rfl,KO]
     exact ⟨v4,(o4.trans o3).trans o2⟩
end
end Go.Proofs.YtcginoabkicdiaaGreat
namespace Go.Proofs.YtcginoabkicdiaaGreat
theorem S2 {d:Dsk}{st:List Stp}{c:Int}(h:DD d) (hw:Ax d=true→StW d st):DD (BI d st c):=by
 unfold BI
 split
 ·rename_i hc
  exact WW c (hw hc.1)
 ·exact Sm
theorem S3 {d:Dsk}{st:List Stp}{c:Int}(h:Ax d=true) (h1:0≤c) (h2:Ax (toD d st c)=true):BI d st c=toD d st c:=VC h AB h2
section
variable {d:Dsk}
theorem Uf (h:DD d):DD (Dt d):=by
 unfold Dt
 split
 ·exact h.tidy
 ·exact Sm
theorem Ug (h:Ax d=true):Ax (Dt d)=true:=by
 rw [KN h]
 exact Cf.2 (Cf.1 h).tidy.1
theorem Uh (h:Ax d=true):EP (Dt d)=EP d:=by
 rw [IY h,IY (Ug h),KN h]
 exact (Cf.1 h).tidy.2
end
theorem XV {d:Dsk}{s:Sto}(hs:SD s) (h:¬ ((Ao d s).length:Int)=0){c:Int}(hc:0≤c):BI d (Ao d s) c=toD d (BE d s) c∧Ax (BI d (Ao d s) c)=true:=by
 obtain ⟨q,e⟩:=FlD.of hs h
 have o:=Cf.2 (q.to c).1
 rw [e,S3 (Cf.2 q.v) hc o]
 exact ⟨rfl,o⟩
section
variable {d:Dsk} {i:Int}
theorem XW (hd:DD d) (h:¬ ((Aq d i).length:Int)=0){c:Int}(hc:0≤c):BI d (Aq d i) c=toD d (BF d i.toNat) c∧Ax (BI d (Aq d i) c)=true:=by
 obtain ⟨x,y,q,e,_⟩:=MgD.of hd h
 have o:=Cf.2 (q.to c).1
 rw [e,S3 (Cf.2 q.v) hc o]
 exact ⟨rfl,o⟩
end
end Go.Proofs.YtcginoabkicdiaaGreat
namespace Go.Proofs.YtcginoabkicdiaaGreat
structure WV (w:Wld):Prop where
 wd:WD w
 v:DskV w.disk
 k:Ae w.store=true
 p:w.store.parts=w.disk.list.map (As w.disk)
 m:w.disk.names=w.store.idx.names.take w.disk.names.length
theorem WV.sd {w:Wld}(h:WV w):SD w.store:=h.wd.sd
theorem WV.dd {w:Wld}(h:WV w):DD w.disk:=h.wd.dd
theorem WV.dk {w:Wld}(h:WV w):Ax w.disk=true:=Cf.2 h.v
theorem WV.nb {w:Wld}(h:WV w):nmB w.store.idx.names=true:=EB.2 h.wd.wi.sto.nm
theorem WV.fits {w:Wld}(h:WV w):Cd w.disk w.store=true:=(OT h.dk (by rw [h.nb,h.k]; rfl) h.p h.m).symm
def GW:Wld:=⟨⟨⟨[],[]⟩,[],[]⟩,⟨[],[],[],1⟩⟩
theorem WV.new:WV GW:=⟨WD.new,⟨by simp [GW],by simp [GW],by simp [GW],by simp [GW],by simp [GW],by simp [GW],by simp [GW],by decide,by decide⟩,by decide,rfl,rfl⟩
theorem QL {w:Wld}(hd:DD w.disk) (hv:DskV w.disk):BV w=⟨Aj w.disk,BR w.disk⟩:=by
 obtain ⟨v,e⟩:=hv.tidy
 have hk:=Cf.2 v
 have e1:=hd.tidy.U6 hk
 have e2:=(hd.tidy.sd hk).copy
 unfold BV
 rw [e1,e2,e]
theorem PW {d e:Dsk}(h:Aj d=Aj e):d.list.map (As d)=e.list.map (As e):=congrArg Sto.parts h
theorem WV.PX {s:Sto}{d:Dsk}(hd:DD d) (hv:DskV d) (hw:WD (BV ⟨s,d⟩)):WV (BV ⟨s,d⟩):=by
 have e:=QL (w:=⟨s,d⟩) hd hv
 rw [e] at hw ⊢
 obtain ⟨v,eo⟩:=hv.tidy
 refine ⟨hw,v,hv.so,(PW eo).symm,?_⟩
 show d.names=d.names.take d.names.length
 rw [List.take_length]
theorem S4 (x:Idx) (n:List Tag):∃ l,(BX x n).1.names=x.names++l:=by
 unfold BX
 split
 ·exact ⟨[],by simp⟩
 ·split
  ·exact ⟨[],by simp⟩
  ·exact ⟨[n],rfl⟩
theorem S5 {α:Type}{a l m:List α}(h:a=l.take a.length):a=(l++m).take a.length:=by
 have hl:a.length≤l.length:=by
  have:=congrArg List.length h
  rw [List.length_take] at this
  omega
 rw [List.take_append_of_le_length hl]
 exact h
theorem WV.add {w:Wld}(h:WV w){n:List Tag}{r:Row}(hw:WD ⟨(Ca w.store n r).1,w.disk⟩):WV ⟨(Ca w.store n r).1,w.disk⟩:=by
 cases hb:(Ca w.store n r).2 with
 | false =>
   have e:(Ca w.store n r).1=w.store:=by
    unfold Ca at hb ⊢
    split at hb
    ·rename_i hc; rw [if_pos hc]
    ·rename_i hc
     rw [if_neg hc]
     split at hb
     ·rename_i hc2; rw [if_pos hc2]
     ·cases hb
   rw [e] at hw ⊢
   exact h
 | true =>
   obtain ⟨a1,a2,a3,a4,e⟩:=UJ hb
   rw [e] at hw ⊢
   obtain ⟨l,hl⟩:=S4 w.store.idx n
   refine ⟨hw,h.v,UK h.sd h.k a1 a2 a3 a4,h.p,?_⟩
   show w.disk.names=(BX w.store.idx n).1.names.take w.disk.names.length
   rw [hl]
   exact S5 h.m
theorem K3 {d:Dsk}{s:Sto}(q:FlD d s){c:Int}(hc:¬ c< 2):BE d s=[⟨1,d.next,Ah s.mem,[],[]⟩,⟨2,0,⟨[],[]⟩,d.list++[d.next],s.idx.names⟩]∧toD d (BE d s) c=⟨d.files++[⟨d.next,Ah s.mem⟩],d.list++[d.next],s.idx.names,d.next+1⟩:=by
 have e:=C9 (d:=d) (s:=s) (by have:=q.m; rw [← List.length_pos_iff] at this; omega) (by have:=q.l; omega) (by have:=q.n; omega) (by have:=q.f; omega)
 refine ⟨e,?_⟩
 rw [e,Ct AB,E2 rfl,Ct AB,Gr rfl,KO]
theorem OY {d:Dsk}{s:Sto}(q:FlD d s):((BE d s).length:Int)=2:=by rw [(K3 q (c:=2) AB).1]; rfl
theorem K4 {s:Sto}(h:SD s) (hk:Ae s=true) (hm:s.mem≠[]) (hl:s.parts.length< 6):(BC s).1=DL s∧(Cl s).1=DL s:=by
 rw [← List.length_pos_iff] at hm
 have f1:=IU h hk AB AB
 have f2:(Cl s).2=true:=by rw [f1]
 have f3:=(Q1 h f2).1
 refine ⟨?_,f3⟩
 have f4:Cl s=BC s:=by rw [Hv hk,h.copy]
 rw [← f4]
 exact f3
theorem WV.fl {w:Wld}(h:WV w) (hn:BE w.disk w.store≠[]):FlD w.disk w.store:=by
 by_cases hc:w.store.mem.length=0∨w.disk.list.length≥6∨w.disk.next≥999∨w.disk.files.length≥20
 ·exact absurd (by unfold BE; rw [if_pos hc]) hn
 ·exact ⟨h.v,h.sd,h.k,h.nb,h.p,fun e=>hc (.inl (by rw [e]; rfl)),by omega,by omega,by omega⟩
theorem FlD.parts {d:Dsk}{s:Sto}(q:FlD d s):s.parts.length< 6:=by rw [q.p,List.length_map]; exact q.l
theorem WV.Ui {w:Wld}(h:WV w) (q:FlD w.disk w.store){c:Int}(hc:¬ c< 2) (hw:WD ⟨DL w.store,toD w.disk (BE w.disk w.store) c⟩):WV ⟨DL w.store,toD w.disk (BE w.disk w.store) c⟩:=by
 obtain ⟨v,o⟩:=q.to c
 rw [if_neg hc] at o
 have e:=(K3 q hc).2
 refine ⟨hw,v,Kx q.sd q.k q.m q.parts,?_,?_⟩
 ·exact (congrArg Sto.parts o).symm
 ·have:(toD w.disk (BE w.disk w.store) c).names=w.store.idx.names:=congrArg (fun s=>s.idx.names) o
  show (toD w.disk (BE w.disk w.store) c).names=w.store.idx.names.take (toD w.disk (BE w.disk w.store) c).names.length
  rw [this,List.take_length]
theorem WV.mg {w:Wld}(h:WV w){i:Int}(hn:BF w.disk i≠[]):∃ x y,MgD w.disk i.toNat x y∧i=(i.toNat:Int)∧BF w.disk i=BF w.disk i.toNat∧Aq w.disk i=BF w.disk i:=by
 have e:=EE (a:=i) h.dk
 have h0:¬ ((Aq w.disk i).length:Int)=0:=by
  rw [e]
  intro h0
  exact hn (List.length_eq_zero_iff.1 AB)
 obtain ⟨x,y,q,e2,i0⟩:=MgD.of h.dd h0
 exact ⟨x,y,q,i0,by rw [← e,e2],e⟩
theorem S6 {s:Sto}{a:Nat}(hl:a+2≤s.parts.length):BG s (a:Int)=(Cm s a,true):=by
 unfold BG Cm
 rw [if_pos (by unfold inR; simp; omega)]
 simp
theorem PY {d:Dsk}{a:Nat}{x y:Int}(q:MgD d a x y){c:Int}(hc:¬ c< 4):toD d (BF d a) c=⟨D3 ⟨D3 (mgD d a x y) x,(mgD d a x y).list,(mgD d a x y).names,(mgD d a x y).next⟩ y,(mgD d a x y).list,(mgD d a x y).names,(mgD d a x y).next⟩:=by
 have e2:doD (⟨d.files++[⟨d.next,BA (As d x) (As d y)⟩],d.list,d.names,d.next+1⟩:Dsk) ⟨2,0,⟨[],[]⟩,d.list.take a++[d.next]++d.list.drop (a+2),d.names⟩=mgD d a x y:=Gr rfl
 rw [q.e,Ct AB,E2 rfl,Ct AB,e2,Ct AB,FB rfl,Ct AB,FB rfl,KO]
theorem OZ {d:Dsk}{a:Nat}{x y:Int}(q:MgD d a x y):((BF d a).length:Int)=4:=by rw [q.e]; rfl
theorem WV.open {w:Wld}(h:WV w):(Aj w.disk).parts=w.store.parts:=h.p.symm
theorem WV.Uj {w:Wld}(h:WV w){a:Nat}{x y:Int}(q:MgD w.disk a x y){c:Int}(hc:¬ c< 4) (hw:WD ⟨Cm w.store a,toD w.disk (BF w.disk a) c⟩):WV ⟨Cm w.store a,toD w.disk (BF w.disk a) c⟩:=by
 obtain ⟨v,o⟩:=q.to c
 rw [if_neg AB] at o
 have e:=PY q hc
 have hl:a+2≤w.store.parts.length:=by rw [← h.open,q.open.2.2]; exact q.l
 refine ⟨hw,v,HL h.sd h.k hl,?_,?_⟩
 ·have:=congrArg Sto.parts o
  have e3:(Cm (Aj w.disk) a).parts=(Cm w.store a).parts:=by show F1 (Aj w.disk).parts a=F1 w.store.parts a; rw [h.open]
  rw [e3] at this
  exact this.symm
 ·have:(toD w.disk (BF w.disk a) c).names=w.disk.names:=congrArg (fun s=>s.idx.names) o
  show (toD w.disk (BF w.disk a) c).names=w.store.idx.names.take (toD w.disk (BF w.disk a) c).names.length
  rw [this]
  exact h.m
theorem S7 {w:Wld}(h:WV w) (q:FlD w.disk w.store) (c:Int):DD (toD w.disk (BE w.disk w.store) c):=by
 have e:Ao w.disk w.store=BE w.disk w.store:=E6 h.fits
 have:=(JJ h.dd h.sd).1
 rw [e] at this
 exact this.ok c.toNat
theorem S8 {w:Wld}(h:WV w) (i:Int) (c:Int):DD (toD w.disk (BF w.disk i) c):=by
 have:=(JK h.dd i).1
 rw [EE h.dk] at this
 exact this.ok c.toNat
theorem WV.do {w:Wld}(h:WV w){e:Evt}(he:NmD e.name):WV (doW w e):=by
 have hw:=h.wd.do he
 by_cases k1:e.kind=1
 ·cases hn:At e.name with
  | false=>rw [M4 k1 hn]; exact h
  | true=>rw [P1 k1 hn] at hw ⊢; exact h.add hw
 ·by_cases k2:e.kind=2
  ·rw [Nu k2] at hw ⊢
   by_cases hs:((BE w.disk w.store).length:Int)=0∨e.cut< 0
   ·rw [FV hs]; exact h
   ·have q:=h.fl (fun e0=>hs (.inl (by rw [e0]; rfl)))
    by_cases hc:e.cut< (BE w.disk w.store).length
    ·rw [Gt (fun e0=>hs (.inl e0)) (fun e0=>hs (.inr e0)) hc] at hw ⊢
     exact WV.PX (S7 h q _) (q.to _).1 hw
    ·rw [Gu (fun e0=>hs (.inl e0)) (fun e0=>hs (.inr e0)) hc,(K4 h.sd h.k q.m q.parts).1] at hw ⊢
     exact h.Ui q (by rw [OY q] at hc; exact hc) hw
  ·by_cases k3:e.kind=3
   ·rw [Nv k3] at hw ⊢
    by_cases hs:((BF w.disk e.at_).length:Int)=0∨e.cut< 0
    ·rw [FV hs]; exact h
    ·obtain ⟨x,y,q,i0,e3,_⟩:=h.mg (i:=e.at_) (fun e0=>hs (.inl (by rw [e0]; rfl)))
     have hl:e.at_.toNat+2≤w.store.parts.length:=by rw [← h.open,q.open.2.2]; exact q.l
     by_cases hc:e.cut< (BF w.disk e.at_).length
     ·rw [Gt (fun e0=>hs (.inl e0)) (fun e0=>hs (.inr e0)) hc] at hw ⊢
      exact WV.PX (S8 h _ _) (by rw [e3]; exact (q.to _).1) hw
     ·have em:(BG w.store e.at_).1=Cm w.store e.at_.toNat:=by
       have:=S6 hl
       rw [← i0] at this
       rw [this]
      rw [Gu (fun e0=>hs (.inl e0)) (fun e0=>hs (.inr e0)) hc,em,e3] at hw ⊢
      exact h.Uj q (by rw [e3,OZ q] at hc; exact hc) hw
   ·by_cases k4:e.kind=4
    ·rw [Ra k4] at hw ⊢
     exact WV.PX (s:=w.store) h.dd h.v hw
    ·rw [Rc k1 k2 k3 k4]; exact h
theorem WV.copy {w:Wld}(h:WV w):Cq w=w:=by
 unfold Cq
 rw [h.sd.copy,h.dd.U6 h.dk]
def MY (es:List Evt):Wld:=es.foldl doW GW
def WX:Wld:=⟨⟨⟨[],[]⟩,[],[]⟩,⟨[],[],[],0⟩⟩
def Bi (es:List Evt):Wld × Bool:=if es.length≤50 then (MY es,true) else (WX,false)
def EsD (es:List Evt):Prop:=∀ e∈es,EvD e
theorem WV.foldl:∀ (es:List Evt) (w:Wld),WV w→EsD es→WV (es.foldl doW w):=by
 intro es
 induction es with
 | nil=>intro w h _; exact h
 | cons e es ih=>intro w h he; exact ih _ (h.do (he e AD).1) (fun x hx=>he x (by simp [hx]))
theorem NK {es:List Evt}(h:¬ (es.length:Int) > 50):Bi es=(MY es,true):=by unfold Bi; rw [if_pos AB]
theorem NL {es:List Evt}(h:(es.length:Int) > 50):Bi es=(WX,false):=by unfold Bi; rw [if_neg AB]
theorem Oa {es:List Evt}{k:Nat}{w Y:Wld}{e:Evt}(h:(es.drop k).foldl doW w=Y) (hd:es.drop k=e::es.drop (k+1)):(es.drop (k+1)).foldl doW (doW w e)=Y:=by
 rw [hd] at h
 exact h
theorem QM {es:List Evt}{k:Nat}{w Y:Wld}(h:(es.drop k).foldl doW w=Y) (hk:es.length≤k):w=Y:=by
 rw [Aa hk] at h
 exact h
theorem EsD.nil:EsD []:=fun e h=>by cases h
section
variable {w:Wld} {e:Evt}
theorem WY (hd:DD w.disk) (hk:Ax w.disk=true):BV w=⟨EP (Dt w.disk),Dt w.disk⟩:=by
 rw [QL hd (Cf.1 hk),Uh hk,IY hk,KN hk]
theorem X4 (h:e.kind=4):doW w e=BV w:=Ra h
theorem S9 (h:WV w) (hn:At e.name=true):Db w.store e.name e.row=Ca w.store e.name e.row:=by
 unfold Db
 rw [if_pos ⟨h.k,hn⟩,h.sd.copy]
theorem do_1 (h:WV w) (h1:e.kind=1) (h2:(Db w.store e.name e.row).2=true):doW w e=⟨(Db w.store e.name e.row).1,w.disk⟩:=by
 have hn:=(UI h2).2.1
 rw [P1 h1 hn,S9 h hn]
theorem VG (h:WV w) (h1:e.kind=1) (h2:(Db w.store e.name e.row).2=false):doW w e=w:=by
 cases hn:At e.name with
 | false=>exact M4 h1 hn
 | true =>
   rw [P1 h1 hn]
   rw [S9 h hn] at h2
   have e2:(Ca w.store e.name e.row).1=w.store:=by
    unfold Ca at h2 ⊢
    split at h2
    ·rename_i hc; rw [if_pos hc]
    ·rename_i hc
     rw [if_neg hc]
     split at h2
     ·rename_i hc2; rw [if_pos hc2]
     ·cases h2
   rw [e2]
theorem VH (h:WV w) (h1:e.kind=2) (h2:((Ao w.disk w.store).length:Int)=0∨e.cut< 0):doW w e=w:=by
 rw [Nu h1]
 rw [E6 h.fits] at h2
 exact FV h2
theorem NM (h:WV w) (h2:¬ ((Ao w.disk w.store).length:Int)=0) (h3:¬ e.cut< 0):BI w.disk (Ao w.disk w.store) e.cut=toD w.disk (BE w.disk w.store) e.cut∧DD (BI w.disk (Ao w.disk w.store) e.cut)∧Ax (BI w.disk (Ao w.disk w.store) e.cut)=true:=by
 obtain ⟨e1,o⟩:=XV h.sd h2 (by omega:0≤e.cut)
 exact ⟨e1,S2 h.dd (fun _=>(JJ h.dd h.sd).1),o⟩
theorem XX (h:WV w) (h1:e.kind=2) (h2:¬ ((Ao w.disk w.store).length:Int)=0) (h3:¬ e.cut< 0) (h4:e.cut< (Ao w.disk w.store).length):doW w e=BV ⟨w.store,BI w.disk (Ao w.disk w.store) e.cut⟩:=by
 rw [(NM h h2 h3).1,Nu h1]
 rw [E6 h.fits] at h2 h4
 exact Gt h2 h3 h4
theorem XY (h:WV w) (h1:e.kind=2) (h2:¬ ((Ao w.disk w.store).length:Int)=0) (h3:¬ e.cut< 0) (h4:¬ e.cut< (Ao w.disk w.store).length):doW w e=⟨(Cl w.store).1,BI w.disk (Ao w.disk w.store) e.cut⟩:=by
 rw [(NM h h2 h3).1,Nu h1]
 have h20:=h2
 rw [E6 h.fits] at h2 h4
 have q:=h.fl (fun e0=>h2 (by rw [e0]; rfl))
 rw [Gu h2 h3 h4,(K4 h.sd h.k q.m q.parts).1,(K4 h.sd h.k q.m q.parts).2]
theorem VI (h:WV w) (h1:e.kind=3) (h2:((Aq w.disk e.at_).length:Int)=0∨e.cut< 0):doW w e=w:=by
 rw [Nv h1]
 rw [EE h.dk] at h2
 exact FV h2
theorem NN (h:WV w) (h2:¬ ((Aq w.disk e.at_).length:Int)=0) (h3:¬ e.cut< 0):BI w.disk (Aq w.disk e.at_) e.cut=toD w.disk (BF w.disk e.at_) e.cut∧DD (BI w.disk (Aq w.disk e.at_) e.cut)∧Ax (BI w.disk (Aq w.disk e.at_) e.cut)=true:=by
 obtain ⟨e1,o⟩:=XW h.dd h2 (by omega:0≤e.cut)
 obtain ⟨x,y,q,e2,i0⟩:=MgD.of h.dd h2
 refine ⟨?_,S2 h.dd (fun _=>(JK h.dd _).1),o⟩
 rw [e1,← e2,EE h.dk]
theorem XZ (h:WV w) (h1:e.kind=3) (h2:¬ ((Aq w.disk e.at_).length:Int)=0) (h3:¬ e.cut< 0) (h4:e.cut< (Aq w.disk e.at_).length):doW w e=BV ⟨w.store,BI w.disk (Aq w.disk e.at_) e.cut⟩:=by
 rw [(NN h h2 h3).1,Nv h1]
 rw [EE h.dk] at h2 h4
 exact Gt h2 h3 h4
theorem Xa (h:WV w) (h1:e.kind=3) (h2:¬ ((Aq w.disk e.at_).length:Int)=0) (h3:¬ e.cut< 0) (h4:¬ e.cut< (Aq w.disk e.at_).length):doW w e=⟨(Bw w.store e.at_).1,BI w.disk (Aq w.disk e.at_) e.cut⟩:=by
 rw [(NN h h2 h3).1,Nv h1]
 rw [EE h.dk] at h2 h4
 have em:Bw w.store e.at_=BG w.store e.at_:=by rw [F8 h.k,h.sd.copy]
 rw [Gu h2 h3 h4,em]
end
end Go.Proofs.YtcginoabkicdiaaGreat
namespace Go.Proofs.YtcginoabkicdiaaGreat
theorem Xb {n:List Tag}:∀ {o:Option Tag},DI o n=true→∀ t∈n,CI t=true:=by
 induction n with
 | nil=>intro o _ t ht; cases ht
 | cons a n ih =>
   intro o h t ht
   unfold DI at h
   simp only [AW] at h
   rcases List.mem_cons.1 ht with rfl | ht
   ·exact h.1.1
   ·exact ih h.2 t ht
theorem TA {n:List Tag}(h:At n=true):NmD n:=by
 unfold At at h
 rw [AW] at h
 have h2:=Bu h.2
 refine ⟨by omega,fun t ht=>?_⟩
 have h3:=Xb h.1 t ht
 unfold CI at h3
 rw [AW] at h3
 have e1:=DO h3.1
 have e2:=DO h3.2
 exact ⟨by omega,by omega⟩
theorem WV.doA {w:Wld}(h:WV w) (e:Evt):WV (doW w e):=by
 by_cases hk:e.kind=1
 ·cases hn:At e.name with
  | false=>rw [M4 hk hn]; exact h
  | true=>exact h.do (TA hn)
 ·have e1:doW w e=doW w { e with name:=[] }:=by
   unfold doW
   rw [if_neg hk,if_neg (show ¬ ({ e with name:=[] }:Evt).kind=1 from hk)]
  rw [e1]
  exact h.do NmD.nil
end Go.Proofs.YtcginoabkicdiaaGreat
namespace Go.Proofs.YtcginoabkicdiaaGreat
set_option maxRecDepth 100000
set_option maxHeartbeats 4000000
variable {w:World} {F:Nat→Prop}
theorem JM {r n c i:Nat}{xs:List Fil}{a b:Int}(ho:Own w r 148 F n c xs) (ha:a=(i:Int)) (hb:b=(i:Int)+1) (hi:i< n) (hn:n≤1000000):Calls Tryz.prog 188 [.slice (some ⟨r,0,none⟩) n c,.int .i64 a,.int .i64 b].toArray w (Ag fun rv w'=>(rv=.slice (some ⟨r,0,none⟩) (n - 1) c∧Own w' r 148 F (n - 1) c (xs.take i++xs.drop (i+1)))∧Chg (one r) w w'):=by
 subst ha hb
 refine goT func188 ?_
 have hle:=ho.le
 obtain ⟨cs,hB,hl⟩:=ho.V6
 have hz:Rep.sz Fil=3:=rfl
 rw [hz] at hl
 refine .s<|.g<|.r 1<|.d<|.s<|.g<|.r 5<|RG.XN (t:=32) (k:=.i64) (k2:=.i64) (k3:=.i64) (a:=some ⟨r,0,none⟩) (len:=n) (cap:=c) (i1:=(i:Int)) (i2:=(i:Int)+1) (i3:=(n:Int)) (sz:=3) i (i+1) n AA AA rfl AB rfl AB AB hle fun v_=>.d<|.s<|.s<|.g<|.r 2<|.eq (i:Int) ((i:Int)+1) (fun h=>absurd (show False by omega) id) fun _=>.d<|.cf<|.sk<|.s<|.g<|.r 3<|.d<|.s<|.gd (one r) 7 fun w1 hx1=>?_
 refine .r [0,1]<|GA.HN (i:=2) (t:=32) (r:=r) (o:=0) (len:=n) (cap:=c) (lo:=none) (hi:=some (vI (i:Int))) (sz:=3) 0 i AA AA AA (.inl ⟨rfl,rfl⟩) (.inr ⟨_,_,rfl,rfl⟩) AB AB AB<|.r [3,4]<|GA.XO (i:=5) (t:=32) (r:=r) (len:=n) (cap:=c) (lo:=some (vI ((i:Int)+1))) (hi:=none) (sz:=3) (i+1) n AA AA AA (.inr ⟨_,_,rfl,by omega⟩) (.inl ⟨rfl,rfl⟩) AB AB fun a2 c2 h2=>?_
 refine .go 6<|GE.append (T:=32) (ty:=32) (args:=[.slice (some ⟨r,0,none⟩) i c,.slice a2 (n - (i+1)) c2]) AA fun w2 hx2=>?_
 have hx12:Ext w w2:=hx1.trans hx2
 have m1:(i+1) * 3+(n - (i+1)) * 3=n * 3:=by omega
 have hB2:=hB.ext hx12
 obtain ⟨w3,hr,hB3,hx3⟩:=OK (P:=Tryz.prog) (T:=32) (ty:=32) (t:=148) (sz:=3) (i:=i) (c:=c) (m:=n - (i+1)) (c':=c2) (a2:=a2) (vs:=(cs.drop ((i+1) * 3)).take ((n - (i+1)) * 3)) AA hB2
  (fun hp=>⟨_,h2 hp,fun k u hu=>by
   rw [add_lit]
   unfold Box at hB2
   simp only [World.cell?,hB2]
   rw [List.getElem?_take] at hu
   split at hu
   ·rw [List.getElem?_drop] at hu
    simpa using hu
   ·cases hu⟩) (by rw [List.length_take,List.length_drop]; omega) AB (by rw [List.length_take,List.length_drop]; omega) (fun v hv=>ho.X3 (i:=i+1) hB v AB hv)
 refine ⟨_,w3,hr,hx3,.d fun w4 hx4=>.r 1<|.d<|.s<|.g<|.r 4<|?_⟩
 have hB4:=hB3.ext hx4
 have hlen:i+(n - (i+1))=n - 1:=by omega
 rw [hlen]
 refine RG.HN (t:=32) (r:=r) (o:=0) (len:=n - 1) (cap:=c) (lo:=some (vI ((n - 1:Nat):Int))) (hi:=some (vI (n:Int))) (sz:=3) (n - 1) n AA AA (.inr ⟨_,_,rfl,rfl⟩) (.inr ⟨_,_,rfl,rfl⟩) AB AB AB ?_
 have h1:n - (n - 1)=1:=by omega
 rw [h1]
 have hl4:(Av cs (i * 3) ((cs.drop ((i+1) * 3)).take ((n - (i+1)) * 3))).length=c * 3:=by rw [D4 (by rw [List.length_take,List.length_drop]; omega)]; exact hl
 obtain ⟨vs,w5,hr5,hv5,hB5,hx5⟩:=OL (P:=Tryz.prog) (T:=32) (ty:=0) (t:=148) (sz:=3) (o:=0+(n - 1) * 3) (c:=c - (n - 1)) AA hB4 AB
 rw [Nat.zero_add] at hB5
 have hd:=MM (sz:=3) hl hi hle rfl hv5
 have hx:Chg (one r) w w5:=(((hx12.chg (S:=one r)).trans hx3).trans hx4.chg).trans hx5
 refine RG.clear (ats:=[32]) (ty:=0) (args:=[.slice (some ⟨r,0+(n - 1) * 3,none⟩) 1 (c - (n - 1))]) AA hr5<|.d<|.s<|.g<|.r 2<|.d<|.rt func188 results188 (.slice (some ⟨r,0,none⟩) (n - 1) c) ⟨⟨rfl,Own.Sa ho hx hB hB5 (by rw [hz]; exact hd.1) hi (by rw [hz]; exact hd.2)⟩,hx⟩
end Go.Proofs.YtcginoabkicdiaaGreat
namespace Go.Proofs.YtcginoabkicdiaaGreat
set_option maxRecDepth 100000
set_option maxHeartbeats 4000000
variable {w:World} {F:Nat→Prop} {a1 a2 a3 a4:Option Addr} {n1 c1 n2 c2 n3 c3 n4 c4:Nat}
theorem JN (d:Dsk) (s:Stp){bx rb0:Nat}{nb0 cb0:Nat}(hob0:Own w rb0 148 (nin F [bx,rb0]) nb0 cb0 d.files){ab1:Option Addr}{nb1 cb1:Nat}(hrb1:RepS w (nin F [bx,rb0]) ab1 nb1 cb1 d.list){ab2:Option Addr}{nb2 cb2:Nat}(hrb2:RepS w (nin F [bx,rb0]) ab2 nb2 cb2 d.names) (hbx:Box w bx 35 [.slice (some ⟨rb0,0,none⟩) nb0 cb0,.slice ab1 nb1 cb1,.slice ab2 nb2 cb2,.int .i64 d.next]) (hnb0:Nb rb0 bx) (h1:RepS w (nin F [bx,rb0]) a1 n1 c1 s.part.ids) (h2:RepS w (nin F [bx,rb0]) a2 n2 c2 s.part.blocks) (h3:RepS w (nin F [bx,rb0]) a3 n3 c3 s.list) (h4:RepS w (nin F [bx,rb0]) a4 n4 c4 s.names) (p0:d.files.length≤1000) (p1:Ja s) (p2:CK s.part):Calls Tryz.prog 135 [.pointer (some ⟨bx,0,none⟩),.agg #[.int .i64 s.kind,.int .i64 s.num,.slice a1 n1 c1,.slice a2 n2 c2,.slice a3 n3 c3,.slice a4 n4 c4]].toArray w (Ag fun rv w'=>(rv=.tuple #[]∧(∃ (ro0 no0 co0:Nat) (ao1:Option Addr) (no1 co1:Nat) (ao2:Option Addr) (no2 co2:Nat),Box w' bx 35 [.slice (some ⟨ro0,0,none⟩) no0 co0,.slice ao1 no1 co1,.slice ao2 no2 co2,.int .i64 (((doD d s)).next)]∧Own w' ro0 148 (nin (fo F w.heap.size) [bx,ro0]) no0 co0 (((doD d s)).files)∧OrB ro0 rb0 w.heap.size∧Nb ro0 bx∧RepS w' (nin (fo F w.heap.size) [bx,ro0]) ao1 no1 co1 (((doD d s)).list)∧RepS w' (nin (fo F w.heap.size) [bx,ro0]) ao2 no2 co2 (((doD d s)).names)))∧Chg (ins [bx,rb0]) w w'):=by
 refine goT func135 ?_
 have hcv_bx:Cov (ins [bx,rb0]) w bx:=Cov.mkI AI
 have hcv_rb0:Cov (ins [bx,rb0]) w rb0:=Cov.mkI AJ
 replace hob0:=hob0.base (G':=fo F w.heap.size) (fun _ _ h=>.inl h)
 have cX:=hob0.len
 obtain rfl:=hrb1.len
 replace hrb1:=hrb1.Q6 (s:=w.heap.size)
 obtain rfl:=hrb2.len
 replace hrb2:=hrb2.Q6 (s:=w.heap.size)
 obtain rfl:=h1.len
 replace h1:=h1.Q6 (s:=w.heap.size)
 obtain rfl:=h2.len
 replace h2:=h2.Q6 (s:=w.heap.size)
 obtain rfl:=h3.len
 replace h3:=h3.Q6 (s:=w.heap.size)
 have db:=h3.max
 obtain rfl:=h4.len
 replace h4:=h4.Q6 (s:=w.heap.size)
 have de:=h4.max
 refine .s<|.g<|.np 163 [vI s.kind,vI s.num,.slice a1 s.part.ids.length c1,.slice a2 s.part.blocks.length c2,.slice a3 s.list.length c3,.slice a4 s.names.length c4] fun ac aI aG aK ab cr=>?_
 have bA:=Ay aG hob0.lt
 have df:=Ay aG hbx.lt
 replace ⟨hob0,hrb1,hrb2,hbx,h1,h2,h3,h4⟩:=(sn [bx,rb0] aK aG).g8 hob0 hrb1 hrb2 hbx h1 h2 h3 h4
 have aa:Chg (ins [bx,rb0]) w aI:=Chg.Lw (Chg.refl (ins [bx,rb0]) w) aK
 refine .d<|.s<|.g<|.r 1<|.lb ab<|.d<|.b 0<|.s<|.g<|.eq s.kind 1 (fun cu=>?_) (fun cu=>?_)
 ·refine .r 1<|.d<|.ct<|.s ?_
  replace hrb1:=hrb1.Ey
  replace hrb2:=hrb2.Ey
  replace h1:=h1.Ey
  replace h2:=h2.Ey
  replace h3:=h3.Ey
  replace h4:=h4.Ey
  have bI:Cov (mtb [rb0] aI.heap.size) aI rb0:=⟨.inl (.inl AI)⟩
  have bJ:Gb (bx+1) aI.heap.size:=hbx.lt
  have aL:Gb (ac+1) aI.heap.size:=ab.lt
  refine .gd (mtb [rb0] aI.heap.size) 13 fun dh aM=>?_
  replace ⟨hob0,hrb1,hrb2,hbx,h1,h2,h3,h4,ab,aa⟩:=(se [ac,bx,rb0] aM).g10 hob0 hrb1 hrb2 hbx h1 h2 h3 h4 ab aa
  refine .r [0,1,2,3]<|.lb 4 hbx (C5 (all_cons (Nb.symm hnb0) all_nil) bJ)<|.r [5]<|.lb 6 ab (C5 (all_cons bA all_nil) aL)<|.r [7]<|.ln 8 ab (C5 (all_cons bA all_nil) aL)<|.go 9<|.cl (fun aN aA=>FZ s.part (h1.ta.ext aA) (h2.ta.ext aA) p2 (w:=aN) (F:=all)) ?_
  intro aN aA
  replace ⟨hob0,hrb1,hrb2,hbx,h3,h4,ab,aa⟩:=(se [ac,bx,rb0] aA).g8 hob0 hrb1 hrb2 hbx h3 h4 ab aa
  rintro dj dm ⟨⟨_,rfl,⟨cw,dq,cx,cy,dt,cz,rfl,ah,ai⟩⟩,aC⟩
  have aD:=al3 ab.lt hbx.lt hob0.lt
  have aO:Gb w.heap.size aN.heap.size:=aa.size
  have hkeep_:=aC
  replace ⟨hob0,hrb1,hrb2,hbx,h3,h4,ab,aa⟩:=(se [ac,bx,rb0] aC).g8 hob0 hrb1 hrb2 hbx h3 h4 ab aa
  refine ⟨Ext.chg hkeep_,?_⟩
  have ah:=ah.fr aD aO
  replace ah:=ah.base (G':=fo F w.heap.size) (fun _ _ h=>.inr h)
  have cE:=ah.max
  have ai:=ai.fr aD aO
  replace ai:=ai.base (G':=fo F w.heap.size) (fun _ _ h=>.inr h)
  have cF:=ai.max
  have bK:=ah.len
  subst bK
  have bL:=ai.len
  subst bL
  refine .r [10]<|.go 11<|.ns 1 148 [vI s.num,.slice cw s.part.ids.length cx,.slice cy s.part.blocks.length cz] fun du aP=>?_
  replace ⟨hob0,hrb1,hrb2,hbx,h3,h4,ab,ah,ai,aa⟩:=(se [ac,bx,rb0] aP).g10 hob0 hrb1 hrb2 hbx h3 h4 ab ah ai aa
  intro aQ dv ar aR aE bM
  have aS:=Ay ar hob0.lt
  have bN:=Ay ar hbx.lt
  have bO:=Ay ar ab.lt
  have bP:=Cy ar aa.size
  replace ⟨hob0,hrb1,hrb2,hbx,h3,h4,ab,ah,ai,aa⟩:=(se [ac,bx,rb0] aR).g10 hob0 hrb1 hrb2 hbx h3 h4 ab ah ai aa
  refine .go 12<|GE.append (T:=32) (ty:=32) (args:=[vS rb0 nb0 cb0,vS aQ 1 1]) AA fun dw aT=>?_
  replace ⟨hob0,hrb1,hrb2,hbx,h3,h4,ab,ah,ai,aE,aa⟩:=(se [ac,bx,rb0] aT).g11 hob0 hrb1 hrb2 hbx h3 h4 ab ah ai aE aa
  have aJ:nin (fo F w.heap.size) [ac,bx,rb0] aQ∧aQ≠rb0:=Ml (.inr bP) (all_cons bO (all_cons bN (all_cons aS all_nil))) aS
  obtain ⟨aB,bC,dx,aU,af,aq,aF,bQ⟩:=hob0.Ei (P:=Tryz.prog) (T:=32) (ty:=32) (y:=(⟨s.num,(⟨s.part.ids,s.part.blocks⟩:Prt)⟩:Fil)) AA aE ⟨_,_,_,_,_,_,rfl,ah.oi,ai.oi⟩ aJ AB
  refine ⟨_,_,aU,Chg.toS aF (Cov.toS bI),?_⟩
  have aV:=ET aq hnb0 hbx.lt
  have bR:=Hl aq hcv_rb0 aa.size
  replace ⟨hrb1,hrb2,hbx,h3,h4,ab,aa⟩:=(sa [ac,bx,rb0] aF aq).g7 hrb1 hrb2 hbx h3 h4 ab aa
  replace af:=af.rn rb0
  refine .d fun dy aW=>?_
  replace ⟨af,hrb1,hrb2,hbx,h3,h4,ab,aa⟩:=(se [ac,bx,aB] aW).g8 af hrb1 hrb2 hbx h3 h4 ab aa
  replace hrb1:=hrb1.Cp
  replace hrb2:=hrb2.Cp
  replace h3:=h3.Cp
  replace h4:=h4.Cp
  refine .r 2<|.ss 0 (vS aB (nb0+1) bC) hbx fun dA aX bS bT=>?_
  replace ⟨af,hrb1,hrb2,h3,h4,ab,aa⟩:=(so [ac,bx,aB] aX).g7 af hrb1 hrb2 h3 h4 ab aa
  refine .d<|.g<|.r 2<|.lb ab<|RG.int (s.num+1) AA (by have q1:=p1.2.2.2; omega)<|.r 2<|.ss 3 (vI (s.num+1)) bS fun dB aY bU bV=>?_
  replace ⟨af,hrb1,hrb2,h3,h4,ab,aa⟩:=(so [ac,bx,aB] aY).g7 af hrb1 hrb2 h3 h4 ab aa
  refine .d<|.ib 0<|T.GZ func135 results135 ?_
  rw [show (doD d s)=(⟨(d.files++[(⟨s.num,(⟨s.part.ids,s.part.blocks⟩:Prt)⟩:Fil)]),d.list,d.names,s.num+1⟩:Dsk) from by (rw [E2 ‹_›]; done)]
  exact ⟨⟨rfl,aB,(nb0+1),bC,ab1,d.list.length,cb1,ab2,d.names.length,cb2,bU,(Own.Dx af (all_cons AJ (all_cons AK all_nil))),(JI bR aV),aV,(RepS.Dx hrb1 (all_cons AJ (all_cons AK all_nil))),(RepS.Dx hrb2 (all_cons AJ (all_cons AK all_nil)))⟩,aa⟩
 refine .r 1<|.d<|.cf<|.s<|.g<|.eq s.kind 2 (fun bW=>?_) (fun bW=>?_)
 ·refine .r 1<|.d<|.ct<|.s<|.g<|.r 1<|.ns 0 3 [] fun aH cA ak aZ bX bY=>?_
  have bZ:=Ay ak hob0.lt
  have b6:=Ay ak hbx.lt
  have b7:=Ay ak ab.lt
  have b8:=Cy ak aa.size
  have cI:=aa.cn ak
  replace ⟨hob0,hrb1,hrb2,hbx,h3,h4,ab,aa⟩:=(sn [ac,bx,rb0] aZ ak).g8 hob0 hrb1 hrb2 hbx h3 h4 ab aa
  have b9:Own (α:=Int) cA aH 3 (nin (fo F w.heap.size) [aH,ac,bx,rb0]) 0 0 []:=Own.By bX
  refine .r 1<|.lb ab<|RG.DF (T:=33) (ty:=33) Au b9 h3 AA AA (fun b h e=>h.2 (e▸AI)) (by (have:=p1.1; omega)) fun ao bD dC ae aj ba=>?_
  have cJ:=ET aj bZ hob0.lt
  have cK:=ET aj b6 hbx.lt
  have cL:=ET aj b7 ab.lt
  have cd:=GI aj b8 aa.size
  replace ⟨hob0,hrb1,hrb2,hbx,h4,ab,aa⟩:=(sa [aH,ac,bx,rb0] ba aj).g7 hob0 hrb1 hrb2 hbx h4 ab aa
  replace ae:=ae.rn aH
  refine .r 2<|.ss 1 (vS ao (0+s.list.length) bD) hbx fun bE bg ax ce=>?_
  replace ⟨hob0,hrb1,hrb2,h4,ab,ae,aa⟩:=(so [ao,ac,bx,rb0] bg).g7 hob0 hrb1 hrb2 h4 ab ae aa
  refine .d<|.g<|.r 2<|.lb ab<|.cl (BH s.names h4.ta (by have:=p1.2.1; omega) (by (intro n hn; have:=p1.2.2.1 n hn; omega)) (w:=bE) (F:=all)) ?_
  rintro dD dE ⟨⟨az,bF,bG,rfl,ag,am⟩,bh⟩
  have bi:=al4 ae.lt ab.lt ax.lt hob0.lt
  have cg:Gb w.heap.size bE.heap.size:=aa.size
  have cO:=Cj am hob0.lt
  have cP:=Cj am ax.lt
  have cQ:=Cj am ab.lt
  have cR:=Cj am ae.lt
  have ci:=H6 am aa.size
  replace ⟨hob0,hrb1,hrb2,ax,ab,ae,aa⟩:=(sz [ao,ac,bx,rb0] bh am).g7 hob0 hrb1 hrb2 ax ab ae aa
  replace ag:=Own.take (s0:=w.heap.size) (M:=[ao,ac,bx,rb0]) ag bi cg
  replace ag:=ag.base (G':=fo F w.heap.size) (fun _ _ h=>.inr h)
  refine .r 2<|.ss 2 (vS az bF bG) ax fun bH bj cj ck=>?_
  replace ⟨hob0,hrb1,hrb2,ab,ae,ag,aa⟩:=(so [az,ao,ac,bx,rb0] bj).g7 hob0 hrb1 hrb2 ab ae ag aa
  refine .d<|.ib 0 ?_
  have bk:=ae.sl (.inr cd)
  replace ⟨hob0,hrb1,hrb2,ag⟩:=(sd bH [az,ao,ac,bx,rb0] ao).g4 hob0 hrb1 hrb2 ag
  have cB:=ag.sl (.inr ci)
  replace ⟨hob0,hrb1,hrb2,bk⟩:=(sd bH [az,ac,bx,rb0] az).g4 hob0 hrb1 hrb2 bk
  refine T.GZ func135 results135 ?_
  rw [show (doD d s)=(⟨d.files,([]++s.list),s.names,d.next⟩:Dsk) from by (rw [Gr ‹_›]; rfl)]
  exact ⟨⟨rfl,rb0,nb0,cb0,(some ⟨ao,0,none⟩),(0+s.list.length),bD,(some ⟨az,0,none⟩),bF,bG,cj,(Own.Dx hob0 (all_cons AJ (all_cons AK all_nil))),(JI hcv_rb0 hnb0),hnb0,(RepS.Dx bk (all_cons AJ (all_cons AK all_nil))),(RepS.Dx cB (all_cons AJ (all_cons AK all_nil)))⟩,aa⟩
 refine .r 1<|.d<|.cf<|.s<|.g<|.eq s.kind 3 (fun cm=>?_) (fun cm=>?_)
 ·refine .r 1<|.d<|.ct<|.s<|.gd nil 5 fun dF bm=>?_
  replace ⟨hob0,hrb1,hrb2,hbx,ab,aa⟩:=(se [ac,bx,rb0] bm).g6 hob0 hrb1 hrb2 hbx ab aa
  refine .r [0,1]<|.ln 2 hbx id<|.r [3]<|.lb 4 ab id<|.d fun cC bn=>?_
  replace ⟨hob0,hrb1,hrb2,hbx,ab,aa⟩:=(se [ac,bx,rb0] bn).g6 hob0 hrb1 hrb2 hbx ab aa
  refine .cl (CH d s.num (hob0.rep) hrb1.ta hrb2.ta (w:=cC) (F:=all)) ?_
  rintro dG dH ⟨rfl,bo⟩
  replace ⟨hob0,hrb1,hrb2,hbx,ab,aa⟩:=(se [ac,bx,rb0] bo).g6 hob0 hrb1 hrb2 hbx ab aa
  refine .r 1<|.d<|.s<|.gd nil 9 fun dI bq=>?_
  replace ⟨hob0,hrb1,hrb2,hbx,ab,aa⟩:=(se [ac,bx,rb0] bq).g6 hob0 hrb1 hrb2 hbx ab aa
  refine .r [0]<|GA.GY (i:=1) (Ak d s.num≥0) AA (fun co=>?_) (fun co=>?_)
  ·refine .r [2,3,4,5]<|.lb 6 hbx id<|.r [7]<|.lb 8 ab id<|.d fun cD br=>?_
   replace ⟨hob0,hrb1,hrb2,hbx,aa⟩:=(se [ac,bx,rb0] br).g5 hob0 hrb1 hrb2 hbx aa
   refine .cl (CQ d.list s.num hrb1.ta (w:=cD) (F:=all)) ?_
   rintro dJ dK ⟨rfl,bu⟩
   replace ⟨hob0,hrb1,hrb2,hbx,aa⟩:=(se [ac,bx,rb0] bu).g5 hob0 hrb1 hrb2 hbx aa
   cases cU:(d.list.contains s.num)
   ·refine .r 2<|.d<|.ct<|.g<|.r 4<|.lb hbx<|.r 2<|RG.int (Ak d s.num+1) AA (by have q1:=p1.2.2.2; (have:=CU d s.num; omega))<|.cl (JM (i:=(Ak d s.num).toNat) (a:=Ak d s.num) (b:=Ak d s.num+1) hob0 (by have:=CU d s.num; have:=IA d s.num; omega) (by have:=CU d s.num; have:=IA d s.num; omega) (by have:=CU d s.num; have:=IA d s.num; omega) (by have:=CU d s.num; have:=IA d s.num; omega)) ?_
    rintro dL dM ⟨⟨rfl,ay⟩,bv⟩
    replace ⟨hrb1,hrb2,hbx,aa⟩:=(so [ac,bx,rb0] bv).g4 hrb1 hrb2 hbx aa
    refine .r 2<|.ss 0 (vS rb0 (nb0 - 1) cb0) hbx fun dN bw cp cq=>?_
    replace ⟨ay,hrb1,hrb2,aa⟩:=(so [ac,bx,rb0] bw).g4 ay hrb1 hrb2 aa
    refine .d<|.ib 0<|T.GZ func135 results135 ?_
    rw [show (doD d s)=(⟨(d.files.take ((Ak d s.num).toNat)++d.files.drop ((Ak d s.num).toNat+1)),d.list,d.names,d.next⟩:Dsk) from by (rw [FB ‹_›,RW ‹_› ‹_›]; done)]
    exact ⟨⟨rfl,rb0,(nb0 - 1),cb0,ab1,d.list.length,cb1,ab2,d.names.length,cb2,cp,(Own.Dx ay (all_cons AJ (all_cons AK all_nil))),(JI hcv_rb0 hnb0),hnb0,(RepS.Dx hrb1 (all_cons AJ (all_cons AK all_nil))),(RepS.Dx hrb2 (all_cons AJ (all_cons AK all_nil)))⟩,aa⟩
   refine .r 2<|.d<|.cf<|.sk<|.ib 0<|T.GZ func135 results135 ?_
   rw [show (doD d s)=d from by (rw [FB ‹_›,My (.inr ‹_›)]; done)]
   exact ⟨⟨rfl,rb0,nb0,cb0,ab1,d.list.length,cb1,ab2,d.names.length,cb2,hbx,(Own.Dx hob0 (all_cons AJ (all_cons AK all_nil))),(JI hcv_rb0 hnb0),hnb0,(RepS.Dx hrb1 (all_cons AJ (all_cons AK all_nil))),(RepS.Dx hrb2 (all_cons AJ (all_cons AK all_nil)))⟩,aa⟩
  refine .r [2]<|GA.skip AA fun dO bz=>?_
  replace ⟨hob0,hrb1,hrb2,hbx,aa⟩:=(se [ac,bx,rb0] bz).g5 hob0 hrb1 hrb2 hbx aa
  refine .r 3<|.d<|.cf<|.sk<|.ib 0<|T.GZ func135 results135 ?_
  rw [show (doD d s)=d from by (rw [FB ‹_›,My (.inl ‹_›)]; done)]
  exact ⟨⟨rfl,rb0,nb0,cb0,ab1,d.list.length,cb1,ab2,d.names.length,cb2,hbx,(Own.Dx hob0 (all_cons AJ (all_cons AK all_nil))),(JI hcv_rb0 hnb0),hnb0,(RepS.Dx hrb1 (all_cons AJ (all_cons AK all_nil))),(RepS.Dx hrb2 (all_cons AJ (all_cons AK all_nil)))⟩,aa⟩
 refine .r 1<|.d<|.cf<|.sk<|.ib 0<|T.GZ func135 results135 ?_
 rw [show (doD d s)=d from by (rw [Uu ‹_› ‹_› ‹_›]; done)]
 exact ⟨⟨rfl,rb0,nb0,cb0,ab1,d.list.length,cb1,ab2,d.names.length,cb2,hbx,(Own.Dx hob0 (all_cons AJ (all_cons AK all_nil))),(JI hcv_rb0 hnb0),hnb0,(RepS.Dx hrb1 (all_cons AJ (all_cons AK all_nil))),(RepS.Dx hrb2 (all_cons AJ (all_cons AK all_nil)))⟩,aa⟩
end Go.Proofs.YtcginoabkicdiaaGreat
