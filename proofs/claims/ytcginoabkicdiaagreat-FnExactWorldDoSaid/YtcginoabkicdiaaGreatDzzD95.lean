/- walks; pruned haves; hints pruned; squeezed -/
import Derived.Test.YtcginoabkicdiaaGreatDzzDi
import Derived.Test.YtcginoabkicdiaaGreatDzzW91
open Go.Proofs.Tryz
set_option linter.unusedVariables false
set_option linter.unusedSimpArgs false
namespace Go.Proofs.YtcginoabkicdiaaGreat
set_option maxRecDepth 100000
set_option maxHeartbeats 4000000
variable {w:World} {F:Nat→Prop} {a1:Option Addr} {n1 c1:Nat}
theorem Ja (names:List (List Tag)) (h1:RepS w F a1 n1 c1 names) (p0:names.length≤1100000) (p1:∀ n∈names,n.length≤1100000):Calls Tryz.prog 104 [.slice a1 n1 c1].toArray w (Af fun rv w'=>VE 69 w.heap.size w' names rv∧Ext w w'):=by
 refine (Aq names h1 p0 p1).mono ?_
 rintro e w' ⟨v,rfl,hv,hx⟩
 exact ⟨v,rfl,Zv hv,hx⟩
theorem CV (names:List (List Tag)) (h1:RepS w F a1 n1 c1 names) (p0:NmI names) (p1:NsD names):Calls Tryz.prog 102 [.slice a1 n1 c1].toArray w (Af fun rv w'=>VD w.heap.size w' (idxOf names) rv∧Ext w w'):=by
 refine goT func102 ?_
 obtain ⟨rfl,dU,h1⟩:=h1.tp
 refine .s<|.g<|.np 27 [AH,AH] fun ae cS bF bv aq cT=>?_
 have hw0_:=bv.size; have hb0_:=aq.lt
 have cU:=C9 bF (Nat.le_refl _)
 replace h1:=(sn [] bv bF).g1 h1
 have ar:=bv
 clear bv cT bF
 refine .d<|.s<|.g<|.r 1<|.cl (Ja names h1.ta (by have:=p0.len; omega) (fun n hn=>by have:=(p1 n hn).1; omega) (w:=cS) (F:=all)) ?_
 rintro eE ag ⟨⟨bE,bX,bY,rfl,aJ,bw,hDN⟩,bG⟩
 have dK:=bG.size
 have b9:=al1 aq.lt
 have cV:Gb w.heap.size cS.heap.size:=ar.size
 have dV:=EX bw aq.lt
 have cW:=O4 bw ar.size
 replace ⟨h1,aq,ar⟩:=(sz [ae] bG bw).g3 h1 aq ar
 clear bG bw
 replace aJ:=Own.take (s0:=w.heap.size) (M:=[ae]) aJ b9 cV
 clear b9
 have aA:=aJ.sl cW
 replace h1:=(sd ag [bE,ae] bE).g1 h1
 have cm:w.heap.size≤ag.heap.size:=ar.size
 replace aA:RepS ag (nin (GN w.heap.size ag.heap.size ae) [ae]) _ _ _ _:=aA.ZL.Bj (fun b _ h=>⟨h,by simp; exact h.2.2⟩)
 have h1c:=h1.XM; have hEc:=ar; have hb2c:=aq
 refine .ns 0 204 [] fun aO dL bH bI cX cY=>?_
 have cZ:Cov nil ag aO:=LH bH (Nat.le_refl _)
 replace aA:=(sn [ae] bI bH).g1 aA
 have ax:=bI
 clear bI cY bH
 have ay:Own (α:=Pst) dL aO 204 (nin (ge w.heap.size) [aO,ae]) 0 0 []:=Own.Bv cX
 refine .r 1<|.np 27 [AH,AH] fun af eF bz cd c7 c8=>?_
 have da:=Az bz ay.lt
 have db:=ax.cn bz
 replace ⟨aA,ay,ax⟩:=(sn [aO,ae] cd bz).g3 aA ay ax
 clear cd c8 bz
 refine .sc [vS bE bX bY,vS aO 0 0] c7 fun eG ce de df=>?_
 replace ⟨aA,ay,ax⟩:=(so [af,aO,ae] ce).g3 aA ay ax
 clear ce df
 refine .d<|.s<|.s<|.g<|.r 3<|.d<|.b 0 ?_
 have hix:=IX.ZM (tX:=27) (tP:=204) (tI:=3) (s0:=w.heap.size) (s1:=ag.heap.size) cm (GN.lt (b2:=ae)) aA.w1 de ay da (Cov.ge db) (Cov.ge cZ)
 have hE:=ax
 refine T.loop (X:=Nat × Nat × Nat × List RP × List Pst × List Nat) (aO,0,0,[],[],[]) (fun (r,c,k,ys,xs,rs)=>[(2,.pointer (some ⟨ae,0,none⟩)),(3,.pointer (some ⟨af,0,none⟩)),(13,.slice a1 names.length c1),(14,vI (names.length:Int)),(15,vI (k:Int))]) (fun (r,c,k,ys,xs,rs) w_=>Ext ag w_∧IX 27 204 3 w.heap.size ag.heap.size (GN w.heap.size ag.heap.size ae) w_ af r c (some ⟨bE,0,none⟩) bX bY names ys xs rs∧k≤names.length∧xs.length≤5 * k∧(∀ x∈xs,x.ids.length≤5 * k)∧HR k xs (names.drop k)=HR 0 [] names) (fun (r,c,k,ys,xs,rs)=>names.length - k) AA ⟨AA,AA,AA,AA,AA,trivial⟩ ⟨hE,hix,by omega,by simp,by simp,rfl⟩ ?_
 clear hix hE
 rintro ⟨r,c,k,ys,xs,rs⟩ e1_ eH ⟨hE,hix,hk,hxl,hil,hbl⟩ bZ
 have hnm:=h1c.ext hE
 refine .s<|.g<|.bp ((k:Int)< (names.length:Int)) (fun dh=>?_) (fun dh=>?_)
 ·refine .d<|.s<|.ct<|.sk<|.s<|.b 1<|.s<|.g<|.r 1 ?_
  have dj:k< names.length:=AB
  refine .ix k 1 hnm dj ?_
  obtain ⟨am,aK⟩:∃ y,names[k]? = some y:=⟨_,AU AB⟩
  obtain ⟨_,⟨dM,eI,dN,rfl,co⟩,dm⟩:=hnm.elem k am aK
  have dq:=co.len
  subst dq
  have dZ:=co.max
  refine .lh 0 dm<|.r 2<|.d<|.s<|.g<|.r 3<|.d<|.b 2 ?_
  have hEA:=hE; have eJ:=(p1 am (AV aK)).1; have hnl:=p0.len
  refine T.loop (X:=Nat × Nat × Nat × List RP × List Pst × List Nat) (r,c,0,ys,xs,rs) (fun (rq,cq,j,ac,ab,ai)=>[(2,.pointer (some ⟨ae,0,none⟩)),(3,.pointer (some ⟨af,0,none⟩)),(4,vI (k:Int)),(13,.slice a1 names.length c1),(14,vI (names.length:Int)),(15,vI (k:Int)),(20,.slice dM am.length dN),(21,vI (am.length:Int)),(22,vI (j:Int))]) (fun (rq,cq,j,ac,ab,ai) w_=>Ext ag w_∧IX 27 204 3 w.heap.size ag.heap.size (GN w.heap.size ag.heap.size ae) w_ af rq cq (some ⟨bE,0,none⟩) bX bY names ac ab ai∧j≤am.length∧ab.length≤5 * k+j∧(∀ x∈ab,x.ids.length≤5 * k+j)∧(am.drop j).foldl (E9 ((k:Int)+1)) ab=am.foldl (E9 ((k:Int)+1)) xs) (fun (rq,cq,j,ac,ab,ai)=>am.length - j) AA ⟨AA,AA,AA,AA,AA,AA,AA,AA,AA,trivial⟩ ⟨hE,hix,by omega,by omega,fun x hx=>by have:=hil x hx; omega,rfl⟩ ?_
  clear hix hE
  rintro ⟨rq,cq,j,ac,ab,ai⟩ e2_ eK ⟨hE,hix,hj,cg,ao,hfl⟩ bA
  have dt:=co.via hEA hE
  refine .s<|.g<|.bp ((j:Int)< (am.length:Int)) (fun du=>?_) (fun du=>.d<|.s<|.cf<|.x 2 rfl<|.ib 1<|.g<|.it ((k:Int)+1)<|.r 1<|.d<|bZ (rq,cq,k+1,ac,ab,ai) _ _ ⟨AA,AA,AA,AA,AA,trivial⟩ ⟨hE,hix,by omega,by omega,fun x hx=>by have:=ao x hx; omega,Rj hbl (Ab aK) (E8 hfl AB)⟩ (by (simp only []; omega)))
  refine .d<|.s<|.ct<|.sk<|.s<|.b 3<|.s<|.g ?_
  have dv:j< am.length:=AB
  refine .ix j 2 dt dv ?_
  obtain ⟨aa,aL⟩:∃ y,am[j]? = some y:=⟨_,AU AB⟩
  obtain ⟨_,rfl,dw⟩:=dt.elem j aa aL
  refine .lg 0 dw<|.np 118 [.string (bs []),.string (bs [])] fun dx eM bJ bK dy cp=>?_
  have cr:∀ q_∈af::rq::ai,Nb dx q_:=fun q_ hq_=>Az bJ (hix.lt q_ hq_)
  have bL:ag.heap.size≤dx:=Nat.le_trans hE.size (Nat.le_of_eq (Eq.symm bJ))
  replace hix:=hix.ext bK
  replace hE:=hE.trans bK
  clear bK cp bJ
  refine .sc [vT aa.key,vT aa.val] dy fun dA aP aB cu=>?_
  replace hix:=hix.one aP cr bL
  replace hE:=Chg.Dy hE aP ⟨.inr bL⟩
  clear aP cu
  refine .d<|.s<|.g<|.r 1<|.lb hix.box<|.r 1<|.cl (Fh ab aa (hix.rep.Bj (F':=all) (fun _ _ _=>trivial)) aB (w:=dA) (F:=all)) ?_
  rintro d3 bM ⟨rfl,aC⟩
  replace aB:=aB.ext aC
  replace hix:=hix.ext aC
  replace hE:=hE.trans aC
  clear aC
  refine .r 1<|.d<|.s<|.s<|.g<|.r 1<|.bp (Bi aa 0 ab< 0) (fun cw=>?_) (fun cw=>?_)
  ·refine .d<|.ct<|.s<|.g<|.r 1<|.lb hix.box<|.r 2<|.d<|.g<|.r 1<|.lb hix.box<|.ln aB<|.r 1<|.ns 1 204 [vT aa.key,vT aa.val,AH] fun az d4 aQ aR bN cx=>?_
   have bO:∀ q_∈af::rq::ai,Nb az q_:=fun q_ hq_=>Az aQ (hix.lt q_ hq_)
   have cy:ag.heap.size≤az:=Nat.le_trans hE.size (Nat.le_of_eq (Eq.symm aQ))
   replace hix:=hix.ext aR
   replace hE:=hE.trans aR
   clear aR cx aQ
   have ci:=hix.lx; have dB:=hix.lr; have hvl_:=bN.lt; have hge_r:=hix.new rq AJ; have cz:=hix.new af AI; have hEs:=hE.size
   refine RG.E3 (T:=25) (ty:=25) (y:=(⟨aa.key,aa.val,none,0,0⟩:RP)) hix.own bN AA AA rfl ⟨trivial,bO rq AJ⟩ AB fun ah cj d5 cA b6 aS=>?_
   replace hE:=Chg.Dy hE aS ⟨.inr hge_r⟩
   refine .r 1<|.ss 1 (vS ah (ac.length+1) cj) (hix.box.chg aS (Nb.one hix.ne)) fun bP aT cB cC=>?_
   replace hix:=hix.push (t:=⟨aa.key,aa.val⟩) (vb:=az) hEs aS cA b6 bO cy hvl_ aT cB
   replace hE:=Chg.Dy hE aT ⟨.inr cz⟩
   clear aT cC
   refine .d ?_
   obtain ⟨xi,hxi⟩:∃ q,(ab++[(⟨⟨aa.key,aa.val⟩,[]⟩:Pst)])[ac.length]? = some q:=⟨_,AU (by (simp; omega))⟩
   obtain ⟨yi,hyi⟩:∃ q,(ac++[(⟨aa.key,aa.val,none,0,0⟩:RP)])[ac.length]? = some q:=⟨_,AU (by (simp; done))⟩
   obtain ⟨ri,hri⟩:∃ q,(ai++[az])[ac.length]? = some q:=⟨_,AU (by (simp; omega))⟩
   have hiy:ac.length< (ac++[(⟨aa.key,aa.val,none,0,0⟩:RP)]).length:=(List.getElem?_eq_some_iff.1 hyi).1
   have hl3_:af< bP.heap.size:=hix.lt _ AI; have hlr_:ah< bP.heap.size:=hix.lt _ AJ; have hn3_:=hix.ne3 hri; have hnr_:=hix.ner hri
   refine .gd (mtb [ri] bP.heap.size) 13 fun dC aU=>?_
   replace hix:=hix.ext aU
   replace hE:=hE.trans aU
   clear aU
   refine .r [0]<|.lb 1 hix.box (DJ (all_cons hn3_ all_nil) hl3_)<|.r [2,3]<|.lb 4 hix.box (DJ (all_cons hn3_ all_nil) hl3_)<|.r [5] ?_
   have cD:ac.length< (ac++[(⟨aa.key,aa.val,none,0,0⟩:RP)]).length:=AB
   refine GA.idx (i:=6) (b:=ah) (o:=0) ac.length (len:=(ac++[(⟨aa.key,aa.val,none,0,0⟩:RP)]).length) (z:=(ac.length:Int)) (sz:=3) AA AB cD rfl<|.r [7] ?_
   obtain ⟨_,rfl,aV⟩:=hix.own.elem ac.length yi hyi
   replace aV:Has dC ⟨ah,0+ac.length * Rep.sz RP,none⟩ [vT yi.key,vT yi.val,.slice yi.a yi.n yi.c]:=by rw [Nat.zero_add]; exact aV
   refine .lh 8 2 aV (DJ (all_cons hnr_ all_nil) hlr_)<|.r [9]<|GA.int (i:=10) ((k:Int)+1) AA AB<|.go 11<|.ns 1 3 [vI ((k:Int)+1)] fun d6 aW=>?_
   replace hix:=hix.ext aW
   replace hE:=hE.trans aW
   clear aW
   intro bQ d7 aX aY aZ cE
   have cF:∀ q_∈af::ah::(ai++[az]),Nb bQ q_:=fun q_ hq_=>Az aX (hix.lt q_ hq_)
   replace hix:=hix.ext aY
   replace hE:=hE.trans aY
   clear aY cE aX
   refine .go 12<|GE.append (T:=33) (ty:=33) (args:=[.slice yi.a yi.n yi.c,vS bQ 1 1]) AA fun d8 aD=>?_
   replace aZ:=aZ.ext aD
   replace hix:=hix.ext aD
   replace hE:=hE.trans aD
   clear aD
   have hyn:=(hix.el ac.length xi yi ri hxi hyi hri).2.2.n; have hyl:xi.ids.length≤5000000:=by have hm:=AV hxi; (rcases List.mem_append.1 hm with hm | hm; (have:=ao _ hm; omega); (simp at hm; subst hm; simp))
   have bR:=hE.size; have hge_ri:=hix.new ri (IX.mi hri)
   obtain ⟨aM,bC,d9,bS,ba,b7,aj⟩:=Ku.app (P:=Tryz.prog) (T:=33) (ty:=33) (hix.el ac.length xi yi ri hxi hyi hri).2.2 AA aZ (cF ri (IX.mi hri)) AB
   refine ⟨_,_,bS,Chg.toS aj (.inl AI),?_⟩
   replace hE:=Chg.Dy hE aj ⟨.inr hge_ri⟩
   refine .d fun dD aE=>?_
   replace aj:=Chg.trans aj (Ext.chg aE)
   replace ba:=ba.ext aE
   replace hE:=hE.trans aE
   clear aE
   have cG:ac.length< (ac++[(⟨aa.key,aa.val,none,0,0⟩:RP)]).length:=AB
   refine RG.idx (b:=ah) (o:=0) ac.length (len:=(ac++[(⟨aa.key,aa.val,none,0,0⟩:RP)]).length) (i:=(ac.length:Int)) (sz:=3) AA AB cG rfl<|.r 1 ?_
   have bT:=PS H5 hix.own aj (Nb.one (hix.ner hri))
   obtain ⟨_,rfl,bg⟩:=bT.elem ac.length yi hyi
   replace bg:Has dD ⟨ah,0+ac.length * Rep.sz RP,none⟩ [vT yi.key,vT yi.val,.slice yi.a yi.n yi.c]:=by rw [Nat.zero_add]; exact bg
   refine RG.G6 (t':=33) (i:=ac.length) (k:=2) (v:=vS aM (yi.n+1) bC) (cs:=[vT yi.key,vT yi.val,.slice yi.a yi.n yi.c]) (⟨yi.key,yi.val,some ⟨aM,0,none⟩,yi.n+1,bC⟩:RP) bT hyi bg AA AA AA rfl fun ec cH bh cI=>?_
   have hge_r2:=hix.new ah AJ
   replace hix:=hix.upd (i:=ac.length) (z:=(k:Int)+1) bR hxi hyi hri aj ba b7 bh (y':=(⟨yi.key,yi.val,some ⟨aM,0,none⟩,yi.n+1,bC⟩:RP)) rfl cH
   replace hE:=Chg.Dy hE bh ⟨.inr hge_r2⟩
   clear bh cI
   refine .d<|.ib 3<|.g<|.it ((j:Int)+1)<|.r 1<|.d ?_
   have hxN:((ab++[(⟨⟨aa.key,aa.val⟩,[]⟩:Pst)]).set ac.length ⟨xi.tag,xi.ids++[(k:Int)+1]⟩)=E9 ((k:Int)+1) ab aa:=(Tl hxi (by rw [← ci])).trans (JD ‹_›).symm
   have hbd:=JF ((k:Int)+1) ab aa (5 * k+j) cg ao; rw [← hxN] at hbd
   have hfs:=EK hfl (Ab aL); rw [← hxN] at hfs
   exact bA (ah,cj,j+1,((ac++[(⟨aa.key,aa.val,none,0,0⟩:RP)]).set ac.length (⟨yi.key,yi.val,some ⟨aM,0,none⟩,yi.n+1,bC⟩:RP)),((ab++[(⟨⟨aa.key,aa.val⟩,[]⟩:Pst)]).set ac.length ⟨xi.tag,xi.ids++[(k:Int)+1]⟩),((ai++[az]).set ac.length aM)) _ _ ⟨AA,AA,AA,AA,AA,AA,AA,AA,AA,trivial⟩ ⟨hE,hix,by omega,by have:=hbd.1; omega,fun x hx=>by have:=hbd.2 x hx; omega,hfs⟩ (by (simp only []; omega))
  refine .d<|.cf<|.sk ?_
  have ci:=hix.lx; have dB:=hix.lr; have hib:=Ri (t:=aa) (xs:=ab) ‹_›
  obtain ⟨xi,hxi⟩:∃ q,ab[(Bi aa 0 ab).toNat]? = some q:=⟨_,AU AB⟩
  obtain ⟨yi,hyi⟩:∃ q,ac[(Bi aa 0 ab).toNat]? = some q:=⟨_,AU AB⟩
  obtain ⟨ri,hri⟩:∃ q,ai[(Bi aa 0 ab).toNat]? = some q:=⟨_,AU AB⟩
  have hiy:(Bi aa 0 ab).toNat< ac.length:=(List.getElem?_eq_some_iff.1 hyi).1
  have hl3_:af< bM.heap.size:=hix.lt _ AI; have hlr_:rq< bM.heap.size:=hix.lt _ AJ; have hn3_:=hix.ne3 hri; have hnr_:=hix.ner hri
  refine .gd (mtb [ri] bM.heap.size) 13 fun dE bi=>?_
  replace hix:=hix.ext bi
  replace hE:=hE.trans bi
  clear bi
  refine .r [0]<|.lb 1 hix.box (DJ (all_cons hn3_ all_nil) hl3_)<|.r [2,3]<|.lb 4 hix.box (DJ (all_cons hn3_ all_nil) hl3_)<|.r [5] ?_
  have cJ:(Bi aa 0 ab).toNat< ac.length:=AB
  refine GA.idx (i:=6) (b:=rq) (o:=0) ((Bi aa 0 ab).toNat) (len:=ac.length) (z:=Bi aa 0 ab) (sz:=3) AA AB cJ rfl<|.r [7] ?_
  obtain ⟨_,rfl,bj⟩:=hix.own.elem ((Bi aa 0 ab).toNat) yi hyi
  replace bj:Has dE ⟨rq,0+((Bi aa 0 ab).toNat) * Rep.sz RP,none⟩ [vT yi.key,vT yi.val,.slice yi.a yi.n yi.c]:=by rw [Nat.zero_add]; exact bj
  refine .lh 8 2 bj (DJ (all_cons hnr_ all_nil) hlr_)<|.r [9]<|GA.int (i:=10) ((k:Int)+1) AA AB<|.go 11<|.ns 1 3 [vI ((k:Int)+1)] fun ee bk=>?_
  replace hix:=hix.ext bk
  replace hE:=hE.trans bk
  clear bk
  intro bU eg bm bn bo cK
  have cL:∀ q_∈af::rq::ai,Nb bU q_:=fun q_ hq_=>Az bm (hix.lt q_ hq_)
  replace hix:=hix.ext bn
  replace hE:=hE.trans bn
  clear bn cK bm
  refine .go 12<|GE.append (T:=33) (ty:=33) (args:=[.slice yi.a yi.n yi.c,vS bU 1 1]) AA fun ej aF=>?_
  replace bo:=bo.ext aF
  replace hix:=hix.ext aF
  replace hE:=hE.trans aF
  clear aF
  have hyn:=(hix.el (Bi aa 0 ab).toNat xi yi ri hxi hyi hri).2.2.n; have hyl:xi.ids.length≤5000000:=by have hm:=AV hxi; (have:=ao _ hm; omega)
  have bR:=hE.size; have hge_ri:=hix.new ri (IX.mi hri)
  obtain ⟨aN,bD,ek,bV,bq,b8,ak⟩:=Ku.app (P:=Tryz.prog) (T:=33) (ty:=33) (hix.el (Bi aa 0 ab).toNat xi yi ri hxi hyi hri).2.2 AA bo (cL ri (IX.mi hri)) AB
  refine ⟨_,_,bV,Chg.toS ak (.inl AI),?_⟩
  replace hE:=Chg.Dy hE ak ⟨.inr hge_ri⟩
  refine .d fun dF aG=>?_
  replace ak:=Chg.trans ak (Ext.chg aG)
  replace bq:=bq.ext aG
  replace hE:=hE.trans aG
  clear aG
  have cM:(Bi aa 0 ab).toNat< ac.length:=AB
  refine RG.idx (b:=rq) (o:=0) ((Bi aa 0 ab).toNat) (len:=ac.length) (i:=Bi aa 0 ab) (sz:=3) AA AB cM rfl<|.r 1 ?_
  have bW:=PS H5 hix.own ak (Nb.one (hix.ner hri))
  obtain ⟨_,rfl,br⟩:=bW.elem ((Bi aa 0 ab).toNat) yi hyi
  replace br:Has dF ⟨rq,0+((Bi aa 0 ab).toNat) * Rep.sz RP,none⟩ [vT yi.key,vT yi.val,.slice yi.a yi.n yi.c]:=by rw [Nat.zero_add]; exact br
  refine RG.G6 (t':=33) (i:=((Bi aa 0 ab).toNat)) (k:=2) (v:=vS aN (yi.n+1) bD) (cs:=[vT yi.key,vT yi.val,.slice yi.a yi.n yi.c]) (⟨yi.key,yi.val,some ⟨aN,0,none⟩,yi.n+1,bD⟩:RP) bW hyi br AA AA AA rfl fun en cN bu cO=>?_
  have hge_r2:=hix.new rq AJ
  replace hix:=hix.upd (i:=(Bi aa 0 ab).toNat) (z:=(k:Int)+1) bR hxi hyi hri ak bq b8 bu (y':=(⟨yi.key,yi.val,some ⟨aN,0,none⟩,yi.n+1,bD⟩:RP)) rfl cN
  replace hE:=Chg.Dy hE bu ⟨.inr hge_r2⟩
  clear bu cO
  refine .d<|.ib 3<|.g<|.it ((j:Int)+1)<|.r 1<|.d ?_
  have hxN:(ab.set ((Bi aa 0 ab).toNat) ⟨xi.tag,xi.ids++[(k:Int)+1]⟩)=E9 ((k:Int)+1) ab aa:=(JE ‹_› hxi).symm
  have hbd:=JF ((k:Int)+1) ab aa (5 * k+j) cg ao; rw [← hxN] at hbd
  have hfs:=EK hfl (Ab aL); rw [← hxN] at hfs
  exact bA (rq,cq,j+1,(ac.set ((Bi aa 0 ab).toNat) (⟨yi.key,yi.val,some ⟨aN,0,none⟩,yi.n+1,bD⟩:RP)),(ab.set ((Bi aa 0 ab).toNat) ⟨xi.tag,xi.ids++[(k:Int)+1]⟩),(ai.set ((Bi aa 0 ab).toNat) aN)) _ _ ⟨AA,AA,AA,AA,AA,AA,AA,AA,AA,trivial⟩ ⟨hE,hix,by omega,by have:=hbd.1; omega,fun x hx=>by have:=hbd.2 x hx; omega,hfs⟩ (by (simp only []; omega))
 refine .d<|.s<|.cf<|.x 0 rfl<|.s<|.g<|.r 1 ?_
 have hEw:=hEc.trans hE; have hb2n:=hb2c.ext hE; have hb2l:=hb2c.lt; have hoP:=hix.XN hb2l; have hNn:=hix.Tk; have hb3n:=hix.box; have hn3r:=hix.ne
 have eB:Nb af ae:=EX (hix.new _ AI) hb2l; have eC:Nb r ae:=EX (hix.new _ AJ) hb2l
 have hgr:Gb w.heap.size r:=Nat.le_trans cm (hix.new _ AJ)
 have hbe:=Tm hbl AB
 refine .lb hb3n ?_
 obtain ⟨L_,dG,dQ,dR,dS⟩:=hix.sx hoP
 refine .cl (IN hoP (Nat.le_trans (by rw [hix.lx,hbe]; exact T0 p0 p1) (by decide:1000≤1100000)) dG dR) ?_
 rintro eD dH ⟨rfl,σ_,hpm_,hsort_,cP,hHs_,aH⟩
 obtain ⟨M_,dT,rfl⟩:=Sw hpm_ rfl
 have hperm_:=dG▸hpm_.map SX.p
 have kS:=aH; have kH:=hHs_; have kO:=cP
 replace ⟨hNn,hb3n,hb2n⟩:=(so [af,r,ae] aH).g3 hNn hb3n hb2n
 replace hEw:Chg nil w dH:=Chg.Dy hEw aH ⟨.inr hgr⟩
 clear aH
 refine .d<|.s<|.g<|.ln hb3n<|.sc [vS bE bX bY,vS r ys.length c] hb2n fun ck aI cQ cR=>?_
 have kT:=aI
 replace ⟨hNn,hb3n⟩:=(so [af,r,ae] aI).g2 hNn hb3n
 replace hEw:Chg nil w ck:=Chg.Dy hEw aI ⟨.inr cU⟩
 clear aI cR
 refine .d ?_
 replace hNn:=(sd ck [af,r,ae] r).g1 hNn
 exact .rb func102 results102 cQ ⟨Ym hix hDN hE hw0_ dK hb0_ dQ dS dT kO kH kS kT (PY p0 p1 hperm_ hsort_ hbe),hEw⟩
end Go.Proofs.YtcginoabkicdiaaGreat
namespace Go.Proofs.YtcginoabkicdiaaGreat
section
variable {α:Type} [Rep α] {w:World} {G F:Nat→Prop} {M ML M2:List Nat} {o:Option Addr} {n c r s b x:Nat} {t:TypeId} {xs:List α}
theorem RepS.Sx (h:RepS w (nin F M) o n c xs):RepS w (nin (fo F s) M) o n c xs:=h.Bj fun _ _ hF=>⟨.inl hF.1,hF.2⟩
theorem RepS.toM (h:RepS w (nin G M) o n c xs) (hs:∀ b∈ML,b∈M):RepS w (nin (nin G M) ML) o n c xs:=h.Bj fun k _ hk=>⟨hk,fun e=>hk.2 (hs k e)⟩
theorem Own.toM (h:Own w r t (nin G M) n c xs) (hs:∀ b∈ML,b∈M):Own w r t (nin (nin G M) ML) n c xs:=h.Bj fun k _ hk=>⟨hk,fun e=>hk.2 (hs k e)⟩
theorem Cov.mkI {L:List Nat}(h:b∈L):Cov (ins L) w b:=⟨.inl h⟩
theorem KH (h:Cov (ins [b,r]) w x) (hn:Nb x b):OrB x r w.heap.size:=by
 rcases h.or with h | h
 ·have h2:x∈[b,r]:=h
  rcases List.mem_cons.1 h2 with rfl | h2
  ·exact absurd rfl hn.ne
  ·simp at h2
   exact .inl h2
 ·exact .inr h
theorem Un {k:Nat}(h:nin (fo (nin G M) s) ML k) (hM:∀ b∈M,b< s) (hG:∀ b,s≤b→G b) (h2:∀ b∈M2,b∈ML∨b∈M):nin G M2 k:=by
 refine ⟨?_,fun hm=>?_⟩
 ·rcases h.1 with h1 | h1
  ·exact h1.1
  ·exact hG _ h1
 ·rcases h2 k hm with h3 | h3
  ·exact h.2 h3
  ·rcases h.1 with h1 | h1
   ·exact h1.2 h3
   ·have:=hM k h3; omega
theorem RepS.bxM (h:RepS w (nin (fo (nin G M) s) ML) o n c xs) (hM:∀ b∈M,b< s) (hG:∀ b,s≤b→G b) (h2:∀ b∈M2,b∈ML∨b∈M):RepS w (nin G M2) o n c xs:=h.Bj fun _ _ hk=>Un hk hM hG h2
theorem Own.bxM (h:Own w r t (nin (fo (nin G M) s) ML) n c xs) (hM:∀ b∈M,b< s) (hG:∀ b,s≤b→G b) (h2:∀ b∈M2,b∈ML∨b∈M):Own w r t (nin G M2) n c xs:=h.Bj fun _ _ hk=>Un hk hM hG h2
end
theorem Own.pS {w:World}{r:Nat}{t:TypeId}{F:Nat→Prop}{n c i:Nat}{xs:List Fil}{cs:List Value}(h:Own w r t F n c xs) (hB:Box w r t cs):∀ v,i+(n - i)≤n→v∈(cs.drop (i * 3)).take ((n - i) * 3)→Go.Proofs.YtcginoabkicdiaaGreat.Cy v=true:=by
 intro v hin hv
 obtain ⟨k,hk⟩:=List.mem_iff_getElem?.1 hv
 rw [List.getElem?_take] at hk
 split at hk
 ·rename_i hlt
  rw [List.getElem?_drop] at hk
  have hn:=h.len
  have hj:i+k / 3< xs.length:=by omega
  obtain ⟨c1,g1,g2⟩:=h.elem (i+k / 3) xs[i+k / 3] (AU hj)
  have hl:c1.length=3:=Rep.len g1
  have hk2:k % 3< c1.length:=by omega
  have h3:=g2 (k % 3) c1[k % 3] (AU hk2)
  have hz:Rep.sz Fil=3:=rfl
  unfold Box at hB
  rw [add_lit,hz] at h3
  simp only [World.cell?,hB] at h3
  have e:(i+k / 3) * 3+k % 3=i * 3+k:=by omega
  rw [e] at h3
  have h4:cs[i * 3+k]? = some c1[k % 3]:=by simpa using h3
  rw [hk] at h4
  cases h4
  exact Rep.flat g1 _ (List.getElem_mem hk2)
 ·cases hk
theorem Uo {P:Program}{T ty t:TypeId}{sz:Nat}{w:World}{r o c m:Nat}{cs:List Value}(hT:Wd P T t sz=true) (hB:Box w r t cs) (hm:0< m) (hfit:o+m * sz≤cs.length) :
 ∃ vs w',(Builtin.clear_ #[T] ty #[.slice (some ⟨r,o,none⟩) m c]).run P w=.ok (.tuple #[]) w'∧vs.length=m * sz∧Box w' r t (Ay cs o vs)∧Chg (one r) w w':=by
 unfold Wd at hT
 simp only [AW] at hT
 obtain ⟨h1,h2⟩:=hT
 split at h1
 ·rename_i e he
  have:=Nat.eq_of_beq_eq_true h1
  subst this
  split at h2
  ·rename_i inf hinf
   split at h2
   ·rename_i z hz
    simp only [AW,List.all_eq_true] at h2
    have hsz:=Nat.eq_of_beq_eq_true h2.1
    have hl:(Builtin.zeroCells z.cells m).toList.length=m * sz:=by rw [Array.length_toList,size_zeroCells,hsz]
    have ho:∀ v∈(Builtin.zeroCells z.cells m).toList,Cy v=true:=fun v hv=>by
     unfold Builtin.zeroCells at hv
     simp only [Array.toList_map,List.mem_map,Array.toList_range,List.mem_range] at hv
     obtain ⟨k,hk,rfl⟩:=hv
     have hk2:k % z.cells.size< z.cells.size:=Nat.mod_lt _ (Nat.pos_of_ne_zero (fun e=>by rw [e,Nat.mul_zero] at hk; omega))
     refine h2.2 _ ?_
     rw [getElem!_pos z.cells _ hk2]
     exact Array.getElem_mem_toList hk2
    obtain ⟨w',g1,g2,g3,_⟩:=hB.OF (P:=P) (Builtin.zeroCells z.cells m).toList (o:=o) (i:=0) AB ho
    refine ⟨_,w',?_,hl,g2,g3⟩
    have hv:(zeroValue e).run P w=.ok z w:=by simp [zeroValue,typeInfo,hinf,hz,go_sem]
    unfold Builtin.clear_
    simp only [List.getElem?_toArray,List.getElem?_cons_zero]
    rw [AZ (run_underlying he w)]
    obtain ⟨m',rfl⟩:∃ k,m=k+1:=⟨m - 1,by omega⟩
    simp only []
    rw [AZ hv,AZ g1]
    rfl
   ·cases h2
  ·cases h2
 ·cases h1
theorem Own.Yn {α:Type}[Rep α] {w w':World}{r:Nat}{t:TypeId}{F:Nat→Prop}{n c i:Nat}{xs:List α}{cs cs':List Value}(h:Own w r t F n c xs) (hx:Chg (one r) w w') (hB:Box w r t cs) (hB':Box w' r t cs') (hl:cs'.length=c * Rep.sz α) (hi:i≤n)
 (hp:∀ p,p< i * Rep.sz α→cs'[p]? = cs[p]?):Own w' r t F i c (xs.take i):=by
 have hn:=h.len
 have hle:=h.le
 have hcap:=h.cap
 unfold Box at hB hB'
 refine ⟨by rw [List.length_take]; omega,by omega,hcap,⟨cs'.toArray,hB',by simpa using hl⟩,fun k x hk=>?_⟩
 have hfr:∀ b,b< w.heap.size→F b∧b≠r→(F b∧b≠r)∧w'.heap[b]? = w.heap[b]? := fun b hb hF=>⟨hF,hx.block b hb (fun e=>hF.2 e)⟩
 rw [List.getElem?_take] at hk
 split at hk
 ·rename_i hki
  obtain ⟨c1,g1,g2⟩:=h.elem k x hk
  refine ⟨c1,Rep.frame g1 hfr,fun u v hv=>?_⟩
  have h3:=g2 u v hv
  have hu:u< Rep.sz α:=by have:=(List.getElem?_eq_some_iff.1 hv).1; rw [Rep.len g1] at this; exact this
  have hm:k * Rep.sz α+Rep.sz α≤i * Rep.sz α:=by rw [← Nat.succ_mul]; exact Nat.mul_le_mul_right _ hki
  rw [add_lit] at h3 ⊢
  simp only [World.cell?,hB] at h3
  simp only [World.cell?,hB']
  have:=hp (k * Rep.sz α+u) AB
  simpa [this] using h3
 ·cases hk
theorem Sy {cs v:List Value}{i p:Nat}(hp:p< i) (hi:i≤cs.length):(Ay cs i v)[p]? = cs[p]? := by
 unfold Ay
 rw [List.append_assoc,List.getElem?_append_left (by rw [List.length_take]; omega),List.getElem?_take,if_pos hp]
end Go.Proofs.YtcginoabkicdiaaGreat
namespace Go.Proofs.YtcginoabkicdiaaGreat
def Zw:Dsk:=⟨[],[],[],0⟩
def BJ (d:Dsk) (st:List Stp) (c:Int):Dsk:=if Ak d=true∧0≤c∧Ak (toD d st c)=true then toD d st c else Zw
def D6 (d:Dsk):Dsk:=if Ak d then BV d else Zw
def Au (d:Dsk) (a:Int):List Stp:=if Ak d then BG d a else []
theorem ES {d:Dsk}{a:Int}(h:Ak d=true):Au d a=BG d a:=by unfold Au; rw [if_pos h]
theorem P7 {d:Dsk}{a:Int}(h:Ak d=false):Au d a=[]:=by unfold Au; rw [if_neg (by simp [h])]
structure StW (d:Dsk) (st:List Stp):Prop where
 len:st.length≤4
 sz:∀ x∈st,KZ x
 pt:∀ x∈st,CR x.part
 ok:∀ k:Nat,DD ((st.take k).foldl doD d)
theorem DD.XX {d:Dsk}(h:DD d){x:Stp}(hk:x.kind=1) (hf:d.files.length< 20) (hn:0≤x.num∧x.num≤998) (hp:PrtI x.part):DD (doD d x):=by
 rw [FN hk]
 refine ⟨h.g,h.nl,by simp; omega,fun f hf=>?_,by show 0≤x.num+1∧x.num+1≤999; omega⟩
 rcases List.mem_append.1 hf with hf | hf
 ·exact h.file f hf
 ·simp at hf; subst hf; exact hp
theorem DD.Zx {d:Dsk}(h:DD d){x:Stp}(hk:x.kind=2) (hl:x.list.length≤7) (hn:NmG x.names):DD (doD d x):=by
 rw [HI hk]
 exact ⟨hn,hl,h.nf,h.file,h.next⟩
theorem P8 {d:Dsk}{n:Int}:∀ f∈EI d n,f∈d.files:=fun f hf=>by
 unfold EI at hf
 split at hf
 ·rcases List.mem_append.1 hf with hf | hf
  ·exact List.mem_of_mem_take hf
  ·exact List.mem_of_mem_drop hf
 ·exact hf
theorem Me {d:Dsk}{n:Int}:(EI d n).length≤d.files.length:=by
 unfold EI
 split
 ·rw [List.length_append,List.length_take,List.length_drop]; omega
 ·exact Nat.le_refl _
theorem DD.Zy {d:Dsk}(h:DD d){x:Stp}(hk:x.kind=3):DD (doD d x):=by
 rw [Fg hk]
 exact ⟨h.g,h.nl,Nat.le_trans Me h.nf,fun f hf=>h.file f (P8 f hf),h.next⟩
theorem Up {d:Dsk}{x:Stp}{xs:List Stp}(h0:DD d) (h:∀ k:Nat,DD ((xs.take k).foldl doD (doD d x))):∀ k:Nat,DD (((x::xs).take k).foldl doD d):=by
 intro k
 cases k with
 | zero=>exact h0
 | succ k=>exact h k
theorem Uq {d:Dsk}(h0:DD d):∀ k:Nat,DD ((([]:List Stp).take k).foldl doD d):=by intro k; simpa using h0
theorem StW.nil {d:Dsk}(h:DD d):StW d []:=⟨by simp,by simp,by simp,Uq h⟩
theorem Jb {x:Stp}(hl:x.list.length≤7) (hn:x.names.length≤7) (h5:∀ n∈x.names,n.length≤1000) (hx:-9000000≤x.num∧x.num≤9000000):KZ x:=⟨by omega,by omega,h5,hx.1,hx.2⟩
theorem Ur {ns:List (List Tag)}(h:NmG ns):∀ n∈ns,n.length≤1000:=fun n hn=>(h.sz n hn).1
theorem N3:CR ⟨[],[]⟩:=⟨rfl,by simp,by simp⟩
theorem Jc {d:Dsk}(h:DD d){l:List Int}{ns:List (List Tag)}{xs:List Stp}(hl:l.length≤7) (hn:NmG ns) (hx:∀ x∈xs,x.kind=3∧KZ x∧x.part=⟨[],[]⟩) (h3:xs.length≤2):StW d (⟨2,0,⟨[],[]⟩,l,ns⟩ :: xs):=by
 refine ⟨by simp; omega,fun x hm=>?_,fun x hm=>?_,Up h ?_⟩
 ·rcases List.mem_cons.1 hm with rfl | hm
  ·exact Jb hl hn.len (Ur hn) AD
  ·exact (hx x hm).2.1
 ·rcases List.mem_cons.1 hm with rfl | hm
  ·exact N3
  ·rw [(hx x hm).2.2]; exact N3
 ·have key:∀ (xs:List Stp) (d:Dsk),DD d→(∀ x∈xs,x.kind=3)→∀ k:Nat,DD ((xs.take k).foldl doD d):=by
   intro xs
   induction xs with
   | nil=>intro d h _; exact Uq h
   | cons x xs ih=>intro d h hk; exact Up h (ih _ (h.Zy (hk x AD)) (fun y hy=>hk y (by simp [hy])))
  exact key xs _ (h.Zx rfl hl hn) (fun x hm=>(hx x hm).1)
theorem StW.XY {d:Dsk}(h:DD d){n:Int}{p:Prt}{xs:List Stp}(hf:d.files.length< 20) (hn:0≤n∧n≤998) (hp:PrtI p) (h3:xs.length≤3) (hx:StW (doD d ⟨1,n,p,[],[]⟩) xs):StW d (⟨1,n,p,[],[]⟩ :: xs):=by
 refine ⟨by simp; omega,fun x hm=>?_,fun x hm=>?_,Up h hx.ok⟩
 ·rcases List.mem_cons.1 hm with rfl | hm
  ·exact Jb AD AD AD (by show -9000000≤n∧n≤9000000; omega)
  ·exact hx.sz x hm
 ·rcases List.mem_cons.1 hm with rfl | hm
  ·exact hp.sz
  ·exact hx.pt x hm
theorem XZ {s:Sto}(h:SD s):NmG s.idx.names:=NmG.of h.nm h.nd
theorem N4 {s:Sto}(h:StoK s):PrtI (Ah s.mem):=PrtI.mem h.row
theorem KI {d:Dsk}{s:Sto}(h:DD d) (hs:SD s):StW d (At d s)∧StW d (((At d s).take (At d s).length).drop 1):=by
 rw [List.take_length]
 unfold At
 split
 ·rename_i hf
  have q:=Ci hf
  have hk:=CN q.dk
  by_cases hc:s.mem.length=0∨d.list.length≥6∨d.next≥999∨d.files.length≥20
  ·have e:BF d s=[]:=by unfold BF; rw [if_pos hc]
   rw [e]; exact ⟨StW.nil h,StW.nil h⟩
  ·have e:=DL (d:=d) (s:=s) AB AB AB AB
   rw [e]
   have hn:=h.next
   have h1:=Jc (l:=d.list++[d.next]) (xs:=[]) h (by simp; omega) (XZ hs) AD AD
   have h2:DD (doD d ⟨1,d.next,Ah s.mem,[],[]⟩):=h.XX rfl AB (by show 0≤d.next∧d.next≤998; omega) (N4 (StoK.of hs q.sk))
   exact ⟨StW.XY h AB AB (N4 (StoK.of hs q.sk)) AD (Jc h2 (by simp; omega) (XZ hs) AD AD),h1⟩
 ·exact ⟨StW.nil h,StW.nil h⟩
theorem KJ {d:Dsk}(h:DD d) (a:Int):StW d (Au d a)∧StW d (((Au d a).take (Au d a).length).drop 1):=by
 rw [List.take_length]
 unfold Au
 split
 ·rename_i hk0
  have hk:=CN hk0
  have hdi:=h.di hk0
  unfold BG
  split
  ·exact ⟨StW.nil h,StW.nil h⟩
  ·rename_i h1
   simp only [Bool.or_eq_true,not_or,Bool.not_eq_true,Bool.not_eq_false',decide_eq_true_eq] at h1
   obtain ⟨⟨h1,h3⟩,h4⟩:=h1
   have h0:=Bt (by simpa using h1)
   have hl:a.toNat+1< d.list.length:=by omega
   have ha:d.list.getD a.toNat 0∈d.list:=by rw [List.getD_eq_getElem?_getD,AU AB]; exact List.getElem_mem _
   have hb:d.list.getD (a.toNat+1) 0∈d.list:=by rw [List.getD_eq_getElem?_getD,AU hl]; exact List.getElem_mem _
   have na:=hdi.num _ ha
   have nb:=hdi.num _ hb
   have hn:=h.next
   generalize d.list.getD a.toNat 0=x at *
   generalize d.list.getD (a.toNat+1) 0=y at *
   have hp:PrtI (BB (Ao d x) (Ao d y)):=(h.part x).merge (h.part y)
   have hlen:(d.list.take a.toNat++[d.next]++d.list.drop (a.toNat+2)).length≤7:=by
    simp only [List.length_append,List.length_take,List.length_drop,List.length_cons,List.length_nil]; omega
   have hg:∀ z∈[(⟨3,x,⟨[],[]⟩,[],[]⟩:Stp),⟨3,y,⟨[],[]⟩,[],[]⟩],z.kind=3∧KZ z∧z.part=⟨[],[]⟩:=fun z hz=>by
    simp only [List.mem_cons,List.not_mem_nil,or_false] at hz
    rcases hz with rfl | rfl
    ·exact ⟨rfl,Jb AD AD AD (by show -9000000≤x∧x≤9000000; omega),rfl⟩
    ·exact ⟨rfl,Jb AD AD AD (by show -9000000≤y∧y≤9000000; omega),rfl⟩
   have h2:DD (doD d ⟨1,d.next,BB (Ao d x) (Ao d y),[],[]⟩):=h.XX rfl AB (by show 0≤d.next∧d.next≤998; omega) hp
   exact ⟨StW.XY h AB AB hp AD (Jc h2 hlen h.g hg AD),Jc h hlen h.g hg AD⟩
 ·exact ⟨StW.nil h,StW.nil h⟩
theorem Wp {l:List Stp}{i:Nat}{d:Dsk}{q:Stp}{Y:Dsk}(h:(l.drop i).foldl doD d=Y) (hd:l.drop i=q::l.drop (i+1)):(l.drop (i+1)).foldl doD (doD d q)=Y:=by
 rw [hd] at h
 exact h
theorem Q1 {l:List Stp}{i:Nat}{d:Dsk}{Y:Dsk}(h:(l.drop i).foldl doD d=Y) (hi:l.length≤i):d=Y:=by
 rw [Aa hi] at h
 exact h
theorem Yo {d:Dsk}{st:List Stp}{c:Int}(hc:¬ c< 0):((st.take (if (st.length:Int)< c then (st.length:Int) else c).toNat).drop 0).foldl doD d=toD d st c:=by
 unfold toD
 rw [List.drop_zero]
 split
 ·rw [show ((st.length:Int)).toNat=st.length by omega,List.take_length,List.take_of_length_le AB]
 ·rfl
theorem KK {l:List Stp}{i:Nat}{x d:Dsk}{st:List Stp}{c:Int}(h:(l.drop i).foldl doD x=toD d st c) (hi:l.length≤i) (hw:StW d st):DD x:=by
 rw [Q1 h hi]
 exact hw.ok c.toNat
theorem Us {d:Dsk}(x:Stp):(doD d x).files.length≤d.files.length+1:=by
 unfold doD
 split
 ·simp
 ·split
  ·simp
  ·split
   ·have:=Me (d:=d) (n:=x.num); simp only; omega
   ·omega
theorem Zz {st:List Stp}{c:Int}{k:Nat}{x:Stp}(h:((st.take (if (st.length:Int)< c then (st.length:Int) else c).toNat).drop 0)[k]? = some x):k< st.length:=by
 have:=(List.getElem?_eq_some_iff.1 h).1
 rw [List.length_drop,List.length_take] at this
 omega
theorem Sz {d:Dsk}(h:DD d):d.files.length≤1000:=by have:=h.nf; omega
theorem S0 {d:Dsk}(h:DD d):∀ f∈d.files,CR f.part:=fun f hf=>(h.file f hf).sz
theorem S1 {d:Dsk}(h:DD d):d.list.length≤1000:=by have:=h.nl; omega
theorem S2 {d:Dsk}(h:DD d):d.names.length≤1000:=by have:=h.g.len; omega
theorem S3 {d:Dsk}(h:DD d):∀ n∈d.names,n.length≤1000:=Ur h.g
theorem Ut {d:Dsk}{st:List Stp}{c:Int}(h:Ak d=false∨c< 0∨Ak (toD d st c)=false):(⟨[],[],[],0⟩:Dsk)=BJ d st c:=by
 unfold BJ
 rw [if_neg]
 ·rfl
 ·rintro ⟨h1,h2,h3⟩
  rcases h with h | h | h
  ·rw [h] at h1; cases h1
  ·omega
  ·rw [h] at h3; cases h3
theorem Xa {d:Dsk}{st:List Stp}{c:Int}(h:Ak d=true) (h1:¬ c< 0) (h2:Ak (toD d st c)=true):BJ d st c=toD d st c:=by
 unfold BJ
 rw [if_pos ⟨h,by omega,h2⟩]
theorem Wq {l:List Stp}{i:Nat}{x d:Dsk}{st:List Stp}{c:Int}(h:(l.drop i).foldl doD x=toD d st c) (hi:l.length≤i) (h2:Ak x=false):(⟨[],[],[],0⟩:Dsk)=BJ d st c:=by
 rw [Q1 h hi] at h2
 exact Ut (.inr (.inr h2))
theorem Wr {l:List Stp}{i:Nat}{x d:Dsk}{st:List Stp}{c:Int}(h:(l.drop i).foldl doD x=toD d st c) (hi:l.length≤i) (h0:Ak d=true) (h1:¬ c< 0) (h2:Ak x=true):x=BJ d st c:=by
 rw [Q1 h hi] at h2 ⊢
 exact (Xa h0 h1 h2).symm
theorem Yp {d:Dsk}{st:List Stp}(c:Int) (h:StW d st):DD (toD d st c):=h.ok c.toNat
theorem DD.tidy {d:Dsk}(h:DD d):DD (BV d):=⟨h.g,h.nl,Nat.le_trans (List.length_filter_le _ _) h.nf,fun f hf=>h.file f (List.mem_filter.1 hf).1,h.next⟩
theorem Ws {d:Dsk}(h:Ak d=false):(⟨[],[],[],0⟩:Dsk)=D6 d:=by unfold D6; rw [if_neg (by simp [h])]; rfl
theorem LW {d:Dsk}(h:Ak d=true):D6 d=BV d:=by unfold D6; rw [if_pos h]
theorem Co {l:List Fil}{i:Nat}{k:List Fil}{q:Fil}(h:k++l.drop i=l) (hd:l.drop i=q::l.drop (i+1)):(k++[q])++l.drop (i+1)=l:=by
 rw [hd] at h
 simpa using h
theorem BO {α:Type}{l:List α}{i:Nat}{k:List α}(h:k++l.drop i=l) (hi:l.length≤i):k=l:=by
 rw [Aa hi] at h
 simpa using h
theorem Xb {d:Dsk}{a:Int}(h:Ak d=true) (h1:inR a 0 ((d.list.length:Int) - 2)=false∨E0 d=true):[]=Au d a:=by
 rw [ES h,I5]
 rcases h1 with h1 | h1
 ·exact .inl h1
 ·rcases R0 h1 with h1 | h1
  ·exact .inr (.inl AB)
  ·exact .inr (.inr AB)
theorem N5 {d:Dsk}{n:Int}(hn:n∈d.list):Ao d n∈(Aj d).parts:=by
 show _∈d.list.map (Ao d)
 exact List.mem_map.2 ⟨n,hn,rfl⟩
theorem Uu {d:Dsk}{at_ a b:Int}{f g:Fil}(hd:DD d) (h:Ak d=true) (h1:inR at_ 0 ((d.list.length:Int) - 2)=true) (h2:E0 d=false) (ha:d.list[at_.toNat]? = some a) (hb:d.list[(at_+1).toNat]? = some b) (hf:d.files[(Al d a).toNat]? = some f) (hg:d.files[(Al d b).toNat]? = some g) :
 [⟨1,d.next,(BW f.part g.part).1,[],[]⟩,⟨2,0,⟨[],[]⟩,(([]++(d.list.take at_.toNat).drop 0)++[d.next])++(d.list.take d.list.length).drop (at_+2).toNat,d.names⟩,⟨3,a,⟨[],[]⟩,[],[]⟩,⟨3,b,⟨[],[]⟩,[],[]⟩]=Au d at_:=by
 have hx:=Rz h2
 have hk:=CN h
 have:=hd.nf
 have hs:=hd.sd h
 have hso:=(Cn h).2.1
 have e:=MF hs hso (N5 (AV ha)) (N5 (AV hb))
 rw [DR hf,DR hg] at e
 rw [e,ES h,Ee h1 AB AB ha hb hf hg]
end Go.Proofs.YtcginoabkicdiaaGreat
namespace Go.Proofs.YtcginoabkicdiaaGreat
theorem Ke {α:Type}{a b:List α}{j:Nat}{x:α}(h:a.drop j=b.drop j) (hx:a[j]? = some x):b[j]? = some x:=by
 have h1:(a.drop j)[0]? = (b.drop j)[0]? := by rw [h]
 rw [List.getElem?_drop,List.getElem?_drop,Nat.add_zero] at h1
 rw [← h1]; exact hx
theorem N6 {α:Type}{b:List α}{j:Int}{x:α}(hj:0≤j) (hx:b[j.toNat]? = some x):b.take (j+1).toNat=b.take j.toNat++[x]:=by
 rw [show (j+1).toNat=j.toNat+1 by omega,List.take_add_one,hx]
 rfl
end Go.Proofs.YtcginoabkicdiaaGreat
namespace Go.Proofs.YtcginoabkicdiaaGreat
theorem Wt:∀ (fs:List Fil) (n:Int) (i:Nat),0≤DH n i fs→∃ f,fs[(DH n i fs).toNat - i]? = some f∧f.num=n∧i≤(DH n i fs).toNat:=by
 intro fs
 induction fs with
 | nil=>intro n i h; exact absurd h (by unfold DH; omega)
 | cons x xs ih =>
   intro n i h
   unfold DH at h ⊢
   split at h
   ·next e =>
    rw [if_pos e]
    exact ⟨x,by simp,by simpa using e,by simp⟩
   ·next e =>
    rw [if_neg e]
    obtain ⟨f,h1,h2,h3⟩:=ih n (i+1) h
    refine ⟨f,?_,h2,by omega⟩
    rw [show (DH n (i+1) xs).toNat - i=((DH n (i+1) xs).toNat - (i+1))+1 by omega,List.getElem?_cons_succ]
    exact h1
end Go.Proofs.YtcginoabkicdiaaGreat
namespace Go.Proofs.YtcginoabkicdiaaGreat
theorem N7 (nx:Int):∀ (fs:List Fil) (o:Option Int),Cm nx o fs=true↔(∀ f∈fs,1≤f.num∧f.num≤nx - 1∧Ai f.part=true)∧fs.Pairwise (fun a b=>a.num< b.num)∧∀ q,o=some q→∀ f∈fs,q< f.num:=by
 intro fs
 induction fs with
 | nil=>intro o; simp [Cm]
 | cons x xs ih =>
   intro o
   unfold Cm
   simp only [AW]
   rw [ih]
   constructor
   ·rintro ⟨⟨⟨h1,h2⟩,h3⟩,h4,h5,h6⟩
    have h1:=Bt h1
    refine ⟨fun f hf=>?_,List.pairwise_cons.2 ⟨fun f hf=>h6 _ rfl f hf,h5⟩,fun q hq f hf=>?_⟩
    ·rcases List.mem_cons.1 hf with rfl | hf
     ·exact ⟨h1.1,h1.2,h3⟩
     ·exact h4 f hf
    ·subst hq
     have hx:q< x.num:=by simpa using h2
     rcases List.mem_cons.1 hf with rfl | hf
     ·exact hx
     ·have:=h6 _ rfl f hf; omega
   ·rintro ⟨h1,h2,h3⟩
    obtain ⟨h4,h5⟩:=List.pairwise_cons.1 h2
    have hx:=h1 x AD
    refine ⟨⟨⟨?_,?_⟩,hx.2.2⟩,fun f hf=>h1 f (by simp [hf]),h5,fun q hq f hf=>?_⟩
    ·unfold inR; rw [decide_eq_true hx.1,decide_eq_true hx.2.1]; rfl
    ·cases o with
     | none=>rfl
     | some q=>simpa using h3 q rfl x AD
    ·cases hq
     exact h4 f hf
theorem R4:∀ (fs:List Fil) (i:Nat) (f:Fil),fs.Pairwise (fun a b=>a.num< b.num)→f∈fs→∃ k:Nat,DH f.num i fs=((i+k:Nat):Int)∧fs[k]? = some f:=by
 intro fs
 induction fs with
 | nil=>intro i f _ hf; cases hf
 | cons x xs ih =>
   intro i f hp hf
   obtain ⟨h1,h2⟩:=List.pairwise_cons.1 hp
   unfold DH
   rcases List.mem_cons.1 hf with rfl | hf
   ·exact ⟨0,by simp,rfl⟩
   ·have:=h1 f hf
    rw [if_neg (by simp; omega)]
    obtain ⟨k,g1,g2⟩:=ih (i+1) f h2 hf
    exact ⟨k+1,by rw [g1]; omega,by rw [List.getElem?_cons_succ]; exact g2⟩
theorem Es {d:Dsk}(hp:d.files.Pairwise (fun a b=>a.num< b.num)){f:Fil}(hf:f∈d.files):Ao d f.num=f.part∧0≤Al d f.num:=by
 obtain ⟨k,h1,h2⟩:=R4 d.files 0 f hp hf
 have h3:Al d f.num=(k:Int):=by unfold Al; rw [h1]; simp
 refine ⟨DR (by rw [h3]; exact h2),by omega⟩
structure DskV (d:Dsk):Prop where
 next:1≤d.next∧d.next≤999
 nf:d.files.length≤20
 nl:d.list.length≤6
 file:∀ f∈d.files,1≤f.num∧f.num≤d.next - 1∧Ai f.part=true
 asc:d.files.Pairwise (fun a b=>a.num< b.num)
 at_:∀ n∈d.list,∃ f∈d.files,f.num=n
 nd:d.list.Nodup
 nm:nmB d.names=true
 so:Ae (Aj d)=true
theorem Cc {d:Dsk}:Ak d=true↔DskV d:=by
 unfold Ak
 simp only [AW,decide_eq_true_eq]
 constructor
 ·rintro ⟨⟨⟨⟨⟨h1,h2⟩,h3⟩,h4⟩,h5⟩,h6,h7⟩
  obtain ⟨g1,g2,_⟩:=(N7 _ _ _).1 h4
  unfold DO at h5
  simp only [AW,decide_eq_true_eq,List.all_eq_true] at h5
  exact ⟨Bt h1,h2,h3,g1,g2,fun n hn=>(Ga d n).1 (h5.1 n hn),h5.2,h6,h7⟩
 ·rintro ⟨h1,h2,h3,h4,h5,h6,h7,h8,h9⟩
  refine ⟨⟨⟨⟨⟨?_,h2⟩,h3⟩,(N7 _ _ _).2 ⟨h4,h5,by simp⟩⟩,?_⟩,h8,h9⟩
  ·unfold inR; rw [decide_eq_true h1.1,decide_eq_true h1.2]; rfl
  ·unfold DO
   simp only [AW,decide_eq_true_eq,List.all_eq_true]
   exact ⟨fun n hn=>(Ga d n).2 (h6 n hn),h7⟩
theorem DskV.lt {d:Dsk}(h:DskV d):∀ n∈d.list,1≤n∧n< d.next:=fun n hn=>by
 obtain ⟨f,hf,rfl⟩:=h.at_ n hn
 have:=h.file f hf
 omega
theorem Wu {d e:Dsk}(hn:e.names=d.names) (hl:e.list=d.list) (hp:∀ n∈d.list,Ao e n=Ao d n):Aj e=Aj d:=by
 unfold Aj
 rw [hn,hl,List.map_congr_left hp]
theorem DskV.files {d:Dsk}(h:DskV d){fs:List Fil}{nx:Int}(h1:1≤nx∧nx≤999) (h2:fs.length≤20) (h3:∀ f∈fs,1≤f.num∧f.num≤nx - 1∧Ai f.part=true) (h4:fs.Pairwise (fun a b=>a.num< b.num)) (h5:∀ f∈d.files,f.num∈d.list→f∈fs) :
 DskV ⟨fs,d.list,d.names,nx⟩∧Aj ⟨fs,d.list,d.names,nx⟩=Aj d:=by
 have e:Aj ⟨fs,d.list,d.names,nx⟩=Aj d:=Wu rfl rfl (fun n hn=>by
  obtain ⟨f,hf,rfl⟩:=h.at_ n hn
  rw [(Es h.asc hf).1,(Es (d:=⟨fs,d.list,d.names,nx⟩) h4 (h5 f hf hn)).1])
 refine ⟨⟨h1,h2,h.nl,h3,h4,fun n hn=>?_,h.nd,h.nm,by rw [e]; exact h.so⟩,e⟩
 obtain ⟨f,hf,rfl⟩:=h.at_ n hn
 exact ⟨f,h5 f hf hn,rfl⟩
theorem DskV.add {d:Dsk}(h:DskV d){p:Prt}(hp:Ai p=true) (h1:d.next< 999) (h2:d.files.length< 20):DskV ⟨d.files++[⟨d.next,p⟩],d.list,d.names,d.next+1⟩∧Aj ⟨d.files++[⟨d.next,p⟩],d.list,d.names,d.next+1⟩=Aj d:=by
 have hn:=h.next
 refine h.files AB (by simp; omega) (fun f hf=>?_) ?_ (fun f hf _=>List.mem_append.2 (.inl hf))
 ·rcases List.mem_append.1 hf with hf | hf
  ·have:=h.file f hf
   exact ⟨this.1,by omega,this.2.2⟩
  ·simp at hf
   subst hf
   exact ⟨hn.1,by simp,hp⟩
 ·rw [List.pairwise_append]
  refine ⟨h.asc,by simp,fun a ha b hb=>?_⟩
  simp at hb
  subst hb
  have:=h.file a ha
  show a.num< d.next
  omega
theorem DskV.gone {d:Dsk}(h:DskV d) (n:Int):DskV ⟨EI d n,d.list,d.names,d.next⟩∧Aj ⟨EI d n,d.list,d.names,d.next⟩=Aj d:=by
 refine h.files h.next (Nat.le_trans Me h.nf) (fun f hf=>h.file f (P8 f hf)) ?_ (fun f hf hm=>?_)
 ·refine h.asc.sublist ?_
  unfold EI
  split
  ·have e:=List.take_append_drop (Al d n).toNat d.files
   conv=>rhs; rw [← e]
   refine List.Sublist.append (List.Sublist.refl _) ?_
   rw [← List.drop_drop]
   exact List.drop_sublist 1 _
  ·exact List.Sublist.refl _
 ·unfold EI
  split
  ·rename_i hc
   obtain ⟨k,g1,g2⟩:=R4 d.files 0 f h.asc hf
   have g3:Al d f.num=(k:Int):=by unfold Al; rw [g1]; simp
   by_cases hk:k< (Al d n).toNat
   ·refine List.mem_append.2 (.inl (List.mem_iff_getElem?.2 ⟨k,?_⟩))
    rw [List.getElem?_take,if_pos hk]
    exact g2
   ·by_cases hk2:k=(Al d n).toNat
    ·obtain ⟨y,hy1,hy2,_⟩:=(fun hh=>Wt d.files n 0 hh) hc.1
     have hy1':d.files[(Al d n).toNat]? = some y:=hy1
     rw [← hk2,g2] at hy1'
     cases hy1'
     rw [hy2] at hm
     have:=hc.2
     rw [List.contains_iff_mem.2 hm] at this
     cases this
    ·refine List.mem_append.2 (.inr (List.mem_iff_getElem?.2 ⟨k - ((Al d n).toNat+1),?_⟩))
     rw [List.getElem?_drop,show (Al d n).toNat+1+(k - ((Al d n).toNat+1))=k by omega]
     exact g2
  ·exact hf
theorem DskV.tidy {d:Dsk}(h:DskV d):DskV (BV d)∧Aj (BV d)=Aj d:=by
 refine h.files h.next (Nat.le_trans (List.length_filter_le _ _) h.nf) (fun f hf=>h.file f (List.mem_filter.1 hf).1) (h.asc.sublist List.filter_sublist) (fun f hf hm=>List.mem_filter.2 ⟨hf,?_⟩)
 simpa using hm
theorem N8 {d:Dsk}{st:List Stp}{c:Int}(h:c≤0):toD d st c=d:=by
 unfold toD
 rw [show c.toNat=0 by omega]
 rfl
theorem C5 {d:Dsk}{x:Stp}{st:List Stp}{c:Int}(h:1≤c):toD d (x::st) c=toD (doD d x) st (c - 1):=by
 unfold toD
 rw [show c.toNat=(c - 1).toNat+1 by omega]
 rfl
theorem LX {d:Dsk}{c:Int}:toD d [] c=d:=by
 unfold toD
 simp
theorem Uv {s:Sto}(h:s.idx=idxOf s.idx.names){ps:List Prt}{m:List Smp}:(⟨idxOf s.idx.names,ps,m⟩:Sto)=⟨s.idx,ps,m⟩:=by rw [← h]
structure FlD (d:Dsk) (s:Sto):Prop where
 v:DskV d
 sd:SD s
 k:Ae s=true
 nb:nmB s.idx.names=true
 p:s.parts=d.list.map (Ao d)
 m:s.mem≠[]
 l:d.list.length< 6
 n:d.next< 999
 f:d.files.length< 20
theorem Q2 {s:Sto}(h:SD s) (hk:Ae s=true) (h1:s.mem≠[]) (h2:s.parts.length< 6):Ai (Ah s.mem)=true:=by
 have h5:=ME h hk h1 h2
 unfold Ae at h5
 simp only [AW,decide_eq_true_eq,List.all_eq_true] at h5
 exact Ef (h5.1.1.2 (Ah s.mem) (by unfold DY; simp))
theorem FlD.to {d:Dsk}{s:Sto}(q:FlD d s) (c:Int):DskV (toD d (BF d s) c)∧Aj (toD d (BF d s) c)=if c< 2 then Aj d else DY s:=by
 have hpl:s.parts.length< 6:=by rw [q.p,List.length_map]; exact q.l
 have e:=DL (d:=d) (s:=s) (by have:=q.m; rw [← List.length_pos_iff] at this; omega) (by have:=q.l; omega) (by have:=q.n; omega) (by have:=q.f; omega)
 rw [e]
 by_cases h0:c≤0
 ·rw [N8 h0,if_pos AB]
  exact ⟨q.v,rfl⟩
 ·have hp:=Q2 q.sd q.k q.m hpl
  obtain ⟨v1,o1⟩:=q.v.add hp q.n q.f
  rw [C5 AB,FN rfl]
  by_cases h1:c≤1
  ·rw [N8 AB,if_pos AB]
   exact ⟨v1,o1⟩
  ·rw [C5 AB,HI rfl,LX,if_neg AB]
   have hnew:Ao ⟨d.files++[⟨d.next,Ah s.mem⟩],d.list++[d.next],s.idx.names,d.next+1⟩ d.next=Ah s.mem:=(Es (d:=⟨d.files++[⟨d.next,Ah s.mem⟩],d.list++[d.next],s.idx.names,d.next+1⟩) v1.asc (f:=⟨d.next,Ah s.mem⟩) AD).1
   have hold:∀ n∈d.list,Ao ⟨d.files++[⟨d.next,Ah s.mem⟩],d.list++[d.next],s.idx.names,d.next+1⟩ n=Ao d n:=fun n hn=>by
    obtain ⟨f,hf,rfl⟩:=q.v.at_ n hn
    rw [(Es q.v.asc hf).1,(Es (d:=⟨d.files++[⟨d.next,Ah s.mem⟩],d.list++[d.next],s.idx.names,d.next+1⟩) v1.asc (f:=f) (List.mem_append.2 (.inl hf))).1]
   have eo:Aj ⟨d.files++[⟨d.next,Ah s.mem⟩],d.list++[d.next],s.idx.names,d.next+1⟩=DY s:=by
    unfold Aj DY
    rw [Uv q.sd.idx]
    simp only [List.map_append,List.map_cons,List.map_nil]
    rw [hnew,List.map_congr_left hold,q.p]
   refine ⟨⟨v1.next,v1.nf,by have:=q.l; simp; omega,v1.file,v1.asc,fun n hn=>?_,?_,q.nb,by rw [eo]; exact ME q.sd q.k q.m hpl⟩,eo⟩
   ·rcases List.mem_append.1 hn with hn | hn
    ·exact v1.at_ n hn
    ·simp at hn
     exact ⟨⟨d.next,Ah s.mem⟩,by simp,hn.symm⟩
   ·rw [List.nodup_append]
    refine ⟨q.v.nd,by simp,fun a ha b hb=>?_⟩
    simp at hb
    subst hb
    have:=q.v.lt a ha
    omega
theorem FlD.of {d:Dsk}{s:Sto}(hs:SD s) (h:¬ ((At d s).length:Int)=0):FlD d s∧At d s=BF d s:=by
 cases hf:CH d s with
 | false=>rw [P2 hf] at h; exact absurd rfl h
 | true =>
   have q:=Ci hf
   have e:=FU hf
   by_cases hc:s.mem.length=0∨d.list.length≥6∨d.next≥999∨d.files.length≥20
   ·have e2:BF d s=[]:=by unfold BF; rw [if_pos hc]
    rw [e,e2] at h; exact absurd rfl h
   ·exact ⟨⟨Cc.1 q.dk,hs,q.sk,q.nm,q.p,fun e2=>hc (.inl (by rw [e2]; rfl)),by omega,by omega,by omega⟩,e⟩
structure MgD (d:Dsk) (a:Nat) (x y:Int):Prop where
 v:DskV d
 dd:DD d
 l:a+2≤d.list.length
 hx:d.list[a]? = some x
 hy:d.list[a+1]? = some y
 n:d.next< 999
 f:d.files.length< 20
 e:BG d a=[⟨1,d.next,BB (Ao d x) (Ao d y),[],[]⟩,⟨2,0,⟨[],[]⟩,d.list.take a++[d.next]++d.list.drop (a+2),d.names⟩,⟨3,x,⟨[],[]⟩,[],[]⟩,⟨3,y,⟨[],[]⟩,[],[]⟩]
theorem MgD.of {d:Dsk}{i:Int}(hd:DD d) (h:¬ ((Au d i).length:Int)=0):∃ x y,MgD d i.toNat x y∧Au d i=BG d i.toNat∧i=(i.toNat:Int):=by
 cases hk:Ak d with
 | false=>rw [P7 hk] at h; exact absurd rfl h
 | true =>
   rw [ES hk] at h ⊢
   by_cases hc:(!(inR i 0 ((d.list.length:Int) - 2)) || decide (d.next≥999) || decide (d.files.length≥20))=true
   ·unfold BG at h
    rw [if_pos hc] at h
    exact absurd rfl h
   ·have hc2:=hc
    simp only [Bool.or_eq_true,not_or,Bool.not_eq_true,Bool.not_eq_false',decide_eq_true_eq] at hc2
    obtain ⟨⟨h1,h3⟩,h4⟩:=hc2
    have h0:=Bt (by simpa using h1)
    have ei:i=(i.toNat:Int):=by omega
    have hx:=AU (l:=d.list) (i:=i.toNat) AB
    have hy:=AU (l:=d.list) (i:=i.toNat+1) AB
    refine ⟨_,_,⟨Cc.1 hk,hd,by omega,hx,hy,by omega,by omega,?_⟩,by rw [← ei],ei⟩
    rw [← ei]
    unfold BG
    rw [if_neg hc]
    simp only [List.getD_eq_getElem?_getD,hx,hy,Option.getD_some]
section
variable {d:Dsk} {a:Nat} {x y:Int}
theorem MgD.list (q:MgD d a x y):d.list=d.list.take a++x::y::d.list.drop (a+2):=by
 have e:=List.take_append_drop a d.list
 rw [Ab q.hx,Ab q.hy] at e
 exact e.symm
theorem MgD.open (q:MgD d a x y):(Aj d).parts[a]? = some (Ao d x)∧(Aj d).parts[a+1]? = some (Ao d y)∧(Aj d).parts.length=d.list.length:=by
 unfold Aj
 simp only [List.getElem?_map,q.hx,q.hy,List.length_map]
 exact ⟨rfl,rfl,trivial⟩
theorem MgD.sd (q:MgD d a x y):SD (Aj d):=q.dd.sd (Cc.2 q.v)
theorem MgD.part (q:MgD d a x y):Ai (BB (Ao d x) (Ao d y))=true:=by
 have hl:a+2≤(Aj d).parts.length:=by rw [q.open.2.2]; exact q.l
 have h:=J9 q.sd q.v.so hl
 obtain ⟨u,w,hu,hw,e⟩:=IB hl
 rw [q.open.1] at hu
 rw [q.open.2.1] at hw
 cases hu
 cases hw
 unfold Ae at h
 simp only [AW,decide_eq_true_eq,List.all_eq_true] at h
 exact Ef (h.1.1.2 _ (by rw [e]; simp))
theorem MgD.mem (q:MgD d a x y):∀ n∈d.list.take a++[d.next]++d.list.drop (a+2),n∈d.list∧n≠x∧n≠y∨n=d.next:=fun n hn=>by
 have hnd:=q.v.nd
 rw [q.list] at hnd
 rw [List.nodup_append,List.nodup_cons,List.nodup_cons] at hnd
 obtain ⟨n1,⟨n2,n3,n4⟩,n5⟩:=hnd
 rcases List.mem_append.1 hn with hn | hn
 ·rcases List.mem_append.1 hn with hn | hn
  ·exact .inl ⟨List.mem_of_mem_take hn,n5 n hn x AD,n5 n hn y AD⟩
  ·simp at hn; exact .inr hn
 ·exact .inl ⟨List.mem_of_mem_drop hn,fun e=>n2 (by rw [← e]; simp [hn]),fun e=>n3 (by rw [← e]; exact hn)⟩
def mgD (d:Dsk) (a:Nat) (x y:Int):Dsk:=⟨d.files++[⟨d.next,BB (Ao d x) (Ao d y)⟩],d.list.take a++[d.next]++d.list.drop (a+2),d.names,d.next+1⟩
theorem MgD.v2 (q:MgD d a x y):DskV (mgD d a x y)∧Aj (mgD d a x y)=DZ (Aj d) a:=by
 obtain ⟨v1,o1⟩:=q.v.add q.part q.n q.f
 have hnew:Ao (mgD d a x y) d.next=BB (Ao d x) (Ao d y):=(Es (d:=mgD d a x y) v1.asc (f:=⟨d.next,BB (Ao d x) (Ao d y)⟩) (by unfold mgD; simp)).1
 have hold:∀ n∈d.list,Ao (mgD d a x y) n=Ao d n:=fun n hn=>by
  obtain ⟨f,hf,rfl⟩:=q.v.at_ n hn
  rw [(Es q.v.asc hf).1,(Es (d:=mgD d a x y) v1.asc (f:=f) (List.mem_append.2 (.inl hf))).1]
 have hl:a+2≤(Aj d).parts.length:=by rw [q.open.2.2]; exact q.l
 have eo:Aj (mgD d a x y)=DZ (Aj d) a:=by
  obtain ⟨u,w,hu,hw,e⟩:=IB hl
  rw [q.open.1] at hu
  rw [q.open.2.1] at hw
  cases hu
  cases hw
  have h1:(Aj (mgD d a x y)).parts=(DZ (Aj d) a).parts:=by
   rw [e]
   show (d.list.take a++[d.next]++d.list.drop (a+2)).map (Ao (mgD d a x y))=(d.list.map (Ao d)).take a++[_]++(d.list.map (Ao d)).drop (a+2)
   simp only [List.map_append,List.map_cons,List.map_nil]
   rw [hnew,List.map_congr_left (fun n hn=>hold n (List.mem_of_mem_take hn)),List.map_congr_left (l:=d.list.drop (a+2)) (fun n hn=>hold n (List.mem_of_mem_drop hn)),List.map_take,List.map_drop]
  show (⟨_,_,_⟩:Sto)=⟨_,_,_⟩
  have h2:(Aj (mgD d a x y)).parts=GX (Aj d).parts a:=h1
  unfold Aj at h2 ⊢
  simp only [] at h2 ⊢
  rw [h2]
  rfl
 refine ⟨⟨v1.next,v1.nf,?_,v1.file,v1.asc,fun n hn=>?_,?_,q.v.nm,by rw [eo]; exact J9 q.sd q.v.so hl⟩,eo⟩
 ·have:=q.v.nl
  show (d.list.take a++[d.next]++d.list.drop (a+2)).length≤6
  simp only [List.length_append,List.length_take,List.length_drop,List.length_cons,List.length_nil]
  have:=q.l
  omega
 ·rcases q.mem n hn with hn | rfl
  ·exact v1.at_ n hn.1
  ·exact ⟨⟨d.next,BB (Ao d x) (Ao d y)⟩,by unfold mgD; simp,rfl⟩
 ·show (d.list.take a++[d.next]++d.list.drop (a+2)).Nodup
  have hnd:=q.v.nd
  rw [q.list] at hnd
  rw [List.nodup_append,List.nodup_cons,List.nodup_cons] at hnd
  obtain ⟨n1,⟨n2,n3,n4⟩,n5⟩:=hnd
  have hlt:=q.v.lt
  rw [List.append_assoc,List.nodup_append]
  refine ⟨n1,?_,fun u hu w hw=>?_⟩
  ·rw [List.singleton_append,List.nodup_cons]
   exact ⟨fun hm=>by have:=hlt _ (List.mem_of_mem_drop hm); omega,n4⟩
  ·have hu2:=hlt u (List.mem_of_mem_take hu)
   rcases List.mem_append.1 hw with hw | hw
   ·simp at hw; omega
   ·exact n5 u hu w (by simp [hw])
theorem MgD.to (q:MgD d a x y) (c:Int):DskV (toD d (BG d a) c)∧Aj (toD d (BG d a) c)=if c< 2 then Aj d else DZ (Aj d) a:=by
 rw [q.e]
 by_cases h0:c≤0
 ·rw [N8 h0,if_pos AB]
  exact ⟨q.v,rfl⟩
 ·obtain ⟨v1,o1⟩:=q.v.add q.part q.n q.f
  rw [C5 AB,FN rfl]
  by_cases h1:c≤1
  ·rw [N8 AB,if_pos AB]
   exact ⟨v1,o1⟩
  ·obtain ⟨v2,o2⟩:=q.v2
   have e2:doD (⟨d.files++[⟨d.next,BB (Ao d x) (Ao d y)⟩],d.list,d.names,d.next+1⟩:Dsk) ⟨2,0,⟨[],[]⟩,d.list.take a++[d.next]++d.list.drop (a+2),d.names⟩=mgD d a x y:=HI rfl
   rw [C5 AB,e2,if_neg AB]
   by_cases h2:c≤2
   ·rw [N8 AB]
    exact ⟨v2,o2⟩
   ·obtain ⟨v3,o3⟩:=v2.gone x
    rw [C5 AB,Fg rfl]
    by_cases h3:c≤3
    ·rw [N8 AB]
     exact ⟨v3,o3.trans o2⟩
    ·obtain ⟨v4,o4⟩:=v3.gone y
     rw [C5 AB,Fg rfl,LX]
     exact ⟨v4,(o4.trans o3).trans o2⟩
end
end Go.Proofs.YtcginoabkicdiaaGreat
namespace Go.Proofs.YtcginoabkicdiaaGreat
theorem Uw {d:Dsk}{st:List Stp}{c:Int}(h:DD d) (hw:Ak d=true→StW d st):DD (BJ d st c):=by
 unfold BJ
 split
 ·rename_i hc
  exact Yp c (hw hc.1)
 ·exact UU
theorem Ux {d:Dsk}{st:List Stp}{c:Int}(h:Ak d=true) (h1:0≤c) (h2:Ak (toD d st c)=true):BJ d st c=toD d st c:=Xa h AB h2
section
variable {d:Dsk}
theorem Wv (h:DD d):DD (D6 d):=by
 unfold D6
 split
 ·exact h.tidy
 ·exact UU
theorem Ww (h:Ak d=true):Ak (D6 d)=true:=by
 rw [LW h]
 exact Cc.2 (Cc.1 h).tidy.1
theorem Wx (h:Ak d=true):Eh (D6 d)=Eh d:=by
 rw [JQ h,JQ (Ww h),LW h]
 exact (Cc.1 h).tidy.2
end
theorem Z0 {d:Dsk}{s:Sto}(hs:SD s) (h:¬ ((At d s).length:Int)=0){c:Int}(hc:0≤c):BJ d (At d s) c=toD d (BF d s) c∧Ak (BJ d (At d s) c)=true:=by
 obtain ⟨q,e⟩:=FlD.of hs h
 have o:=Cc.2 (q.to c).1
 rw [e,Ux (Cc.2 q.v) hc o]
 exact ⟨rfl,o⟩
section
variable {d:Dsk} {i:Int}
theorem Z5 (hd:DD d) (h:¬ ((Au d i).length:Int)=0){c:Int}(hc:0≤c):BJ d (Au d i) c=toD d (BG d i.toNat) c∧Ak (BJ d (Au d i) c)=true:=by
 obtain ⟨x,y,q,e,_⟩:=MgD.of hd h
 have o:=Cc.2 (q.to c).1
 rw [e,Ux (Cc.2 q.v) hc o]
 exact ⟨rfl,o⟩
end
end Go.Proofs.YtcginoabkicdiaaGreat
namespace Go.Proofs.YtcginoabkicdiaaGreat
structure WV (w:Wld):Prop where
 wd:WD w
 v:DskV w.disk
 k:Ae w.store=true
 p:w.store.parts=w.disk.list.map (Ao w.disk)
 m:w.disk.names=w.store.idx.names.take w.disk.names.length
theorem WV.sd {w:Wld}(h:WV w):SD w.store:=h.wd.sd
theorem WV.dd {w:Wld}(h:WV w):DD w.disk:=h.wd.dd
theorem WV.dk {w:Wld}(h:WV w):Ak w.disk=true:=Cc.2 h.v
theorem WV.nb {w:Wld}(h:WV w):nmB w.store.idx.names=true:=Cu.2 h.wd.wi.sto.nm
theorem WV.fits {w:Wld}(h:WV w):CH w.disk w.store=true:=(MG h.dk (by rw [h.nb,h.k]; rfl) h.p h.m).symm
def P9:Wld:=⟨⟨⟨[],[]⟩,[],[]⟩,⟨[],[],[],1⟩⟩
theorem WV.new:WV P9:=⟨WD.new,⟨by simp [P9],by simp [P9],by simp [P9],by simp [P9],by simp [P9],by simp [P9],by simp [P9],by decide,by decide⟩,by decide,rfl,rfl⟩
theorem R5 {w:Wld}(hd:DD w.disk) (hv:DskV w.disk):BY w=⟨Aj w.disk,BV w.disk⟩:=by
 obtain ⟨v,e⟩:=hv.tidy
 have hk:=Cc.2 v
 have e1:=hd.tidy.XT hk
 have e2:=(hd.tidy.sd hk).copy
 unfold BY
 rw [e1,e2,e]
theorem Q3 {d e:Dsk}(h:Aj d=Aj e):d.list.map (Ao d)=e.list.map (Ao e):=congrArg Sto.parts h
theorem WV.Q4 {s:Sto}{d:Dsk}(hd:DD d) (hv:DskV d) (hw:WD (BY ⟨s,d⟩)):WV (BY ⟨s,d⟩):=by
 have e:=R5 (w:=⟨s,d⟩) hd hv
 rw [e] at hw ⊢
 obtain ⟨v,eo⟩:=hv.tidy
 refine ⟨hw,v,hv.so,(Q3 eo).symm,?_⟩
 show d.names=d.names.take d.names.length
 rw [List.take_length]
theorem Uy (x:Idx) (n:List Tag):∃ l,(Ba x n).1.names=x.names++l:=by
 unfold Ba
 split
 ·exact ⟨[],by simp⟩
 ·split
  ·exact ⟨[],by simp⟩
  ·exact ⟨[n],rfl⟩
theorem Uz {α:Type}{a l m:List α}(h:a=l.take a.length):a=(l++m).take a.length:=by
 have hl:a.length≤l.length:=by
  have:=congrArg List.length h
  rw [List.length_take] at this
  omega
 rw [List.take_append_of_le_length hl]
 exact h
theorem WV.add {w:Wld}(h:WV w){n:List Tag}{r:Row}(hw:WD ⟨(Ch w.store n r).1,w.disk⟩):WV ⟨(Ch w.store n r).1,w.disk⟩:=by
 cases hb:(Ch w.store n r).2 with
 | false =>
   have e:(Ch w.store n r).1=w.store:=by
    unfold Ch at hb ⊢
    split at hb
    ·rename_i hc; rw [if_pos hc]
    ·rename_i hc
     rw [if_neg hc]
     split at hb
     ·rename_i hc2; rw [if_pos hc2]
     ·cases hb
   rw [e] at hw ⊢
   exact h
 | true =>
   obtain ⟨a1,a2,a3,a4,e⟩:=WX hb
   rw [e] at hw ⊢
   obtain ⟨l,hl⟩:=Uy w.store.idx n
   refine ⟨hw,h.v,WY h.sd h.k a1 a2 a3 a4,h.p,?_⟩
   show w.disk.names=(Ba w.store.idx n).1.names.take w.disk.names.length
   rw [hl]
   exact Uz h.m
theorem Mf {d:Dsk}{s:Sto}(q:FlD d s){c:Int}(hc:¬ c< 2):BF d s=[⟨1,d.next,Ah s.mem,[],[]⟩,⟨2,0,⟨[],[]⟩,d.list++[d.next],s.idx.names⟩]∧toD d (BF d s) c=⟨d.files++[⟨d.next,Ah s.mem⟩],d.list++[d.next],s.idx.names,d.next+1⟩:=by
 have e:=DL (d:=d) (s:=s) (by have:=q.m; rw [← List.length_pos_iff] at this; omega) (by have:=q.l; omega) (by have:=q.n; omega) (by have:=q.f; omega)
 refine ⟨e,?_⟩
 rw [e,C5 AB,FN rfl,C5 AB,HI rfl,LX]
theorem QA {d:Dsk}{s:Sto}(q:FlD d s):((BF d s).length:Int)=2:=by rw [(Mf q (c:=2) AB).1]; rfl
theorem Mg {s:Sto}(h:SD s) (hk:Ae s=true) (hm:s.mem≠[]) (hl:s.parts.length< 6):(BE s).1=DY s∧(Cw s).1=DY s:=by
 rw [← List.length_pos_iff] at hm
 have f1:=JM h hk AB AB
 have f2:(Cw s).2=true:=by rw [f1]
 have f3:=(Sm h f2).1
 refine ⟨?_,f3⟩
 have f4:Cw s=BE s:=by rw [Iq hk,h.copy]
 rw [← f4]
 exact f3
theorem WV.fl {w:Wld}(h:WV w) (hn:BF w.disk w.store≠[]):FlD w.disk w.store:=by
 by_cases hc:w.store.mem.length=0∨w.disk.list.length≥6∨w.disk.next≥999∨w.disk.files.length≥20
 ·exact absurd (by unfold BF; rw [if_pos hc]) hn
 ·exact ⟨h.v,h.sd,h.k,h.nb,h.p,fun e=>hc (.inl (by rw [e]; rfl)),by omega,by omega,by omega⟩
theorem FlD.parts {d:Dsk}{s:Sto}(q:FlD d s):s.parts.length< 6:=by rw [q.p,List.length_map]; exact q.l
theorem WV.Wy {w:Wld}(h:WV w) (q:FlD w.disk w.store){c:Int}(hc:¬ c< 2) (hw:WD ⟨DY w.store,toD w.disk (BF w.disk w.store) c⟩):WV ⟨DY w.store,toD w.disk (BF w.disk w.store) c⟩:=by
 obtain ⟨v,o⟩:=q.to c
 rw [if_neg hc] at o
 have e:=(Mf q hc).2
 refine ⟨hw,v,ME q.sd q.k q.m q.parts,?_,?_⟩
 ·exact (congrArg Sto.parts o).symm
 ·have:(toD w.disk (BF w.disk w.store) c).names=w.store.idx.names:=congrArg (fun s=>s.idx.names) o
  show (toD w.disk (BF w.disk w.store) c).names=w.store.idx.names.take (toD w.disk (BF w.disk w.store) c).names.length
  rw [this,List.take_length]
theorem WV.mg {w:Wld}(h:WV w){i:Int}(hn:BG w.disk i≠[]):∃ x y,MgD w.disk i.toNat x y∧i=(i.toNat:Int)∧BG w.disk i=BG w.disk i.toNat∧Au w.disk i=BG w.disk i:=by
 have e:=ES (a:=i) h.dk
 have h0:¬ ((Au w.disk i).length:Int)=0:=by
  rw [e]
  intro h0
  exact hn (List.length_eq_zero_iff.1 AB)
 obtain ⟨x,y,q,e2,i0⟩:=MgD.of h.dd h0
 exact ⟨x,y,q,i0,by rw [← e,e2],e⟩
theorem U0 {s:Sto}{a:Nat}(hl:a+2≤s.parts.length):BI s (a:Int)=(DZ s a,true):=by
 unfold BI DZ
 rw [if_pos (by unfold inR; simp; omega)]
 simp
theorem Q5 {d:Dsk}{a:Nat}{x y:Int}(q:MgD d a x y){c:Int}(hc:¬ c< 4):toD d (BG d a) c=⟨EI ⟨EI (mgD d a x y) x,(mgD d a x y).list,(mgD d a x y).names,(mgD d a x y).next⟩ y,(mgD d a x y).list,(mgD d a x y).names,(mgD d a x y).next⟩:=by
 have e2:doD (⟨d.files++[⟨d.next,BB (Ao d x) (Ao d y)⟩],d.list,d.names,d.next+1⟩:Dsk) ⟨2,0,⟨[],[]⟩,d.list.take a++[d.next]++d.list.drop (a+2),d.names⟩=mgD d a x y:=HI rfl
 rw [q.e,C5 AB,FN rfl,C5 AB,e2,C5 AB,Fg rfl,C5 AB,Fg rfl,LX]
theorem QB {d:Dsk}{a:Nat}{x y:Int}(q:MgD d a x y):((BG d a).length:Int)=4:=by rw [q.e]; rfl
theorem WV.open {w:Wld}(h:WV w):(Aj w.disk).parts=w.store.parts:=h.p.symm
theorem WV.Wz {w:Wld}(h:WV w){a:Nat}{x y:Int}(q:MgD w.disk a x y){c:Int}(hc:¬ c< 4) (hw:WD ⟨DZ w.store a,toD w.disk (BG w.disk a) c⟩):WV ⟨DZ w.store a,toD w.disk (BG w.disk a) c⟩:=by
 obtain ⟨v,o⟩:=q.to c
 rw [if_neg AB] at o
 have e:=Q5 q hc
 have hl:a+2≤w.store.parts.length:=by rw [← h.open,q.open.2.2]; exact q.l
 refine ⟨hw,v,J9 h.sd h.k hl,?_,?_⟩
 ·have:=congrArg Sto.parts o
  have e3:(DZ (Aj w.disk) a).parts=(DZ w.store a).parts:=by show GX (Aj w.disk).parts a=GX w.store.parts a; rw [h.open]
  rw [e3] at this
  exact this.symm
 ·have:(toD w.disk (BG w.disk a) c).names=w.disk.names:=congrArg (fun s=>s.idx.names) o
  show (toD w.disk (BG w.disk a) c).names=w.store.idx.names.take (toD w.disk (BG w.disk a) c).names.length
  rw [this]
  exact h.m
theorem U1 {w:Wld}(h:WV w) (q:FlD w.disk w.store) (c:Int):DD (toD w.disk (BF w.disk w.store) c):=by
 have e:At w.disk w.store=BF w.disk w.store:=FU h.fits
 have:=(KI h.dd h.sd).1
 rw [e] at this
 exact this.ok c.toNat
theorem U2 {w:Wld}(h:WV w) (i:Int) (c:Int):DD (toD w.disk (BG w.disk i) c):=by
 have:=(KJ h.dd i).1
 rw [ES h.dk] at this
 exact this.ok c.toNat
theorem WV.do {w:Wld}(h:WV w){e:Evt}(he:NmD e.name):WV (doW w e):=by
 have hw:=h.wd.do he
 by_cases k1:e.kind=1
 ·cases hn:As e.name with
  | false=>rw [OX k1 hn]; exact h
  | true=>rw [Rc k1 hn] at hw ⊢; exact h.add hw
 ·by_cases k2:e.kind=2
  ·rw [PH k2] at hw ⊢
   by_cases hs:((BF w.disk w.store).length:Int)=0∨e.cut< 0
   ·rw [GB hs]; exact h
   ·have q:=h.fl (fun e0=>hs (.inl (by rw [e0]; rfl)))
    by_cases hc:e.cut< (BF w.disk w.store).length
    ·rw [HL (fun e0=>hs (.inl e0)) (fun e0=>hs (.inr e0)) hc] at hw ⊢
     exact WV.Q4 (U1 h q _) (q.to _).1 hw
    ·rw [HM (fun e0=>hs (.inl e0)) (fun e0=>hs (.inr e0)) hc,(Mg h.sd h.k q.m q.parts).1] at hw ⊢
     exact h.Wy q (by rw [QA q] at hc; exact hc) hw
  ·by_cases k3:e.kind=3
   ·rw [PI k3] at hw ⊢
    by_cases hs:((BG w.disk e.at_).length:Int)=0∨e.cut< 0
    ·rw [GB hs]; exact h
    ·obtain ⟨x,y,q,i0,e3,_⟩:=h.mg (i:=e.at_) (fun e0=>hs (.inl (by rw [e0]; rfl)))
     have hl:e.at_.toNat+2≤w.store.parts.length:=by rw [← h.open,q.open.2.2]; exact q.l
     by_cases hc:e.cut< (BG w.disk e.at_).length
     ·rw [HL (fun e0=>hs (.inl e0)) (fun e0=>hs (.inr e0)) hc] at hw ⊢
      exact WV.Q4 (U2 h _ _) (by rw [e3]; exact (q.to _).1) hw
     ·have em:(BI w.store e.at_).1=DZ w.store e.at_.toNat:=by
       have:=U0 hl
       rw [← i0] at this
       rw [this]
      rw [HM (fun e0=>hs (.inl e0)) (fun e0=>hs (.inr e0)) hc,em,e3] at hw ⊢
      exact h.Wz q (by rw [e3,QB q] at hc; exact hc) hw
   ·by_cases k4:e.kind=4
    ·rw [TW k4] at hw ⊢
     exact WV.Q4 (s:=w.store) h.dd h.v hw
    ·rw [TX k1 k2 k3 k4]; exact h
theorem WV.copy {w:Wld}(h:WV w):Ex w=w:=by
 unfold Ex
 rw [h.sd.copy,h.dd.XT h.dk]
def W1:Wld:=⟨⟨⟨[],[]⟩,[],[]⟩,⟨[],[],[],0⟩⟩
def EsD (es:List Evt):Prop:=∀ e∈es,EvD e
theorem WV.foldl:∀ (es:List Evt) (w:Wld),WV w→EsD es→WV (es.foldl doW w):=by
 intro es
 induction es with
 | nil=>intro w h _; exact h
 | cons e es ih=>intro w h he; exact ih _ (h.do (he e AD).1) (fun x hx=>he x (by simp [hx]))
theorem EsD.nil:EsD []:=fun e h=>by cases h
section
variable {w:Wld} {e:Evt}
theorem Yq (hd:DD w.disk) (hk:Ak w.disk=true):BY w=⟨Eh (D6 w.disk),D6 w.disk⟩:=by
 rw [R5 hd (Cc.1 hk),Wx hk,JQ hk,LW hk]
theorem pT (h:e.kind=4):doW w e=BY w:=TW h
theorem U3 (h:WV w) (hn:As e.name=true):Dq w.store e.name e.row=Ch w.store e.name e.row:=by
 unfold Dq
 rw [if_pos ⟨h.k,hn⟩,h.sd.copy]
theorem do_1 (h:WV w) (h1:e.kind=1) (h2:(Dq w.store e.name e.row).2=true):doW w e=⟨(Dq w.store e.name e.row).1,w.disk⟩:=by
 have hn:=(WW h2).2.1
 rw [Rc h1 hn,U3 h hn]
theorem Xc (h:WV w) (h1:e.kind=1) (h2:(Dq w.store e.name e.row).2=false):doW w e=w:=by
 cases hn:As e.name with
 | false=>exact OX h1 hn
 | true =>
   rw [Rc h1 hn]
   rw [U3 h hn] at h2
   have e2:(Ch w.store e.name e.row).1=w.store:=by
    unfold Ch at h2 ⊢
    split at h2
    ·rename_i hc; rw [if_pos hc]
    ·rename_i hc
     rw [if_neg hc]
     split at h2
     ·rename_i hc2; rw [if_pos hc2]
     ·cases h2
   rw [e2]
theorem Xd (h:WV w) (h1:e.kind=2) (h2:((At w.disk w.store).length:Int)=0∨e.cut< 0):doW w e=w:=by
 rw [PH h1]
 rw [FU h.fits] at h2
 exact GB h2
theorem Ok (h:WV w) (h2:¬ ((At w.disk w.store).length:Int)=0) (h3:¬ e.cut< 0):BJ w.disk (At w.disk w.store) e.cut=toD w.disk (BF w.disk w.store) e.cut∧DD (BJ w.disk (At w.disk w.store) e.cut)∧Ak (BJ w.disk (At w.disk w.store) e.cut)=true:=by
 obtain ⟨e1,o⟩:=Z0 h.sd h2 (by omega:0≤e.cut)
 exact ⟨e1,Uw h.dd (fun _=>(KI h.dd h.sd).1),o⟩
theorem Z6 (h:WV w) (h1:e.kind=2) (h2:¬ ((At w.disk w.store).length:Int)=0) (h3:¬ e.cut< 0) (h4:e.cut< (At w.disk w.store).length):doW w e=BY ⟨w.store,BJ w.disk (At w.disk w.store) e.cut⟩:=by
 rw [(Ok h h2 h3).1,PH h1]
 rw [FU h.fits] at h2 h4
 exact HL h2 h3 h4
theorem Z7 (h:WV w) (h1:e.kind=2) (h2:¬ ((At w.disk w.store).length:Int)=0) (h3:¬ e.cut< 0) (h4:¬ e.cut< (At w.disk w.store).length):doW w e=⟨(Cw w.store).1,BJ w.disk (At w.disk w.store) e.cut⟩:=by
 rw [(Ok h h2 h3).1,PH h1]
 have h20:=h2
 rw [FU h.fits] at h2 h4
 have q:=h.fl (fun e0=>h2 (by rw [e0]; rfl))
 rw [HM h2 h3 h4,(Mg h.sd h.k q.m q.parts).1,(Mg h.sd h.k q.m q.parts).2]
theorem Xe (h:WV w) (h1:e.kind=3) (h2:((Au w.disk e.at_).length:Int)=0∨e.cut< 0):doW w e=w:=by
 rw [PI h1]
 rw [ES h.dk] at h2
 exact GB h2
theorem Ol (h:WV w) (h2:¬ ((Au w.disk e.at_).length:Int)=0) (h3:¬ e.cut< 0):BJ w.disk (Au w.disk e.at_) e.cut=toD w.disk (BG w.disk e.at_) e.cut∧DD (BJ w.disk (Au w.disk e.at_) e.cut)∧Ak (BJ w.disk (Au w.disk e.at_) e.cut)=true:=by
 obtain ⟨e1,o⟩:=Z5 h.dd h2 (by omega:0≤e.cut)
 obtain ⟨x,y,q,e2,i0⟩:=MgD.of h.dd h2
 refine ⟨?_,Uw h.dd (fun _=>(KJ h.dd _).1),o⟩
 rw [e1,← e2,ES h.dk]
theorem Z8 (h:WV w) (h1:e.kind=3) (h2:¬ ((Au w.disk e.at_).length:Int)=0) (h3:¬ e.cut< 0) (h4:e.cut< (Au w.disk e.at_).length):doW w e=BY ⟨w.store,BJ w.disk (Au w.disk e.at_) e.cut⟩:=by
 rw [(Ol h h2 h3).1,PI h1]
 rw [ES h.dk] at h2 h4
 exact HL h2 h3 h4
theorem Z9 (h:WV w) (h1:e.kind=3) (h2:¬ ((Au w.disk e.at_).length:Int)=0) (h3:¬ e.cut< 0) (h4:¬ e.cut< (Au w.disk e.at_).length):doW w e=⟨(Dx w.store e.at_).1,BJ w.disk (Au w.disk e.at_) e.cut⟩:=by
 rw [(Ol h h2 h3).1,PI h1]
 rw [ES h.dk] at h2 h4
 have em:Dx w.store e.at_=BI w.store e.at_:=by rw [Ir h.k,h.sd.copy]
 rw [HM h2 h3 h4,em]
end
end Go.Proofs.YtcginoabkicdiaaGreat
namespace Go.Proofs.YtcginoabkicdiaaGreat
theorem e9 {n:List Tag}:∀ {o:Option Tag},DW o n=true→∀ t∈n,CX t=true:=by
 induction n with
 | nil=>intro o _ t ht; cases ht
 | cons a n ih =>
   intro o h t ht
   unfold DW at h
   simp only [AW] at h
   rcases List.mem_cons.1 ht with rfl | ht
   ·exact h.1.1
   ·exact ih h.2 t ht
theorem U4 {n:List Tag}(h:As n=true):NmD n:=by
 unfold As at h
 rw [AW] at h
 have h2:=Bt h.2
 refine ⟨by omega,fun t ht=>?_⟩
 have h3:=e9 h.1 t ht
 unfold CX at h3
 rw [AW] at h3
 have e1:=Dc h3.1
 have e2:=Dc h3.2
 exact ⟨by omega,by omega⟩
theorem WV.doA {w:Wld}(h:WV w) (e:Evt):WV (doW w e):=by
 by_cases hk:e.kind=1
 ·cases hn:As e.name with
  | false=>rw [OX hk hn]; exact h
  | true=>exact h.do (U4 hn)
 ·have e1:doW w e=doW w { e with name:=[] }:=by
   unfold doW
   rw [if_neg hk,if_neg (show ¬ ({ e with name:=[] }:Evt).kind=1 from hk)]
  rw [e1]
  exact h.do NmD.nil
end Go.Proofs.YtcginoabkicdiaaGreat
namespace Go.Proofs.YtcginoabkicdiaaGreat
set_option maxRecDepth 100000
set_option maxHeartbeats 4000000
variable {w:World} {F:Nat→Prop}
theorem KL {r n c i:Nat}{xs:List Fil}{a b:Int}(ho:Own w r 148 F n c xs) (ha:a=(i:Int)) (hb:b=(i:Int)+1) (hi:i< n) (hn:n≤1000000):Calls Tryz.prog 188 [.slice (some ⟨r,0,none⟩) n c,.int .i64 a,.int .i64 b].toArray w (Af fun rv w'=>(rv=.slice (some ⟨r,0,none⟩) (n - 1) c∧Own w' r 148 F (n - 1) c (xs.take i++xs.drop (i+1)))∧Chg (one r) w w'):=by
 subst ha hb
 refine goT func188 ?_
 have hle:=ho.le
 obtain ⟨cs,hB,hl⟩:=ho.YL
 have hz:Rep.sz Fil=3:=rfl
 rw [hz] at hl
 refine .s<|.g<|.r 1<|.d<|.s<|.g<|.r 5<|RG.Zj (t:=32) (k:=.i64) (k2:=.i64) (k3:=.i64) (a:=some ⟨r,0,none⟩) (len:=n) (cap:=c) (i1:=(i:Int)) (i2:=(i:Int)+1) (i3:=(n:Int)) (sz:=3) i (i+1) n AA AA rfl AB rfl AB AB hle fun v_=>.d<|.s<|.s<|.g<|.r 2<|.eq (i:Int) ((i:Int)+1) (fun h=>absurd (show False by omega) id) fun _=>.d<|.cf<|.sk<|.s<|.g<|.r 3<|.d<|.s<|.gd (one r) 7 fun w1 hx1=>?_
 refine .r [0,1]<|GA.IE (i:=2) (t:=32) (r:=r) (o:=0) (len:=n) (cap:=c) (lo:=none) (hi:=some (vI (i:Int))) (sz:=3) 0 i AA AA AA (.inl ⟨rfl,rfl⟩) (.inr ⟨_,_,rfl,rfl⟩) AB AB AB<|.r [3,4]<|GA.Zk (i:=5) (t:=32) (r:=r) (len:=n) (cap:=c) (lo:=some (vI ((i:Int)+1))) (hi:=none) (sz:=3) (i+1) n AA AA AA (.inr ⟨_,_,rfl,by omega⟩) (.inl ⟨rfl,rfl⟩) AB AB fun a2 c2 h2=>?_
 refine .go 6<|GE.append (T:=32) (ty:=32) (args:=[.slice (some ⟨r,0,none⟩) i c,.slice a2 (n - (i+1)) c2]) AA fun w2 hx2=>?_
 have hx12:Ext w w2:=hx1.trans hx2
 have m1:(i+1) * 3+(n - (i+1)) * 3=n * 3:=by omega
 have hB2:=hB.ext hx12
 obtain ⟨w3,hr,hB3,hx3⟩:=Pm (P:=Tryz.prog) (T:=32) (ty:=32) (t:=148) (sz:=3) (i:=i) (c:=c) (m:=n - (i+1)) (c':=c2) (a2:=a2) (vs:=(cs.drop ((i+1) * 3)).take ((n - (i+1)) * 3)) AA hB2
  (fun hp=>⟨_,h2 hp,fun k u hu=>by
   rw [add_lit]
   unfold Box at hB2
   simp only [World.cell?,hB2]
   rw [List.getElem?_take] at hu
   split at hu
   ·rw [List.getElem?_drop] at hu
    simpa using hu
   ·cases hu⟩) (by rw [List.length_take,List.length_drop]; omega) AB (by rw [List.length_take,List.length_drop]; omega) (fun v hv=>ho.pS (i:=i+1) hB v AB hv)
 refine ⟨_,w3,hr,hx3,.d fun w4 hx4=>.r 1<|.d<|.s<|.g<|.r 4<|?_⟩
 have hB4:=hB3.ext hx4
 have hlen:i+(n - (i+1))=n - 1:=by omega
 rw [hlen]
 refine RG.IE (t:=32) (r:=r) (o:=0) (len:=n - 1) (cap:=c) (lo:=some (vI ((n - 1:Nat):Int))) (hi:=some (vI (n:Int))) (sz:=3) (n - 1) n AA AA (.inr ⟨_,_,rfl,rfl⟩) (.inr ⟨_,_,rfl,rfl⟩) AB AB AB ?_
 have h1:n - (n - 1)=1:=by omega
 rw [h1]
 have hl4:(Ay cs (i * 3) ((cs.drop ((i+1) * 3)).take ((n - (i+1)) * 3))).length=c * 3:=by rw [EJ (by rw [List.length_take,List.length_drop]; omega)]; exact hl
 obtain ⟨vs,w5,hr5,hv5,hB5,hx5⟩:=Pn (P:=Tryz.prog) (T:=32) (ty:=0) (t:=148) (sz:=3) (o:=0+(n - 1) * 3) (c:=c - (n - 1)) AA hB4 AB
 rw [Nat.zero_add] at hB5
 have hd:=Nu (sz:=3) hl hi hle rfl hv5
 have hx:Chg (one r) w w5:=(((hx12.chg (S:=one r)).trans hx3).trans hx4.chg).trans hx5
 refine RG.clear (ats:=[32]) (ty:=0) (args:=[.slice (some ⟨r,0+(n - 1) * 3,none⟩) 1 (c - (n - 1))]) AA hr5<|.d<|.s<|.g<|.r 2<|.d<|.rt func188 results188 (.slice (some ⟨r,0,none⟩) (n - 1) c) ⟨⟨rfl,Own.UL ho hx hB hB5 (by rw [hz]; exact hd.1) hi (by rw [hz]; exact hd.2)⟩,hx⟩
end Go.Proofs.YtcginoabkicdiaaGreat
namespace Go.Proofs.YtcginoabkicdiaaGreat
set_option maxRecDepth 100000
set_option maxHeartbeats 4000000
variable {w:World} {F:Nat→Prop} {a1 a2 a3 a4:Option Addr} {n1 c1 n2 c2 n3 c3 n4 c4:Nat}
theorem KM (d:Dsk) (s:Stp){bx rb0:Nat}{nb0 cb0:Nat}(hob0:Own w rb0 148 (nin F [bx,rb0]) nb0 cb0 d.files){ab1:Option Addr}{nb1 cb1:Nat}(hrb1:RepS w (nin F [bx,rb0]) ab1 nb1 cb1 d.list){ab2:Option Addr}{nb2 cb2:Nat}(hrb2:RepS w (nin F [bx,rb0]) ab2 nb2 cb2 d.names) (hbx:Box w bx 35 [.slice (some ⟨rb0,0,none⟩) nb0 cb0,.slice ab1 nb1 cb1,.slice ab2 nb2 cb2,.int .i64 d.next]) (hnb0:Nb rb0 bx) (h1:RepS w (nin F [bx,rb0]) a1 n1 c1 s.part.ids) (h2:RepS w (nin F [bx,rb0]) a2 n2 c2 s.part.blocks) (h3:RepS w (nin F [bx,rb0]) a3 n3 c3 s.list) (h4:RepS w (nin F [bx,rb0]) a4 n4 c4 s.names) (p0:d.files.length≤1000) (p1:KZ s) (p2:CR s.part):Calls Tryz.prog 135 [.pointer (some ⟨bx,0,none⟩),.agg #[.int .i64 s.kind,.int .i64 s.num,.slice a1 n1 c1,.slice a2 n2 c2,.slice a3 n3 c3,.slice a4 n4 c4]].toArray w (Af fun rv w'=>(rv=.tuple #[]∧(∃ (ro0 no0 co0:Nat) (ao1:Option Addr) (no1 co1:Nat) (ao2:Option Addr) (no2 co2:Nat),Box w' bx 35 [.slice (some ⟨ro0,0,none⟩) no0 co0,.slice ao1 no1 co1,.slice ao2 no2 co2,.int .i64 (((doD d s)).next)]∧Own w' ro0 148 (nin (fo F w.heap.size) [bx,ro0]) no0 co0 (((doD d s)).files)∧OrB ro0 rb0 w.heap.size∧Nb ro0 bx∧RepS w' (nin (fo F w.heap.size) [bx,ro0]) ao1 no1 co1 (((doD d s)).list)∧RepS w' (nin (fo F w.heap.size) [bx,ro0]) ao2 no2 co2 (((doD d s)).names)))∧Chg (ins [bx,rb0]) w w'):=by
 refine goT func135 ?_
 have hcv_bx:Cov (ins [bx,rb0]) w bx:=Cov.mkI AI
 have hcv_rb0:Cov (ins [bx,rb0]) w rb0:=Cov.mkI AJ
 replace hob0:=hob0.base (G':=fo F w.heap.size) (fun _ _ h=>.inl h)
 have cX:=hob0.len
 obtain rfl:=hrb1.len
 replace hrb1:=hrb1.Sx (s:=w.heap.size)
 obtain rfl:=hrb2.len
 replace hrb2:=hrb2.Sx (s:=w.heap.size)
 obtain rfl:=h1.len
 replace h1:=h1.Sx (s:=w.heap.size)
 obtain rfl:=h2.len
 replace h2:=h2.Sx (s:=w.heap.size)
 obtain rfl:=h3.len
 replace h3:=h3.Sx (s:=w.heap.size)
 have db:=h3.max
 obtain rfl:=h4.len
 replace h4:=h4.Sx (s:=w.heap.size)
 have de:=h4.max
 refine .s<|.g<|.np 163 [vI s.kind,vI s.num,.slice a1 s.part.ids.length c1,.slice a2 s.part.blocks.length c2,.slice a3 s.list.length c3,.slice a4 s.names.length c4] fun ac aI aG aK ab cr=>?_
 have bA:=Az aG hob0.lt
 have df:=Az aG hbx.lt
 replace ⟨hob0,hrb1,hrb2,hbx,h1,h2,h3,h4⟩:=(sn [bx,rb0] aK aG).g8 hob0 hrb1 hrb2 hbx h1 h2 h3 h4
 have aa:Chg (ins [bx,rb0]) w aI:=Chg.NR (Chg.refl (ins [bx,rb0]) w) aK
 refine .d<|.s<|.g<|.r 1<|.lb ab<|.d<|.b 0<|.s<|.g<|.eq s.kind 1 (fun cu=>?_) (fun cu=>?_)
 ·refine .r 1<|.d<|.ct<|.s ?_
  replace hrb1:=hrb1.FI
  replace hrb2:=hrb2.FI
  replace h1:=h1.FI
  replace h2:=h2.FI
  replace h3:=h3.FI
  replace h4:=h4.FI
  have bI:Cov (mtb [rb0] aI.heap.size) aI rb0:=⟨.inl (.inl AI)⟩
  have bJ:Gb (bx+1) aI.heap.size:=hbx.lt
  have aL:Gb (ac+1) aI.heap.size:=ab.lt
  refine .gd (mtb [rb0] aI.heap.size) 13 fun dh aM=>?_
  replace ⟨hob0,hrb1,hrb2,hbx,h1,h2,h3,h4,ab,aa⟩:=(se [ac,bx,rb0] aM).g10 hob0 hrb1 hrb2 hbx h1 h2 h3 h4 ab aa
  refine .r [0,1,2,3]<|.lb 4 hbx (DJ (all_cons (Nb.symm hnb0) all_nil) bJ)<|.r [5]<|.lb 6 ab (DJ (all_cons bA all_nil) aL)<|.r [7]<|.ln 8 ab (DJ (all_cons bA all_nil) aL)<|.go 9<|.cl (fun aN aA=>GG s.part (h1.ta.ext aA) (h2.ta.ext aA) p2 (w:=aN) (F:=all)) ?_
  intro aN aA
  replace ⟨hob0,hrb1,hrb2,hbx,h3,h4,ab,aa⟩:=(se [ac,bx,rb0] aA).g8 hob0 hrb1 hrb2 hbx h3 h4 ab aa
  rintro dj dm ⟨⟨_,rfl,⟨cw,dq,cx,cy,dt,cz,rfl,ah,ai⟩⟩,aC⟩
  have aD:=al3 ab.lt hbx.lt hob0.lt
  have aO:Gb w.heap.size aN.heap.size:=aa.size
  have hkeep_:=aC
  replace ⟨hob0,hrb1,hrb2,hbx,h3,h4,ab,aa⟩:=(se [ac,bx,rb0] aC).g8 hob0 hrb1 hrb2 hbx h3 h4 ab aa
  refine ⟨Ext.chg hkeep_,?_⟩
  have ah:=ah.fr aD aO
  replace ah:=ah.base (G':=fo F w.heap.size) (fun _ _ h=>.inr h)
  have cE:=ah.max
  have ai:=ai.fr aD aO
  replace ai:=ai.base (G':=fo F w.heap.size) (fun _ _ h=>.inr h)
  have cF:=ai.max
  have bK:=ah.len
  subst bK
  have bL:=ai.len
  subst bL
  refine .r [10]<|.go 11<|.ns 1 148 [vI s.num,.slice cw s.part.ids.length cx,.slice cy s.part.blocks.length cz] fun du aP=>?_
  replace ⟨hob0,hrb1,hrb2,hbx,h3,h4,ab,ah,ai,aa⟩:=(se [ac,bx,rb0] aP).g10 hob0 hrb1 hrb2 hbx h3 h4 ab ah ai aa
  intro aQ dv ar aR aE bM
  have aS:=Az ar hob0.lt
  have bN:=Az ar hbx.lt
  have bO:=Az ar ab.lt
  have bP:=C9 ar aa.size
  replace ⟨hob0,hrb1,hrb2,hbx,h3,h4,ab,ah,ai,aa⟩:=(se [ac,bx,rb0] aR).g10 hob0 hrb1 hrb2 hbx h3 h4 ab ah ai aa
  refine .go 12<|GE.append (T:=32) (ty:=32) (args:=[vS rb0 nb0 cb0,vS aQ 1 1]) AA fun dw aT=>?_
  replace ⟨hob0,hrb1,hrb2,hbx,h3,h4,ab,ah,ai,aE,aa⟩:=(se [ac,bx,rb0] aT).g11 hob0 hrb1 hrb2 hbx h3 h4 ab ah ai aE aa
  have aJ:nin (fo F w.heap.size) [ac,bx,rb0] aQ∧aQ≠rb0:=OK (.inr bP) (all_cons bO (all_cons bN (all_cons aS all_nil))) aS
  obtain ⟨aB,bC,dx,aU,af,aq,aF,bQ⟩:=hob0.E3 (P:=Tryz.prog) (T:=32) (ty:=32) (y:=(⟨s.num,(⟨s.part.ids,s.part.blocks⟩:Prt)⟩:Fil)) AA aE ⟨_,_,_,_,_,_,rfl,ah.oi,ai.oi⟩ aJ AB
  refine ⟨_,_,aU,Chg.toS aF (Cov.toS bI),?_⟩
  have aV:=En aq hnb0 hbx.lt
  have bR:=Ic aq hcv_rb0 aa.size
  replace ⟨hrb1,hrb2,hbx,h3,h4,ab,aa⟩:=(sa [ac,bx,rb0] aF aq).g7 hrb1 hrb2 hbx h3 h4 ab aa
  replace af:=af.rn rb0
  refine .d fun dy aW=>?_
  replace ⟨af,hrb1,hrb2,hbx,h3,h4,ab,aa⟩:=(se [ac,bx,aB] aW).g8 af hrb1 hrb2 hbx h3 h4 ab aa
  replace hrb1:=hrb1.C3
  replace hrb2:=hrb2.C3
  replace h3:=h3.C3
  replace h4:=h4.C3
  refine .r 2<|.ss 0 (vS aB (nb0+1) bC) hbx fun dA aX bS bT=>?_
  replace ⟨af,hrb1,hrb2,h3,h4,ab,aa⟩:=(so [ac,bx,aB] aX).g7 af hrb1 hrb2 h3 h4 ab aa
  refine .d<|.g<|.r 2<|.lb ab<|RG.int (s.num+1) AA (by have q1:=p1.2.2.2; omega)<|.r 2<|.ss 3 (vI (s.num+1)) bS fun dB aY bU bV=>?_
  replace ⟨af,hrb1,hrb2,h3,h4,ab,aa⟩:=(so [ac,bx,aB] aY).g7 af hrb1 hrb2 h3 h4 ab aa
  refine .d<|.ib 0<|T.G4 func135 results135 ?_
  rw [show (doD d s)=(⟨(d.files++[(⟨s.num,(⟨s.part.ids,s.part.blocks⟩:Prt)⟩:Fil)]),d.list,d.names,s.num+1⟩:Dsk) from by (rw [FN ‹_›]; done)]
  exact ⟨⟨rfl,aB,(nb0+1),bC,ab1,d.list.length,cb1,ab2,d.names.length,cb2,bU,(Own.EB af (all_cons AJ (all_cons AK all_nil))),(KH bR aV),aV,(RepS.EB hrb1 (all_cons AJ (all_cons AK all_nil))),(RepS.EB hrb2 (all_cons AJ (all_cons AK all_nil)))⟩,aa⟩
 refine .r 1<|.d<|.cf<|.s<|.g<|.eq s.kind 2 (fun bW=>?_) (fun bW=>?_)
 ·refine .r 1<|.d<|.ct<|.s<|.g<|.r 1<|.ns 0 3 [] fun aH cA ak aZ bX bY=>?_
  have bZ:=Az ak hob0.lt
  have b6:=Az ak hbx.lt
  have b7:=Az ak ab.lt
  have b8:=C9 ak aa.size
  have cI:=aa.cn ak
  replace ⟨hob0,hrb1,hrb2,hbx,h3,h4,ab,aa⟩:=(sn [ac,bx,rb0] aZ ak).g8 hob0 hrb1 hrb2 hbx h3 h4 ab aa
  have b9:Own (α:=Int) cA aH 3 (nin (fo F w.heap.size) [aH,ac,bx,rb0]) 0 0 []:=Own.Bv bX
  refine .r 1<|.lb ab<|RG.DQ (T:=33) (ty:=33) Av b9 h3 AA AA (fun b h e=>h.2 (e▸AI)) (by (have:=p1.1; omega)) fun ao bD dC ae aj ba=>?_
  have cJ:=En aj bZ hob0.lt
  have cK:=En aj b6 hbx.lt
  have cL:=En aj b7 ab.lt
  have cd:=Gn aj b8 aa.size
  replace ⟨hob0,hrb1,hrb2,hbx,h4,ab,aa⟩:=(sa [aH,ac,bx,rb0] ba aj).g7 hob0 hrb1 hrb2 hbx h4 ab aa
  replace ae:=ae.rn aH
  refine .r 2<|.ss 1 (vS ao (0+s.list.length) bD) hbx fun bE bg ax ce=>?_
  replace ⟨hob0,hrb1,hrb2,h4,ab,ae,aa⟩:=(so [ao,ac,bx,rb0] bg).g7 hob0 hrb1 hrb2 h4 ab ae aa
  refine .d<|.g<|.r 2<|.lb ab<|.cl (BH s.names h4.ta (by have:=p1.2.1; omega) (by (intro n hn; have:=p1.2.2.1 n hn; omega)) (w:=bE) (F:=all)) ?_
  rintro dD dE ⟨⟨az,bF,bG,rfl,ag,am⟩,bh⟩
  have bi:=al4 ae.lt ab.lt ax.lt hob0.lt
  have cg:Gb w.heap.size bE.heap.size:=aa.size
  have cO:=EX am hob0.lt
  have cP:=EX am ax.lt
  have cQ:=EX am ab.lt
  have cR:=EX am ae.lt
  have ci:=O4 am aa.size
  replace ⟨hob0,hrb1,hrb2,ax,ab,ae,aa⟩:=(sz [ao,ac,bx,rb0] bh am).g7 hob0 hrb1 hrb2 ax ab ae aa
  replace ag:=Own.take (s0:=w.heap.size) (M:=[ao,ac,bx,rb0]) ag bi cg
  replace ag:=ag.base (G':=fo F w.heap.size) (fun _ _ h=>.inr h)
  refine .r 2<|.ss 2 (vS az bF bG) ax fun bH bj cj ck=>?_
  replace ⟨hob0,hrb1,hrb2,ab,ae,ag,aa⟩:=(so [az,ao,ac,bx,rb0] bj).g7 hob0 hrb1 hrb2 ab ae ag aa
  refine .d<|.ib 0 ?_
  have bk:=ae.sl (.inr cd)
  replace ⟨hob0,hrb1,hrb2,ag⟩:=(sd bH [az,ao,ac,bx,rb0] ao).g4 hob0 hrb1 hrb2 ag
  have cB:=ag.sl (.inr ci)
  replace ⟨hob0,hrb1,hrb2,bk⟩:=(sd bH [az,ac,bx,rb0] az).g4 hob0 hrb1 hrb2 bk
  refine T.G4 func135 results135 ?_
  rw [show (doD d s)=(⟨d.files,([]++s.list),s.names,d.next⟩:Dsk) from by (rw [HI ‹_›]; rfl)]
  exact ⟨⟨rfl,rb0,nb0,cb0,(some ⟨ao,0,none⟩),(0+s.list.length),bD,(some ⟨az,0,none⟩),bF,bG,cj,(Own.EB hob0 (all_cons AJ (all_cons AK all_nil))),(KH hcv_rb0 hnb0),hnb0,(RepS.EB bk (all_cons AJ (all_cons AK all_nil))),(RepS.EB cB (all_cons AJ (all_cons AK all_nil)))⟩,aa⟩
 refine .r 1<|.d<|.cf<|.s<|.g<|.eq s.kind 3 (fun cm=>?_) (fun cm=>?_)
 ·refine .r 1<|.d<|.ct<|.s<|.gd nil 5 fun dF bm=>?_
  replace ⟨hob0,hrb1,hrb2,hbx,ab,aa⟩:=(se [ac,bx,rb0] bm).g6 hob0 hrb1 hrb2 hbx ab aa
  refine .r [0,1]<|.ln 2 hbx id<|.r [3]<|.lb 4 ab id<|.d fun cC bn=>?_
  replace ⟨hob0,hrb1,hrb2,hbx,ab,aa⟩:=(se [ac,bx,rb0] bn).g6 hob0 hrb1 hrb2 hbx ab aa
  refine .cl (CQ d s.num (hob0.rep) hrb1.ta hrb2.ta (w:=cC) (F:=all)) ?_
  rintro dG dH ⟨rfl,bo⟩
  replace ⟨hob0,hrb1,hrb2,hbx,ab,aa⟩:=(se [ac,bx,rb0] bo).g6 hob0 hrb1 hrb2 hbx ab aa
  refine .r 1<|.d<|.s<|.gd nil 9 fun dI bq=>?_
  replace ⟨hob0,hrb1,hrb2,hbx,ab,aa⟩:=(se [ac,bx,rb0] bq).g6 hob0 hrb1 hrb2 hbx ab aa
  refine .r [0]<|GA.Em (i:=1) (Al d s.num≥0) AA (fun co=>?_) (fun co=>?_)
  ·refine .r [2,3,4,5]<|.lb 6 hbx id<|.r [7]<|.lb 8 ab id<|.d fun cD br=>?_
   replace ⟨hob0,hrb1,hrb2,hbx,aa⟩:=(se [ac,bx,rb0] br).g5 hob0 hrb1 hrb2 hbx aa
   refine .cl (CY d.list s.num hrb1.ta (w:=cD) (F:=all)) ?_
   rintro dJ dK ⟨rfl,bu⟩
   replace ⟨hob0,hrb1,hrb2,hbx,aa⟩:=(se [ac,bx,rb0] bu).g5 hob0 hrb1 hrb2 hbx aa
   cases cU:(d.list.contains s.num)
   ·refine .r 2<|.d<|.ct<|.g<|.r 4<|.lb hbx<|.r 2<|RG.int (Al d s.num+1) AA (by have q1:=p1.2.2.2; (have:=Cb d s.num; omega))<|.cl (KL (i:=(Al d s.num).toNat) (a:=Al d s.num) (b:=Al d s.num+1) hob0 (by have:=Cb d s.num; have:=I4 d s.num; omega) (by have:=Cb d s.num; have:=I4 d s.num; omega) (by have:=Cb d s.num; have:=I4 d s.num; omega) (by have:=Cb d s.num; have:=I4 d s.num; omega)) ?_
    rintro dL dM ⟨⟨rfl,ay⟩,bv⟩
    replace ⟨hrb1,hrb2,hbx,aa⟩:=(so [ac,bx,rb0] bv).g4 hrb1 hrb2 hbx aa
    refine .r 2<|.ss 0 (vS rb0 (nb0 - 1) cb0) hbx fun dN bw cp cq=>?_
    replace ⟨ay,hrb1,hrb2,aa⟩:=(so [ac,bx,rb0] bw).g4 ay hrb1 hrb2 aa
    refine .d<|.ib 0<|T.G4 func135 results135 ?_
    rw [show (doD d s)=(⟨(d.files.take ((Al d s.num).toNat)++d.files.drop ((Al d s.num).toNat+1)),d.list,d.names,d.next⟩:Dsk) from by (rw [Fg ‹_›,TS ‹_› ‹_›]; done)]
    exact ⟨⟨rfl,rb0,(nb0 - 1),cb0,ab1,d.list.length,cb1,ab2,d.names.length,cb2,cp,(Own.EB ay (all_cons AJ (all_cons AK all_nil))),(KH hcv_rb0 hnb0),hnb0,(RepS.EB hrb1 (all_cons AJ (all_cons AK all_nil))),(RepS.EB hrb2 (all_cons AJ (all_cons AK all_nil)))⟩,aa⟩
   refine .r 2<|.d<|.cf<|.sk<|.ib 0<|T.G4 func135 results135 ?_
   rw [show (doD d s)=d from by (rw [Fg ‹_›,OU (.inr ‹_›)]; done)]
   exact ⟨⟨rfl,rb0,nb0,cb0,ab1,d.list.length,cb1,ab2,d.names.length,cb2,hbx,(Own.EB hob0 (all_cons AJ (all_cons AK all_nil))),(KH hcv_rb0 hnb0),hnb0,(RepS.EB hrb1 (all_cons AJ (all_cons AK all_nil))),(RepS.EB hrb2 (all_cons AJ (all_cons AK all_nil)))⟩,aa⟩
  refine .r [2]<|GA.skip AA fun dO bz=>?_
  replace ⟨hob0,hrb1,hrb2,hbx,aa⟩:=(se [ac,bx,rb0] bz).g5 hob0 hrb1 hrb2 hbx aa
  refine .r 3<|.d<|.cf<|.sk<|.ib 0<|T.G4 func135 results135 ?_
  rw [show (doD d s)=d from by (rw [Fg ‹_›,OU (.inl ‹_›)]; done)]
  exact ⟨⟨rfl,rb0,nb0,cb0,ab1,d.list.length,cb1,ab2,d.names.length,cb2,hbx,(Own.EB hob0 (all_cons AJ (all_cons AK all_nil))),(KH hcv_rb0 hnb0),hnb0,(RepS.EB hrb1 (all_cons AJ (all_cons AK all_nil))),(RepS.EB hrb2 (all_cons AJ (all_cons AK all_nil)))⟩,aa⟩
 refine .r 1<|.d<|.cf<|.sk<|.ib 0<|T.G4 func135 results135 ?_
 rw [show (doD d s)=d from by (rw [XG ‹_› ‹_› ‹_›]; done)]
 exact ⟨⟨rfl,rb0,nb0,cb0,ab1,d.list.length,cb1,ab2,d.names.length,cb2,hbx,(Own.EB hob0 (all_cons AJ (all_cons AK all_nil))),(KH hcv_rb0 hnb0),hnb0,(RepS.EB hrb1 (all_cons AJ (all_cons AK all_nil))),(RepS.EB hrb2 (all_cons AJ (all_cons AK all_nil)))⟩,aa⟩
end Go.Proofs.YtcginoabkicdiaaGreat
namespace Go.Proofs.YtcginoabkicdiaaGreat
set_option maxRecDepth 100000
set_option maxHeartbeats 4000000
variable {w:World} {F:Nat→Prop} {a1 a2 a3 a4 a5:Option Addr} {n1 c1 n2 c2 n3 c3 n4 c4 n5 c5:Nat}
theorem CI (s:Sto) (h1:RepS w F a1 n1 c1 s.idx.names) (h2:RepS w F a2 n2 c2 s.idx.AX) (h3:RepS w F a3 n3 c3 s.parts) (h4:RepS w F a4 n4 c4 s.mem) (p0:NmI s.idx.names) (p1:NsD s.idx.names) (p2:PD s):Calls Tryz.prog 43 [.agg #[.slice a1 n1 c1,.slice a2 n2 c2,.slice a3 n3 c3,.slice a4 n4 c4]].toArray w (Af fun rv w'=>(∃ (a0:Option Addr) (c0:Nat) (a1:Option Addr) (c1:Nat) (r2 c2:Nat) (hs2:List (Hd 1)) (r3 c3:Nat),rv=.agg #[.slice a0 ((((AY s)).idx).names).length c0,.slice a1 ((((AY s)).idx).AX).length c1,.slice (some ⟨r2,0,none⟩) (((AY s)).parts).length c2,.slice (some ⟨r3,0,none⟩) (((AY s)).mem).length c3]∧VX w.heap.size w' [.raw 0 r2 146 c2 (((AY s)).parts) hs2,.own 0 r3 158 c3 (((AY s)).mem)] [.s a0 c0 ((((AY s)).idx).names),.s a1 c1 ((((AY s)).idx).AX),.e (((AY s)).parts) hs2])∧Ext w w'):=by
 cases h1.len
 cases h2.len
 cases h3.len
 cases h4.len
 refine goT func43 ?_
 have Z:=((((St.i0 F w).p h1).p h2).p h3).p h4
 have aK:=h3.max
 have aL:=h4.max
 have Z:=Z.s0 0
 refine .s<|.g<|RG.Np Z fun ai w Z=>RG.Np Z fun aj w Z=>.d<|.s<|T.GS 10 [aj,ai] Z fun _ w Z=>.r [0,1]<|GA.Lb (q:=1) 2 1 Z<|.r [4]<|GA.Lb (q:=1) 5 1 Z<|.r [8]<|GA.Lb (q:=1) 9 1 Z<|.tw 3 7 ?_ ?_
 ·refine GE.DD 0 0 (fun w Z=>CV s.idx.names (Z.a 4) p0 p1) Z fun aa ab ac ae w Z=>.tw 6 7 ?_ ?_
  ·exact GE.DB 0 0 (fun w Z=>EO s.parts (Z.a 5) (by have:=p2.2.1; omega) p2.2.2.1) Z fun ak am af w Z=>.go 7<|GE.N0 Smp 0 Z fun aM w Z=>GA.Do Z fun w Z=>RG.An (hs:=by (simp only [List.nil_append,List.length_nil,List.length_append,List.length_cons] <;> exact (by have:=p2.2.2.2; omega))) (hf:=.inr G7) 0 5 ([]:List Smp) s.mem Z fun ao aq w Z=>.r 1<|RG.Ss 2 Z fun w Z=>.d<|T.Rb 2 func43 results43 Z ⟨⟨aa,ab,ac,ae,ak,am,af,ao,aq,by rw [show ((((AY s)).idx).names)=(idxOf s.idx.names).names from Eq.symm AF,show ((((AY s)).idx).AX)=(idxOf s.idx.names).AX from Eq.symm AF,show (((AY s)).parts)=s.parts from Eq.symm AF,show (((AY s)).mem)=([]++s.mem) from Eq.symm AF]; kernel_rfl,by rw [show ((((AY s)).idx).names)=(idxOf s.idx.names).names from Eq.symm AF,show ((((AY s)).idx).AX)=(idxOf s.idx.names).AX from Eq.symm AF,show (((AY s)).parts)=s.parts from Eq.symm AF,show (((AY s)).mem)=([]++s.mem) from Eq.symm AF]; exact Z.rX 0 [0,2,2] [1,0] _ _ AE⟩,Z.xt⟩
  exact GE.N0 Smp 0 Z fun aN w Z=>.go 6<|GE.DB 0 0 (fun w Z=>EO s.parts (Z.a 5) (by have:=p2.2.1; omega) p2.2.2.1) Z fun ar ax ag w Z=>GA.Do Z fun w Z=>RG.An (hs:=by (simp only [List.nil_append,List.length_nil,List.length_append,List.length_cons] <;> exact (by have:=p2.2.2.2; omega))) (hf:=.inr G7) 1 5 ([]:List Smp) s.mem Z fun ay az w Z=>.r 1<|RG.Ss 2 Z fun w Z=>.d<|T.Rb 2 func43 results43 Z ⟨⟨aa,ab,ac,ae,ar,ax,ag,ay,az,by rw [show ((((AY s)).idx).names)=(idxOf s.idx.names).names from Eq.symm AF,show ((((AY s)).idx).AX)=(idxOf s.idx.names).AX from Eq.symm AF,show (((AY s)).parts)=s.parts from Eq.symm AF,show (((AY s)).mem)=([]++s.mem) from Eq.symm AF]; kernel_rfl,by rw [show ((((AY s)).idx).names)=(idxOf s.idx.names).names from Eq.symm AF,show ((((AY s)).idx).AX)=(idxOf s.idx.names).AX from Eq.symm AF,show (((AY s)).parts)=s.parts from Eq.symm AF,show (((AY s)).mem)=([]++s.mem) from Eq.symm AF]; exact Z.rX 0 [0,2,2] [0,1] _ _ AE⟩,Z.xt⟩
 exact GE.N0 Smp 0 Z fun aO w Z=>.go 3<|GE.DD 0 0 (fun w Z=>CV s.idx.names (Z.a 4) p0 p1) Z fun aA aB aC aD w Z=>.go 6<|GE.DB 0 0 (fun w Z=>EO s.parts (Z.a 5) (by have:=p2.2.1; omega) p2.2.2.1) Z fun aE aF ah w Z=>GA.Do Z fun w Z=>RG.An (hs:=by (simp only [List.nil_append,List.length_nil,List.length_append,List.length_cons] <;> exact (by have:=p2.2.2.2; omega))) (hf:=.inr G7) 1 5 ([]:List Smp) s.mem Z fun aG aH w Z=>.r 1<|RG.Ss 2 Z fun w Z=>.d<|T.Rb 2 func43 results43 Z ⟨⟨aA,aB,aC,aD,aE,aF,ah,aG,aH,by rw [show ((((AY s)).idx).names)=(idxOf s.idx.names).names from Eq.symm AF,show ((((AY s)).idx).AX)=(idxOf s.idx.names).AX from Eq.symm AF,show (((AY s)).parts)=s.parts from Eq.symm AF,show (((AY s)).mem)=([]++s.mem) from Eq.symm AF]; kernel_rfl,by rw [show ((((AY s)).idx).names)=(idxOf s.idx.names).names from Eq.symm AF,show ((((AY s)).idx).AX)=(idxOf s.idx.names).AX from Eq.symm AF,show (((AY s)).parts)=s.parts from Eq.symm AF,show (((AY s)).mem)=([]++s.mem) from Eq.symm AF]; exact Z.rX 0 [0,2,2] [0,1] _ _ AE⟩,Z.xt⟩
theorem K5 (ix:Idx) (n:List Tag) (h1:RepS w F a1 n1 c1 ix.names) (h2:RepS w F a2 n2 c2 ix.AX) (h3:RepS w F a3 n3 c3 n) (p0:IxI ix) (p1:NsD ix.names) (p2:n.length≤1100000):Calls Tryz.prog 123 [.agg #[.slice a1 n1 c1,.slice a2 n2 c2],.slice a3 n3 c3].toArray w (Af fun rv w'=>(∃ v0,rv=.tuple #[v0,.int .i64 ((CF ix n).2.1),.bool ((CF ix n).2.2)]∧VD w.heap.size w' ((CF ix n).1:Idx) v0)∧Ext w w'):=by
 cases h1.len
 cases h2.len
 cases h3.len
 refine goT func123 ?_
 have Z:=(((St.i0 F w).p h1).p h2).p h3
 have aC:=h1.max
 have Z:=Z.s0 0
 refine .s<|.g<|RG.Np Z fun ac w Z=>RG.Np Z fun aG w Z=>.r 2<|.d<|.s<|.s<|.g<|RG.Ln 1 Z<|RG.C0 (Mc ix (Z.a 3) (Z.a 2) p0 p1) Z fun w Z=>.r 3<|RG.C0 (Fp n (Z.a 1)) Z fun w Z=>?_
 cases aF:(As n)
 ·refine .r 2<|.d<|.ct<|.s<|.g<|.r 1<|RG.Ss 0 Z fun w Z=>.r 2<|.d ?_
  have Z:=(Z.sZ (List Tag) 0 0).sZ Pst 1 0
  exact T.r3 func123 results123 (.B 0 Z) (.t (vI 0)) (.t (.bool false)) ⟨⟨_,(OO rfl (congrArg (Value.int .i64) (by rw [Od ‹_›])) (AG (by rw [Od ‹_›]))),Z.rD 1 [0,1] (⟨([]:List (List Tag)),([]:List Pst)⟩:Idx) [(none,0),(none,0)] (by rw [Od ‹_›])⟩,Z.xt⟩
 refine .r 2<|.d<|.cf<|.sk<|.s<|.s<|.g<|.r 1<|RG.Lb 1 Z<|.r 1<|RG.C0 (Gr ix.names n (Z.a 3) (Z.a 1)) Z fun w Z=>.r 1<|.d<|.s<|.g<|.r 1<|.bp ((Dd n 0 ix.names+1) > 0) (fun aa=>.d<|.ct<|.s<|.g<|.r 1<|RG.Lb 1 Z<|RG.DD 0 0 (CV ix.names (Z.a 3) (by exact p0.nm) (by exact p1)) Z fun ae af ag ah w Z=>.r 1<|RG.Ss 0 Z fun w Z=>.r 2<|.d<|T.r3 func123 results123 (.B 0 Z) (.t (vI (Dd n 0 ix.names+1))) (.t (.bool true)) ⟨⟨_,(OO rfl (congrArg (Value.int .i64) (by (rw [MB p0 ‹_› ‹_›]; done))) (AG (by (rw [MB p0 ‹_› ‹_›]; done)))),Z.rD 0 [1,1] (idxOf ix.names) [(ae,af),(ag,ah)] (by (rw [MB p0 ‹_› ‹_›]; done))⟩,Z.xt⟩) fun aa=>.d<|.cf<|.sk<|.s<|.s<|.g<|.r 1<|RG.Lb 1 Z<|.r 1<|.eq (ix.names.length:Int) 6 (fun ab=>.d<|.ct<|.s<|.g<|.r 1<|RG.Lb 1 Z<|RG.DD 0 0 (CV ix.names (Z.a 3) (by exact p0.nm) (by exact p1)) Z fun ai aj ak am w Z=>RG.Ss 0 Z fun w Z=>.r 2<|.d<|T.r3 func123 results123 (.B 0 Z) (.t (vI 0)) (.t (.bool false)) ⟨⟨_,(OO rfl (congrArg (Value.int .i64) (by (rw [J4 p0 ‹_› ‹_› ‹_›]; done))) (AG (by (rw [J4 p0 ‹_› ‹_› ‹_›]; done)))),Z.rD 0 [1,1] (idxOf ix.names) [(ai,aj),(ak,am)] (by (rw [J4 p0 ‹_› ‹_› ‹_›]; done))⟩,Z.xt⟩) fun ab=>.d<|.cf<|.sk<|.s<|T.GS 12 [ac] Z fun _ w Z=>.r [0]<|GA.Lb 1 1 Z<|.r [3,7]<|GA.Lb 8 1 Z<|.r [9]<|GA.int (i:=10) ((ix.names.length:Int)+1) AA (by have:=p0.nm.len; omega)<|.tw 2 4 ?_ ?_
 ·exact GE.CO 1 (fun w Z=>BH ix.names (Z.a 3) (by have:=p0.nm.len; omega) (fun n hn=>by have:=(p0.nm.sz n hn).1; omega)) Z fun aH aI w Z=>.go 4<|GE.Nb 1 Z fun aJ w Z=>.go 5<|GE.Ap (hs:=by exact (by have:=p0.nm.len; omega)) 0 0 ix.names n [1] [2] Z fun aK aL w Z=>.go 6<|GE.DD 0 0 (fun w Z=>CV (ix.names++[n]) (Z.oa 0) (by exact NmI.Ze p0 ‹_› ‹_› ‹_›) (by exact p1.add (U4 ‹_›))) Z fun ao aq ar ax w Z=>.go 11<|GE.Ss 1 [2] Z fun w Z=>GA.Do Z fun w Z=>.r 2<|.d<|T.r3 func123 results123 (.B 1 Z) (.t (vI ((ix.names.length:Int)+1))) (.t (.bool true)) ⟨⟨_,(OO rfl (congrArg (Value.int .i64) (by (rw [GH p0 ‹_› ‹_› ‹_›]; done))) (AG (by (rw [GH p0 ‹_› ‹_› ‹_›]; done)))),Z.rD 0 [1,1] (idxOf (ix.names++[n])) [(ao,aq),(ar,ax)] (by (rw [GH p0 ‹_› ‹_› ‹_›]; done))⟩,Z.xt⟩
 exact GE.Nb 1 Z fun aM w Z=>.go 2<|GE.CO 1 (fun w Z=>BH ix.names (Z.a 3) (by have:=p0.nm.len; omega) (fun n hn=>by have:=(p0.nm.sz n hn).1; omega)) Z fun aN aO w Z=>.go 5<|GE.Ap (hs:=by exact (by have:=p0.nm.len; omega)) 0 1 ix.names n [1] [2] Z fun aP aQ w Z=>.go 6<|GE.DD 0 0 (fun w Z=>CV (ix.names++[n]) (Z.oa 0) (by exact NmI.Ze p0 ‹_› ‹_› ‹_›) (by exact p1.add (U4 ‹_›))) Z fun ay az aA aB w Z=>.go 11<|GE.Ss 1 [2] Z fun w Z=>GA.Do Z fun w Z=>.r 2<|.d<|T.r3 func123 results123 (.B 1 Z) (.t (vI ((ix.names.length:Int)+1))) (.t (.bool true)) ⟨⟨_,(OO rfl (congrArg (Value.int .i64) (by (rw [GH p0 ‹_› ‹_› ‹_›]; done))) (AG (by (rw [GH p0 ‹_› ‹_› ‹_›]; done)))),Z.rD 0 [1,1] (idxOf (ix.names++[n])) [(ay,az),(aA,aB)] (by (rw [GH p0 ‹_› ‹_› ‹_›]; done))⟩,Z.xt⟩
theorem Cp (d:Dsk) (h1:RepS w F a1 n1 c1 d.files) (h2:RepS w F a2 n2 c2 d.list) (h3:RepS w F a3 n3 c3 d.names) (p0:d.files.length≤1000) (p1:∀ f∈d.files,CR f.part) (p2:d.list.length≤1000) (p3:d.names.length≤1000) (p4:∀ n∈d.names,n.length≤1000):Calls Tryz.prog 44 [.agg #[.slice a1 n1 c1,.slice a2 n2 c2,.slice a3 n3 c3,.int .i64 d.next]].toArray w (Af fun rv w'=>(∃ (r0 c0:Nat) (hs0:List (Hd 2)) (a1:Option Addr) (c1:Nat) (a2:Option Addr) (c2:Nat),rv=.agg #[.slice (some ⟨r0,0,none⟩) d.files.length c0,.slice a1 d.list.length c1,.slice a2 d.names.length c2,.int .i64 (d.next)]∧VX w.heap.size w' [.raw 0 r0 148 c0 (d.files) hs0] [.e (d.files) hs0,.s a1 c1 (d.list),.s a2 c2 (d.names)])∧Ext w w'):=by
 cases h1.len
 cases h2.len
 cases h3.len
 refine goT func44 ?_
 have Z:=(((St.i0 F w).p h1).p h2).p h3
 have Z:=Z.s0 0
 refine .s<|.g<|RG.Np Z fun ah w Z=>RG.Np Z fun ag w Z=>.d<|.s<|T.GS 12 [ag,ah] Z fun _ w Z=>.r [2]<|GA.Lb (q:=1) 3 1 Z<|.r [5]<|GA.Lb (q:=1) 6 1 Z<|.r [8]<|GA.Lb (q:=1) 9 1 Z<|GE.many [0,1,11] AA (all_cons ?_ (all_cons ?_ (all_cons ?_ all_nil)))
 ·refine GE.N0 (Hd 2) 0 Z fun dR w Z=>?_
  have Z:=Z.o2r 0 0 Fil 2
  refine .tw 1 11 ?_ ?_
  ·refine GE.N0 Int 0 Z fun o5 w Z=>.tw 4 11 ?_ ?_
   ·refine GE.An (hf:=.inr Av) 0 3 ([]:List Int) d.list [2,3] Z fun e8 fa w Z=>.tw 7 11 ?_ ?_
    ·refine GE.DB 0 0 (fun w Z=>Aq d.names (Z.a 2) AB (fun n hn=>by have:=p4 n hn; omega)) Z fun iV iW fb w Z=>.r [10]<|.go 11<|GE.Np Z fun d3 w Z=>GA.Do Z fun w Z=>RG.Ss 0 Z fun w Z=>.d<|.s<|.s<|.g<|.r 1<|RG.Lb 5 Z<|.r 2<|.d<|.b 0<|T.Lp ((0:Nat),([]:List Fil),dR,(0:Nat),([]:List (Hd 2)),(([]++d.list):List Int),e8,fa,(d.names:List (List Tag)),iV,iW,fb,d.next) (fun (k,aa,r_out_0,c_out_0,hs,ac,r_out_1,c_out_1,ab,r_out_2,c_out_2,af,ae)=>([(2,vP ag),(3,vP d3),(18,.slice a1 d.files.length c1),(19,vI (d.files.length:Int)),(20,vI (k:Int))],[(0,.box d3 35 [vS r_out_0 aa.length c_out_0,vS r_out_1 ac.length c_out_1,vS r_out_2 ab.length c_out_2,vI ae]),(1,.raw 0 r_out_2 69 c_out_2 ab af),(2,.own 0 r_out_1 3 c_out_1 ac),(3,.raw 0 r_out_0 148 c_out_0 aa hs)],[⟨0,none,.sep [.e ab af,.e aa hs]⟩],d.files.length - k,(k≤d.files.length)∧(aa.length≤k)∧(aa++d.files.drop k=d.files)∧(ac=d.list)∧(ab=d.names)∧(ae=d.next))) [0] Z ⟨AB,AD,AF,AF,AF,AB⟩ ?_
     rintro ⟨k,aa,r_out_0,c_out_0,hs,ac,r_out_1,c_out_1,ab,r_out_2,c_out_2,af,ae⟩ o6 w Z ⟨lL,lM,lN,lO,lP,lQ⟩ dw
     refine .s<|.g<|.bp ((k:Int)< (d.files.length:Int)) (fun fd=>?_) (fun fd=>?_)
     ·refine .d<|.s<|.ct<|.sk<|.s<|.b 1<|.s<|.g<|gx d.files k fun aN cT=>?_
      have lR:=Ab cT; have iT:=AV cT
      refine RG.Ix 6 cT Z<|Z.el 6 cT fun o7 o8 o9 pa Z=>RG.Lg 0 0 Z<|RG.Np Z fun iX w Z=>RG.Ss 0 Z fun w Z=>.d<|T.GS 9 [iX,d3,ag,ah] Z fun _ w Z=>.r [0]<|GA.Lb (q:=1) 1 1 Z<|.r [2]<|GA.Lb 3 0 Z<|.r [4]<|GA.Ln 5 0 Z<|.go 6<|GE.DD 3 0 (fun w Z=>Am aN.part (Z.a 1) (Z.a 2) (p1 _ ‹_›)) Z fun dx dy dA dB w Z=>.r [7]<|.go 8<|GE.Nb 1 Z fun pc w Z=>GA.Do Z fun w Z=>RG.Ar 4 0 aa aN hs (⟨Shp.cells aN ([(dx,dy),(dA,dB)]:List (Option Addr × Nat)),AA⟩:Hd 2) Z fun iY iZ w Z=>?_
      have Z:=Z.eA 0 0 [3,2,2] aa hs (⟨Shp.cells aN ([(dx,dy),(dA,dB)]:List (Option Addr × Nat)),AA⟩:Hd 2) aN ([(dx,dy),(dA,dB)]:List (Option Addr × Nat))
      refine .r 1<|RG.Ss 1 Z fun w Z=>.d<|.ib 1<|.g<|.it ((k:Int)+1)<|.r 1<|.d ?_
      have Z:=Z.sM 0 0 [0,1] [.e ab af,.e (aa++[aN]) (hs++[(⟨Shp.cells aN ([(dx,dy),(dA,dB)]:List (Option Addr × Nat)),AA⟩:Hd 2)])]
      exact dw (k+1,(aa++[aN]),iY,iZ,(hs++[(⟨Shp.cells aN ([(dx,dy),(dA,dB)]:List (Option Addr × Nat)),AA⟩:Hd 2)]),ac,r_out_1,c_out_1,ab,r_out_2,c_out_2,af,ae) _ _ AA (Z.to 1 [0] 9) ⟨AB,(by (simp; omega)),(by exact Co ‹_› ‹_›),‹_›,‹_›,‹_›⟩ (by (simp only []; omega))
     refine .d<|.s<|.cf<|.x 0 rfl<|.s<|.g<|RG.Ln 0 Z<|RG.Ss 4 Z fun w Z=>.d ?_
     have Z:=(Z.fL 2 0 0 ac).eL 1 1 0 [1] ab af
     exact T.Rb 2 func44 results44 Z ⟨⟨r_out_0,c_out_0,hs,(some ⟨r_out_1,0,none⟩),c_out_1,(some ⟨r_out_2,0,none⟩),c_out_2,by rw [show d.files=aa from Eq.symm (by exact BO ‹_› AB),show d.list=ac from Eq.symm ‹_›,show d.names=ab from Eq.symm ‹_›,show d.next=ae from Eq.symm ‹_›]; kernel_rfl,by rw [show d.files=aa from Eq.symm (by exact BO ‹_› AB),show d.list=ac from Eq.symm ‹_›,show d.names=ab from Eq.symm ‹_›]; exact Z.rX 1 [0,1,2] [1] _ _ AE⟩,Z.xt⟩
    refine GE.Np Z fun d4 w Z=>.go 7<|GE.DB 0 0 (fun w Z=>Aq d.names (Z.a 2) AB (fun n hn=>by have:=p4 n hn; omega)) Z fun ja jb fe w Z=>.r [10]<|GA.Do Z fun w Z=>RG.Ss 1 Z fun w Z=>.d<|.s<|.s<|.g<|.r 1<|RG.Lb 5 Z<|.r 2<|.d<|.b 0<|T.Lp ((0:Nat),([]:List Fil),dR,(0:Nat),([]:List (Hd 2)),(([]++d.list):List Int),e8,fa,(d.names:List (List Tag)),ja,jb,fe,d.next) (fun (k,aa,r_out_0,c_out_0,hs,ac,r_out_1,c_out_1,ab,r_out_2,c_out_2,af,ae)=>([(2,vP ag),(3,vP d4),(18,.slice a1 d.files.length c1),(19,vI (d.files.length:Int)),(20,vI (k:Int))],[(0,.raw 0 r_out_2 69 c_out_2 ab af),(1,.box d4 35 [vS r_out_0 aa.length c_out_0,vS r_out_1 ac.length c_out_1,vS r_out_2 ab.length c_out_2,vI ae]),(2,.own 0 r_out_1 3 c_out_1 ac),(3,.raw 0 r_out_0 148 c_out_0 aa hs)],[⟨0,none,.sep [.e ab af,.e aa hs]⟩],d.files.length - k,(k≤d.files.length)∧(aa.length≤k)∧(aa++d.files.drop k=d.files)∧(ac=d.list)∧(ab=d.names)∧(ae=d.next))) [0] Z ⟨AB,AD,AF,AF,AF,AB⟩ ?_
    rintro ⟨k,aa,r_out_0,c_out_0,hs,ac,r_out_1,c_out_1,ab,r_out_2,c_out_2,af,ae⟩ pd w Z ⟨lS,lT,lU,lV,lW,lX⟩ dC
    refine .s<|.g<|.bp ((k:Int)< (d.files.length:Int)) (fun ff=>?_) (fun ff=>?_)
    ·refine .d<|.s<|.ct<|.sk<|.s<|.b 1<|.s<|.g<|gx d.files k fun aO cU=>?_
     have lY:=Ab cU; have iU:=AV cU
     refine RG.Ix 6 cU Z<|Z.el 6 cU fun pe pf pg ph Z=>RG.Lg 0 0 Z<|RG.Np Z fun jc w Z=>RG.Ss 0 Z fun w Z=>.d<|T.GS 9 [jc,d4,ag,ah] Z fun _ w Z=>.r [0]<|GA.Lb (q:=1) 1 2 Z<|.r [2]<|GA.Lb 3 0 Z<|.r [4]<|GA.Ln 5 0 Z<|.go 6<|GE.DD 3 0 (fun w Z=>Am aO.part (Z.a 1) (Z.a 2) (p1 _ ‹_›)) Z fun dD dE dF dG w Z=>.r [7]<|.go 8<|GE.Nb 1 Z fun pi w Z=>GA.Do Z fun w Z=>RG.Ar 4 0 aa aO hs (⟨Shp.cells aO ([(dD,dE),(dF,dG)]:List (Option Addr × Nat)),AA⟩:Hd 2) Z fun jd je w Z=>?_
     have Z:=Z.eA 0 0 [3,2,2] aa hs (⟨Shp.cells aO ([(dD,dE),(dF,dG)]:List (Option Addr × Nat)),AA⟩:Hd 2) aO ([(dD,dE),(dF,dG)]:List (Option Addr × Nat))
     refine .r 1<|RG.Ss 2 Z fun w Z=>.d<|.ib 1<|.g<|.it ((k:Int)+1)<|.r 1<|.d ?_
     have Z:=Z.sM 0 0 [0,1] [.e ab af,.e (aa++[aO]) (hs++[(⟨Shp.cells aO ([(dD,dE),(dF,dG)]:List (Option Addr × Nat)),AA⟩:Hd 2)])]
     exact dC (k+1,(aa++[aO]),jd,je,(hs++[(⟨Shp.cells aO ([(dD,dE),(dF,dG)]:List (Option Addr × Nat)),AA⟩:Hd 2)]),ac,r_out_1,c_out_1,ab,r_out_2,c_out_2,af,ae) _ _ AA (Z.to 1 [0] 9) ⟨AB,(by (simp; omega)),(by exact Co ‹_› ‹_›),‹_›,‹_›,‹_›⟩ (by (simp only []; omega))
    refine .d<|.s<|.cf<|.x 0 rfl<|.s<|.g<|RG.Ln 1 Z<|RG.Ss 4 Z fun w Z=>.d ?_
    have Z:=(Z.fL 2 0 0 ac).eL 0 1 0 [1] ab af
    exact T.Rb 2 func44 results44 Z ⟨⟨r_out_0,c_out_0,hs,(some ⟨r_out_1,0,none⟩),c_out_1,(some ⟨r_out_2,0,none⟩),c_out_2,by rw [show d.files=aa from Eq.symm (by exact BO ‹_› AB),show d.list=ac from Eq.symm ‹_›,show d.names=ab from Eq.symm ‹_›,show d.next=ae from Eq.symm ‹_›]; kernel_rfl,by rw [show d.files=aa from Eq.symm (by exact BO ‹_› AB),show d.list=ac from Eq.symm ‹_›,show d.names=ab from Eq.symm ‹_›]; exact Z.rX 1 [0,1,2] [1] _ _ AE⟩,Z.xt⟩
   refine GE.Np Z fun d5 w Z=>.go 4<|GE.An (hf:=.inr Av) 1 3 ([]:List Int) d.list [3,4] Z fun jf jg w Z=>.go 7<|GE.DB 0 0 (fun w Z=>Aq d.names (Z.a 2) AB (fun n hn=>by have:=p4 n hn; omega)) Z fun jh ji fg w Z=>.r [10]<|GA.Do Z fun w Z=>RG.Ss 1 Z fun w Z=>.d<|.s<|.s<|.g<|.r 1<|RG.Lb 5 Z<|.r 2<|.d<|.b 0<|T.Lp ((0:Nat),([]:List Fil),dR,(0:Nat),([]:List (Hd 2)),(([]++d.list):List Int),jf,jg,(d.names:List (List Tag)),jh,ji,fg,d.next) (fun (k,aa,r_out_0,c_out_0,hs,ac,r_out_1,c_out_1,ab,r_out_2,c_out_2,af,ae)=>([(2,vP ag),(3,vP d5),(18,.slice a1 d.files.length c1),(19,vI (d.files.length:Int)),(20,vI (k:Int))],[(0,.raw 0 r_out_2 69 c_out_2 ab af),(1,.box d5 35 [vS r_out_0 aa.length c_out_0,vS r_out_1 ac.length c_out_1,vS r_out_2 ab.length c_out_2,vI ae]),(2,.own 0 r_out_1 3 c_out_1 ac),(3,.raw 0 r_out_0 148 c_out_0 aa hs)],[⟨0,none,.sep [.e ab af,.e aa hs]⟩],d.files.length - k,(k≤d.files.length)∧(aa.length≤k)∧(aa++d.files.drop k=d.files)∧(ac=d.list)∧(ab=d.names)∧(ae=d.next))) [0] Z ⟨AB,AD,AF,AF,AF,AB⟩ ?_
   rintro ⟨k,aa,r_out_0,c_out_0,hs,ac,r_out_1,c_out_1,ab,r_out_2,c_out_2,af,ae⟩ lZ w Z ⟨l3,l4,l6,jj,jk,jl⟩ cV
   refine .s<|.g<|.bp ((k:Int)< (d.files.length:Int)) (fun d6=>?_) (fun d6=>?_)
   ·refine .d<|.s<|.ct<|.sk<|.s<|.b 1<|.s<|.g<|gx d.files k fun aj aP=>?_
    have jm:=Ab aP; have fi:=AV aP
    refine RG.Ix 6 aP Z<|Z.el 6 aP fun l7 l8 l9 mh Z=>RG.Lg 0 0 Z<|RG.Np Z fun fj w Z=>RG.Ss 0 Z fun w Z=>.d<|T.GS 9 [fj,d5,ag,ah] Z fun _ w Z=>.r [0]<|GA.Lb (q:=1) 1 2 Z<|.r [2]<|GA.Lb 3 0 Z<|.r [4]<|GA.Ln 5 0 Z<|.go 6<|GE.DD 3 0 (fun w Z=>Am aj.part (Z.a 1) (Z.a 2) (p1 _ ‹_›)) Z fun bn bo bq br w Z=>.r [7]<|.go 8<|GE.Nb 1 Z fun mj w Z=>GA.Do Z fun w Z=>RG.Ar 4 0 aa aj hs (⟨Shp.cells aj ([(bn,bo),(bq,br)]:List (Option Addr × Nat)),AA⟩:Hd 2) Z fun fm fp w Z=>?_
    have Z:=Z.eA 0 0 [3,2,2] aa hs (⟨Shp.cells aj ([(bn,bo),(bq,br)]:List (Option Addr × Nat)),AA⟩:Hd 2) aj ([(bn,bo),(bq,br)]:List (Option Addr × Nat))
    refine .r 1<|RG.Ss 2 Z fun w Z=>.d<|.ib 1<|.g<|.it ((k:Int)+1)<|.r 1<|.d ?_
    have Z:=Z.sM 0 0 [0,1] [.e ab af,.e (aa++[aj]) (hs++[(⟨Shp.cells aj ([(bn,bo),(bq,br)]:List (Option Addr × Nat)),AA⟩:Hd 2)])]
    exact cV (k+1,(aa++[aj]),fm,fp,(hs++[(⟨Shp.cells aj ([(bn,bo),(bq,br)]:List (Option Addr × Nat)),AA⟩:Hd 2)]),ac,r_out_1,c_out_1,ab,r_out_2,c_out_2,af,ae) _ _ AA (Z.to 1 [0] 9) ⟨AB,(by (simp; omega)),(by exact Co ‹_› ‹_›),‹_›,‹_›,‹_›⟩ (by (simp only []; omega))
   refine .d<|.s<|.cf<|.x 0 rfl<|.s<|.g<|RG.Ln 1 Z<|RG.Ss 4 Z fun w Z=>.d ?_
   have Z:=(Z.fL 2 0 0 ac).eL 0 1 0 [1] ab af
   exact T.Rb 2 func44 results44 Z ⟨⟨r_out_0,c_out_0,hs,(some ⟨r_out_1,0,none⟩),c_out_1,(some ⟨r_out_2,0,none⟩),c_out_2,by rw [show d.files=aa from Eq.symm (by exact BO ‹_› AB),show d.list=ac from Eq.symm ‹_›,show d.names=ab from Eq.symm ‹_›,show d.next=ae from Eq.symm ‹_›]; kernel_rfl,by rw [show d.files=aa from Eq.symm (by exact BO ‹_› AB),show d.list=ac from Eq.symm ‹_›,show d.names=ab from Eq.symm ‹_›]; exact Z.rX 1 [0,1,2] [1] _ _ AE⟩,Z.xt⟩
  refine GE.Np Z fun dH w Z=>.go 1<|GE.N0 Int 0 Z fun mp w Z=>.go 4<|GE.An (hf:=.inr Av) 0 3 ([]:List Int) d.list [3,4] Z fun fq fu w Z=>.go 7<|GE.DB 0 0 (fun w Z=>Aq d.names (Z.a 2) AB (fun n hn=>by have:=p4 n hn; omega)) Z fun fv fw d7 w Z=>.r [10]<|GA.Do Z fun w Z=>RG.Ss 2 Z fun w Z=>.d<|.s<|.s<|.g<|.r 1<|RG.Lb 5 Z<|.r 2<|.d<|.b 0<|T.Lp ((0:Nat),([]:List Fil),dR,(0:Nat),([]:List (Hd 2)),(([]++d.list):List Int),fq,fu,(d.names:List (List Tag)),fv,fw,d7,d.next) (fun (k,aa,r_out_0,c_out_0,hs,ac,r_out_1,c_out_1,ab,r_out_2,c_out_2,af,ae)=>([(2,vP ag),(3,vP dH),(18,.slice a1 d.files.length c1),(19,vI (d.files.length:Int)),(20,vI (k:Int))],[(0,.raw 0 r_out_2 69 c_out_2 ab af),(1,.own 0 r_out_1 3 c_out_1 ac),(2,.box dH 35 [vS r_out_0 aa.length c_out_0,vS r_out_1 ac.length c_out_1,vS r_out_2 ab.length c_out_2,vI ae]),(3,.raw 0 r_out_0 148 c_out_0 aa hs)],[⟨0,none,.sep [.e ab af,.e aa hs]⟩],d.files.length - k,(k≤d.files.length)∧(aa.length≤k)∧(aa++d.files.drop k=d.files)∧(ac=d.list)∧(ab=d.names)∧(ae=d.next))) [0] Z ⟨AB,AD,AF,AF,AF,AB⟩ ?_
  rintro ⟨k,aa,r_out_0,c_out_0,hs,ac,r_out_1,c_out_1,ab,r_out_2,c_out_2,af,ae⟩ mq w Z ⟨jn,jo,jp,jq,jr,jt⟩ cW
  refine .s<|.g<|.bp ((k:Int)< (d.files.length:Int)) (fun d8=>?_) (fun d8=>?_)
  ·refine .d<|.s<|.ct<|.sk<|.s<|.b 1<|.s<|.g<|gx d.files k fun ak aQ=>?_
   have ju:=Ab aQ; have fA:=AV aQ
   refine RG.Ix 6 aQ Z<|Z.el 6 aQ fun mu mw mz mA Z=>RG.Lg 0 0 Z<|RG.Np Z fun fB w Z=>RG.Ss 0 Z fun w Z=>.d<|T.GS 9 [fB,dH,ag,ah] Z fun _ w Z=>.r [0]<|GA.Lb (q:=1) 1 3 Z<|.r [2]<|GA.Lb 3 0 Z<|.r [4]<|GA.Ln 5 0 Z<|.go 6<|GE.DD 3 0 (fun w Z=>Am ak.part (Z.a 1) (Z.a 2) (p1 _ ‹_›)) Z fun bu bv bw bz w Z=>.r [7]<|.go 8<|GE.Nb 1 Z fun mB w Z=>GA.Do Z fun w Z=>RG.Ar 4 0 aa ak hs (⟨Shp.cells ak ([(bu,bv),(bw,bz)]:List (Option Addr × Nat)),AA⟩:Hd 2) Z fun fC fD w Z=>?_
   have Z:=Z.eA 0 0 [3,2,2] aa hs (⟨Shp.cells ak ([(bu,bv),(bw,bz)]:List (Option Addr × Nat)),AA⟩:Hd 2) ak ([(bu,bv),(bw,bz)]:List (Option Addr × Nat))
   refine .r 1<|RG.Ss 3 Z fun w Z=>.d<|.ib 1<|.g<|.it ((k:Int)+1)<|.r 1<|.d ?_
   have Z:=Z.sM 0 0 [0,1] [.e ab af,.e (aa++[ak]) (hs++[(⟨Shp.cells ak ([(bu,bv),(bw,bz)]:List (Option Addr × Nat)),AA⟩:Hd 2)])]
   exact cW (k+1,(aa++[ak]),fC,fD,(hs++[(⟨Shp.cells ak ([(bu,bv),(bw,bz)]:List (Option Addr × Nat)),AA⟩:Hd 2)]),ac,r_out_1,c_out_1,ab,r_out_2,c_out_2,af,ae) _ _ AA (Z.to 1 [0] 9) ⟨AB,(by (simp; omega)),(by exact Co ‹_› ‹_›),‹_›,‹_›,‹_›⟩ (by (simp only []; omega))
  refine .d<|.s<|.cf<|.x 0 rfl<|.s<|.g<|RG.Ln 2 Z<|RG.Ss 4 Z fun w Z=>.d ?_
  have Z:=(Z.fL 1 0 0 ac).eL 0 1 0 [1] ab af
  exact T.Rb 2 func44 results44 Z ⟨⟨r_out_0,c_out_0,hs,(some ⟨r_out_1,0,none⟩),c_out_1,(some ⟨r_out_2,0,none⟩),c_out_2,by rw [show d.files=aa from Eq.symm (by exact BO ‹_› AB),show d.list=ac from Eq.symm ‹_›,show d.names=ab from Eq.symm ‹_›,show d.next=ae from Eq.symm ‹_›]; kernel_rfl,by rw [show d.files=aa from Eq.symm (by exact BO ‹_› AB),show d.list=ac from Eq.symm ‹_›,show d.names=ab from Eq.symm ‹_›]; exact Z.rX 1 [0,1,2] [1] _ _ AE⟩,Z.xt⟩
 ·refine GE.N0 Int 0 Z fun mC w Z=>GE.many [0,4,11] AA (all_cons ?_ (all_cons ?_ (all_cons ?_ all_nil)))
  ·refine GE.N0 (Hd 2) 0 Z fun dI w Z=>?_
   have Z:=Z.o2r 0 0 Fil 2
   refine .tw 4 11 ?_ ?_
   ·refine GE.An (hf:=.inr Av) 1 3 ([]:List Int) d.list [2,3] Z fun dS dT w Z=>.tw 7 11 ?_ ?_
    ·refine GE.DB 0 0 (fun w Z=>Aq d.names (Z.a 2) AB (fun n hn=>by have:=p4 n hn; omega)) Z fun fE fF d9 w Z=>.r [10]<|.go 11<|GE.Np Z fun dJ w Z=>GA.Do Z fun w Z=>RG.Ss 0 Z fun w Z=>.d<|.s<|.s<|.g<|.r 1<|RG.Lb 5 Z<|.r 2<|.d<|.b 0<|T.Lp ((0:Nat),([]:List Fil),dI,(0:Nat),([]:List (Hd 2)),(([]++d.list):List Int),dS,dT,(d.names:List (List Tag)),fE,fF,d9,d.next) (fun (k,aa,r_out_0,c_out_0,hs,ac,r_out_1,c_out_1,ab,r_out_2,c_out_2,af,ae)=>([(2,vP ag),(3,vP dJ),(18,.slice a1 d.files.length c1),(19,vI (d.files.length:Int)),(20,vI (k:Int))],[(0,.box dJ 35 [vS r_out_0 aa.length c_out_0,vS r_out_1 ac.length c_out_1,vS r_out_2 ab.length c_out_2,vI ae]),(1,.raw 0 r_out_2 69 c_out_2 ab af),(2,.raw 0 r_out_0 148 c_out_0 aa hs),(3,.own 0 r_out_1 3 c_out_1 ac)],[⟨0,none,.sep [.e ab af,.e aa hs]⟩],d.files.length - k,(k≤d.files.length)∧(aa.length≤k)∧(aa++d.files.drop k=d.files)∧(ac=d.list)∧(ab=d.names)∧(ae=d.next))) [0] Z ⟨AB,AD,AF,AF,AF,AB⟩ ?_
     rintro ⟨k,aa,r_out_0,c_out_0,hs,ac,r_out_1,c_out_1,ab,r_out_2,c_out_2,af,ae⟩ mD w Z ⟨jv,jw,jx,jy,jz,jA⟩ cX
     refine .s<|.g<|.bp ((k:Int)< (d.files.length:Int)) (fun ec=>?_) (fun ec=>?_)
     ·refine .d<|.s<|.ct<|.sk<|.s<|.b 1<|.s<|.g<|gx d.files k fun am aR=>?_
      have jB:=Ab aR; have fG:=AV aR
      refine RG.Ix 6 aR Z<|Z.el 6 aR fun mE mF mG mH Z=>RG.Lg 0 0 Z<|RG.Np Z fun fH w Z=>RG.Ss 0 Z fun w Z=>.d<|T.GS 9 [fH,dJ,ag,ah] Z fun _ w Z=>.r [0]<|GA.Lb (q:=1) 1 1 Z<|.r [2]<|GA.Lb 3 0 Z<|.r [4]<|GA.Ln 5 0 Z<|.go 6<|GE.DD 3 0 (fun w Z=>Am am.part (Z.a 1) (Z.a 2) (p1 _ ‹_›)) Z fun bA bC bD bE w Z=>.r [7]<|.go 8<|GE.Nb 1 Z fun mI w Z=>GA.Do Z fun w Z=>RG.Ar 3 0 aa am hs (⟨Shp.cells am ([(bA,bC),(bD,bE)]:List (Option Addr × Nat)),AA⟩:Hd 2) Z fun fI fJ w Z=>?_
      have Z:=Z.eA 0 0 [3,2,2] aa hs (⟨Shp.cells am ([(bA,bC),(bD,bE)]:List (Option Addr × Nat)),AA⟩:Hd 2) am ([(bA,bC),(bD,bE)]:List (Option Addr × Nat))
      refine .r 1<|RG.Ss 1 Z fun w Z=>.d<|.ib 1<|.g<|.it ((k:Int)+1)<|.r 1<|.d ?_
      have Z:=Z.sM 0 0 [0,1] [.e ab af,.e (aa++[am]) (hs++[(⟨Shp.cells am ([(bA,bC),(bD,bE)]:List (Option Addr × Nat)),AA⟩:Hd 2)])]
      exact cX (k+1,(aa++[am]),fI,fJ,(hs++[(⟨Shp.cells am ([(bA,bC),(bD,bE)]:List (Option Addr × Nat)),AA⟩:Hd 2)]),ac,r_out_1,c_out_1,ab,r_out_2,c_out_2,af,ae) _ _ AA (Z.to 1 [0] 9) ⟨AB,(by (simp; omega)),(by exact Co ‹_› ‹_›),‹_›,‹_›,‹_›⟩ (by (simp only []; omega))
     refine .d<|.s<|.cf<|.x 0 rfl<|.s<|.g<|RG.Ln 0 Z<|RG.Ss 4 Z fun w Z=>.d ?_
     have Z:=(Z.fL 3 0 0 ac).eL 1 1 0 [1] ab af
     exact T.Rb 2 func44 results44 Z ⟨⟨r_out_0,c_out_0,hs,(some ⟨r_out_1,0,none⟩),c_out_1,(some ⟨r_out_2,0,none⟩),c_out_2,by rw [show d.files=aa from Eq.symm (by exact BO ‹_› AB),show d.list=ac from Eq.symm ‹_›,show d.names=ab from Eq.symm ‹_›,show d.next=ae from Eq.symm ‹_›]; kernel_rfl,by rw [show d.files=aa from Eq.symm (by exact BO ‹_› AB),show d.list=ac from Eq.symm ‹_›,show d.names=ab from Eq.symm ‹_›]; exact Z.rX 1 [0,1,2] [1] _ _ AE⟩,Z.xt⟩
    refine GE.Np Z fun dK w Z=>.go 7<|GE.DB 0 0 (fun w Z=>Aq d.names (Z.a 2) AB (fun n hn=>by have:=p4 n hn; omega)) Z fun fK fM ee w Z=>.r [10]<|GA.Do Z fun w Z=>RG.Ss 1 Z fun w Z=>.d<|.s<|.s<|.g<|.r 1<|RG.Lb 5 Z<|.r 2<|.d<|.b 0<|T.Lp ((0:Nat),([]:List Fil),dI,(0:Nat),([]:List (Hd 2)),(([]++d.list):List Int),dS,dT,(d.names:List (List Tag)),fK,fM,ee,d.next) (fun (k,aa,r_out_0,c_out_0,hs,ac,r_out_1,c_out_1,ab,r_out_2,c_out_2,af,ae)=>([(2,vP ag),(3,vP dK),(18,.slice a1 d.files.length c1),(19,vI (d.files.length:Int)),(20,vI (k:Int))],[(0,.raw 0 r_out_2 69 c_out_2 ab af),(1,.box dK 35 [vS r_out_0 aa.length c_out_0,vS r_out_1 ac.length c_out_1,vS r_out_2 ab.length c_out_2,vI ae]),(2,.raw 0 r_out_0 148 c_out_0 aa hs),(3,.own 0 r_out_1 3 c_out_1 ac)],[⟨0,none,.sep [.e ab af,.e aa hs]⟩],d.files.length - k,(k≤d.files.length)∧(aa.length≤k)∧(aa++d.files.drop k=d.files)∧(ac=d.list)∧(ab=d.names)∧(ae=d.next))) [0] Z ⟨AB,AD,AF,AF,AF,AB⟩ ?_
    rintro ⟨k,aa,r_out_0,c_out_0,hs,ac,r_out_1,c_out_1,ab,r_out_2,c_out_2,af,ae⟩ mJ w Z ⟨jC,jD,jE,jF,jG,jH⟩ cY
    refine .s<|.g<|.bp ((k:Int)< (d.files.length:Int)) (fun eg=>?_) (fun eg=>?_)
    ·refine .d<|.s<|.ct<|.sk<|.s<|.b 1<|.s<|.g<|gx d.files k fun ao aS=>?_
     have jI:=Ab aS; have fN:=AV aS
     refine RG.Ix 6 aS Z<|Z.el 6 aS fun mK mM mN mO Z=>RG.Lg 0 0 Z<|RG.Np Z fun fO w Z=>RG.Ss 0 Z fun w Z=>.d<|T.GS 9 [fO,dK,ag,ah] Z fun _ w Z=>.r [0]<|GA.Lb (q:=1) 1 2 Z<|.r [2]<|GA.Lb 3 0 Z<|.r [4]<|GA.Ln 5 0 Z<|.go 6<|GE.DD 3 0 (fun w Z=>Am ao.part (Z.a 1) (Z.a 2) (p1 _ ‹_›)) Z fun bF bG bH bI w Z=>.r [7]<|.go 8<|GE.Nb 1 Z fun mP w Z=>GA.Do Z fun w Z=>RG.Ar 3 0 aa ao hs (⟨Shp.cells ao ([(bF,bG),(bH,bI)]:List (Option Addr × Nat)),AA⟩:Hd 2) Z fun fP fQ w Z=>?_
     have Z:=Z.eA 0 0 [3,2,2] aa hs (⟨Shp.cells ao ([(bF,bG),(bH,bI)]:List (Option Addr × Nat)),AA⟩:Hd 2) ao ([(bF,bG),(bH,bI)]:List (Option Addr × Nat))
     refine .r 1<|RG.Ss 2 Z fun w Z=>.d<|.ib 1<|.g<|.it ((k:Int)+1)<|.r 1<|.d ?_
     have Z:=Z.sM 0 0 [0,1] [.e ab af,.e (aa++[ao]) (hs++[(⟨Shp.cells ao ([(bF,bG),(bH,bI)]:List (Option Addr × Nat)),AA⟩:Hd 2)])]
     exact cY (k+1,(aa++[ao]),fP,fQ,(hs++[(⟨Shp.cells ao ([(bF,bG),(bH,bI)]:List (Option Addr × Nat)),AA⟩:Hd 2)]),ac,r_out_1,c_out_1,ab,r_out_2,c_out_2,af,ae) _ _ AA (Z.to 1 [0] 9) ⟨AB,(by (simp; omega)),(by exact Co ‹_› ‹_›),‹_›,‹_›,‹_›⟩ (by (simp only []; omega))
    refine .d<|.s<|.cf<|.x 0 rfl<|.s<|.g<|RG.Ln 1 Z<|RG.Ss 4 Z fun w Z=>.d ?_
    have Z:=(Z.fL 3 0 0 ac).eL 0 1 0 [1] ab af
    exact T.Rb 2 func44 results44 Z ⟨⟨r_out_0,c_out_0,hs,(some ⟨r_out_1,0,none⟩),c_out_1,(some ⟨r_out_2,0,none⟩),c_out_2,by rw [show d.files=aa from Eq.symm (by exact BO ‹_› AB),show d.list=ac from Eq.symm ‹_›,show d.names=ab from Eq.symm ‹_›,show d.next=ae from Eq.symm ‹_›]; kernel_rfl,by rw [show d.files=aa from Eq.symm (by exact BO ‹_› AB),show d.list=ac from Eq.symm ‹_›,show d.names=ab from Eq.symm ‹_›]; exact Z.rX 1 [0,1,2] [1] _ _ AE⟩,Z.xt⟩
   refine GE.Np Z fun dL w Z=>.go 4<|GE.An (hf:=.inr Av) 2 3 ([]:List Int) d.list [3,4] Z fun fR fS w Z=>.go 7<|GE.DB 0 0 (fun w Z=>Aq d.names (Z.a 2) AB (fun n hn=>by have:=p4 n hn; omega)) Z fun fT fU ej w Z=>.r [10]<|GA.Do Z fun w Z=>RG.Ss 1 Z fun w Z=>.d<|.s<|.s<|.g<|.r 1<|RG.Lb 5 Z<|.r 2<|.d<|.b 0<|T.Lp ((0:Nat),([]:List Fil),dI,(0:Nat),([]:List (Hd 2)),(([]++d.list):List Int),fR,fS,(d.names:List (List Tag)),fT,fU,ej,d.next) (fun (k,aa,r_out_0,c_out_0,hs,ac,r_out_1,c_out_1,ab,r_out_2,c_out_2,af,ae)=>([(2,vP ag),(3,vP dL),(18,.slice a1 d.files.length c1),(19,vI (d.files.length:Int)),(20,vI (k:Int))],[(0,.raw 0 r_out_2 69 c_out_2 ab af),(1,.box dL 35 [vS r_out_0 aa.length c_out_0,vS r_out_1 ac.length c_out_1,vS r_out_2 ab.length c_out_2,vI ae]),(2,.raw 0 r_out_0 148 c_out_0 aa hs),(3,.own 0 r_out_1 3 c_out_1 ac)],[⟨0,none,.sep [.e ab af,.e aa hs]⟩],d.files.length - k,(k≤d.files.length)∧(aa.length≤k)∧(aa++d.files.drop k=d.files)∧(ac=d.list)∧(ab=d.names)∧(ae=d.next))) [0] Z ⟨AB,AD,AF,AF,AF,AB⟩ ?_
   rintro ⟨k,aa,r_out_0,c_out_0,hs,ac,r_out_1,c_out_1,ab,r_out_2,c_out_2,af,ae⟩ mQ w Z ⟨jJ,jK,jL,jM,jN,jO⟩ cZ
   refine .s<|.g<|.bp ((k:Int)< (d.files.length:Int)) (fun ek=>?_) (fun ek=>?_)
   ·refine .d<|.s<|.ct<|.sk<|.s<|.b 1<|.s<|.g<|gx d.files k fun aq aT=>?_
    have jP:=Ab aT; have fV:=AV aT
    refine RG.Ix 6 aT Z<|Z.el 6 aT fun mR mU mV mW Z=>RG.Lg 0 0 Z<|RG.Np Z fun fW w Z=>RG.Ss 0 Z fun w Z=>.d<|T.GS 9 [fW,dL,ag,ah] Z fun _ w Z=>.r [0]<|GA.Lb (q:=1) 1 2 Z<|.r [2]<|GA.Lb 3 0 Z<|.r [4]<|GA.Ln 5 0 Z<|.go 6<|GE.DD 3 0 (fun w Z=>Am aq.part (Z.a 1) (Z.a 2) (p1 _ ‹_›)) Z fun bJ bK bL bM w Z=>.r [7]<|.go 8<|GE.Nb 1 Z fun mX w Z=>GA.Do Z fun w Z=>RG.Ar 3 0 aa aq hs (⟨Shp.cells aq ([(bJ,bK),(bL,bM)]:List (Option Addr × Nat)),AA⟩:Hd 2) Z fun fX fY w Z=>?_
    have Z:=Z.eA 0 0 [3,2,2] aa hs (⟨Shp.cells aq ([(bJ,bK),(bL,bM)]:List (Option Addr × Nat)),AA⟩:Hd 2) aq ([(bJ,bK),(bL,bM)]:List (Option Addr × Nat))
    refine .r 1<|RG.Ss 2 Z fun w Z=>.d<|.ib 1<|.g<|.it ((k:Int)+1)<|.r 1<|.d ?_
    have Z:=Z.sM 0 0 [0,1] [.e ab af,.e (aa++[aq]) (hs++[(⟨Shp.cells aq ([(bJ,bK),(bL,bM)]:List (Option Addr × Nat)),AA⟩:Hd 2)])]
    exact cZ (k+1,(aa++[aq]),fX,fY,(hs++[(⟨Shp.cells aq ([(bJ,bK),(bL,bM)]:List (Option Addr × Nat)),AA⟩:Hd 2)]),ac,r_out_1,c_out_1,ab,r_out_2,c_out_2,af,ae) _ _ AA (Z.to 1 [0] 9) ⟨AB,(by (simp; omega)),(by exact Co ‹_› ‹_›),‹_›,‹_›,‹_›⟩ (by (simp only []; omega))
   refine .d<|.s<|.cf<|.x 0 rfl<|.s<|.g<|RG.Ln 1 Z<|RG.Ss 4 Z fun w Z=>.d ?_
   have Z:=(Z.fL 3 0 0 ac).eL 0 1 0 [1] ab af
   exact T.Rb 2 func44 results44 Z ⟨⟨r_out_0,c_out_0,hs,(some ⟨r_out_1,0,none⟩),c_out_1,(some ⟨r_out_2,0,none⟩),c_out_2,by rw [show d.files=aa from Eq.symm (by exact BO ‹_› AB),show d.list=ac from Eq.symm ‹_›,show d.names=ab from Eq.symm ‹_›,show d.next=ae from Eq.symm ‹_›]; kernel_rfl,by rw [show d.files=aa from Eq.symm (by exact BO ‹_› AB),show d.list=ac from Eq.symm ‹_›,show d.names=ab from Eq.symm ‹_›]; exact Z.rX 1 [0,1,2] [1] _ _ AE⟩,Z.xt⟩
  ·refine GE.An (hf:=.inr Av) 0 2 ([]:List Int) d.list [1,2] Z fun aK aL w Z=>GE.many [0,7,11] AA (all_cons ?_ (all_cons ?_ (all_cons ?_ all_nil)))
   ·refine GE.N0 (Hd 2) 0 Z fun dU w Z=>?_
    have Z:=Z.o2r 0 0 Fil 2
    refine .tw 7 11 ?_ ?_
    ·refine GE.DB 0 0 (fun w Z=>Aq d.names (Z.a 2) AB (fun n hn=>by have:=p4 n hn; omega)) Z fun fZ f5 en w Z=>.r [10]<|.go 11<|GE.Np Z fun dM w Z=>GA.Do Z fun w Z=>RG.Ss 0 Z fun w Z=>.d<|.s<|.s<|.g<|.r 1<|RG.Lb 5 Z<|.r 2<|.d<|.b 0<|T.Lp ((0:Nat),([]:List Fil),dU,(0:Nat),([]:List (Hd 2)),(([]++d.list):List Int),aK,aL,(d.names:List (List Tag)),fZ,f5,en,d.next) (fun (k,aa,r_out_0,c_out_0,hs,ac,r_out_1,c_out_1,ab,r_out_2,c_out_2,af,ae)=>([(2,vP ag),(3,vP dM),(18,.slice a1 d.files.length c1),(19,vI (d.files.length:Int)),(20,vI (k:Int))],[(0,.box dM 35 [vS r_out_0 aa.length c_out_0,vS r_out_1 ac.length c_out_1,vS r_out_2 ab.length c_out_2,vI ae]),(1,.raw 0 r_out_2 69 c_out_2 ab af),(2,.raw 0 r_out_0 148 c_out_0 aa hs),(3,.own 0 r_out_1 3 c_out_1 ac)],[⟨0,none,.sep [.e ab af,.e aa hs]⟩],d.files.length - k,(k≤d.files.length)∧(aa.length≤k)∧(aa++d.files.drop k=d.files)∧(ac=d.list)∧(ab=d.names)∧(ae=d.next))) [0] Z ⟨AB,AD,AF,AF,AF,AB⟩ ?_
     rintro ⟨k,aa,r_out_0,c_out_0,hs,ac,r_out_1,c_out_1,ab,r_out_2,c_out_2,af,ae⟩ mY w Z ⟨jQ,jR,jS,jT,jU,jV⟩ c7
     refine .s<|.g<|.bp ((k:Int)< (d.files.length:Int)) (fun eB=>?_) (fun eB=>?_)
     ·refine .d<|.s<|.ct<|.sk<|.s<|.b 1<|.s<|.g<|gx d.files k fun ar aU=>?_
      have jW:=Ab aU; have f6:=AV aU
      refine RG.Ix 6 aU Z<|Z.el 6 aU fun mZ m5 m6 m7 Z=>RG.Lg 0 0 Z<|RG.Np Z fun f7 w Z=>RG.Ss 0 Z fun w Z=>.d<|T.GS 9 [f7,dM,ag,ah] Z fun _ w Z=>.r [0]<|GA.Lb (q:=1) 1 1 Z<|.r [2]<|GA.Lb 3 0 Z<|.r [4]<|GA.Ln 5 0 Z<|.go 6<|GE.DD 3 0 (fun w Z=>Am ar.part (Z.a 1) (Z.a 2) (p1 _ ‹_›)) Z fun bN bO bP bQ w Z=>.r [7]<|.go 8<|GE.Nb 1 Z fun m8 w Z=>GA.Do Z fun w Z=>RG.Ar 3 0 aa ar hs (⟨Shp.cells ar ([(bN,bO),(bP,bQ)]:List (Option Addr × Nat)),AA⟩:Hd 2) Z fun f8 f9 w Z=>?_
      have Z:=Z.eA 0 0 [3,2,2] aa hs (⟨Shp.cells ar ([(bN,bO),(bP,bQ)]:List (Option Addr × Nat)),AA⟩:Hd 2) ar ([(bN,bO),(bP,bQ)]:List (Option Addr × Nat))
      refine .r 1<|RG.Ss 1 Z fun w Z=>.d<|.ib 1<|.g<|.it ((k:Int)+1)<|.r 1<|.d ?_
      have Z:=Z.sM 0 0 [0,1] [.e ab af,.e (aa++[ar]) (hs++[(⟨Shp.cells ar ([(bN,bO),(bP,bQ)]:List (Option Addr × Nat)),AA⟩:Hd 2)])]
      exact c7 (k+1,(aa++[ar]),f8,f9,(hs++[(⟨Shp.cells ar ([(bN,bO),(bP,bQ)]:List (Option Addr × Nat)),AA⟩:Hd 2)]),ac,r_out_1,c_out_1,ab,r_out_2,c_out_2,af,ae) _ _ AA (Z.to 1 [0] 9) ⟨AB,(by (simp; omega)),(by exact Co ‹_› ‹_›),‹_›,‹_›,‹_›⟩ (by (simp only []; omega))
     refine .d<|.s<|.cf<|.x 0 rfl<|.s<|.g<|RG.Ln 0 Z<|RG.Ss 4 Z fun w Z=>.d ?_
     have Z:=(Z.fL 3 0 0 ac).eL 1 1 0 [1] ab af
     exact T.Rb 2 func44 results44 Z ⟨⟨r_out_0,c_out_0,hs,(some ⟨r_out_1,0,none⟩),c_out_1,(some ⟨r_out_2,0,none⟩),c_out_2,by rw [show d.files=aa from Eq.symm (by exact BO ‹_› AB),show d.list=ac from Eq.symm ‹_›,show d.names=ab from Eq.symm ‹_›,show d.next=ae from Eq.symm ‹_›]; kernel_rfl,by rw [show d.files=aa from Eq.symm (by exact BO ‹_› AB),show d.list=ac from Eq.symm ‹_›,show d.names=ab from Eq.symm ‹_›]; exact Z.rX 1 [0,1,2] [1] _ _ AE⟩,Z.xt⟩
    refine GE.Np Z fun dN w Z=>.go 7<|GE.DB 0 0 (fun w Z=>Aq d.names (Z.a 2) AB (fun n hn=>by have:=p4 n hn; omega)) Z fun gb gf eC w Z=>.r [10]<|GA.Do Z fun w Z=>RG.Ss 1 Z fun w Z=>.d<|.s<|.s<|.g<|.r 1<|RG.Lb 5 Z<|.r 2<|.d<|.b 0<|T.Lp ((0:Nat),([]:List Fil),dU,(0:Nat),([]:List (Hd 2)),(([]++d.list):List Int),aK,aL,(d.names:List (List Tag)),gb,gf,eC,d.next) (fun (k,aa,r_out_0,c_out_0,hs,ac,r_out_1,c_out_1,ab,r_out_2,c_out_2,af,ae)=>([(2,vP ag),(3,vP dN),(18,.slice a1 d.files.length c1),(19,vI (d.files.length:Int)),(20,vI (k:Int))],[(0,.raw 0 r_out_2 69 c_out_2 ab af),(1,.box dN 35 [vS r_out_0 aa.length c_out_0,vS r_out_1 ac.length c_out_1,vS r_out_2 ab.length c_out_2,vI ae]),(2,.raw 0 r_out_0 148 c_out_0 aa hs),(3,.own 0 r_out_1 3 c_out_1 ac)],[⟨0,none,.sep [.e ab af,.e aa hs]⟩],d.files.length - k,(k≤d.files.length)∧(aa.length≤k)∧(aa++d.files.drop k=d.files)∧(ac=d.list)∧(ab=d.names)∧(ae=d.next))) [0] Z ⟨AB,AD,AF,AF,AF,AB⟩ ?_
    rintro ⟨k,aa,r_out_0,c_out_0,hs,ac,r_out_1,c_out_1,ab,r_out_2,c_out_2,af,ae⟩ m9 w Z ⟨jX,jY,jZ,j0,j1,j2⟩ c8
    refine .s<|.g<|.bp ((k:Int)< (d.files.length:Int)) (fun eD=>?_) (fun eD=>?_)
    ·refine .d<|.s<|.ct<|.sk<|.s<|.b 1<|.s<|.g<|gx d.files k fun ax aV=>?_
     have j3:=Ab aV; have gh:=AV aV
     refine RG.Ix 6 aV Z<|Z.el 6 aV fun nc nh ni nj Z=>RG.Lg 0 0 Z<|RG.Np Z fun gi w Z=>RG.Ss 0 Z fun w Z=>.d<|T.GS 9 [gi,dN,ag,ah] Z fun _ w Z=>.r [0]<|GA.Lb (q:=1) 1 2 Z<|.r [2]<|GA.Lb 3 0 Z<|.r [4]<|GA.Ln 5 0 Z<|.go 6<|GE.DD 3 0 (fun w Z=>Am ax.part (Z.a 1) (Z.a 2) (p1 _ ‹_›)) Z fun bR bS bT bU w Z=>.r [7]<|.go 8<|GE.Nb 1 Z fun nt w Z=>GA.Do Z fun w Z=>RG.Ar 3 0 aa ax hs (⟨Shp.cells ax ([(bR,bS),(bT,bU)]:List (Option Addr × Nat)),AA⟩:Hd 2) Z fun gj gk w Z=>?_
     have Z:=Z.eA 0 0 [3,2,2] aa hs (⟨Shp.cells ax ([(bR,bS),(bT,bU)]:List (Option Addr × Nat)),AA⟩:Hd 2) ax ([(bR,bS),(bT,bU)]:List (Option Addr × Nat))
     refine .r 1<|RG.Ss 2 Z fun w Z=>.d<|.ib 1<|.g<|.it ((k:Int)+1)<|.r 1<|.d ?_
     have Z:=Z.sM 0 0 [0,1] [.e ab af,.e (aa++[ax]) (hs++[(⟨Shp.cells ax ([(bR,bS),(bT,bU)]:List (Option Addr × Nat)),AA⟩:Hd 2)])]
     exact c8 (k+1,(aa++[ax]),gj,gk,(hs++[(⟨Shp.cells ax ([(bR,bS),(bT,bU)]:List (Option Addr × Nat)),AA⟩:Hd 2)]),ac,r_out_1,c_out_1,ab,r_out_2,c_out_2,af,ae) _ _ AA (Z.to 1 [0] 9) ⟨AB,(by (simp; omega)),(by exact Co ‹_› ‹_›),‹_›,‹_›,‹_›⟩ (by (simp only []; omega))
    refine .d<|.s<|.cf<|.x 0 rfl<|.s<|.g<|RG.Ln 1 Z<|RG.Ss 4 Z fun w Z=>.d ?_
    have Z:=(Z.fL 3 0 0 ac).eL 0 1 0 [1] ab af
    exact T.Rb 2 func44 results44 Z ⟨⟨r_out_0,c_out_0,hs,(some ⟨r_out_1,0,none⟩),c_out_1,(some ⟨r_out_2,0,none⟩),c_out_2,by rw [show d.files=aa from Eq.symm (by exact BO ‹_› AB),show d.list=ac from Eq.symm ‹_›,show d.names=ab from Eq.symm ‹_›,show d.next=ae from Eq.symm ‹_›]; kernel_rfl,by rw [show d.files=aa from Eq.symm (by exact BO ‹_› AB),show d.list=ac from Eq.symm ‹_›,show d.names=ab from Eq.symm ‹_›]; exact Z.rX 1 [0,1,2] [1] _ _ AE⟩,Z.xt⟩
   ·refine GE.DB 0 0 (fun w Z=>Aq d.names (Z.a 1) AB (fun n hn=>by have:=p4 n hn; omega)) Z fun dV dW dO w Z=>.tw 0 11 ?_ ?_
    ·refine GE.N0 (Hd 2) 0 Z fun gl w Z=>?_
     have Z:=Z.o2r 0 0 Fil 2
     refine .r [10]<|.go 11<|GE.Np Z fun dP w Z=>GA.Do Z fun w Z=>RG.Ss 0 Z fun w Z=>.d<|.s<|.s<|.g<|.r 1<|RG.Lb 5 Z<|.r 2<|.d<|.b 0<|T.Lp ((0:Nat),([]:List Fil),gl,(0:Nat),([]:List (Hd 2)),(([]++d.list):List Int),aK,aL,(d.names:List (List Tag)),dV,dW,dO,d.next) (fun (k,aa,r_out_0,c_out_0,hs,ac,r_out_1,c_out_1,ab,r_out_2,c_out_2,af,ae)=>([(2,vP ag),(3,vP dP),(18,.slice a1 d.files.length c1),(19,vI (d.files.length:Int)),(20,vI (k:Int))],[(0,.box dP 35 [vS r_out_0 aa.length c_out_0,vS r_out_1 ac.length c_out_1,vS r_out_2 ab.length c_out_2,vI ae]),(1,.raw 0 r_out_0 148 c_out_0 aa hs),(2,.raw 0 r_out_2 69 c_out_2 ab af),(3,.own 0 r_out_1 3 c_out_1 ac)],[⟨0,none,.sep [.e aa hs,.e ab af]⟩],d.files.length - k,(k≤d.files.length)∧(aa.length≤k)∧(aa++d.files.drop k=d.files)∧(ac=d.list)∧(ab=d.names)∧(ae=d.next))) [0] Z ⟨AB,AD,AF,AF,AF,AB⟩ ?_
     rintro ⟨k,aa,r_out_0,c_out_0,hs,ac,r_out_1,c_out_1,ab,r_out_2,c_out_2,af,ae⟩ nu w Z ⟨j4,j5,j6,j7,j8,j9⟩ da
     refine .s<|.g<|.bp ((k:Int)< (d.files.length:Int)) (fun eE=>?_) (fun eE=>?_)
     ·refine .d<|.s<|.ct<|.sk<|.s<|.b 1<|.s<|.g<|gx d.files k fun ay aW=>?_
      have ka:=Ab aW; have gm:=AV aW
      refine RG.Ix 6 aW Z<|Z.el 6 aW fun nv ny nz nA Z=>RG.Lg 0 0 Z<|RG.Np Z fun gn w Z=>RG.Ss 0 Z fun w Z=>.d<|T.GS 9 [gn,dP,ag,ah] Z fun _ w Z=>.r [0]<|GA.Lb (q:=1) 1 1 Z<|.r [2]<|GA.Lb 3 0 Z<|.r [4]<|GA.Ln 5 0 Z<|.go 6<|GE.DD 3 0 (fun w Z=>Am ay.part (Z.a 1) (Z.a 2) (p1 _ ‹_›)) Z fun bV bW bX bY w Z=>.r [7]<|.go 8<|GE.Nb 1 Z fun nB w Z=>GA.Do Z fun w Z=>RG.Ar 2 0 aa ay hs (⟨Shp.cells ay ([(bV,bW),(bX,bY)]:List (Option Addr × Nat)),AA⟩:Hd 2) Z fun gp gq w Z=>?_
      have Z:=Z.eA 0 0 [2,2,2] aa hs (⟨Shp.cells ay ([(bV,bW),(bX,bY)]:List (Option Addr × Nat)),AA⟩:Hd 2) ay ([(bV,bW),(bX,bY)]:List (Option Addr × Nat))
      refine .r 1<|RG.Ss 1 Z fun w Z=>.d<|.ib 1<|.g<|.it ((k:Int)+1)<|.r 1<|.d ?_
      have Z:=Z.sM 0 0 [1,1] [.e (aa++[ay]) (hs++[(⟨Shp.cells ay ([(bV,bW),(bX,bY)]:List (Option Addr × Nat)),AA⟩:Hd 2)]),.e ab af]
      exact da (k+1,(aa++[ay]),gp,gq,(hs++[(⟨Shp.cells ay ([(bV,bW),(bX,bY)]:List (Option Addr × Nat)),AA⟩:Hd 2)]),ac,r_out_1,c_out_1,ab,r_out_2,c_out_2,af,ae) _ _ AA (Z.to 1 [0] 9) ⟨AB,(by (simp; omega)),(by exact Co ‹_› ‹_›),‹_›,‹_›,‹_›⟩ (by (simp only []; omega))
     refine .d<|.s<|.cf<|.x 0 rfl<|.s<|.g<|RG.Ln 0 Z<|RG.Ss 4 Z fun w Z=>.d ?_
     have Z:=(Z.fL 3 0 0 ac).eL 2 1 0 [2] ab af
     exact T.Rb 2 func44 results44 Z ⟨⟨r_out_0,c_out_0,hs,(some ⟨r_out_1,0,none⟩),c_out_1,(some ⟨r_out_2,0,none⟩),c_out_2,by rw [show d.files=aa from Eq.symm (by exact BO ‹_› AB),show d.list=ac from Eq.symm ‹_›,show d.names=ab from Eq.symm ‹_›,show d.next=ae from Eq.symm ‹_›]; kernel_rfl,by rw [show d.files=aa from Eq.symm (by exact BO ‹_› AB),show d.list=ac from Eq.symm ‹_›,show d.names=ab from Eq.symm ‹_›]; exact Z.rX 1 [0,1,2] [1] _ _ AE⟩,Z.xt⟩
    refine GE.Np Z fun dQ w Z=>.go 0<|GE.N0 (Hd 2) 0 Z fun gr w Z=>?_
    have Z:=Z.o2r 0 0 Fil 2
    refine .r [10]<|GA.Do Z fun w Z=>RG.Ss 1 Z fun w Z=>.d<|.s<|.s<|.g<|.r 1<|RG.Lb 5 Z<|.r 2<|.d<|.b 0<|T.Lp ((0:Nat),([]:List Fil),gr,(0:Nat),([]:List (Hd 2)),(([]++d.list):List Int),aK,aL,(d.names:List (List Tag)),dV,dW,dO,d.next) (fun (k,aa,r_out_0,c_out_0,hs,ac,r_out_1,c_out_1,ab,r_out_2,c_out_2,af,ae)=>([(2,vP ag),(3,vP dQ),(18,.slice a1 d.files.length c1),(19,vI (d.files.length:Int)),(20,vI (k:Int))],[(0,.raw 0 r_out_0 148 c_out_0 aa hs),(1,.box dQ 35 [vS r_out_0 aa.length c_out_0,vS r_out_1 ac.length c_out_1,vS r_out_2 ab.length c_out_2,vI ae]),(2,.raw 0 r_out_2 69 c_out_2 ab af),(3,.own 0 r_out_1 3 c_out_1 ac)],[⟨0,none,.sep [.e aa hs,.e ab af]⟩],d.files.length - k,(k≤d.files.length)∧(aa.length≤k)∧(aa++d.files.drop k=d.files)∧(ac=d.list)∧(ab=d.names)∧(ae=d.next))) [0] Z ⟨AB,AD,AF,AF,AF,AB⟩ ?_
    rintro ⟨k,aa,r_out_0,c_out_0,hs,ac,r_out_1,c_out_1,ab,r_out_2,c_out_2,af,ae⟩ nC w Z ⟨kb,kd,ke,kf,kg,kh⟩ db
    refine .s<|.g<|.bp ((k:Int)< (d.files.length:Int)) (fun eF=>?_) (fun eF=>?_)
    ·refine .d<|.s<|.ct<|.sk<|.s<|.b 1<|.s<|.g<|gx d.files k fun az aX=>?_
     have ki:=Ab aX; have gt:=AV aX
     refine RG.Ix 6 aX Z<|Z.el 6 aX fun nD nE nF nG Z=>RG.Lg 0 0 Z<|RG.Np Z fun gu w Z=>RG.Ss 0 Z fun w Z=>.d<|T.GS 9 [gu,dQ,ag,ah] Z fun _ w Z=>.r [0]<|GA.Lb (q:=1) 1 2 Z<|.r [2]<|GA.Lb 3 0 Z<|.r [4]<|GA.Ln 5 0 Z<|.go 6<|GE.DD 3 0 (fun w Z=>Am az.part (Z.a 1) (Z.a 2) (p1 _ ‹_›)) Z fun bZ b6 b7 b8 w Z=>.r [7]<|.go 8<|GE.Nb 1 Z fun nH w Z=>GA.Do Z fun w Z=>RG.Ar 1 0 aa az hs (⟨Shp.cells az ([(bZ,b6),(b7,b8)]:List (Option Addr × Nat)),AA⟩:Hd 2) Z fun gv gw w Z=>?_
     have Z:=Z.eA 0 0 [2,2,2] aa hs (⟨Shp.cells az ([(bZ,b6),(b7,b8)]:List (Option Addr × Nat)),AA⟩:Hd 2) az ([(bZ,b6),(b7,b8)]:List (Option Addr × Nat))
     refine .r 1<|RG.Ss 2 Z fun w Z=>.d<|.ib 1<|.g<|.it ((k:Int)+1)<|.r 1<|.d ?_
     have Z:=Z.sM 0 0 [1,1] [.e (aa++[az]) (hs++[(⟨Shp.cells az ([(bZ,b6),(b7,b8)]:List (Option Addr × Nat)),AA⟩:Hd 2)]),.e ab af]
     exact db (k+1,(aa++[az]),gv,gw,(hs++[(⟨Shp.cells az ([(bZ,b6),(b7,b8)]:List (Option Addr × Nat)),AA⟩:Hd 2)]),ac,r_out_1,c_out_1,ab,r_out_2,c_out_2,af,ae) _ _ AA (Z.to 1 [0] 9) ⟨AB,(by (simp; omega)),(by exact Co ‹_› ‹_›),‹_›,‹_›,‹_›⟩ (by (simp only []; omega))
    refine .d<|.s<|.cf<|.x 0 rfl<|.s<|.g<|RG.Ln 1 Z<|RG.Ss 4 Z fun w Z=>.d ?_
    have Z:=(Z.fL 3 0 0 ac).eL 2 1 0 [2] ab af
    exact T.Rb 2 func44 results44 Z ⟨⟨r_out_0,c_out_0,hs,(some ⟨r_out_1,0,none⟩),c_out_1,(some ⟨r_out_2,0,none⟩),c_out_2,by rw [show d.files=aa from Eq.symm (by exact BO ‹_› AB),show d.list=ac from Eq.symm ‹_›,show d.names=ab from Eq.symm ‹_›,show d.next=ae from Eq.symm ‹_›]; kernel_rfl,by rw [show d.files=aa from Eq.symm (by exact BO ‹_› AB),show d.list=ac from Eq.symm ‹_›,show d.names=ab from Eq.symm ‹_›]; exact Z.rX 1 [0,1,2] [0] _ _ AE⟩,Z.xt⟩
   refine GE.Np Z fun aM w Z=>.tw 0 7 ?_ ?_
   ·refine GE.N0 (Hd 2) 0 Z fun gy w Z=>?_
    have Z:=Z.o2r 0 0 Fil 2
    refine .go 7<|GE.DB 0 0 (fun w Z=>Aq d.names (Z.a 2) AB (fun n hn=>by have:=p4 n hn; omega)) Z fun gz gA eG w Z=>.r [10]<|GA.Do Z fun w Z=>RG.Ss 2 Z fun w Z=>.d<|.s<|.s<|.g<|.r 1<|RG.Lb 5 Z<|.r 2<|.d<|.b 0<|T.Lp ((0:Nat),([]:List Fil),gy,(0:Nat),([]:List (Hd 2)),(([]++d.list):List Int),aK,aL,(d.names:List (List Tag)),gz,gA,eG,d.next) (fun (k,aa,r_out_0,c_out_0,hs,ac,r_out_1,c_out_1,ab,r_out_2,c_out_2,af,ae)=>([(2,vP ag),(3,vP aM),(18,.slice a1 d.files.length c1),(19,vI (d.files.length:Int)),(20,vI (k:Int))],[(0,.raw 0 r_out_2 69 c_out_2 ab af),(1,.raw 0 r_out_0 148 c_out_0 aa hs),(2,.box aM 35 [vS r_out_0 aa.length c_out_0,vS r_out_1 ac.length c_out_1,vS r_out_2 ab.length c_out_2,vI ae]),(3,.own 0 r_out_1 3 c_out_1 ac)],[⟨0,none,.sep [.e ab af,.e aa hs]⟩],d.files.length - k,(k≤d.files.length)∧(aa.length≤k)∧(aa++d.files.drop k=d.files)∧(ac=d.list)∧(ab=d.names)∧(ae=d.next))) [0] Z ⟨AB,AD,AF,AF,AF,AB⟩ ?_
    rintro ⟨k,aa,r_out_0,c_out_0,hs,ac,r_out_1,c_out_1,ab,r_out_2,c_out_2,af,ae⟩ nI w Z ⟨kj,kl,km,ko,kr,ku⟩ de
    refine .s<|.g<|.bp ((k:Int)< (d.files.length:Int)) (fun eH=>?_) (fun eH=>?_)
    ·refine .d<|.s<|.ct<|.sk<|.s<|.b 1<|.s<|.g<|gx d.files k fun aA aY=>?_
     have kv:=Ab aY; have gC:=AV aY
     refine RG.Ix 6 aY Z<|Z.el 6 aY fun nJ nK nL nM Z=>RG.Lg 0 0 Z<|RG.Np Z fun gD w Z=>RG.Ss 0 Z fun w Z=>.d<|T.GS 9 [gD,aM,ag,ah] Z fun _ w Z=>.r [0]<|GA.Lb (q:=1) 1 3 Z<|.r [2]<|GA.Lb 3 0 Z<|.r [4]<|GA.Ln 5 0 Z<|.go 6<|GE.DD 3 0 (fun w Z=>Am aA.part (Z.a 1) (Z.a 2) (p1 _ ‹_›)) Z fun b9 cd ce cg w Z=>.r [7]<|.go 8<|GE.Nb 1 Z fun nN w Z=>GA.Do Z fun w Z=>RG.Ar 2 0 aa aA hs (⟨Shp.cells aA ([(b9,cd),(ce,cg)]:List (Option Addr × Nat)),AA⟩:Hd 2) Z fun gE gF w Z=>?_
     have Z:=Z.eA 0 0 [3,2,2] aa hs (⟨Shp.cells aA ([(b9,cd),(ce,cg)]:List (Option Addr × Nat)),AA⟩:Hd 2) aA ([(b9,cd),(ce,cg)]:List (Option Addr × Nat))
     refine .r 1<|RG.Ss 3 Z fun w Z=>.d<|.ib 1<|.g<|.it ((k:Int)+1)<|.r 1<|.d ?_
     have Z:=Z.sM 0 0 [0,1] [.e ab af,.e (aa++[aA]) (hs++[(⟨Shp.cells aA ([(b9,cd),(ce,cg)]:List (Option Addr × Nat)),AA⟩:Hd 2)])]
     exact de (k+1,(aa++[aA]),gE,gF,(hs++[(⟨Shp.cells aA ([(b9,cd),(ce,cg)]:List (Option Addr × Nat)),AA⟩:Hd 2)]),ac,r_out_1,c_out_1,ab,r_out_2,c_out_2,af,ae) _ _ AA (Z.to 1 [0] 9) ⟨AB,(by (simp; omega)),(by exact Co ‹_› ‹_›),‹_›,‹_›,‹_›⟩ (by (simp only []; omega))
    refine .d<|.s<|.cf<|.x 0 rfl<|.s<|.g<|RG.Ln 2 Z<|RG.Ss 4 Z fun w Z=>.d ?_
    have Z:=(Z.fL 3 0 0 ac).eL 0 1 0 [1] ab af
    exact T.Rb 2 func44 results44 Z ⟨⟨r_out_0,c_out_0,hs,(some ⟨r_out_1,0,none⟩),c_out_1,(some ⟨r_out_2,0,none⟩),c_out_2,by rw [show d.files=aa from Eq.symm (by exact BO ‹_› AB),show d.list=ac from Eq.symm ‹_›,show d.names=ab from Eq.symm ‹_›,show d.next=ae from Eq.symm ‹_›]; kernel_rfl,by rw [show d.files=aa from Eq.symm (by exact BO ‹_› AB),show d.list=ac from Eq.symm ‹_›,show d.names=ab from Eq.symm ‹_›]; exact Z.rX 1 [0,1,2] [0] _ _ AE⟩,Z.xt⟩
   refine GE.DB 0 0 (fun w Z=>Aq d.names (Z.a 1) AB (fun n hn=>by have:=p4 n hn; omega)) Z fun gG gH eI w Z=>.go 0<|GE.N0 (Hd 2) 0 Z fun gI w Z=>?_
   have Z:=Z.o2r 0 0 Fil 2
   refine .r [10]<|GA.Do Z fun w Z=>RG.Ss 2 Z fun w Z=>.d<|.s<|.s<|.g<|.r 1<|RG.Lb 5 Z<|.r 2<|.d<|.b 0<|T.Lp ((0:Nat),([]:List Fil),gI,(0:Nat),([]:List (Hd 2)),(([]++d.list):List Int),aK,aL,(d.names:List (List Tag)),gG,gH,eI,d.next) (fun (k,aa,r_out_0,c_out_0,hs,ac,r_out_1,c_out_1,ab,r_out_2,c_out_2,af,ae)=>([(2,vP ag),(3,vP aM),(18,.slice a1 d.files.length c1),(19,vI (d.files.length:Int)),(20,vI (k:Int))],[(0,.raw 0 r_out_0 148 c_out_0 aa hs),(1,.raw 0 r_out_2 69 c_out_2 ab af),(2,.box aM 35 [vS r_out_0 aa.length c_out_0,vS r_out_1 ac.length c_out_1,vS r_out_2 ab.length c_out_2,vI ae]),(3,.own 0 r_out_1 3 c_out_1 ac)],[⟨0,none,.sep [.e aa hs,.e ab af]⟩],d.files.length - k,(k≤d.files.length)∧(aa.length≤k)∧(aa++d.files.drop k=d.files)∧(ac=d.list)∧(ab=d.names)∧(ae=d.next))) [0] Z ⟨AB,AD,AF,AF,AF,AB⟩ ?_
   rintro ⟨k,aa,r_out_0,c_out_0,hs,ac,r_out_1,c_out_1,ab,r_out_2,c_out_2,af,ae⟩ nO w Z ⟨kw,kx,ky,kz,kA,kB⟩ df
   refine .s<|.g<|.bp ((k:Int)< (d.files.length:Int)) (fun eJ=>?_) (fun eJ=>?_)
   ·refine .d<|.s<|.ct<|.sk<|.s<|.b 1<|.s<|.g<|gx d.files k fun aB aZ=>?_
    have kC:=Ab aZ; have gJ:=AV aZ
    refine RG.Ix 6 aZ Z<|Z.el 6 aZ fun nP nQ nR nT Z=>RG.Lg 0 0 Z<|RG.Np Z fun gK w Z=>RG.Ss 0 Z fun w Z=>.d<|T.GS 9 [gK,aM,ag,ah] Z fun _ w Z=>.r [0]<|GA.Lb (q:=1) 1 3 Z<|.r [2]<|GA.Lb 3 0 Z<|.r [4]<|GA.Ln 5 0 Z<|.go 6<|GE.DD 3 0 (fun w Z=>Am aB.part (Z.a 1) (Z.a 2) (p1 _ ‹_›)) Z fun ci cj ck cm w Z=>.r [7]<|.go 8<|GE.Nb 1 Z fun nU w Z=>GA.Do Z fun w Z=>RG.Ar 1 0 aa aB hs (⟨Shp.cells aB ([(ci,cj),(ck,cm)]:List (Option Addr × Nat)),AA⟩:Hd 2) Z fun gL gM w Z=>?_
    have Z:=Z.eA 0 0 [2,2,2] aa hs (⟨Shp.cells aB ([(ci,cj),(ck,cm)]:List (Option Addr × Nat)),AA⟩:Hd 2) aB ([(ci,cj),(ck,cm)]:List (Option Addr × Nat))
    refine .r 1<|RG.Ss 3 Z fun w Z=>.d<|.ib 1<|.g<|.it ((k:Int)+1)<|.r 1<|.d ?_
    have Z:=Z.sM 0 0 [1,1] [.e (aa++[aB]) (hs++[(⟨Shp.cells aB ([(ci,cj),(ck,cm)]:List (Option Addr × Nat)),AA⟩:Hd 2)]),.e ab af]
    exact df (k+1,(aa++[aB]),gL,gM,(hs++[(⟨Shp.cells aB ([(ci,cj),(ck,cm)]:List (Option Addr × Nat)),AA⟩:Hd 2)]),ac,r_out_1,c_out_1,ab,r_out_2,c_out_2,af,ae) _ _ AA (Z.to 1 [0] 9) ⟨AB,(by (simp; omega)),(by exact Co ‹_› ‹_›),‹_›,‹_›,‹_›⟩ (by (simp only []; omega))
   refine .d<|.s<|.cf<|.x 0 rfl<|.s<|.g<|RG.Ln 2 Z<|RG.Ss 4 Z fun w Z=>.d ?_
   have Z:=(Z.fL 3 0 0 ac).eL 1 1 0 [2] ab af
   exact T.Rb 2 func44 results44 Z ⟨⟨r_out_0,c_out_0,hs,(some ⟨r_out_1,0,none⟩),c_out_1,(some ⟨r_out_2,0,none⟩),c_out_2,by rw [show d.files=aa from Eq.symm (by exact BO ‹_› AB),show d.list=ac from Eq.symm ‹_›,show d.names=ab from Eq.symm ‹_›,show d.next=ae from Eq.symm ‹_›]; kernel_rfl,by rw [show d.files=aa from Eq.symm (by exact BO ‹_› AB),show d.list=ac from Eq.symm ‹_›,show d.names=ab from Eq.symm ‹_›]; exact Z.rX 1 [0,1,2] [0] _ _ AE⟩,Z.xt⟩
  refine GE.Np Z fun aC w Z=>.tw 0 4 ?_ ?_
  ·refine GE.N0 (Hd 2) 0 Z fun gN w Z=>?_
   have Z:=Z.o2r 0 0 Fil 2
   refine .go 4<|GE.An (hf:=.inr Av) 2 3 ([]:List Int) d.list [3,4] Z fun gO gP w Z=>.go 7<|GE.DB 0 0 (fun w Z=>Aq d.names (Z.a 2) AB (fun n hn=>by have:=p4 n hn; omega)) Z fun gQ gR eK w Z=>.r [10]<|GA.Do Z fun w Z=>RG.Ss 2 Z fun w Z=>.d<|.s<|.s<|.g<|.r 1<|RG.Lb 5 Z<|.r 2<|.d<|.b 0<|T.Lp ((0:Nat),([]:List Fil),gN,(0:Nat),([]:List (Hd 2)),(([]++d.list):List Int),gO,gP,(d.names:List (List Tag)),gQ,gR,eK,d.next) (fun (k,aa,r_out_0,c_out_0,hs,ac,r_out_1,c_out_1,ab,r_out_2,c_out_2,af,ae)=>([(2,vP ag),(3,vP aC),(18,.slice a1 d.files.length c1),(19,vI (d.files.length:Int)),(20,vI (k:Int))],[(0,.raw 0 r_out_2 69 c_out_2 ab af),(1,.raw 0 r_out_0 148 c_out_0 aa hs),(2,.box aC 35 [vS r_out_0 aa.length c_out_0,vS r_out_1 ac.length c_out_1,vS r_out_2 ab.length c_out_2,vI ae]),(3,.own 0 r_out_1 3 c_out_1 ac)],[⟨0,none,.sep [.e ab af,.e aa hs]⟩],d.files.length - k,(k≤d.files.length)∧(aa.length≤k)∧(aa++d.files.drop k=d.files)∧(ac=d.list)∧(ab=d.names)∧(ae=d.next))) [0] Z ⟨AB,AD,AF,AF,AF,AB⟩ ?_
   rintro ⟨k,aa,r_out_0,c_out_0,hs,ac,r_out_1,c_out_1,ab,r_out_2,c_out_2,af,ae⟩ nV w Z ⟨kD,kE,kF,kG,kH,kI⟩ dh
   refine .s<|.g<|.bp ((k:Int)< (d.files.length:Int)) (fun eM=>?_) (fun eM=>?_)
   ·refine .d<|.s<|.ct<|.sk<|.s<|.b 1<|.s<|.g<|gx d.files k fun aD ba=>?_
    have kJ:=Ab ba; have gS:=AV ba
    refine RG.Ix 6 ba Z<|Z.el 6 ba fun nW nX nY nZ Z=>RG.Lg 0 0 Z<|RG.Np Z fun gT w Z=>RG.Ss 0 Z fun w Z=>.d<|T.GS 9 [gT,aC,ag,ah] Z fun _ w Z=>.r [0]<|GA.Lb (q:=1) 1 3 Z<|.r [2]<|GA.Lb 3 0 Z<|.r [4]<|GA.Ln 5 0 Z<|.go 6<|GE.DD 3 0 (fun w Z=>Am aD.part (Z.a 1) (Z.a 2) (p1 _ ‹_›)) Z fun co cp cq cr w Z=>.r [7]<|.go 8<|GE.Nb 1 Z fun n7 w Z=>GA.Do Z fun w Z=>RG.Ar 2 0 aa aD hs (⟨Shp.cells aD ([(co,cp),(cq,cr)]:List (Option Addr × Nat)),AA⟩:Hd 2) Z fun gU gV w Z=>?_
    have Z:=Z.eA 0 0 [3,2,2] aa hs (⟨Shp.cells aD ([(co,cp),(cq,cr)]:List (Option Addr × Nat)),AA⟩:Hd 2) aD ([(co,cp),(cq,cr)]:List (Option Addr × Nat))
    refine .r 1<|RG.Ss 3 Z fun w Z=>.d<|.ib 1<|.g<|.it ((k:Int)+1)<|.r 1<|.d ?_
    have Z:=Z.sM 0 0 [0,1] [.e ab af,.e (aa++[aD]) (hs++[(⟨Shp.cells aD ([(co,cp),(cq,cr)]:List (Option Addr × Nat)),AA⟩:Hd 2)])]
    exact dh (k+1,(aa++[aD]),gU,gV,(hs++[(⟨Shp.cells aD ([(co,cp),(cq,cr)]:List (Option Addr × Nat)),AA⟩:Hd 2)]),ac,r_out_1,c_out_1,ab,r_out_2,c_out_2,af,ae) _ _ AA (Z.to 1 [0] 9) ⟨AB,(by (simp; omega)),(by exact Co ‹_› ‹_›),‹_›,‹_›,‹_›⟩ (by (simp only []; omega))
   refine .d<|.s<|.cf<|.x 0 rfl<|.s<|.g<|RG.Ln 2 Z<|RG.Ss 4 Z fun w Z=>.d ?_
   have Z:=(Z.fL 3 0 0 ac).eL 0 1 0 [1] ab af
   exact T.Rb 2 func44 results44 Z ⟨⟨r_out_0,c_out_0,hs,(some ⟨r_out_1,0,none⟩),c_out_1,(some ⟨r_out_2,0,none⟩),c_out_2,by rw [show d.files=aa from Eq.symm (by exact BO ‹_› AB),show d.list=ac from Eq.symm ‹_›,show d.names=ab from Eq.symm ‹_›,show d.next=ae from Eq.symm ‹_›]; kernel_rfl,by rw [show d.files=aa from Eq.symm (by exact BO ‹_› AB),show d.list=ac from Eq.symm ‹_›,show d.names=ab from Eq.symm ‹_›]; exact Z.rX 1 [0,1,2] [0] _ _ AE⟩,Z.xt⟩
  refine GE.An (hf:=.inr Av) 1 2 ([]:List Int) d.list [2,3] Z fun dX dY w Z=>.tw 0 7 ?_ ?_
  ·refine GE.N0 (Hd 2) 0 Z fun gW w Z=>?_
   have Z:=Z.o2r 0 0 Fil 2
   refine .go 7<|GE.DB 0 0 (fun w Z=>Aq d.names (Z.a 2) AB (fun n hn=>by have:=p4 n hn; omega)) Z fun gX gY eO w Z=>.r [10]<|GA.Do Z fun w Z=>RG.Ss 2 Z fun w Z=>.d<|.s<|.s<|.g<|.r 1<|RG.Lb 5 Z<|.r 2<|.d<|.b 0<|T.Lp ((0:Nat),([]:List Fil),gW,(0:Nat),([]:List (Hd 2)),(([]++d.list):List Int),dX,dY,(d.names:List (List Tag)),gX,gY,eO,d.next) (fun (k,aa,r_out_0,c_out_0,hs,ac,r_out_1,c_out_1,ab,r_out_2,c_out_2,af,ae)=>([(2,vP ag),(3,vP aC),(18,.slice a1 d.files.length c1),(19,vI (d.files.length:Int)),(20,vI (k:Int))],[(0,.raw 0 r_out_2 69 c_out_2 ab af),(1,.raw 0 r_out_0 148 c_out_0 aa hs),(2,.box aC 35 [vS r_out_0 aa.length c_out_0,vS r_out_1 ac.length c_out_1,vS r_out_2 ab.length c_out_2,vI ae]),(3,.own 0 r_out_1 3 c_out_1 ac)],[⟨0,none,.sep [.e ab af,.e aa hs]⟩],d.files.length - k,(k≤d.files.length)∧(aa.length≤k)∧(aa++d.files.drop k=d.files)∧(ac=d.list)∧(ab=d.names)∧(ae=d.next))) [0] Z ⟨AB,AD,AF,AF,AF,AB⟩ ?_
   rintro ⟨k,aa,r_out_0,c_out_0,hs,ac,r_out_1,c_out_1,ab,r_out_2,c_out_2,af,ae⟩ n8 w Z ⟨kK,kL,kM,kN,kO,kP⟩ dj
   refine .s<|.g<|.bp ((k:Int)< (d.files.length:Int)) (fun eP=>?_) (fun eP=>?_)
   ·refine .d<|.s<|.ct<|.sk<|.s<|.b 1<|.s<|.g<|gx d.files k fun aE bg=>?_
    have kQ:=Ab bg; have gZ:=AV bg
    refine RG.Ix 6 bg Z<|Z.el 6 bg fun n9 oc od oe Z=>RG.Lg 0 0 Z<|RG.Np Z fun hC w Z=>RG.Ss 0 Z fun w Z=>.d<|T.GS 9 [hC,aC,ag,ah] Z fun _ w Z=>.r [0]<|GA.Lb (q:=1) 1 3 Z<|.r [2]<|GA.Lb 3 0 Z<|.r [4]<|GA.Ln 5 0 Z<|.go 6<|GE.DD 3 0 (fun w Z=>Am aE.part (Z.a 1) (Z.a 2) (p1 _ ‹_›)) Z fun cu cw cx cy w Z=>.r [7]<|.go 8<|GE.Nb 1 Z fun og w Z=>GA.Do Z fun w Z=>RG.Ar 2 0 aa aE hs (⟨Shp.cells aE ([(cu,cw),(cx,cy)]:List (Option Addr × Nat)),AA⟩:Hd 2) Z fun hH hO w Z=>?_
    have Z:=Z.eA 0 0 [3,2,2] aa hs (⟨Shp.cells aE ([(cu,cw),(cx,cy)]:List (Option Addr × Nat)),AA⟩:Hd 2) aE ([(cu,cw),(cx,cy)]:List (Option Addr × Nat))
    refine .r 1<|RG.Ss 3 Z fun w Z=>.d<|.ib 1<|.g<|.it ((k:Int)+1)<|.r 1<|.d ?_
    have Z:=Z.sM 0 0 [0,1] [.e ab af,.e (aa++[aE]) (hs++[(⟨Shp.cells aE ([(cu,cw),(cx,cy)]:List (Option Addr × Nat)),AA⟩:Hd 2)])]
    exact dj (k+1,(aa++[aE]),hH,hO,(hs++[(⟨Shp.cells aE ([(cu,cw),(cx,cy)]:List (Option Addr × Nat)),AA⟩:Hd 2)]),ac,r_out_1,c_out_1,ab,r_out_2,c_out_2,af,ae) _ _ AA (Z.to 1 [0] 9) ⟨AB,(by (simp; omega)),(by exact Co ‹_› ‹_›),‹_›,‹_›,‹_›⟩ (by (simp only []; omega))
   refine .d<|.s<|.cf<|.x 0 rfl<|.s<|.g<|RG.Ln 2 Z<|RG.Ss 4 Z fun w Z=>.d ?_
   have Z:=(Z.fL 3 0 0 ac).eL 0 1 0 [1] ab af
   exact T.Rb 2 func44 results44 Z ⟨⟨r_out_0,c_out_0,hs,(some ⟨r_out_1,0,none⟩),c_out_1,(some ⟨r_out_2,0,none⟩),c_out_2,by rw [show d.files=aa from Eq.symm (by exact BO ‹_› AB),show d.list=ac from Eq.symm ‹_›,show d.names=ab from Eq.symm ‹_›,show d.next=ae from Eq.symm ‹_›]; kernel_rfl,by rw [show d.files=aa from Eq.symm (by exact BO ‹_› AB),show d.list=ac from Eq.symm ‹_›,show d.names=ab from Eq.symm ‹_›]; exact Z.rX 1 [0,1,2] [0] _ _ AE⟩,Z.xt⟩
  refine GE.DB 0 0 (fun w Z=>Aq d.names (Z.a 1) AB (fun n hn=>by have:=p4 n hn; omega)) Z fun hQ hV eQ w Z=>.go 0<|GE.N0 (Hd 2) 0 Z fun hW w Z=>?_
  have Z:=Z.o2r 0 0 Fil 2
  refine .r [10]<|GA.Do Z fun w Z=>RG.Ss 2 Z fun w Z=>.d<|.s<|.s<|.g<|.r 1<|RG.Lb 5 Z<|.r 2<|.d<|.b 0<|T.Lp ((0:Nat),([]:List Fil),hW,(0:Nat),([]:List (Hd 2)),(([]++d.list):List Int),dX,dY,(d.names:List (List Tag)),hQ,hV,eQ,d.next) (fun (k,aa,r_out_0,c_out_0,hs,ac,r_out_1,c_out_1,ab,r_out_2,c_out_2,af,ae)=>([(2,vP ag),(3,vP aC),(18,.slice a1 d.files.length c1),(19,vI (d.files.length:Int)),(20,vI (k:Int))],[(0,.raw 0 r_out_0 148 c_out_0 aa hs),(1,.raw 0 r_out_2 69 c_out_2 ab af),(2,.box aC 35 [vS r_out_0 aa.length c_out_0,vS r_out_1 ac.length c_out_1,vS r_out_2 ab.length c_out_2,vI ae]),(3,.own 0 r_out_1 3 c_out_1 ac)],[⟨0,none,.sep [.e aa hs,.e ab af]⟩],d.files.length - k,(k≤d.files.length)∧(aa.length≤k)∧(aa++d.files.drop k=d.files)∧(ac=d.list)∧(ab=d.names)∧(ae=d.next))) [0] Z ⟨AB,AD,AF,AF,AF,AB⟩ ?_
  rintro ⟨k,aa,r_out_0,c_out_0,hs,ac,r_out_1,c_out_1,ab,r_out_2,c_out_2,af,ae⟩ oh w Z ⟨kR,kS,kT,kU,kV,kW⟩ dm
  refine .s<|.g<|.bp ((k:Int)< (d.files.length:Int)) (fun eR=>?_) (fun eR=>?_)
  ·refine .d<|.s<|.ct<|.sk<|.s<|.b 1<|.s<|.g<|gx d.files k fun aF bh=>?_
   have kX:=Ab bh; have ia:=AV bh
   refine RG.Ix 6 bh Z<|Z.el 6 bh fun ol om oo oq Z=>RG.Lg 0 0 Z<|RG.Np Z fun ic w Z=>RG.Ss 0 Z fun w Z=>.d<|T.GS 9 [ic,aC,ag,ah] Z fun _ w Z=>.r [0]<|GA.Lb (q:=1) 1 3 Z<|.r [2]<|GA.Lb 3 0 Z<|.r [4]<|GA.Ln 5 0 Z<|.go 6<|GE.DD 3 0 (fun w Z=>Am aF.part (Z.a 1) (Z.a 2) (p1 _ ‹_›)) Z fun cz cA cB cC w Z=>.r [7]<|.go 8<|GE.Nb 1 Z fun ov w Z=>GA.Do Z fun w Z=>RG.Ar 1 0 aa aF hs (⟨Shp.cells aF ([(cz,cA),(cB,cC)]:List (Option Addr × Nat)),AA⟩:Hd 2) Z fun ie ig w Z=>?_
   have Z:=Z.eA 0 0 [2,2,2] aa hs (⟨Shp.cells aF ([(cz,cA),(cB,cC)]:List (Option Addr × Nat)),AA⟩:Hd 2) aF ([(cz,cA),(cB,cC)]:List (Option Addr × Nat))
   refine .r 1<|RG.Ss 3 Z fun w Z=>.d<|.ib 1<|.g<|.it ((k:Int)+1)<|.r 1<|.d ?_
   have Z:=Z.sM 0 0 [1,1] [.e (aa++[aF]) (hs++[(⟨Shp.cells aF ([(cz,cA),(cB,cC)]:List (Option Addr × Nat)),AA⟩:Hd 2)]),.e ab af]
   exact dm (k+1,(aa++[aF]),ie,ig,(hs++[(⟨Shp.cells aF ([(cz,cA),(cB,cC)]:List (Option Addr × Nat)),AA⟩:Hd 2)]),ac,r_out_1,c_out_1,ab,r_out_2,c_out_2,af,ae) _ _ AA (Z.to 1 [0] 9) ⟨AB,(by (simp; omega)),(by exact Co ‹_› ‹_›),‹_›,‹_›,‹_›⟩ (by (simp only []; omega))
  refine .d<|.s<|.cf<|.x 0 rfl<|.s<|.g<|RG.Ln 2 Z<|RG.Ss 4 Z fun w Z=>.d ?_
  have Z:=(Z.fL 3 0 0 ac).eL 1 1 0 [2] ab af
  exact T.Rb 2 func44 results44 Z ⟨⟨r_out_0,c_out_0,hs,(some ⟨r_out_1,0,none⟩),c_out_1,(some ⟨r_out_2,0,none⟩),c_out_2,by rw [show d.files=aa from Eq.symm (by exact BO ‹_› AB),show d.list=ac from Eq.symm ‹_›,show d.names=ab from Eq.symm ‹_›,show d.next=ae from Eq.symm ‹_›]; kernel_rfl,by rw [show d.files=aa from Eq.symm (by exact BO ‹_› AB),show d.list=ac from Eq.symm ‹_›,show d.names=ab from Eq.symm ‹_›]; exact Z.rX 1 [0,1,2] [0] _ _ AE⟩,Z.xt⟩
 refine GE.Np Z fun ai w Z=>.tw 0 1 ?_ ?_
 ·refine GE.N0 (Hd 2) 0 Z fun ii w Z=>?_
  have Z:=Z.o2r 0 0 Fil 2
  refine .go 1<|GE.N0 Int 0 Z fun oz w Z=>.go 4<|GE.An (hf:=.inr Av) 0 3 ([]:List Int) d.list [3,4] Z fun ij ik w Z=>.go 7<|GE.DB 0 0 (fun w Z=>Aq d.names (Z.a 2) AB (fun n hn=>by have:=p4 n hn; omega)) Z fun il im eT w Z=>.r [10]<|GA.Do Z fun w Z=>RG.Ss 3 Z fun w Z=>.d<|.s<|.s<|.g<|.r 1<|RG.Lb 5 Z<|.r 2<|.d<|.b 0<|T.Lp ((0:Nat),([]:List Fil),ii,(0:Nat),([]:List (Hd 2)),(([]++d.list):List Int),ij,ik,(d.names:List (List Tag)),il,im,eT,d.next) (fun (k,aa,r_out_0,c_out_0,hs,ac,r_out_1,c_out_1,ab,r_out_2,c_out_2,af,ae)=>([(2,vP ag),(3,vP ai),(18,.slice a1 d.files.length c1),(19,vI (d.files.length:Int)),(20,vI (k:Int))],[(0,.raw 0 r_out_2 69 c_out_2 ab af),(1,.own 0 r_out_1 3 c_out_1 ac),(2,.raw 0 r_out_0 148 c_out_0 aa hs),(3,.box ai 35 [vS r_out_0 aa.length c_out_0,vS r_out_1 ac.length c_out_1,vS r_out_2 ab.length c_out_2,vI ae])],[⟨0,none,.sep [.e ab af,.e aa hs]⟩],d.files.length - k,(k≤d.files.length)∧(aa.length≤k)∧(aa++d.files.drop k=d.files)∧(ac=d.list)∧(ab=d.names)∧(ae=d.next))) [0] Z ⟨AB,AD,AF,AF,AF,AB⟩ ?_
  rintro ⟨k,aa,r_out_0,c_out_0,hs,ac,r_out_1,c_out_1,ab,r_out_2,c_out_2,af,ae⟩ oA w Z ⟨kY,kZ,k5,k6,k7,k8⟩ dq
  refine .s<|.g<|.bp ((k:Int)< (d.files.length:Int)) (fun eU=>?_) (fun eU=>?_)
  ·refine .d<|.s<|.ct<|.sk<|.s<|.b 1<|.s<|.g<|gx d.files k fun aG bi=>?_
   have lc:=Ab bi; have io:=AV bi
   refine RG.Ix 6 bi Z<|Z.el 6 bi fun oB oC oD oE Z=>RG.Lg 0 0 Z<|RG.Np Z fun ip w Z=>RG.Ss 0 Z fun w Z=>.d<|T.GS 9 [ip,ai,ag,ah] Z fun _ w Z=>.r [0]<|GA.Lb (q:=1) 1 4 Z<|.r [2]<|GA.Lb 3 0 Z<|.r [4]<|GA.Ln 5 0 Z<|.go 6<|GE.DD 3 0 (fun w Z=>Am aG.part (Z.a 1) (Z.a 2) (p1 _ ‹_›)) Z fun cD cE cF cG w Z=>.r [7]<|.go 8<|GE.Nb 1 Z fun oF w Z=>GA.Do Z fun w Z=>RG.Ar 3 0 aa aG hs (⟨Shp.cells aG ([(cD,cE),(cF,cG)]:List (Option Addr × Nat)),AA⟩:Hd 2) Z fun iq ir w Z=>?_
   have Z:=Z.eA 0 0 [3,2,2] aa hs (⟨Shp.cells aG ([(cD,cE),(cF,cG)]:List (Option Addr × Nat)),AA⟩:Hd 2) aG ([(cD,cE),(cF,cG)]:List (Option Addr × Nat))
   refine .r 1<|RG.Ss 4 Z fun w Z=>.d<|.ib 1<|.g<|.it ((k:Int)+1)<|.r 1<|.d ?_
   have Z:=Z.sM 0 0 [0,1] [.e ab af,.e (aa++[aG]) (hs++[(⟨Shp.cells aG ([(cD,cE),(cF,cG)]:List (Option Addr × Nat)),AA⟩:Hd 2)])]
   exact dq (k+1,(aa++[aG]),iq,ir,(hs++[(⟨Shp.cells aG ([(cD,cE),(cF,cG)]:List (Option Addr × Nat)),AA⟩:Hd 2)]),ac,r_out_1,c_out_1,ab,r_out_2,c_out_2,af,ae) _ _ AA (Z.to 1 [0] 9) ⟨AB,(by (simp; omega)),(by exact Co ‹_› ‹_›),‹_›,‹_›,‹_›⟩ (by (simp only []; omega))
  refine .d<|.s<|.cf<|.x 0 rfl<|.s<|.g<|RG.Ln 3 Z<|RG.Ss 4 Z fun w Z=>.d ?_
  have Z:=(Z.fL 1 0 0 ac).eL 0 1 0 [1] ab af
  exact T.Rb 2 func44 results44 Z ⟨⟨r_out_0,c_out_0,hs,(some ⟨r_out_1,0,none⟩),c_out_1,(some ⟨r_out_2,0,none⟩),c_out_2,by rw [show d.files=aa from Eq.symm (by exact BO ‹_› AB),show d.list=ac from Eq.symm ‹_›,show d.names=ab from Eq.symm ‹_›,show d.next=ae from Eq.symm ‹_›]; kernel_rfl,by rw [show d.files=aa from Eq.symm (by exact BO ‹_› AB),show d.list=ac from Eq.symm ‹_›,show d.names=ab from Eq.symm ‹_›]; exact Z.rX 1 [0,1,2] [0] _ _ AE⟩,Z.xt⟩
 refine GE.N0 Int 0 Z fun oG w Z=>.tw 0 4 ?_ ?_
 ·refine GE.N0 (Hd 2) 0 Z fun iu w Z=>?_
  have Z:=Z.o2r 0 0 Fil 2
  refine .go 4<|GE.An (hf:=.inr Av) 1 3 ([]:List Int) d.list [3,4] Z fun iw iy w Z=>.go 7<|GE.DB 0 0 (fun w Z=>Aq d.names (Z.a 2) AB (fun n hn=>by have:=p4 n hn; omega)) Z fun iz iA eV w Z=>.r [10]<|GA.Do Z fun w Z=>RG.Ss 3 Z fun w Z=>.d<|.s<|.s<|.g<|.r 1<|RG.Lb 5 Z<|.r 2<|.d<|.b 0<|T.Lp ((0:Nat),([]:List Fil),iu,(0:Nat),([]:List (Hd 2)),(([]++d.list):List Int),iw,iy,(d.names:List (List Tag)),iz,iA,eV,d.next) (fun (k,aa,r_out_0,c_out_0,hs,ac,r_out_1,c_out_1,ab,r_out_2,c_out_2,af,ae)=>([(2,vP ag),(3,vP ai),(18,.slice a1 d.files.length c1),(19,vI (d.files.length:Int)),(20,vI (k:Int))],[(0,.raw 0 r_out_2 69 c_out_2 ab af),(1,.raw 0 r_out_0 148 c_out_0 aa hs),(2,.own 0 r_out_1 3 c_out_1 ac),(3,.box ai 35 [vS r_out_0 aa.length c_out_0,vS r_out_1 ac.length c_out_1,vS r_out_2 ab.length c_out_2,vI ae])],[⟨0,none,.sep [.e ab af,.e aa hs]⟩],d.files.length - k,(k≤d.files.length)∧(aa.length≤k)∧(aa++d.files.drop k=d.files)∧(ac=d.list)∧(ab=d.names)∧(ae=d.next))) [0] Z ⟨AB,AD,AF,AF,AF,AB⟩ ?_
  rintro ⟨k,aa,r_out_0,c_out_0,hs,ac,r_out_1,c_out_1,ab,r_out_2,c_out_2,af,ae⟩ oH w Z ⟨ld,lf,li,lj,lk,ll⟩ dt
  refine .s<|.g<|.bp ((k:Int)< (d.files.length:Int)) (fun eW=>?_) (fun eW=>?_)
  ·refine .d<|.s<|.ct<|.sk<|.s<|.b 1<|.s<|.g<|gx d.files k fun aH bj=>?_
   have lm:=Ab bj; have iB:=AV bj
   refine RG.Ix 6 bj Z<|Z.el 6 bj fun oI oJ oK oL Z=>RG.Lg 0 0 Z<|RG.Np Z fun iC w Z=>RG.Ss 0 Z fun w Z=>.d<|T.GS 9 [iC,ai,ag,ah] Z fun _ w Z=>.r [0]<|GA.Lb (q:=1) 1 4 Z<|.r [2]<|GA.Lb 3 0 Z<|.r [4]<|GA.Ln 5 0 Z<|.go 6<|GE.DD 3 0 (fun w Z=>Am aH.part (Z.a 1) (Z.a 2) (p1 _ ‹_›)) Z fun cH cI cJ cK w Z=>.r [7]<|.go 8<|GE.Nb 1 Z fun oM w Z=>GA.Do Z fun w Z=>RG.Ar 2 0 aa aH hs (⟨Shp.cells aH ([(cH,cI),(cJ,cK)]:List (Option Addr × Nat)),AA⟩:Hd 2) Z fun iD iE w Z=>?_
   have Z:=Z.eA 0 0 [3,2,2] aa hs (⟨Shp.cells aH ([(cH,cI),(cJ,cK)]:List (Option Addr × Nat)),AA⟩:Hd 2) aH ([(cH,cI),(cJ,cK)]:List (Option Addr × Nat))
   refine .r 1<|RG.Ss 4 Z fun w Z=>.d<|.ib 1<|.g<|.it ((k:Int)+1)<|.r 1<|.d ?_
   have Z:=Z.sM 0 0 [0,1] [.e ab af,.e (aa++[aH]) (hs++[(⟨Shp.cells aH ([(cH,cI),(cJ,cK)]:List (Option Addr × Nat)),AA⟩:Hd 2)])]
   exact dt (k+1,(aa++[aH]),iD,iE,(hs++[(⟨Shp.cells aH ([(cH,cI),(cJ,cK)]:List (Option Addr × Nat)),AA⟩:Hd 2)]),ac,r_out_1,c_out_1,ab,r_out_2,c_out_2,af,ae) _ _ AA (Z.to 1 [0] 9) ⟨AB,(by (simp; omega)),(by exact Co ‹_› ‹_›),‹_›,‹_›,‹_›⟩ (by (simp only []; omega))
  refine .d<|.s<|.cf<|.x 0 rfl<|.s<|.g<|RG.Ln 3 Z<|RG.Ss 4 Z fun w Z=>.d ?_
  have Z:=(Z.fL 2 0 0 ac).eL 0 1 0 [1] ab af
  exact T.Rb 2 func44 results44 Z ⟨⟨r_out_0,c_out_0,hs,(some ⟨r_out_1,0,none⟩),c_out_1,(some ⟨r_out_2,0,none⟩),c_out_2,by rw [show d.files=aa from Eq.symm (by exact BO ‹_› AB),show d.list=ac from Eq.symm ‹_›,show d.names=ab from Eq.symm ‹_›,show d.next=ae from Eq.symm ‹_›]; kernel_rfl,by rw [show d.files=aa from Eq.symm (by exact BO ‹_› AB),show d.list=ac from Eq.symm ‹_›,show d.names=ab from Eq.symm ‹_›]; exact Z.rX 1 [0,1,2] [0] _ _ AE⟩,Z.xt⟩
 refine GE.An (hf:=.inr Av) 0 2 ([]:List Int) d.list [2,3] Z fun dZ d0 w Z=>.tw 0 7 ?_ ?_
 ·refine GE.N0 (Hd 2) 0 Z fun iF w Z=>?_
  have Z:=Z.o2r 0 0 Fil 2
  refine .go 7<|GE.DB 0 0 (fun w Z=>Aq d.names (Z.a 2) AB (fun n hn=>by have:=p4 n hn; omega)) Z fun iG iH eX w Z=>.r [10]<|GA.Do Z fun w Z=>RG.Ss 3 Z fun w Z=>.d<|.s<|.s<|.g<|.r 1<|RG.Lb 5 Z<|.r 2<|.d<|.b 0<|T.Lp ((0:Nat),([]:List Fil),iF,(0:Nat),([]:List (Hd 2)),(([]++d.list):List Int),dZ,d0,(d.names:List (List Tag)),iG,iH,eX,d.next) (fun (k,aa,r_out_0,c_out_0,hs,ac,r_out_1,c_out_1,ab,r_out_2,c_out_2,af,ae)=>([(2,vP ag),(3,vP ai),(18,.slice a1 d.files.length c1),(19,vI (d.files.length:Int)),(20,vI (k:Int))],[(0,.raw 0 r_out_2 69 c_out_2 ab af),(1,.raw 0 r_out_0 148 c_out_0 aa hs),(2,.own 0 r_out_1 3 c_out_1 ac),(3,.box ai 35 [vS r_out_0 aa.length c_out_0,vS r_out_1 ac.length c_out_1,vS r_out_2 ab.length c_out_2,vI ae])],[⟨0,none,.sep [.e ab af,.e aa hs]⟩],d.files.length - k,(k≤d.files.length)∧(aa.length≤k)∧(aa++d.files.drop k=d.files)∧(ac=d.list)∧(ab=d.names)∧(ae=d.next))) [0] Z ⟨AB,AD,AF,AF,AF,AB⟩ ?_
  rintro ⟨k,aa,r_out_0,c_out_0,hs,ac,r_out_1,c_out_1,ab,r_out_2,c_out_2,af,ae⟩ oO w Z ⟨lp,lq,lv,lw,ly,lz⟩ du
  refine .s<|.g<|.bp ((k:Int)< (d.files.length:Int)) (fun eY=>?_) (fun eY=>?_)
  ·refine .d<|.s<|.ct<|.sk<|.s<|.b 1<|.s<|.g<|gx d.files k fun aI bk=>?_
   have lA:=Ab bk; have iI:=AV bk
   refine RG.Ix 6 bk Z<|Z.el 6 bk fun oP oQ oR oS Z=>RG.Lg 0 0 Z<|RG.Np Z fun iJ w Z=>RG.Ss 0 Z fun w Z=>.d<|T.GS 9 [iJ,ai,ag,ah] Z fun _ w Z=>.r [0]<|GA.Lb (q:=1) 1 4 Z<|.r [2]<|GA.Lb 3 0 Z<|.r [4]<|GA.Ln 5 0 Z<|.go 6<|GE.DD 3 0 (fun w Z=>Am aI.part (Z.a 1) (Z.a 2) (p1 _ ‹_›)) Z fun cL cM cN cO w Z=>.r [7]<|.go 8<|GE.Nb 1 Z fun oT w Z=>GA.Do Z fun w Z=>RG.Ar 2 0 aa aI hs (⟨Shp.cells aI ([(cL,cM),(cN,cO)]:List (Option Addr × Nat)),AA⟩:Hd 2) Z fun iK iL w Z=>?_
   have Z:=Z.eA 0 0 [3,2,2] aa hs (⟨Shp.cells aI ([(cL,cM),(cN,cO)]:List (Option Addr × Nat)),AA⟩:Hd 2) aI ([(cL,cM),(cN,cO)]:List (Option Addr × Nat))
   refine .r 1<|RG.Ss 4 Z fun w Z=>.d<|.ib 1<|.g<|.it ((k:Int)+1)<|.r 1<|.d ?_
   have Z:=Z.sM 0 0 [0,1] [.e ab af,.e (aa++[aI]) (hs++[(⟨Shp.cells aI ([(cL,cM),(cN,cO)]:List (Option Addr × Nat)),AA⟩:Hd 2)])]
   exact du (k+1,(aa++[aI]),iK,iL,(hs++[(⟨Shp.cells aI ([(cL,cM),(cN,cO)]:List (Option Addr × Nat)),AA⟩:Hd 2)]),ac,r_out_1,c_out_1,ab,r_out_2,c_out_2,af,ae) _ _ AA (Z.to 1 [0] 9) ⟨AB,(by (simp; omega)),(by exact Co ‹_› ‹_›),‹_›,‹_›,‹_›⟩ (by (simp only []; omega))
  refine .d<|.s<|.cf<|.x 0 rfl<|.s<|.g<|RG.Ln 3 Z<|RG.Ss 4 Z fun w Z=>.d ?_
  have Z:=(Z.fL 2 0 0 ac).eL 0 1 0 [1] ab af
  exact T.Rb 2 func44 results44 Z ⟨⟨r_out_0,c_out_0,hs,(some ⟨r_out_1,0,none⟩),c_out_1,(some ⟨r_out_2,0,none⟩),c_out_2,by rw [show d.files=aa from Eq.symm (by exact BO ‹_› AB),show d.list=ac from Eq.symm ‹_›,show d.names=ab from Eq.symm ‹_›,show d.next=ae from Eq.symm ‹_›]; kernel_rfl,by rw [show d.files=aa from Eq.symm (by exact BO ‹_› AB),show d.list=ac from Eq.symm ‹_›,show d.names=ab from Eq.symm ‹_›]; exact Z.rX 1 [0,1,2] [0] _ _ AE⟩,Z.xt⟩
 refine GE.DB 0 0 (fun w Z=>Aq d.names (Z.a 1) AB (fun n hn=>by have:=p4 n hn; omega)) Z fun iM iN eZ w Z=>.go 0<|GE.N0 (Hd 2) 0 Z fun iO w Z=>?_
 have Z:=Z.o2r 0 0 Fil 2
 refine .r [10]<|GA.Do Z fun w Z=>RG.Ss 3 Z fun w Z=>.d<|.s<|.s<|.g<|.r 1<|RG.Lb 5 Z<|.r 2<|.d<|.b 0<|T.Lp ((0:Nat),([]:List Fil),iO,(0:Nat),([]:List (Hd 2)),(([]++d.list):List Int),dZ,d0,(d.names:List (List Tag)),iM,iN,eZ,d.next) (fun (k,aa,r_out_0,c_out_0,hs,ac,r_out_1,c_out_1,ab,r_out_2,c_out_2,af,ae)=>([(2,vP ag),(3,vP ai),(18,.slice a1 d.files.length c1),(19,vI (d.files.length:Int)),(20,vI (k:Int))],[(0,.raw 0 r_out_0 148 c_out_0 aa hs),(1,.raw 0 r_out_2 69 c_out_2 ab af),(2,.own 0 r_out_1 3 c_out_1 ac),(3,.box ai 35 [vS r_out_0 aa.length c_out_0,vS r_out_1 ac.length c_out_1,vS r_out_2 ab.length c_out_2,vI ae])],[⟨0,none,.sep [.e aa hs,.e ab af]⟩],d.files.length - k,(k≤d.files.length)∧(aa.length≤k)∧(aa++d.files.drop k=d.files)∧(ac=d.list)∧(ab=d.names)∧(ae=d.next))) [0] Z ⟨AB,AD,AF,AF,AF,AB⟩ ?_
 rintro ⟨k,aa,r_out_0,c_out_0,hs,ac,r_out_1,c_out_1,ab,r_out_2,c_out_2,af,ae⟩ oU w Z ⟨lB,lC,lD,lE,lF,lG⟩ dv
 refine .s<|.g<|.bp ((k:Int)< (d.files.length:Int)) (fun e7=>?_) (fun e7=>?_)
 ·refine .d<|.s<|.ct<|.sk<|.s<|.b 1<|.s<|.g<|gx d.files k fun aJ bm=>?_
  have lH:=Ab bm; have iP:=AV bm
  refine RG.Ix 6 bm Z<|Z.el 6 bm fun oV oW oX oY Z=>RG.Lg 0 0 Z<|RG.Np Z fun iQ w Z=>RG.Ss 0 Z fun w Z=>.d<|T.GS 9 [iQ,ai,ag,ah] Z fun _ w Z=>.r [0]<|GA.Lb (q:=1) 1 4 Z<|.r [2]<|GA.Lb 3 0 Z<|.r [4]<|GA.Ln 5 0 Z<|.go 6<|GE.DD 3 0 (fun w Z=>Am aJ.part (Z.a 1) (Z.a 2) (p1 _ ‹_›)) Z fun cP cQ cR cS w Z=>.r [7]<|.go 8<|GE.Nb 1 Z fun oZ w Z=>GA.Do Z fun w Z=>RG.Ar 1 0 aa aJ hs (⟨Shp.cells aJ ([(cP,cQ),(cR,cS)]:List (Option Addr × Nat)),AA⟩:Hd 2) Z fun iR iS w Z=>?_
  have Z:=Z.eA 0 0 [2,2,2] aa hs (⟨Shp.cells aJ ([(cP,cQ),(cR,cS)]:List (Option Addr × Nat)),AA⟩:Hd 2) aJ ([(cP,cQ),(cR,cS)]:List (Option Addr × Nat))
  refine .r 1<|RG.Ss 4 Z fun w Z=>.d<|.ib 1<|.g<|.it ((k:Int)+1)<|.r 1<|.d ?_
  have Z:=Z.sM 0 0 [1,1] [.e (aa++[aJ]) (hs++[(⟨Shp.cells aJ ([(cP,cQ),(cR,cS)]:List (Option Addr × Nat)),AA⟩:Hd 2)]),.e ab af]
  exact dv (k+1,(aa++[aJ]),iR,iS,(hs++[(⟨Shp.cells aJ ([(cP,cQ),(cR,cS)]:List (Option Addr × Nat)),AA⟩:Hd 2)]),ac,r_out_1,c_out_1,ab,r_out_2,c_out_2,af,ae) _ _ AA (Z.to 1 [0] 9) ⟨AB,(by (simp; omega)),(by exact Co ‹_› ‹_›),‹_›,‹_›,‹_›⟩ (by (simp only []; omega))
 refine .d<|.s<|.cf<|.x 0 rfl<|.s<|.g<|RG.Ln 3 Z<|RG.Ss 4 Z fun w Z=>.d ?_
 have Z:=(Z.fL 2 0 0 ac).eL 1 1 0 [2] ab af
 exact T.Rb 2 func44 results44 Z ⟨⟨r_out_0,c_out_0,hs,(some ⟨r_out_1,0,none⟩),c_out_1,(some ⟨r_out_2,0,none⟩),c_out_2,by rw [show d.files=aa from Eq.symm (by exact BO ‹_› AB),show d.list=ac from Eq.symm ‹_›,show d.names=ab from Eq.symm ‹_›,show d.next=ae from Eq.symm ‹_›]; kernel_rfl,by rw [show d.files=aa from Eq.symm (by exact BO ‹_› AB),show d.list=ac from Eq.symm ‹_›,show d.names=ab from Eq.symm ‹_›]; exact Z.rX 1 [0,1,2] [0] _ _ AE⟩,Z.xt⟩
theorem Gw (s:Sto) (n:List Tag) (r:Row) (h1:RepS w F a1 n1 c1 s.idx.names) (h2:RepS w F a2 n2 c2 s.idx.AX) (h3:RepS w F a3 n3 c3 s.parts) (h4:RepS w F a4 n4 c4 s.mem) (h5:RepS w F a5 n5 c5 n) (p0:SD s) (p1:n.length≤1100000):Calls Tryz.prog 60 [.agg #[.slice a1 n1 c1,.slice a2 n2 c2,.slice a3 n3 c3,.slice a4 n4 c4],.slice a5 n5 c5,.agg #[.int .i64 r.t,.int .i64 r.v]].toArray w (Af fun rv w'=>(∃ v0,rv=.tuple #[v0,.bool ((Dq s n r).2)]∧VD w.heap.size w' ((Dq s n r).1:Sto) v0)∧Ext w w'):=by
 cases h1.len
 cases h2.len
 cases h3.len
 cases h4.len
 cases h5.len
 refine goT func60 ?_
 have Z:=(((((St.i0 F w).p h1).p h2).p h3).p h4).p h5
 have aR:=h4.max
 have Z:=Z.s0 0
 refine .s<|.g<|RG.Np Z fun aX w Z=>RG.Np Z fun aY w Z=>RG.Np Z fun aZ w Z=>.r 1<|.d<|.s<|.s<|.g<|RG.Ln 2 Z<|RG.C0 (FW s (Z.a 5) (Z.a 4) (Z.a 3) (Z.a 2) p0) Z fun w Z=>?_
 cases aT:(Ae s)
 ·refine .r 6<|.d<|.ct<|.s<|.g<|.r 1<|RG.Ss 0 Z fun w Z=>.r 1<|.d ?_
  have Z:=(((Z.sZ (List Tag) 0 0).sZ Pst 1 0).sZ Prt 1 0).sZ Smp 1 0
  exact T.r2 func60 results60 (.B 0 Z) (.t (.bool false)) ⟨⟨_,(DG rfl (AG (by exact (congrArg Prod.snd (LQ (.inl ‹_›))).symm))),Z.rD 1 [0,1,2,3] (⟨(⟨([]:List (List Tag)),([]:List Pst)⟩:Idx),([]:List Prt),([]:List Smp)⟩:Sto) [(none,0),(none,0),(none,0),(none,0)] (by exact (congrArg Prod.fst (LQ (.inl ‹_›))).symm)⟩,Z.xt⟩
 refine .r 3<|RG.C0 (Fp n (Z.a 1)) Z fun w Z=>?_
 cases aU:(As n)
 ·refine .r 2<|.d<|.ct<|.s<|.g<|.r 1<|RG.Ss 0 Z fun w Z=>.r 1<|.d ?_
  have Z:=(((Z.sZ (List Tag) 0 0).sZ Pst 1 0).sZ Prt 1 0).sZ Smp 1 0
  exact T.r2 func60 results60 (.B 0 Z) (.t (.bool false)) ⟨⟨_,(DG rfl (AG (by exact (congrArg Prod.snd (LQ (.inr ‹_›))).symm))),Z.rD 1 [0,1,2,3] (⟨(⟨([]:List (List Tag)),([]:List Pst)⟩:Idx),([]:List Prt),([]:List Smp)⟩:Sto) [(none,0),(none,0),(none,0),(none,0)] (by exact (congrArg Prod.fst (LQ (.inr ‹_›))).symm)⟩,Z.xt⟩
 refine .r 2<|.d<|.cf<|.sk<|.s<|.g<|RG.Ln 2 Z<|RG.cl (CI s (Z.a 5) (Z.a 4) (Z.a 3) (Z.a 2) p0.nm p0.nd p0.sz) ?_
 rintro _ w ⟨⟨ae,af,ag,ah,ab,ac,aa,ai,aj,rfl,ak⟩,am⟩
 have Z:=Z.vX 0 ak am
 refine RG.Np Z fun ba w Z=>RG.Ss 0 Z fun w Z=>.d<|.s<|.g<|.r 1<|RG.Ln 5 Z<|.r 1<|RG.DT (us:=[vI ((CF s.idx n).2.1),.bool ((CF s.idx n).2.2)]) 0 0 (K5 s.idx n (Z.a 8) (Z.a 7) (Z.a 4) p0.ix p0.nd p1) Z fun aA aB aC aD w Z=>.r 3 ?_
 cases aV:(CF s.idx n).2.2
 ·refine .r 1<|RG.Np Z fun bg w Z=>RG.Ss 0 Z fun w Z=>.r 2<|.d<|.s<|.s<|.g<|.r 13<|.d<|.ct<|.s<|.g<|RG.Ln 1 Z<|RG.Ss 4 Z fun w Z=>.r 1<|.d ?_
  have Z:=(Z.eL 2 0 0 [4] (((AY s)).parts) aa).fL 2 1 0 (((AY s)).mem)
  exact T.r2 func60 results60 (.B 2 Z) (.t (.bool false)) ⟨⟨_,(DG rfl (AG (by exact (congrArg Prod.snd (T6 p0 ‹_› ‹_› ‹_›)).symm))),Z.rD 1 [0,1,5,5] (⟨(⟨(((AY s)).idx).names,(((AY s)).idx).AX⟩:Idx),((AY s)).parts,((AY s)).mem⟩:Sto) [(ae,af),(ag,ah),(some ⟨ab,0,none⟩,ac),(some ⟨ai,0,none⟩,aj)] (by exact (congrArg Prod.fst (T6 p0 ‹_› ‹_› ‹_›)).symm)⟩,Z.xt⟩
 refine .r 1<|RG.Np Z fun bh w Z=>RG.Ss 0 Z fun w Z=>.r 2<|.d<|.s<|.s<|.g<|.r 3<|RG.Ln 5 Z<|RG.C0 (GU r (F:=all)) Z fun w Z=>?_
 cases aW:(BS r)
 ·refine .r 8<|.d<|.ct<|.s<|.g<|RG.Ln 1 Z<|RG.Ss 4 Z fun w Z=>.r 1<|.d ?_
  have Z:=(Z.eL 2 0 0 [4] (((AY s)).parts) aa).fL 2 1 0 (((AY s)).mem)
  exact T.r2 func60 results60 (.B 2 Z) (.t (.bool false)) ⟨⟨_,(DG rfl (AG (by exact (congrArg Prod.snd (T7 p0 ‹_› ‹_› ‹_›)).symm))),Z.rD 1 [0,1,5,5] (⟨(⟨(((AY s)).idx).names,(((AY s)).idx).AX⟩:Idx),((AY s)).parts,((AY s)).mem⟩:Sto) [(ae,af),(ag,ah),(some ⟨ab,0,none⟩,ac),(some ⟨ai,0,none⟩,aj)] (by exact (congrArg Prod.fst (T7 p0 ‹_› ‹_› ‹_›)).symm)⟩,Z.xt⟩
 refine .r 4<|RG.Lb 6 Z<|.r 1<|.eq (s.mem.length:Int) 20 (fun ao=>?_) (fun ao=>?_)
 ·refine .r 1<|.d<|.ct<|.s<|.g<|RG.Ln 1 Z<|RG.Ss 4 Z fun w Z=>.r 1<|.d ?_
  have Z:=(Z.eL 2 0 0 [4] (((AY s)).parts) aa).fL 2 1 0 (((AY s)).mem)
  exact T.r2 func60 results60 (.B 2 Z) (.t (.bool false)) ⟨⟨_,(DG rfl (AG (by exact (congrArg Prod.snd (T8 p0 ‹_› ‹_› ‹_›)).symm))),Z.rD 1 [0,1,5,5] (⟨(⟨(((AY s)).idx).names,(((AY s)).idx).AX⟩:Idx),((AY s)).parts,((AY s)).mem⟩:Sto) [(ae,af),(ag,ah),(some ⟨ab,0,none⟩,ac),(some ⟨ai,0,none⟩,aj)] (by exact (congrArg Prod.fst (T8 p0 ‹_› ‹_› ‹_›)).symm)⟩,Z.xt⟩
 refine .r 1<|.d<|.cf<|.sk<|.s<|.g<|RG.Ln 0 Z<|.r 1<|RG.Ss 1 Z fun w Z=>.d<|.s<|.g<|.r 1<|RG.Lb 1 Z<|.r 1<|RG.Ln 5 Z<|.r 1<|RG.Nb 1 Z fun bi w Z=>RG.Ap (hs:=by exact (by have q1:=p0.nm2; have q2:(AY s).mem.length=s.mem.length:=rfl; omega)) 3 0 (((AY s)).mem) (⟨(CF s.idx n).2.1,(⟨r.t,r.v⟩:Row)⟩:Smp) [] Z fun aE aF w Z=>.r 1<|RG.Ss 1 Z fun w Z=>.d<|.s<|.s<|.g<|RG.Ln 1 Z<|.r 1<|RG.DA 0 0 (EN (⟨(⟨(CF s.idx n).1.names,((CF s.idx n).1).AX⟩:Idx),((AY s)).parts,(((AY s)).mem++[(⟨(CF s.idx n).2.1,(⟨r.t,r.v⟩:Row)⟩:Smp)])⟩:Sto) ((CF s.idx n).2.1) (Z.a 1) (Z.a 2) (Z.ra 2 0 [4] (((AY s)).parts) aa) (Z.oa 3) (by exact (StoK.of p0 ‹_›).part) (WJ (StoK.of p0 ‹_›) ‹_›) (by have q1:=p0.np; exact Nat.le_trans q1 AB) (by have q1:=p0.nm2; simp only [AY,List.length_append,List.length_cons,List.length_nil]; omega)) Z fun bk bm w Z=>.r 1<|.bp ((((rowsOf (⟨(⟨(CF s.idx n).1.names,((CF s.idx n).1).AX⟩:Idx),((AY s)).parts,(((AY s)).mem++[(⟨(CF s.idx n).2.1,(⟨r.t,r.v⟩:Row)⟩:Smp)])⟩:Sto) ((CF s.idx n).2.1)).length):Int) > 24) (fun aq=>?_) (fun aq=>?_)
 ·refine .d<|.ct<|.s<|.g<|RG.Ln 6 Z<|RG.cl (CI s (Z.a 13) (Z.a 12) (Z.a 11) (Z.a 10) p0.nm p0.nd p0.sz) ?_
  rintro _ w ⟨⟨aG,aH,aI,aJ,aK,aL,ar,aM,aN,rfl,ax⟩,ay⟩
  have Z:=Z.vX 0 ax ay
  refine RG.Ss 6 Z fun w Z=>.r 1<|.d ?_
  have Z:=(Z.eL 0 0 0 [2] (((AY s)).parts) ar).fL 0 1 0 (((AY s)).mem)
  exact T.r2 func60 results60 (.B 4 Z) (.t (.bool false)) ⟨⟨_,(DG rfl (AG (by exact (congrArg Prod.snd (T9 p0 ‹_› ‹_› ‹_› ‹_› ‹_› ‹_›)).symm))),Z.rD 1 [0,1,3,3] (⟨(⟨(((AY s)).idx).names,(((AY s)).idx).AX⟩:Idx),((AY s)).parts,((AY s)).mem⟩:Sto) [(aG,aH),(aI,aJ),(some ⟨aK,0,none⟩,aL),(some ⟨aM,0,none⟩,aN)] (by exact (congrArg Prod.fst (T9 p0 ‹_› ‹_› ‹_› ‹_› ‹_› ‹_›)).symm)⟩,Z.xt⟩
 refine .d<|.cf<|.sk<|.s<|.g<|RG.Ln 1 Z<|RG.Ss 4 Z fun w Z=>.r 1<|.d ?_
 have Z:=(Z.eL 2 0 0 [5] (((AY s)).parts) aa).fL 2 1 0 (((AY s)).mem++[(⟨(CF s.idx n).2.1,(⟨r.t,r.v⟩:Row)⟩:Smp)])
 exact T.r2 func60 results60 (.B 2 Z) (.t (.bool true)) ⟨⟨_,(DG rfl (AG (by exact (congrArg Prod.snd (UA p0 ‹_› ‹_› ‹_› ‹_› ‹_› ‹_›)).symm))),Z.rD 1 [0,1,4,4] (⟨(⟨(CF s.idx n).1.names,((CF s.idx n).1).AX⟩:Idx),((AY s)).parts,(((AY s)).mem++[(⟨(CF s.idx n).2.1,(⟨r.t,r.v⟩:Row)⟩:Smp)])⟩:Sto) [(aA,aB),(aC,aD),(some ⟨ab,0,none⟩,ac),(some ⟨aE,0,none⟩,aF)] (by exact (congrArg Prod.fst (UA p0 ‹_› ‹_› ‹_› ‹_› ‹_› ‹_›)).symm)⟩,Z.xt⟩
theorem Jd (s:Sto) (h1:RepS w F a1 n1 c1 s.idx.names) (h2:RepS w F a2 n2 c2 s.idx.AX) (h3:RepS w F a3 n3 c3 s.parts) (h4:RepS w F a4 n4 c4 s.mem) (p0:SD s):Calls Tryz.prog 62 [.agg #[.slice a1 n1 c1,.slice a2 n2 c2,.slice a3 n3 c3,.slice a4 n4 c4]].toArray w (Af fun rv w'=>(∃ v0,rv=.tuple #[v0,.bool ((Cw s).2)]∧VD w.heap.size w' ((Cw s).1:Sto) v0)∧Ext w w'):=by
 cases h1.len
 cases h2.len
 cases h3.len
 cases h4.len
 refine goT func62 ?_
 have Z:=((((St.i0 F w).p h1).p h2).p h3).p h4
 have aI:=h3.max
 have aJ:=h4.max
 have Z:=Z.s0 0
 refine .s<|.g<|RG.Np Z fun aA w Z=>RG.Np Z fun aB w Z=>.r 1<|.d<|.s<|.s<|.g<|RG.Ln 1 Z<|RG.C0 (FW s (Z.a 4) (Z.a 3) (Z.a 2) (Z.a 1) p0) Z fun w Z=>?_
 cases aK:(Ae s)
 ·refine .r 1<|.d<|.ct<|.s<|.g<|.r 1<|RG.Ss 0 Z fun w Z=>.r 1<|.d ?_
  have Z:=(((Z.sZ (List Tag) 0 0).sZ Pst 1 0).sZ Prt 1 0).sZ Smp 1 0
  exact T.r2 func62 results62 (.B 0 Z) (.t (.bool false)) ⟨⟨_,(DG rfl (AG (by rw [J7 ‹_›]))),Z.rD 1 [0,1,2,3] (⟨(⟨([]:List (List Tag)),([]:List Pst)⟩:Idx),([]:List Prt),([]:List Smp)⟩:Sto) [(none,0),(none,0),(none,0),(none,0)] (by rw [J7 ‹_›])⟩,Z.xt⟩
 refine .r 1<|.d<|.cf<|.sk<|.s<|.g<|RG.Ln 1 Z<|RG.cl (CI s (Z.a 4) (Z.a 3) (Z.a 2) (Z.a 1) p0.nm p0.nd p0.sz) ?_
 rintro _ w ⟨⟨ag,ah,ai,aj,ak,am,aa,ao,aq,rfl,ar⟩,ax⟩
 have Z:=Z.vX 0 ar ax
 refine RG.Np Z fun aC w Z=>RG.Ss 0 Z fun w Z=>.d<|.s<|.s<|.g<|.r 1<|RG.Lb 4 Z<|.r 1<|.eq (s.mem.length:Int) 0 (fun ay=>?_) (fun ay=>?_)
 ·refine .r 6<|.d<|.ct<|.s<|.g<|RG.Ln 0 Z<|RG.Ss 3 Z fun w Z=>.r 1<|.d ?_
  have Z:=(Z.eL 1 0 0 [2] (((AY s)).parts) aa).fL 1 1 0 (((AY s)).mem)
  exact T.r2 func62 results62 (.B 1 Z) (.t (.bool false)) ⟨⟨_,(DG rfl (AG (by rw [HX p0 ‹_› (.inl ‹_›)]))),Z.rD 1 [0,1,3,3] (⟨(⟨(((AY s)).idx).names,(((AY s)).idx).AX⟩:Idx),((AY s)).parts,((AY s)).mem⟩:Sto) [(ag,ah),(ai,aj),(some ⟨ak,0,none⟩,am),(some ⟨ao,0,none⟩,aq)] (by rw [HX p0 ‹_› (.inl ‹_›)])⟩,Z.xt⟩
 refine .r 2<|RG.Lb 4 Z<|.r 1<|.eq (s.parts.length:Int) 6 (fun az=>?_) (fun az=>?_)
 ·refine .r 1<|.d<|.ct<|.s<|.g<|RG.Ln 0 Z<|RG.Ss 3 Z fun w Z=>.r 1<|.d ?_
  have Z:=(Z.eL 1 0 0 [2] (((AY s)).parts) aa).fL 1 1 0 (((AY s)).mem)
  exact T.r2 func62 results62 (.B 1 Z) (.t (.bool false)) ⟨⟨_,(DG rfl (AG (by rw [HX p0 ‹_› (.inr ‹_›)]))),Z.rD 1 [0,1,3,3] (⟨(⟨(((AY s)).idx).names,(((AY s)).idx).AX⟩:Idx),((AY s)).parts,((AY s)).mem⟩:Sto) [(ag,ah),(ai,aj),(some ⟨ak,0,none⟩,am),(some ⟨ao,0,none⟩,aq)] (by rw [HX p0 ‹_› (.inr ‹_›)])⟩,Z.xt⟩
 refine .r 1<|.d<|.cf<|.sk<|.s<|T.GS 5 [aC,aB,aA] Z fun _ w Z=>.r [0]<|GA.Lb 1 0 Z<|GA.Ln (q:=2) 2 4 Z<|.go 3<|GE.DD 0 0 (fun w Z=>Er s (Z.a 7) (Z.a 6) (Z.a 5) (Z.a 4) (StoK.of p0 ‹_›).row (StoK.of p0 ‹_›).J2.Jq (by have:=p0.nm2; omega)) Z fun ab ac ae af w Z=>.go 4<|GE.Nb 1 Z fun aL w Z=>GA.Do Z fun w Z=>RG.Ar (hsz:=by exact (by have q1:=p0.np; have q2:(AY s).parts.length=s.parts.length:=rfl; omega)) 1 0 (((AY s)).parts) (Ah s.mem) aa (⟨Shp.cells (Ah s.mem) ([(ab,ac),(ae,af)]:List (Option Addr × Nat)),AA⟩:Hd 1) Z fun aD aE w Z=>?_
 have Z:=Z.eA 0 0 [4,2,2] (((AY s)).parts) aa (⟨Shp.cells (Ah s.mem) ([(ab,ac),(ae,af)]:List (Option Addr × Nat)),AA⟩:Hd 1) (Ah s.mem) ([(ab,ac),(ae,af)]:List (Option Addr × Nat))
 refine .r 1<|RG.Ss 0 Z fun w Z=>.d<|.s<|.g<|RG.N0 Smp 0 Z fun aF w Z=>.r 1<|RG.Ss 1 Z fun w Z=>.d<|.s<|.g<|RG.Ln 1 Z<|RG.Ss 4 Z fun w Z=>.r 1<|.d ?_
 have Z:=(Z.eL 2 0 0 [0] (((AY s)).parts++[(Ah s.mem)]) (aa++[(⟨Shp.cells (Ah s.mem) ([(ab,ac),(ae,af)]:List (Option Addr × Nat)),AA⟩:Hd 1)])).fL 0 1 0 ([]:List Smp)
 exact T.r2 func62 results62 (.B 2 Z) (.t (.bool true)) ⟨⟨_,(DG rfl (AG (by rw [JM p0 ‹_› ‹_› ‹_›]))),Z.rD 1 [0,1,3,3] (⟨(⟨(((AY s)).idx).names,(((AY s)).idx).AX⟩:Idx),(((AY s)).parts++[(Ah s.mem)]),([]:List Smp)⟩:Sto) [(ag,ah),(ai,aj),(some ⟨aD,0,none⟩,aE),(some ⟨aF,0,none⟩,0)] (by rw [JM p0 ‹_› ‹_› ‹_›])⟩,Z.xt⟩
end Go.Proofs.YtcginoabkicdiaaGreat
namespace Go.Proofs.YtcginoabkicdiaaGreat
theorem Yr {d:Dsk}{a:List (List Tag)}{b:List Pst}{c:List Prt}{e:List Smp}(h2:c=d.list.map (Ao d)) (h3:e=[]) (h4:(⟨a,b⟩:Idx)=idxOf d.names):(⟨⟨a,b⟩,c,e⟩:Sto)=Aj d:=by
 subst h2; subst h3
 rw [h4]; rfl
end Go.Proofs.YtcginoabkicdiaaGreat
namespace Go.Proofs.YtcginoabkicdiaaGreat
set_option maxRecDepth 100000
set_option maxHeartbeats 4000000
variable {w:World} {F:Nat→Prop} {a1 a2 a3:Option Addr} {n1 c1 n2 c2 n3 c3:Nat}
theorem Fk (f:Fil) (d:Dsk) (h1:RepS w F a1 n1 c1 f.part.ids) (h2:RepS w F a2 n2 c2 f.part.blocks){bq_d:Nat}{a3:Option Addr}{c3:Nat}{a4:Option Addr}{c4:Nat}{a5:Option Addr}{c5:Nat}(hb_d:Box w bq_d 35 [.slice a3 d.files.length c3,.slice a4 d.list.length c4,.slice a5 d.names.length c5,.int .i64 d.next]) (h3:RepS w F a3 d.files.length c3 d.files) (h4:RepS w F a4 d.list.length c4 d.list) (h5:RepS w F a5 d.names.length c5 d.names)  : Calls Tryz.prog 187 [.agg #[.int .i64 f.num,.slice a1 n1 c1,.slice a2 n2 c2],.pointer (some ⟨bq_d,0,none⟩)].toArray w (Af fun rv w'=>rv=.bool ((!(d.list.contains f.num)))∧Ext w w'):=by
 cases h1.len
 cases h2.len
 refine goT func187 ?_
 have Z:=((((((St.i0 F w).p h1).p h2).p h3).p h4).p h5).pb' hb_d
 exact .s<|.g<|RG.Np Z fun ag w Z=>.r 1<|.d<|.s<|.g<|.r 1<|RG.Lh 0 1 Z<|.r 1<|RG.Lb 0 Z<|RG.C0 (CY d.list f.num (Z.a 2)) Z fun w Z=>.r 2<|.d<|T.rt func187 results187 (.bool (!(d.list.contains f.num))) ⟨(AG AF),Z.xt⟩
theorem Je (d:Dsk) (at_:Int) (h1:RepS w F a1 n1 c1 d.files) (h2:RepS w F a2 n2 c2 d.list) (h3:RepS w F a3 n3 c3 d.names) (p0:DD d):Calls Tryz.prog 63 [.agg #[.slice a1 n1 c1,.slice a2 n2 c2,.slice a3 n3 c3,.int .i64 d.next],.int .i64 at_].toArray w (Af fun rv w'=>VL (ge w.heap.size) w' (Au d at_:List Stp) rv∧Ext w w'):=by
 refine goT func63 ?_
 obtain ⟨rfl,iZ,h1⟩:=h1.tp
 obtain ⟨rfl,ja,h2⟩:=h2.tp
 obtain ⟨rfl,jb,h3⟩:=h3.tp
 refine .s<|.g<|.np 35 [.slice a1 d.files.length c1,.slice a2 d.list.length c2,.slice a3 d.names.length c3,vI d.next] fun aj gJ dP co aa fX=>?_
 replace ⟨h1,h2,h3⟩:=(sn [] co dP).g3 h1 h2 h3
 have ab:=co
 refine .r 1<|.d<|.s<|.s<|.g<|.ln aa<|.cl (De d h1.ta h2.ta h3.ta p0 (w:=gJ) (F:=all)) ?_
 rintro kv gK ⟨rfl,dQ⟩
 replace ⟨h1,h2,h3,aa,ab⟩:=(se [aj] dQ).g5 h1 h2 h3 aa ab
 cases jc:(Ak d)
 ·refine .r 14<|.d<|.ct<|.s<|.g<|.ns 0 163 [] fun cp fY bY dR fZ f5=>?_
  have jd:=Az bY aa.lt
  have f6:=C9 bY ab.size
  replace ⟨h1,h2,h3,aa,ab⟩:=(sn [aj] dR bY).g5 h1 h2 h3 aa ab
  have f7:Own (α:=Stp) fY cp 163 (nin (ge w.heap.size) [cp,aj]) 0 0 []:=Own.Bv fZ
  refine .r 1<|.d ?_
  have gL:=f7.sl f6
  replace ⟨h1,h2,h3⟩:=(sd fY [cp,aj] cp).g3 h1 h2 h3
  exact .rt func63 results63 (vS cp 0 0) ⟨(gL.vl (by exact (P7 ‹_›).symm) (fun _ _ h=>h.1)),ab⟩
 refine .r 4<|.lb aa<|.r 1<|RG.int ((d.list.length:Int) - 2) AA (by have:=p0.nl; omega)<|.cl (CB at_ 0 ((d.list.length:Int) - 2) (w:=gK) (F:=all)) ?_
 rintro kw gM ⟨rfl,dS⟩
 replace ⟨h1,h2,h3,aa,ab⟩:=(se [aj] dS).g5 h1 h2 h3 aa ab
 cases dT:(inR at_ 0 ((d.list.length:Int) - 2))
 ·refine .r 6<|.d<|.ct<|.s<|.g<|.ns 0 163 [] fun cq f8 bZ dU f9 gb=>?_
  have jf:=Az bZ aa.lt
  have gf:=C9 bZ ab.size
  replace ⟨h1,h2,h3,aa,ab⟩:=(sn [aj] dU bZ).g5 h1 h2 h3 aa ab
  have gh:Own (α:=Stp) f8 cq 163 (nin (ge w.heap.size) [cq,aj]) 0 0 []:=Own.Bv f9
  refine .r 1<|.d ?_
  have gN:=gh.sl gf
  replace ⟨h1,h2,h3⟩:=(sd f8 [cq,aj] cq).g3 h1 h2 h3
  exact .rt func63 results63 (vS cq 0 0) ⟨(gN.vl (by exact Xb ‹_› (.inl ‹_›)) (fun _ _ h=>h.1)),ab⟩
 have jg:=Bt dT
 refine .r 3<|.ln aa<|.cl (GL d h1.ta h2.ta h3.ta (w:=gM) (F:=all)) ?_
 rintro kx ky ⟨rfl,dV⟩
 replace ⟨h1,h2,h3,aa,ab⟩:=(se [aj] dV).g5 h1 h2 h3 aa ab
 cases jh:(E0 d)
 ·refine .r 1<|.d<|.cf<|.sk<|.s<|.gd nil 12 fun kz dW=>?_
  replace ⟨h1,h2,h3,aa,ab⟩:=(se [aj] dW).g5 h1 h2 h3 aa ab
  refine .r [0]<|.lb 1 aa id<|.r [2] ?_
  have dX:at_.toNat< d.list.length:=AB
  refine GA.idx (i:=3) (at_.toNat) (len:=d.list.length) (z:=at_) (sz:=1) AA AB dX (h2.addr (Nat.zero_lt_of_lt dX)) ?_
  obtain ⟨bj,cu⟩:∃ y,d.list[at_.toNat]? = some y:=⟨_,AU AB⟩
  have gG:=AV cu
  obtain ⟨_,rfl,gi⟩:=h2.elem (at_.toNat) bj cu
  refine .lh 4 0 gi id<|.r [5]<|.lb 6 aa id<|.r [7]<|GA.int (i:=8) (at_+1) AA (by have:=p0.nl; omega) ?_
  have dY:(at_+1).toNat< d.list.length:=AB
  refine GA.idx (i:=9) ((at_+1).toNat) (len:=d.list.length) (z:=at_+1) (sz:=1) AA AB dY (h2.addr (Nat.zero_lt_of_lt dY)) ?_
  obtain ⟨bk,cw⟩:∃ y,d.list[(at_+1).toNat]? = some y:=⟨_,AU AB⟩
  have gH:=AV cw
  obtain ⟨_,rfl,gj⟩:=h2.elem ((at_+1).toNat) bk cw
  refine .lh 10 0 gj id<|.r [11]<|.d fun cj dZ=>?_
  replace ⟨h1,h2,h3,aa,ab⟩:=(se [aj] dZ).g5 h1 h2 h3 aa ab
  refine .r 1<|.d<|.s ?_
  replace h1:=h1.FI
  replace h2:=h2.FI
  replace h3:=h3.FI
  have b6:Gb (aj+1) cj.heap.size:=aa.lt
  refine .gd (mtb [] cj.heap.size) 22 fun gO cx=>?_
  replace ⟨h1,h2,h3,aa,ab⟩:=(se [aj] cx).g5 h1 h2 h3 aa ab
  have aD:Chg (mtb [] cj.heap.size) cj gO:=Chg.NR (Chg.refl (mtb [] cj.heap.size) cj) cx
  refine .r [0]<|.lb 1 aa (DJ all_nil b6)<|.ln 2 aa (DJ all_nil b6)<|.r [3]<|GA.NQ (i:=4) AA (fun gP cy=>CQ d bj (h1.SE cy all_nil) (h2.SE cy all_nil) (h3.SE cy all_nil) (w:=gP) (F:=all)) ?_
  have d0:(Al d bj).toNat< d.files.length:=(by exact (El (DP (CN ‹_›).2.2.2 _ ‹_›)).1)
  refine GA.idx (i:=5) ((Al d bj).toNat) (len:=d.files.length) (z:=Al d bj) (sz:=3) AA (by exact (El (DP (CN ‹_›).2.2.2 _ ‹_›)).2) d0 (h1.addr (Nat.zero_lt_of_lt d0))<|.r [6] ?_
  obtain ⟨aJ,b7⟩:∃ y,d.files[(Al d bj).toNat]? = some y:=⟨_,AU AB⟩
  have gI:=AV b7
  obtain ⟨_,⟨jl,jm,jn,jo,jp,jq,rfl,ac,ae⟩,d3⟩:=h1.elem ((Al d bj).toNat) aJ b7
  have d4:=ac.len
  subst d4
  have d5:=ae.len
  subst d5
  refine .lg 7 1 d3 (h1.nS (QR b7) all_nil)<|.r [8]<|.lb 9 aa (DJ all_nil b6)<|.ln 10 aa (DJ all_nil b6)<|.r [11]<|GA.NQ (i:=12) AA (fun gk bA=>CQ d bk (h1.SE bA all_nil) (h2.SE bA all_nil) (h3.SE bA all_nil) (w:=gk) (F:=all)) ?_
  have cz:(Al d bk).toNat< d.files.length:=(by exact (El (DP (CN ‹_›).2.2.2 _ ‹_›)).1)
  refine GA.idx (i:=13) ((Al d bk).toNat) (len:=d.files.length) (z:=Al d bk) (sz:=3) AA (by exact (El (DP (CN ‹_›).2.2.2 _ ‹_›)).2) cz (h1.addr (Nat.zero_lt_of_lt cz))<|.r [14] ?_
  obtain ⟨aA,bw⟩:∃ y,d.files[(Al d bk).toNat]? = some y:=⟨_,AU AB⟩
  have gl:=AV bw
  obtain ⟨_,⟨jr,jt,ju,jv,jw,jx,rfl,af,ag⟩,d6⟩:=h1.elem ((Al d bk).toNat) aA bw
  have d7:=af.len
  subst d7
  have d8:=ag.len
  subst d8
  refine .lg 15 1 d6 (h1.nS (QR bw) all_nil)<|.tw 16 20 ?_ ?_
  ·refine .cl (fun cA aX=>GK aJ.part aA.part (ac.ta.ext aX) (ae.ta.ext aX) (af.ta.ext aX) (ag.ta.ext aX) (by exact (p0.file _ ‹_›).sz) (by exact (p0.file _ ‹_›).sz) (w:=cA) (F:=all)) ?_
   intro cA aX
   replace ⟨h2,h3,aa,ac,ae,af,ag,ab,aD⟩:=(se [aj] aX).g9 h2 h3 aa ac ae af ag ab aD
   rintro jy jz ⟨⟨jA,rfl,⟨_,rfl,⟨cB,jB,cC,cD,jC,cE,rfl,ah,ai⟩⟩⟩,bC⟩
   have bD:=al1 aa.lt
   have cF:Gb w.heap.size cA.heap.size:=ab.size
   have hkeep_:=bC
   replace ⟨h2,h3,aa,ac,ae,af,ag,ab,aD⟩:=(se [aj] bC).g9 h2 h3 aa ac ae af ag ab aD
   refine ⟨Ext.chg hkeep_,?_⟩
   have ah:=ah.fr bD cF
   have gV:=ah.max
   have ai:=ai.fr bD cF
   have gW:=ai.max
   have d9:=ah.len
   subst d9
   have ec:=ai.len
   subst ec
   refine .r [17,18,19]<|.go 20<|.nw (fun b=>.pointer (some ⟨b,0,none⟩)) 146 [AH,AH] fun jD cG=>?_
   replace ⟨h2,h3,aa,ac,ae,af,ag,ah,ai,ab,aD⟩:=(se [aj] cG).g11 h2 h3 aa ac ae af ag ah ai ab aD
   intro ar jE bm cH ee eg
   have gX:=Az bm aa.lt
   have gY:=ab.cn bm
   have ej:=aD.cn bm
   replace ⟨h2,h3,aa,ac,ae,af,ag,ah,ai,ab,aD⟩:=(sn [aj] cH bm).g11 h2 h3 aa ac ae af ag ah ai ab aD
   refine .go 21<|GE.LY (t':=146) (o:=0) (v:=.agg #[.slice cB ((BW aJ.part aA.part).1.ids.length) cC,.slice cD ((BW aJ.part aA.part).1.blocks.length) cE]) [.slice cB ((BW aJ.part aA.part).1.ids.length) cC,.slice cD ((BW aJ.part aA.part).1.blocks.length) cE] ee AA AA AA fun jF cI=>?_
   replace ⟨h2,h3,aa,ac,ae,af,ag,ah,ai,ab,aD⟩:=(se [ar,aj] cI).g11 h2 h3 aa ac ae af ag ah ai ab aD
   intro jG bE ak ek
   have hkeep_:=Chg.toS bE (Cov.toS ej)
   replace ⟨h2,h3,aa,ac,ae,af,ag,ah,ai,ab,aD⟩:=(so [ar,aj] bE).g11 h2 h3 aa ac ae af ag ah ai ab aD
   refine ⟨hkeep_,?_⟩
   refine .d fun jH cJ=>?_
   replace ⟨h2,h3,aa,ac,ae,af,ag,ah,ai,ak,ab,aD⟩:=(se [ar,aj] cJ).g12 h2 h3 aa ac ae af ag ah ai ak ab aD
   replace h2:=h2.C3
   replace h3:=h3.C3
   replace ac:=ac.C3
   replace ae:=ae.C3
   replace af:=af.C3
   replace ag:=ag.C3
   refine .r 1<|.d<|.s<|.g<|.ns 0 3 [] fun b8 gm aY cK en eB=>?_
   have eC:=Az aY aa.lt
   have eD:=Az aY ak.lt
   have eE:=C9 aY ab.size
   have eF:=ab.cn aY
   replace ⟨h2,h3,aa,ac,ae,af,ag,ah,ai,ak,ab⟩:=(sn [ar,aj] cK aY).g11 h2 h3 aa ac ae af ag ah ai ak ab
   have eG:Own (α:=Int) gm b8 3 (nin (ge w.heap.size) [b8,ar,aj]) 0 0 []:=Own.Bv en
   refine .r 1<|.lb aa<|.r 1<|RG.sub (t:=33) (lo:=none) (hi:=some (vI at_)) h2 0 (at_.toNat) AA AA (.inl ⟨rfl,rfl⟩) (.inr ⟨_,_,rfl,by omega⟩) (by have:=p0.nl; omega) (by have:=p0.nl; omega) fun jI jJ cL=>?_
   have gZ:=cL.len; have hC:=cL.max
   refine RG.DQ (T:=33) (ty:=33) Av eG cL AA AA (fun b h e=>h.2 (e▸AI)) (by have:=p0.nl; omega) fun aG gn b9 aB aL cM=>?_
   have bF:=En aL eC aa.lt
   have eH:=En aL eD ak.lt
   have eI:=Gn aL eE ab.size
   have eJ:=Ic aL eF ab.size
   replace ⟨h2,h3,aa,ac,ae,af,ag,ah,ai,ak,ab⟩:=(sa [b8,ar,aj] cM aL).g11 h2 h3 aa ac ae af ag ah ai ak ab
   replace aB:=aB.rn b8
   have hH:=aB.len
   refine .r 1<|.d<|.s ?_
   replace h2:=h2.FI
   replace h3:=h3.FI
   replace ac:=ac.FI
   replace ae:=ae.FI
   replace af:=af.FI
   replace ag:=ag.FI
   replace ah:=ah.FI
   replace ai:=ai.FI
   have cN:Gb (aj+1) b9.heap.size:=aa.lt
   have eK:Cov (mtb [aG] b9.heap.size) b9 aG:=⟨.inl (.inl AI)⟩
   refine .gd (mtb [aG] b9.heap.size) 10 fun jK cO=>?_
   replace ⟨h2,h3,aa,ac,ae,af,ag,ah,ai,ak,aB,ab⟩:=(se [aG,ar,aj] cO).g12 h2 h3 aa ac ae af ag ah ai ak aB ab
   refine .r [0,1]<|.lb 2 aa (DJ (all_cons (Nb.symm bF) all_nil) cN)<|.r [5]<|.lb 6 aa (DJ (all_cons (Nb.symm bF) all_nil) cN)<|.r [7]<|GA.int (i:=8) (at_+2) AA (by have:=p0.nl; omega)<|GA.sub (i:=9) (t:=33) (lo:=some (vI (at_+2))) (hi:=none) AA h2 ((at_+2).toNat) d.list.length AA AA (.inr ⟨_,_,rfl,by omega⟩) (.inl ⟨rfl,rfl⟩) (by have:=p0.nl; omega) (by have:=p0.nl; omega) fun jL jM aH=>?_
   have hQ:=aH.len
   refine .go 3<|.ns 1 3 [vI d.next] fun jN bG=>?_
   replace ⟨h2,h3,aa,ac,ae,af,ag,ah,ai,ak,aB,aH⟩:=(se [aG,ar,aj] bG).g12 h2 h3 aa ac ae af ag ah ai ak aB aH
   replace ab:=(se [aG,ar,aj] bG).g1 ab
   intro cP jO bn bH bI eM
   have eO:=Az bn aa.lt
   have eP:=Az bn ak.lt
   have cQ:=Az bn aB.lt
   have eQ:=C9 bn ab.size
   replace ⟨h2,h3,aa,ac,ae,af,ag,ah,ai,ak,aB,aH⟩:=(se [aG,ar,aj] bH).g12 h2 h3 aa ac ae af ag ah ai ak aB aH
   replace ab:=(se [aG,ar,aj] bH).g1 ab
   refine .go 4<|GE.append (T:=33) (ty:=33) (args:=[vS aG (0+(at_.toNat - 0)) gn,vS cP 1 1]) AA fun jP bJ=>?_
   replace ⟨h2,h3,aa,ac,ae,af,ag,ah,ai,ak,aB,aH⟩:=(se [aG,ar,aj] bJ).g12 h2 h3 aa ac ae af ag ah ai ak aB aH
   replace ⟨bI,ab⟩:=(se [aG,ar,aj] bJ).g2 bI ab
   have ck:nin (ge w.heap.size) [aG,ar,aj] cP∧cP≠aG:=OK eQ (all_cons cQ (all_cons eP (all_cons eO all_nil))) cQ
   obtain ⟨cd,jQ,jR,cR,aQ,aM,bK,eR⟩:=aB.E3 (P:=Tryz.prog) (T:=33) (ty:=33) (y:=d.next) AA bI rfl ck (by have:=p0.nl; omega)
   refine ⟨_,_,cR,Chg.toS bK (Cov.toS eK),?_⟩
   have eT:=En aM bF aa.lt
   have eU:=En aM eH ak.lt
   have eV:=Gn aM eI ab.size
   have hW:=Ic aM eJ ab.size
   replace ⟨h2,h3,aa,ac,ae,af,ag,ah,ai,ak,aH,ab⟩:=(sa [aG,ar,aj] bK aM).g12 h2 h3 aa ac ae af ag ah ai ak aH ab
   replace aQ:=aQ.rn aG
   have ia:=aQ.len
   refine .d fun jS bL=>?_
   replace ⟨h2,h3,aa,ac,ae,af,ag,ah,ai,ak,aQ,aH⟩:=(se [cd,ar,aj] bL).g12 h2 h3 aa ac ae af ag ah ai ak aQ aH
   replace ab:=(se [cd,ar,aj] bL).g1 ab
   replace h2:=h2.C3
   replace h3:=h3.C3
   replace ac:=ac.C3
   replace ae:=ae.C3
   replace af:=af.C3
   replace ag:=ag.C3
   replace ah:=ah.C3
   replace ai:=ai.C3
   replace aH:=aH.C3
   refine RG.DQ (T:=33) (ty:=33) Av aQ aH AA AA (fun b h e=>h.2 (e▸AI)) (by have:=p0.nl; omega) fun aP gp jT ay aU cS=>?_
   have ie:=En aU eT aa.lt
   have ig:=En aU eU ak.lt
   have eW:=Gn aU eV ab.size
   replace ⟨h2,h3,aa,ac,ae,af,ag,ah,ai,ak,ab⟩:=(sa [cd,ar,aj] cS aU).g11 h2 h3 aa ac ae af ag ah ai ak ab
   replace ay:=ay.rn cd
   refine .r 1<|.d<|.s<|.gd nil 13 fun jU cT=>?_
   replace ⟨h2,h3,aa,ac,ae,af,ag,ah,ai,ak,ay,ab⟩:=(se [aP,ar,aj] cT).g12 h2 h3 aa ac ae af ag ah ai ak ay ab
   refine .r [0]<|.lb 1 aa id<|.ln 2 ak id<|.r [3,4,5]<|.lb 6 aa id<|.r [9,10,11,12]<|.go 7<|.cl (fun cU bM=>BH d.names (h3.ta.ext bM) (by have:=p0.g.len; omega) (by (intro n hn; have:=(p0.g.sz n hn).1; omega)) (w:=cU) (F:=all)) ?_
   intro cU bM
   replace ⟨h2,h3,aa,ac,ae,af,ag,ah,ai,ak,ay,ab⟩:=(se [aP,ar,aj] bM).g12 h2 h3 aa ac ae af ag ah ai ak ay ab
   rintro jV jW ⟨⟨bo,gq,gr,rfl,aE,aZ⟩,bN⟩
   have cV:=al3 ay.lt ak.lt aa.lt
   have eX:Gb w.heap.size cU.heap.size:=ab.size
   have hkeep_:=bN
   have ik:=EX aZ aa.lt
   have il:=EX aZ ak.lt
   have im:=EX aZ ay.lt
   have eY:=O4 aZ ab.size
   replace ⟨h2,h3,aa,ac,ae,af,ag,ah,ai,ak,ay,ab⟩:=(sz [aP,ar,aj] bN aZ).g12 h2 h3 aa ac ae af ag ah ai ak ay ab
   refine ⟨Ext.chg hkeep_,?_⟩
   replace aE:=Own.take (s0:=w.heap.size) (M:=[aP,ar,aj]) aE cV eX
   refine .r [8]<|.d fun jX bO=>?_
   replace ⟨h2,h3,aa,ac,ae,af,ag,ah,ai,ak,ay,aE⟩:=(se [bo,aP,ar,aj] bO).g12 h2 h3 aa ac ae af ag ah ai ak ay aE
   replace ab:=(se [bo,aP,ar,aj] bO).g1 ab
   refine .ns 4 163 [vI 1,vI d.next,.slice cB ((BW aJ.part aA.part).1.ids.length) cC,.slice cD ((BW aJ.part aA.part).1.blocks.length) cE,AH,AH,vI 2,vI 0,AH,AH,vS aP (0+(at_.toNat - 0)+1+(d.list.length - (at_+2).toNat)) gp,vS bo gq gr,vI 3,vI bj,AH,AH,AH,AH,vI 3,vI bk,AH,AH,AH,AH] fun bq ce aR cW eZ e7=>?_
   have iq:=Az aR aa.lt
   have ir:=Az aR ak.lt
   have iu:=Az aR ay.lt
   have iw:=Az aR aE.lt
   have e8:=C9 aR ab.size
   replace ⟨h2,h3,aa,ac,ae,af,ag,ah,ai,ay,aE,ab⟩:=(sn [bo,aP,ar,aj] cW aR).g12 h2 h3 aa ac ae af ag ah ai ay aE ab
   have cX:=ay.sl eW
   replace ⟨h2,h3,ac,ae,af,ag,ah,ai,aE⟩:=(sd ce [bq,bo,aP,ar,aj] aP).g9 h2 h3 ac ae af ag ah ai aE
   have gt:=aE.sl eY
   replace ⟨h2,h3,ac,ae,af,ag,ah,ai,cX⟩:=(sd ce [bq,bo,ar,aj] bo).g9 h2 h3 ac ae af ag ah ai cX
   have fa:Own (α:=Stp) ce bq 163 (nin (ge w.heap.size) [bq,ar,aj]) 4 4 [(⟨1,d.next,(⟨(BW aJ.part aA.part).1.ids,(BW aJ.part aA.part).1.blocks⟩:Prt),([]:List Int),([]:List (List Tag))⟩:Stp),(⟨2,0,(⟨([]:List Int),([]:List (List Row))⟩:Prt),((([]++((d.list.take (at_.toNat)).drop 0))++[d.next])++((d.list.take d.list.length).drop ((at_+2).toNat))),d.names⟩:Stp),(⟨3,bj,(⟨([]:List Int),([]:List (List Row))⟩:Prt),([]:List Int),([]:List (List Tag))⟩:Stp),(⟨3,bk,(⟨([]:List Int),([]:List (List Row))⟩:Prt),([]:List Int),([]:List (List Tag))⟩:Stp)]:=Own.lit eZ rfl AE ⟨⟨_,_,_,_,_,_,_,_,_,_,_,_,rfl,ah.oi,ai.oi,(RepS.Bv _ _ none 0 AE),(RepS.Bv _ _ none 0 AE)⟩,⟨_,_,_,_,_,_,_,_,_,_,_,_,rfl,(RepS.Bv _ _ none 0 AE),(RepS.Bv _ _ none 0 AE),cX.oi,gt.oi⟩,⟨_,_,_,_,_,_,_,_,_,_,_,_,rfl,(RepS.Bv _ _ none 0 AE),(RepS.Bv _ _ none 0 AE),(RepS.Bv _ _ none 0 AE),(RepS.Bv _ _ none 0 AE)⟩,⟨_,_,_,_,_,_,_,_,_,_,_,_,rfl,(RepS.Bv _ _ none 0 AE),(RepS.Bv _ _ none 0 AE),(RepS.Bv _ _ none 0 AE),(RepS.Bv _ _ none 0 AE)⟩,rfl⟩
   refine .r 1<|.d ?_
   have gu:=fa.sl e8
   replace ⟨h2,h3,ac,ae,af,ag⟩:=(sd ce [bq,ar,aj] bq).g6 h2 h3 ac ae af ag
   exact .rt func63 results63 (vS bq 4 4) ⟨(gu.vl (by exact Uu p0 ‹_› ‹_› ‹_› ‹_› ‹_› ‹_› ‹_›) (fun _ _ h=>h.1)),ab⟩
  refine .nw (fun b=>.pointer (some ⟨b,0,none⟩)) 146 [AH,AH] fun jY cY=>?_
  replace ⟨h2,h3,aa,ac,ae,af,ag,ab,aD⟩:=(se [aj] cY).g9 h2 h3 aa ac ae af ag ab aD
  intro ax jZ br cZ ba fb
  have iy:=Az br aa.lt
  have iz:=ab.cn br
  have fd:=aD.cn br
  replace ⟨h2,h3,aa,ac,ae,af,ag,ab⟩:=(sn [aj] cZ br).g8 h2 h3 aa ac ae af ag ab
  refine .go 16<|.cl (fun c7 bg=>GK aJ.part aA.part (ac.ta.ext bg) (ae.ta.ext bg) (af.ta.ext bg) (ag.ta.ext bg) (by exact (p0.file _ ‹_›).sz) (by exact (p0.file _ ‹_›).sz) (w:=c7) (F:=all)) ?_
  intro c7 bg
  replace ⟨h2,h3,aa,ba,ab⟩:=(se [ax,aj] bg).g5 h2 h3 aa ba ab
  rintro j0 j1 ⟨⟨j2,rfl,⟨_,rfl,⟨c8,j3,da,db,j4,de,rfl,ao,aq⟩⟩⟩,bP⟩
  have bQ:=al2 ba.lt aa.lt
  have df:Gb w.heap.size c7.heap.size:=ab.size
  have hkeep_:=bP
  replace ⟨h2,h3,aa,ba,ab⟩:=(se [ax,aj] bP).g5 h2 h3 aa ba ab
  refine ⟨Ext.chg hkeep_,?_⟩
  have ao:=ao.fr bQ df
  have iA:=ao.max
  have aq:=aq.fr bQ df
  have iB:=aq.max
  have fe:=ao.len
  subst fe
  have ff:=aq.len
  subst ff
  refine .r [17,18,19]<|.go 21<|GE.LY (t':=146) (o:=0) (v:=.agg #[.slice c8 ((BW aJ.part aA.part).1.ids.length) da,.slice db ((BW aJ.part aA.part).1.blocks.length) de]) [.slice c8 ((BW aJ.part aA.part).1.ids.length) da,.slice db ((BW aJ.part aA.part).1.blocks.length) de] ba AA AA AA fun j5 dh=>?_
  replace ⟨h2,h3,aa,ao,aq,ab⟩:=(se [ax,aj] dh).g6 h2 h3 aa ao aq ab
  intro j6 bR am fg
  have hkeep_:=Chg.toS bR (Cov.toS fd)
  replace ⟨h2,h3,aa,ao,aq,ab⟩:=(so [ax,aj] bR).g6 h2 h3 aa ao aq ab
  refine ⟨hkeep_,?_⟩
  refine .d fun j7 dj=>?_
  replace ⟨h2,h3,aa,am,ao,aq,ab⟩:=(se [ax,aj] dj).g7 h2 h3 aa am ao aq ab
  replace h2:=h2.C3
  replace h3:=h3.C3
  refine .r 1<|.d<|.s<|.g<|.ns 0 3 [] fun cg gv bh dm fi fj=>?_
  have fm:=Az bh aa.lt
  have fp:=Az bh am.lt
  have fq:=C9 bh ab.size
  have fu:=ab.cn bh
  replace ⟨h2,h3,aa,am,ao,aq,ab⟩:=(sn [ax,aj] dm bh).g7 h2 h3 aa am ao aq ab
  have fv:Own (α:=Int) gv cg 3 (nin (ge w.heap.size) [cg,ax,aj]) 0 0 []:=Own.Bv fi
  refine .r 1<|.lb aa<|.r 1<|RG.sub (t:=33) (lo:=none) (hi:=some (vI at_)) h2 0 (at_.toNat) AA AA (.inl ⟨rfl,rfl⟩) (.inr ⟨_,_,rfl,by omega⟩) (by have:=p0.nl; omega) (by have:=p0.nl; omega) fun j8 j9 dq=>?_
  have iC:=dq.len; have iD:=dq.max
  refine RG.DQ (T:=33) (ty:=33) Av fv dq AA AA (fun b h e=>h.2 (e▸AI)) (by have:=p0.nl; omega) fun aK gw ci aC aN dt=>?_
  have bS:=En aN fm aa.lt
  have fw:=En aN fp am.lt
  have fA:=Gn aN fq ab.size
  have fB:=Ic aN fu ab.size
  replace ⟨h2,h3,aa,am,ao,aq,ab⟩:=(sa [cg,ax,aj] dt aN).g7 h2 h3 aa am ao aq ab
  replace aC:=aC.rn cg
  have iE:=aC.len
  refine .r 1<|.d<|.s ?_
  replace h2:=h2.FI
  replace h3:=h3.FI
  replace ao:=ao.FI
  replace aq:=aq.FI
  have du:Gb (aj+1) ci.heap.size:=aa.lt
  have fC:Cov (mtb [aK] ci.heap.size) ci aK:=⟨.inl (.inl AI)⟩
  refine .gd (mtb [aK] ci.heap.size) 10 fun ka dv=>?_
  replace ⟨h2,h3,aa,am,ao,aq,aC,ab⟩:=(se [aK,ax,aj] dv).g8 h2 h3 aa am ao aq aC ab
  refine .r [0,1]<|.lb 2 aa (DJ (all_cons (Nb.symm bS) all_nil) du)<|.r [5]<|.lb 6 aa (DJ (all_cons (Nb.symm bS) all_nil) du)<|.r [7]<|GA.int (i:=8) (at_+2) AA (by have:=p0.nl; omega)<|GA.sub (i:=9) (t:=33) (lo:=some (vI (at_+2))) (hi:=none) AA h2 ((at_+2).toNat) d.list.length AA AA (.inr ⟨_,_,rfl,by omega⟩) (.inl ⟨rfl,rfl⟩) (by have:=p0.nl; omega) (by have:=p0.nl; omega) fun kb kd aI=>?_
  have iG:=aI.len
  refine .go 3<|.ns 1 3 [vI d.next] fun ke dw=>?_
  replace ⟨h3,aa,am,ao,aq,aC,aI,ab⟩:=(se [aK,ax,aj] dw).g8 h3 aa am ao aq aC aI ab
  intro dx kf bu dy bT fD
  have fE:=Az bu aa.lt
  have fF:=Az bu am.lt
  have dA:=Az bu aC.lt
  have fG:=C9 bu ab.size
  replace ⟨h3,aa,am,ao,aq,aC,aI,ab⟩:=(se [aK,ax,aj] dy).g8 h3 aa am ao aq aC aI ab
  refine .go 4<|GE.append (T:=33) (ty:=33) (args:=[vS aK (0+(at_.toNat - 0)) gw,vS dx 1 1]) AA fun kg dB=>?_
  replace ⟨h3,aa,am,ao,aq,aC,aI,bT,ab⟩:=(se [aK,ax,aj] dB).g9 h3 aa am ao aq aC aI bT ab
  have cm:nin (ge w.heap.size) [aK,ax,aj] dx∧dx≠aK:=OK fG (all_cons dA (all_cons fF (all_cons fE all_nil))) dA
  obtain ⟨dC,kh,ki,dD,aS,aO,bU,fH⟩:=aC.E3 (P:=Tryz.prog) (T:=33) (ty:=33) (y:=d.next) AA bT rfl cm (by have:=p0.nl; omega)
  refine ⟨_,_,dD,Chg.toS bU (Cov.toS fC),?_⟩
  have fI:=En aO bS aa.lt
  have fJ:=En aO fw am.lt
  have fK:=Gn aO fA ab.size
  have iI:=Ic aO fB ab.size
  replace ⟨h3,aa,am,ao,aq,aI,ab⟩:=(sa [aK,ax,aj] bU aO).g7 h3 aa am ao aq aI ab
  replace aS:=aS.rn aK
  have iJ:=aS.len
  refine .d fun kj dE=>?_
  replace ⟨h3,aa,am,ao,aq,aS,aI,ab⟩:=(se [dC,ax,aj] dE).g8 h3 aa am ao aq aS aI ab
  replace h3:=h3.C3
  replace ao:=ao.C3
  replace aq:=aq.C3
  replace aI:=aI.C3
  refine RG.DQ (T:=33) (ty:=33) Av aS aI AA AA (fun b h e=>h.2 (e▸AI)) (by have:=p0.nl; omega) fun aV gy kl az aW dF=>?_
  have iL:=En aW fI aa.lt
  have iM:=En aW fJ am.lt
  have fM:=Gn aW fK ab.size
  replace ⟨h3,aa,am,ao,aq,ab⟩:=(sa [dC,ax,aj] dF aW).g6 h3 aa am ao aq ab
  replace az:=az.rn dC
  refine .r 1<|.d<|.s<|.gd nil 13 fun km dG=>?_
  replace ⟨h3,aa,am,ao,aq,az,ab⟩:=(se [aV,ax,aj] dG).g7 h3 aa am ao aq az ab
  refine .r [0]<|.lb 1 aa id<|.ln 2 am id<|.r [3,4,5]<|.lb 6 aa id<|.r [9,10,11,12]<|.go 7<|.cl (fun dH bV=>BH d.names (h3.ta.ext bV) (by have:=p0.g.len; omega) (by (intro n hn; have:=(p0.g.sz n hn).1; omega)) (w:=dH) (F:=all)) ?_
  intro dH bV
  replace ⟨aa,am,ao,aq,az,ab⟩:=(se [aV,ax,aj] bV).g6 aa am ao aq az ab
  rintro ko kr ⟨⟨bv,gz,gA,rfl,aF,bi⟩,bW⟩
  have dI:=al3 az.lt am.lt aa.lt
  have fN:Gb w.heap.size dH.heap.size:=ab.size
  have hkeep_:=bW
  have iP:=EX bi aa.lt
  have iQ:=EX bi am.lt
  have iR:=EX bi az.lt
  have fO:=O4 bi ab.size
  replace ⟨aa,am,ao,aq,az,ab⟩:=(sz [aV,ax,aj] bW bi).g6 aa am ao aq az ab
  refine ⟨Ext.chg hkeep_,?_⟩
  replace aF:=Own.take (s0:=w.heap.size) (M:=[aV,ax,aj]) aF dI fN
  refine .r [8]<|.d fun ku dJ=>?_
  replace ⟨aa,am,ao,aq,az,aF,ab⟩:=(se [bv,aV,ax,aj] dJ).g7 aa am ao aq az aF ab
  refine .ns 4 163 [vI 1,vI d.next,.slice c8 ((BW aJ.part aA.part).1.ids.length) da,.slice db ((BW aJ.part aA.part).1.blocks.length) de,AH,AH,vI 2,vI 0,AH,AH,vS aV (0+(at_.toNat - 0)+1+(d.list.length - (at_+2).toNat)) gy,vS bv gz gA,vI 3,vI bj,AH,AH,AH,AH,vI 3,vI bk,AH,AH,AH,AH] fun bz dK aT dL fP fQ=>?_
  have iU:=Az aT aa.lt
  have iV:=Az aT am.lt
  have iW:=Az aT az.lt
  have iX:=Az aT aF.lt
  have fR:=C9 aT ab.size
  replace ⟨aa,ao,aq,az,aF,ab⟩:=(sn [bv,aV,ax,aj] dL aT).g6 aa ao aq az aF ab
  have dM:=az.sl fM
  replace ⟨ao,aq,aF⟩:=(sd dK [bz,bv,aV,ax,aj] aV).g3 ao aq aF
  have gC:=aF.sl fO
  replace ⟨ao,aq,dM⟩:=(sd dK [bz,bv,ax,aj] bv).g3 ao aq dM
  have fS:Own (α:=Stp) dK bz 163 (nin (ge w.heap.size) [bz,ax,aj]) 4 4 [(⟨1,d.next,(⟨(BW aJ.part aA.part).1.ids,(BW aJ.part aA.part).1.blocks⟩:Prt),([]:List Int),([]:List (List Tag))⟩:Stp),(⟨2,0,(⟨([]:List Int),([]:List (List Row))⟩:Prt),((([]++((d.list.take (at_.toNat)).drop 0))++[d.next])++((d.list.take d.list.length).drop ((at_+2).toNat))),d.names⟩:Stp),(⟨3,bj,(⟨([]:List Int),([]:List (List Row))⟩:Prt),([]:List Int),([]:List (List Tag))⟩:Stp),(⟨3,bk,(⟨([]:List Int),([]:List (List Row))⟩:Prt),([]:List Int),([]:List (List Tag))⟩:Stp)]:=Own.lit fP rfl AE ⟨⟨_,_,_,_,_,_,_,_,_,_,_,_,rfl,ao.oi,aq.oi,(RepS.Bv _ _ none 0 AE),(RepS.Bv _ _ none 0 AE)⟩,⟨_,_,_,_,_,_,_,_,_,_,_,_,rfl,(RepS.Bv _ _ none 0 AE),(RepS.Bv _ _ none 0 AE),dM.oi,gC.oi⟩,⟨_,_,_,_,_,_,_,_,_,_,_,_,rfl,(RepS.Bv _ _ none 0 AE),(RepS.Bv _ _ none 0 AE),(RepS.Bv _ _ none 0 AE),(RepS.Bv _ _ none 0 AE)⟩,⟨_,_,_,_,_,_,_,_,_,_,_,_,rfl,(RepS.Bv _ _ none 0 AE),(RepS.Bv _ _ none 0 AE),(RepS.Bv _ _ none 0 AE),(RepS.Bv _ _ none 0 AE)⟩,rfl⟩
  refine .r 1<|.d ?_
  have gD:=fS.sl fR
  exact .rt func63 results63 (vS bz 4 4) ⟨(gD.vl (by exact Uu p0 ‹_› ‹_› ‹_› ‹_› ‹_› ‹_› ‹_›) (fun _ _ h=>h.1)),ab⟩
 refine .r 1<|.d<|.ct<|.s<|.g<|.ns 0 163 [] fun dN gE bX dO fT fU=>?_
 have iY:=Az bX aa.lt
 have fV:=C9 bX ab.size
 replace ab:=(se [] dO).g1 ab
 have fW:Own (α:=Stp) gE dN 163 (nin (ge w.heap.size) [dN,aj]) 0 0 []:=Own.Bv fT
 refine .r 1<|.d ?_
 have gF:=fW.sl fV
 exact .rt func63 results63 (vS dN 0 0) ⟨(gF.vl (by exact Xb ‹_› (.inr ‹_›)) (fun _ _ h=>h.1)),ab⟩
end Go.Proofs.YtcginoabkicdiaaGreat
namespace Go.Proofs.YtcginoabkicdiaaGreat
set_option maxRecDepth 100000
set_option maxHeartbeats 4000000
variable {w:World} {F:Nat→Prop} {a1 a2 a3:Option Addr} {n1 c1 n2 c2 n3 c3:Nat}
theorem KN (d:Dsk) (h1:RepS w F a1 n1 c1 d.files) (h2:RepS w F a2 n2 c2 d.list) (h3:RepS w F a3 n3 c3 d.names) (p0:DD d) (p1:NmI d.names) (p2:NsD d.names) (p3:∀ n∈d.list,0≤Al d n):Calls Tryz.prog 158 [.agg #[.slice a1 n1 c1,.slice a2 n2 c2,.slice a3 n3 c3,.int .i64 d.next]].toArray w (Af fun rv w'=>VD w.heap.size w' (Aj d:Sto) rv∧Ext w w'):=by
 cases h1.len
 cases h2.len
 cases h3.len
 refine goT func158 ?_
 have Z:=(((St.i0 F w).p h1).p h2).p h3
 have aL:=h2.max
 have Z:=Z.s0 0
 refine .s<|.g<|RG.Np Z fun ax w Z=>RG.Np Z fun ay w Z=>.d<|.s<|.g<|.r 1<|RG.Lb 1 Z<|RG.DD 0 0 (CV d.names (Z.a 1) p1 p2) Z fun aC aD aE aF w Z=>RG.N0 (Hd 1) 0 Z fun aG w Z=>?_
 have Z:=Z.o2r 0 0 Prt 1
 refine RG.N0 Smp 0 Z fun aH w Z=>.r 1<|RG.Np Z fun aq w Z=>RG.Ss 0 Z fun w Z=>.d<|.s<|.s<|.g<|.r 1<|RG.Lb 4 Z<|.r 2<|.d<|.b 0<|T.Lp ((0:Nat),((idxOf d.names).names:List (List Tag)),aC,aD,((idxOf d.names).AX:List Pst),aE,aF,([]:List Prt),aG,(0:Nat),([]:List (Hd 1)),([]:List Smp),aH,(0:Nat)) (fun (k,ac,a_s_0,c_s_0,ae,a_s_1,c_s_1,aa,r_s_2,c_s_2,hs,af,r_s_3,c_s_3)=>([(1,vP ax),(2,vP ay),(3,vP aq),(13,.slice a2 d.list.length c2),(14,vI (d.list.length:Int)),(15,vI (k:Int))],[(0,.box aq 31 [.slice a_s_0 ac.length c_s_0,.slice a_s_1 ae.length c_s_1,vS r_s_2 aa.length c_s_2,vS r_s_3 af.length c_s_3]),(1,.own 0 r_s_3 158 c_s_3 af),(2,.raw 0 r_s_2 146 c_s_2 aa hs)],[⟨0,none,.sep [.e aa hs,.s a_s_0 c_s_0 ac,.s a_s_1 c_s_1 ae]⟩,⟨0,none,.rep a_s_0 c_s_0 ac⟩,⟨0,none,.rep a_s_1 c_s_1 ae⟩],d.list.length - k,(k≤d.list.length)∧(aa.length≤k)∧(aa++(d.list.drop k).map (Ao d)=d.list.map (Ao d))∧(af=[])∧((⟨ac,ae⟩:Idx)=idxOf d.names))) [0,2,3] Z ⟨AD,AD,AF,AF,AF⟩ ?_
 rintro ⟨k,ac,a_s_0,c_s_0,ae,a_s_1,c_s_1,aa,r_s_2,c_s_2,hs,af,r_s_3,c_s_3⟩ aU w Z ⟨aN,aO,aP,aQ,aR⟩ ai
 refine .s<|.g<|.bp ((k:Int)< (d.list.length:Int)) (fun az=>?_) (fun az=>?_)
 ·refine .d<|.s<|.ct<|.sk<|.s<|.b 1<|.s<|.g<|gx (h:=AB) d.list k fun ar ag=>?_
  have aS:=Ab ag; have aA:=AV ag
  refine RG.Ix 9 ag Z<|Z.el 9 ag fun Z=>RG.Lh 0 0 Z<|.r 1<|.d<|T.GS 12 [aq,ay,ax] Z fun _ w Z=>.r [0]<|GA.Lb 1 0 Z<|.r [2]<|GA.Lb (q:=2) 3 4 Z<|GA.Ln (q:=2) 4 4 Z<|.r [5]<|GA.D0 6 Z (fun w Y=>CQ d ar (Y.a 11) (Y.a 10) (Y.a 9))<|gx (h:=(by exact (El (p3 _ ‹_›)).1)) d.files ((Al d ar).toNat) fun ab ah=>?_
  have aB:=AV ah
  refine GA.Jx (hz:=(by exact (El (p3 _ ‹_›)).2)) 7 11 (Al d ar) ah Z<|.r [8]<|Z.el 11 ah fun aV aW aX aY Z=>GA.Lg 9 0 1 Z<|.go 10<|GE.DD 4 0 (fun w Z=>Am ab.part (Z.a 1) (Z.a 2) (p0.file _ ‹_›).sz) Z fun aj ak am ao w Z=>.go 11<|GE.Nb 1 Z fun aZ w Z=>GA.Do Z fun w Z=>RG.Ar (hsz:=by exact (by have:=p0.nl; omega)) 2 0 aa ab.part hs (⟨Shp.cells ab.part ([(aj,ak),(am,ao)]:List (Option Addr × Nat)),AA⟩:Hd 1) Z fun aI aJ w Z=>?_
  have Z:=Z.eA 0 0 [2,2,2] aa hs (⟨Shp.cells ab.part ([(aj,ak),(am,ao)]:List (Option Addr × Nat)),AA⟩:Hd 1) ab.part ([(aj,ak),(am,ao)]:List (Option Addr × Nat))
  refine .r 1<|RG.Ss 0 Z fun w Z=>.d<|.ib 1<|.g<|RG.int ((k:Int)+1) AA AB<|.r 1<|.d ?_
  have Z:=Z.sM 0 0 [2,2,2] [.e (aa++[ab.part]) (hs++[(⟨Shp.cells ab.part ([(aj,ak),(am,ao)]:List (Option Addr × Nat)),AA⟩:Hd 1)]),.s a_s_0 c_s_0 ac,.s a_s_1 c_s_1 ae]
  exact ai (k+1,ac,a_s_0,c_s_0,ae,a_s_1,c_s_1,(aa++[ab.part]),aI,aJ,(hs++[(⟨Shp.cells ab.part ([(aj,ak),(am,ao)]:List (Option Addr × Nat)),AA⟩:Hd 1)]),af,r_s_3,c_s_3) _ _ AA (Z.to 0 [0,10,11] 12) ⟨AB,(by simp; omega),(by exact Nx ‹_› ‹_› ‹_›),‹_›,‹_›⟩ (by (simp only []; omega))
 refine .d<|.s<|.cf<|.x 0 rfl<|.s<|.g<|RG.Ln 0 Z<|RG.Ss 3 Z fun w Z=>.d ?_
 have Z:=(Z.eL 2 0 0 [0] aa hs).fL 1 1 0 af
 exact T.Rb 1 func158 results158 Z ⟨Z.rD 1 [0,1,3,3] (⟨(⟨ac,ae⟩:Idx),aa,af⟩:Sto) [(a_s_0,c_s_0),(a_s_1,c_s_1),(some ⟨r_s_2,0,none⟩,c_s_2),(some ⟨r_s_3,0,none⟩,c_s_3)] (by exact Yr (Pt ‹_› AB) ‹_› ‹_›),Z.xt⟩
theorem K6 (d:Dsk) (h1:RepS w F a1 n1 c1 d.files) (h2:RepS w F a2 n2 c2 d.list) (h3:RepS w F a3 n3 c3 d.names) (p0:DD d):Calls Tryz.prog 134 [.agg #[.slice a1 n1 c1,.slice a2 n2 c2,.slice a3 n3 c3,.int .i64 d.next]].toArray w (Af fun rv w'=>VD w.heap.size w' (Eh d:Sto) rv∧Ext w w'):=by
 cases h1.len
 cases h2.len
 cases h3.len
 refine goT func134 ?_
 have Z:=(((St.i0 F w).p h1).p h2).p h3
 have Z:=Z.s0 0
 refine .s<|.g<|RG.Np Z fun aq w Z=>RG.Np Z fun ar w Z=>.d<|.s<|.s<|.g<|RG.Ln 1 Z<|RG.C0 (De d (Z.a 3) (Z.a 2) (Z.a 1) p0) Z fun w Z=>?_
 cases ao:(Ak d)
 ·refine .r 1<|.d<|.ct<|.s<|.g<|.r 1<|RG.Ss 0 Z fun w Z=>.d ?_
  have Z:=(((Z.sZ (List Tag) 0 0).sZ Pst 1 0).sZ Prt 1 0).sZ Smp 1 0
  exact T.Rb 0 func134 results134 Z ⟨Z.rD 1 [0,1,2,3] (⟨(⟨([]:List (List Tag)),([]:List Pst)⟩:Idx),([]:List Prt),([]:List Smp)⟩:Sto) [(none,0),(none,0),(none,0),(none,0)] (by exact (Wh ‹_›).symm),Z.xt⟩
 exact .r 1<|.d<|.cf<|.sk<|.s<|.g<|RG.Ln 1 Z<|RG.DD 0 0 (KN d (Z.a 3) (Z.a 2) (Z.a 1) p0 (Cn ‹_›).1 p0.g.nd (DP (Cn ‹_›).2.2)) Z fun aa ab ac ae af ag ah ai w Z=>RG.Ss 0 Z fun w Z=>.d<|T.Rb 0 func134 results134 Z ⟨Z.rD 0 [3,3,3,3] (⟨(⟨(Aj d).idx.names,((Aj d).idx).AX⟩:Idx),(Aj d).parts,(Aj d).mem⟩:Sto) [(aa,ab),(ac,ae),(af,ag),(ah,ai)] (by exact (JQ ‹_›).symm),Z.xt⟩
end Go.Proofs.YtcginoabkicdiaaGreat
