/- walks; pruned haves; hints pruned; squeezed -/
import Derived.Test.YtggnnidleedpaaaGreatWmzW4
open Go.Proofs.Tryz
set_option linter.unusedVariables false
set_option linter.unusedSimpArgs false
namespace Go.Proofs.YtggnnidleedpaaaGreat
set_option maxRecDepth 100000
set_option maxHeartbeats 4000000
variable {w:World} {F:Nat→Prop} {a1 a2 a3 a4 a5 a6 a7:Option Addr} {n1 c1 n2 c2 n3 c3 n4 c4 n5 c5 n6 c6 n7 c7:Nat}
theorem JN (d:Dsk) (h1:RepS w F a1 n1 c1 d.files) (h2:RepS w F a2 n2 c2 d.list) (h3:RepS w F a3 n3 c3 d.names) (p0:d.names.length≤1000) (p1:∀ n∈d.names,Fc n) (p2:d.list.length≤1000) (p3:∀ n∈d.list,0≤Av d n):Calls Tryz.prog 115 [.agg #[.slice a1 n1 c1,.slice a2 n2 c2,.slice a3 n3 c3,.int .i64 d.next]].toArray w (BB fun rv w'=>VS (fo F w.heap.size) w' (At d:Sto) rv∧Ext w w'):=by
 refine goT func115 ?_
 obtain ⟨rfl,dw,h1⟩:=h1.tp
 obtain ⟨rfl,dx,h2⟩:=h2.tp
 obtain ⟨rfl,dy,h3⟩:=h3.tp
 refine .s<|.g<|.np 36 [.slice a1 d.files.length c1,.slice a2 d.list.length c2,.slice a3 d.names.length c3,vI d.next] fun ag dP br aU aa b7=>?_
 replace ⟨h1,h2,h3⟩:=(sn [] aU br).g3 h1 h2 h3
 have C:=aU
 refine .np 32 [AH,AH,AH,AH] fun ah b8 aV bt W b9=>?_
 have dz:=C.cn aV
 replace ⟨h1,h2,h3,aa,C⟩:=(sn [ag] bt aV).g5 h1 h2 h3 aa C
 refine .d<|.s<|.g<|.r 1<|.lb aa<|.cl (EP d.names h3.ta p0 p1 (w:=b8) (F:=all)) ?_
 rintro dQ dR ⟨⟨_,rfl,⟨cd,dS,ce,cg,dT,ci,rfl,am,ao⟩⟩,bu⟩
 have aW:=al2 W.lt aa.lt
 have bv:Gb w.heap.size b8.heap.size:=C.size
 replace ⟨h1,h2,h3,aa,W,C⟩:=(se [ah,ag] bu).g6 h1 h2 h3 aa W C
 have am:=am.fr aW bv
 replace am:=am.base (G':=fo F w.heap.size) (fun _ _ h=>.inr h)
 have dA:=am.max
 have ao:=ao.fr aW bv
 replace ao:=ao.base (G':=fo F w.heap.size) (fun _ _ h=>.inr h)
 have dB:=ao.max
 have cj:=am.len
 subst cj
 have ck:=ao.len
 subst ck
 refine .ns 0 48 [] fun au cP aD bw cm co=>?_
 have cp:=AX aD aa.lt
 have cq:=AX aD W.lt
 have cr:=Ae aD C.size
 have cu:=C.cn aD
 replace ⟨h1,h2,h3,aa,W,am,ao,C⟩:=(sn [ah,ag] bw aD).g8 h1 h2 h3 aa W am ao C
 have av:Own (α:=Prt) cP au 48 (nin (fo F w.heap.size) [au,ah,ag]) 0 0 []:=Own.Aj cm
 refine .ns 0 85 [] fun ay cQ az bz cw cx=>?_
 have cy:=AX az aa.lt
 have cz:=AX az W.lt
 have cA:=AX az av.lt
 have cB:=Ae az C.size
 have dC:=C.cn az
 replace ⟨h1,h2,h3,aa,W,am,ao,av,C⟩:=(sn [au,ah,ag] bz az).g9 h1 h2 h3 aa W am ao av C
 have aE:Own (α:=Smp) cQ ay 85 (nin (fo F w.heap.size) [ay,au,ah,ag]) 0 0 []:=Own.Aj cw
 refine .r 1<|.np 32 [AH,AH,AH,AH] fun ai dU aA bA cC cD=>?_
 have dD:=AX aA aa.lt
 have dE:=AX aA W.lt
 have cE:=AX aA av.lt
 have cF:=AX aA aE.lt
 have dF:=C.cn aA
 replace ⟨h1,h2,h3,aa,W,am,ao,av,aE,C⟩:=(sn [ay,au,ah,ag] bA aA).g10 h1 h2 h3 aa W am ao av aE C
 refine .sc [.slice cd ((idxOf d.names).names.length) ce,.slice cg ((idxOf d.names).AY.length) ci,vS au 0 0,vS ay 0 0] cC fun aR bB aX cG=>?_
 replace ⟨h1,h2,h3,aa,W,am,ao,av,aE,C⟩:=(so [ai,ay,au,ah,ag] bB).g10 h1 h2 h3 aa W am ao av aE C
 refine .d<|.s<|.s<|.g<|.r 1<|.d<|.b 0<|T.loop (X:=Nat × (List (List Tag)) × (Option Addr) × Nat × Nat × (List Pst) × (Option Addr) × Nat × Nat × (List Prt) × Nat × Nat × Nat × (List Smp) × Nat × Nat × Nat) (0,((idxOf d.names).names:List (List Tag)),cd,(idxOf d.names).names.length,ce,((idxOf d.names).AY:List Pst),cg,(idxOf d.names).AY.length,ci,([]:List Prt),au,0,0,([]:List Smp),ay,0,0) (fun (i,aJ,a_s_0,n_s_0,c_s_0,aK,a_s_1,n_s_1,c_s_1,aF,r_s_2,n_s_2,c_s_2,aL,r_s_3,n_s_3,c_s_3)=>[(1,.pointer (some ⟨ag,0,none⟩)),(2,.pointer (some ⟨ah,0,none⟩)),(3,.pointer (some ⟨ai,0,none⟩)),(4,vI (i:Int))]) (fun (i,aJ,a_s_0,n_s_0,c_s_0,aK,a_s_1,n_s_1,c_s_1,aF,r_s_2,n_s_2,c_s_2,aL,r_s_3,n_s_3,c_s_3) aB=>Chg (ins [au,ay,ai]) aR aB∧Own aB r_s_2 48 (nin (fo F w.heap.size) [ai,r_s_3,r_s_2,ah,ag]) n_s_2 c_s_2 aF∧OrB r_s_2 au aR.heap.size∧Own aB r_s_3 85 (nin (fo F w.heap.size) [ai,r_s_3,r_s_2,ah,ag]) n_s_3 c_s_3 aL∧OrB r_s_3 ay aR.heap.size∧Nb r_s_3 r_s_2∧RepS aB (nin (fo F w.heap.size) [ai,r_s_3,r_s_2,ah,ag]) a_s_0 n_s_0 c_s_0 aJ∧RepS aB (nin (fo F w.heap.size) [ai,r_s_3,r_s_2,ah,ag]) a_s_1 n_s_1 c_s_1 aK∧Box aB ai 32 [.slice a_s_0 n_s_0 c_s_0,.slice a_s_1 n_s_1 c_s_1,vS r_s_2 n_s_2 c_s_2,vS r_s_3 n_s_3 c_s_3]∧(i≤d.list.length)∧(aJ=d.names)∧(aK=DO d.names)∧(aL=[])∧(aF.length≤i)∧(aF++(d.list.drop i).map (BH d)=d.list.map (BH d))) (fun (i,aJ,a_s_0,n_s_0,c_s_0,aK,a_s_1,n_s_1,c_s_1,aF,r_s_2,n_s_2,c_s_2,aL,r_s_3,n_s_3,c_s_3)=>d.list.length - i) AA ⟨AA,AA,AA,AA,trivial⟩ ⟨Chg.refl _ _,av,BU,aE,BU,cA,am,ao,aX,AD,AF,AF,AF,AD,AF⟩ ?_
 rintro ⟨i,aJ,a_s_0,n_s_0,c_s_0,aK,a_s_1,n_s_1,c_s_1,aF,r_s_2,n_s_2,c_s_2,aL,r_s_3,n_s_3,c_s_3⟩ dG aB ⟨ac,af,aj,ab,ax,bF,E,J,ae,cR,cS,cT,cU,cV,cW⟩ aS
 have aM:=Ay aj cp aa.lt
 have cX:=Ay aj cq W.lt
 have aY:=Ay aj (Nb.symm cE) aX.lt
 have bG:=Bz aj cr C.size
 have cY:=BA aj cu C.size
 have aN:=Ay ax cy aa.lt
 have cZ:=Ay ax cz W.lt
 have bH:=Ay ax (Nb.symm cF) aX.lt
 have bI:=Bz ax cB C.size
 have bJ:Cov (ins [au,ay,ai]) aR au:=⟨.inl AI⟩
 have c7:Cov (ins [au,ay,ai]) aR ai:=⟨.inl AK⟩
 have c8:=BA aj bJ (Nat.le_refl _)
 have aZ:Mv [ai,ay,au,ah,ag] [ai,r_s_3,r_s_2,ah,ag] aR aB:=Mv.inl ac (all_cons AK (all_cons AJ (all_cons AI all_nil))) (all_cons (.inl AI) (all_cons (Bb ax AJ) (all_cons (Bb aj AK) (all_cons (.inl AL) (all_cons (.inl AM) all_nil)))))
 replace ⟨h1,h2,h3,aa,W,C⟩:=(sp aZ ac).g6 h1 h2 h3 aa W C
 have c9:=af.len; have da:=af.max
 have db:=ab.len; have de:=ab.max
 have df:=E.len; have dg:=E.max
 have dh:=J.len; have dj:=J.max
 refine .s<|.s<|.g<|.r 2<|.lb aa<|.r 1<|.bp ((i:Int)< (d.list.length:Int)) (fun bK=>?_) (fun bK=>?_)
 ·refine .d<|.ct<|.sk<|.s<|.b 1 ?_
  replace h1:=h1.BO
  replace h2:=h2.BO
  replace h3:=h3.BO
  replace E:=E.BO
  replace J:=J.BO
  have aO:Gb (ag+1) aB.heap.size:=aa.lt
  have bL:Gb (ai+1) aB.heap.size:=ae.lt
  refine .gd (mtb [r_s_2,r_s_3] aB.heap.size) 15 fun dH ba=>?_
  replace ⟨h1,h2,h3,aa,W,af,ab,ae,E,J,C,ac⟩:=(se [ai,r_s_3,r_s_2,ah,ag] ba).g12 h1 h2 h3 aa W af ab ae E J C ac
  refine .r [0]<|.lb 1 ae (BL (all_cons (Nb.symm aY) (all_cons (Nb.symm bH) all_nil)) bL)<|.r [2]<|.lb 3 aa (BL (all_cons (Nb.symm aM) (all_cons (Nb.symm aN) all_nil)) aO)<|.ln 4 aa (BL (all_cons (Nb.symm aM) (all_cons (Nb.symm aN) all_nil)) aO)<|.r [5]<|.lb 6 aa (BL (all_cons (Nb.symm aM) (all_cons (Nb.symm aN) all_nil)) aO)<|.r [7] ?_
  have bc:i< d.list.length:=AB
  refine GA.idx (i:=8) i (len:=d.list.length) (z:=(i:Int)) (sz:=1) AA AB bc (h2.addr (Nat.zero_lt_of_lt bc)) ?_
  obtain ⟨aC,aG⟩:∃ y,d.list[i]? = some y:=⟨_,AU AB⟩
  have dm:=Ai aG; have cH:=AV aG
  obtain ⟨_,rfl,bM⟩:=h2.elem i aC aG
  refine .lh 9 0 bM (h2.nS (Dd aG) (all_cons AK (all_cons AJ all_nil)))<|GA.Dt (i:=10) AA (fun cI aP=>EO d aC (h1.IQ aP (all_cons AK (all_cons AJ all_nil))) (h2.IQ aP (all_cons AK (all_cons AJ all_nil))) (h3.IQ aP (all_cons AK (all_cons AJ all_nil))) (w:=cI) (F:=all)) ?_
  have bd:(Av d aC).toNat< d.files.length:=(by exact He p3 ‹_›)
  refine GA.idx (i:=11) ((Av d aC).toNat) (len:=d.files.length) (z:=Av d aC) (sz:=3) AA (by exact Hf p3 ‹_›) bd (h1.addr (Nat.zero_lt_of_lt bd))<|.r [12] ?_
  obtain ⟨aI,aH⟩:∃ y,d.files[(Av d aC).toNat]? = some y:=⟨_,AU AB⟩
  obtain ⟨_,⟨cK,dI,cL,cM,dJ,cN,rfl,ak,al⟩,bN⟩:=h1.elem ((Av d aC).toNat) aI aH
  have bO:=ak.len
  subst bO
  have bP:=al.len
  subst bP
  refine .lg 13 1 bN (h1.nS (Dd aH) (all_cons AK (all_cons AJ all_nil)))<|.go 14<|.ns 1 48 [.slice cK aI.part.ids.length cL,.slice cM aI.part.blocks.length cN] fun dK bg=>?_
  replace ⟨aa,W,af,ab,ae,E,J,ak,al,C,ac⟩:=(se [ai,r_s_3,r_s_2,ah,ag] bg).g11 aa W af ab ae E J ak al C ac
  intro bC dL aq bh aQ bQ
  have bR:=AX aq aa.lt
  have bS:=AX aq W.lt
  have bi:=AX aq af.lt
  have bT:=AX aq ab.lt
  have bU:=AX aq ae.lt
  have bV:=Ae aq C.size
  replace ⟨W,af,ab,ae,E,J,ak,al,C,ac⟩:=(se [ai,r_s_3,r_s_2,ah,ag] bh).g10 W af ab ae E J ak al C ac
  refine .d fun dM bj=>?_
  replace ⟨W,af,ab,ae,E,J,ak,al,aQ,C,ac⟩:=(se [ai,r_s_3,r_s_2,ah,ag] bj).g11 W af ab ae E J ak al aQ C ac
  replace E:=E.Aa
  replace J:=J.Aa
  replace ak:=ak.Aa
  replace al:=al.Aa
  have aT:nin (fo F w.heap.size) [ai,r_s_3,r_s_2,ah,ag] bC∧bC≠r_s_2:=BR (.inr bV) (all_cons bU (all_cons bT (all_cons bi (all_cons bS (all_cons bR all_nil))))) bi
  refine RG.Ax (T:=29) (ty:=29) (y:=aI.part) af aQ AA AA ⟨_,_,_,_,_,_,rfl,ak.oi,al.oi⟩ aT AB fun bk bD dN ar aw bm=>?_
  have bW:=Ag aw (Nb.symm bF) ab.lt
  have dt:=Ag aw aY ae.lt
  have bX:=CB aw aj ac.size
  replace ⟨W,ab,ae,E,J,C,ac⟩:=(sa [ai,r_s_3,r_s_2,ah,ag] bm aw).g7 W ab ae E J C ac
  replace ar:=ar.rn r_s_2
  refine .r 1<|.ss 2 (vS bk (n_s_2+1) bD) ae fun dO bn bY bZ=>?_
  replace ⟨W,ar,ab,E,J,C,ac⟩:=(so [ai,r_s_3,bk,ah,ag] bn).g7 W ar ab E J C ac
  exact .d<|.ib 1<|.g<|.r 1<|.it ((i:Int)+1)<|.r 1<|.d<|aS (i+1,aJ,a_s_0,n_s_0,c_s_0,aK,a_s_1,n_s_1,c_s_1,(aF++[aI.part]),bk,n_s_2+1,bD,aL,r_s_3,n_s_3,c_s_3) _ _ ⟨AA,AA,AA,AA,trivial⟩ ⟨ac,ar,bX,ab,ax,(Nb.symm bW),E,J,bY,AB,‹_›,‹_›,‹_›,(by simp; omega),(by exact mapStep ‹_› ‹_› (ER ‹_›).symm)⟩ (by (simp only []; omega))
 refine .d<|.cf<|.x 0 rfl<|.s<|.g<|.ln ae<|.sc [.slice a_s_0 n_s_0 c_s_0,.slice a_s_1 n_s_1 c_s_1,vS r_s_2 n_s_2 c_s_2,vS r_s_3 n_s_3 c_s_3] W fun bE bo b0 b6=>?_
 replace ⟨af,ab,E,J,C⟩:=(so [ai,r_s_3,r_s_2,ah,ag] bo).g5 af ab E J C
 refine .d ?_
 have bq:=af.sl (.inr bG)
 replace ⟨ab,E,J⟩:=(sd bE [ai,r_s_3,r_s_2,ah,ag] r_s_2).g3 ab E J
 have cO:=ab.sl (.inr bI)
 replace ⟨bq,E,J⟩:=(sd bE [ai,r_s_3,ah,ag] r_s_3).g3 bq E J
 exact .rb func115 results115 b0 ⟨(VS.of (y:=(⟨(⟨aJ,aK⟩:Idx),aF,aL⟩:Sto)) ⟨_,rfl,⟨_,_,_,_,_,_,_,_,_,_,_,_,rfl,E.w1,J.w1,bq.w1,cO.w1⟩⟩ (by have q1:aF=_:=PD ‹_› AB; subst_vars; rfl)),C⟩
theorem Ft (d:Dsk) (h1:RepS w F a1 n1 c1 d.files) (h2:RepS w F a2 n2 c2 d.list) (h3:RepS w F a3 n3 c3 d.names) (p0:d.names.length≤1000) (p1:∀ n∈d.names,n.length≤1000) (p2:d.list.length≤1000) (p3:d.files.length≤1000) (p4:∀ f∈d.files,Ck f.part):Calls Tryz.prog 72 [.agg #[.slice a1 n1 c1,.slice a2 n2 c2,.slice a3 n3 c3,.int .i64 d.next]].toArray w (BB fun rv w'=>(∃ (r0 n0 c0:Nat) (r1 n1 c1:Nat) (r2 n2 c2:Nat),rv=.agg #[.slice (some ⟨r0,0,none⟩) n0 c0,.slice (some ⟨r1,0,none⟩) n1 c1,.slice (some ⟨r2,0,none⟩) n2 c2,.int .i64 (((BP d)).next)]∧Own w' r0 50 (nin (ge w.heap.size) [r0,r1,r2]) n0 c0 (((BP d)).files)∧w.heap.size≤r0∧Own w' r1 3 (nin (ge w.heap.size) [r0,r1,r2]) n1 c1 (((BP d)).list)∧w.heap.size≤r1∧Nb r1 r0∧Own w' r2 43 (nin (ge w.heap.size) [r0,r1,r2]) n2 c2 (((BP d)).names)∧w.heap.size≤r2∧Nb r2 r0∧Nb r2 r1)∧Ext w w'):=by
 refine goT func72 ?_
 obtain ⟨rfl,cR,h1⟩:=h1.tp
 obtain ⟨rfl,cS,h2⟩:=h2.tp
 obtain ⟨rfl,cT,h3⟩:=h3.tp
 refine .s<|.g<|.np 36 [.slice a1 d.files.length c1,.slice a2 d.list.length c2,.slice a3 d.names.length c3,vI d.next] fun ab dE br aO E b7=>?_
 replace ⟨h1,h2,h3⟩:=(sn [] aO br).g3 h1 h2 h3
 have C:=aO
 refine .np 36 [AH,AH,AH,vI 0] fun ae dF aP bt J b8=>?_
 have cU:=C.cn aP
 replace ⟨h1,h2,h3,E,C⟩:=(sn [ab] bt aP).g5 h1 h2 h3 E C
 refine .d<|.s<|.g<|.ns 0 50 [] fun aA aQ ax bu b9 cd=>?_
 have ce:=AX ax E.lt
 have cg:=AX ax J.lt
 have ci:=Ae ax C.size
 have cj:=C.cn ax
 replace ⟨h1,h2,h3,E,J,C⟩:=(sn [ae,ab] bu ax).g6 h1 h2 h3 E J C
 have ck:Own (α:=Fil) aQ aA 50 (nin (ge w.heap.size) [aA,ae,ab]) 0 0 []:=Own.Aj b9
 refine .r 1<|.d<|.s<|.s<|.g<|.r 1<|.d<|.b 0<|T.loop (X:=(List Fil) × Nat × Nat × Nat × Nat) (([]:List Fil),aA,0,0,0) (fun (files,r_files,n_files,c_files,i)=>[(1,.pointer (some ⟨ab,0,none⟩)),(2,.pointer (some ⟨ae,0,none⟩)),(3,vS r_files n_files c_files),(4,vI (i:Int))]) (fun (files,r_files,n_files,c_files,i) ao=>Chg (ins [aA]) aQ ao∧Own ao r_files 50 (nin (ge w.heap.size) [r_files,ae,ab]) n_files c_files files∧OrB r_files aA aQ.heap.size∧(i≤d.files.length)∧(files.length≤i)∧(files++(d.files.drop i).map JM=d.files.map JM)) (fun (files,r_files,n_files,c_files,i)=>d.files.length - i) AA ⟨AA,AA,AA,AA,trivial⟩ ⟨Chg.refl _ _,ck,BU,AD,AD,AD⟩ ?_
 rintro ⟨files,r_files,n_files,c_files,i⟩ dG ao ⟨ac,W,aq,cV,cW,cX⟩ aR
 have aB:=Ay aq ce E.lt
 have cY:=Ay aq cg J.lt
 have cm:=Bz aq ci C.size
 have cZ:=BA aq cj C.size
 have co:Cov (ins [aA]) aQ aA:=⟨.inl AI⟩
 have c7:=BA aq co (Nat.le_refl _)
 have bv:Mv [aA,ae,ab] [r_files,ae,ab] aQ ao:=Mv.inl ac (all_cons AI all_nil) (all_cons (Bb aq AI) (all_cons (.inl AJ) (all_cons (.inl AK) all_nil)))
 replace ⟨h1,h2,h3,E,J,C⟩:=(sp bv ac).g6 h1 h2 h3 E J C
 have c8:=W.len; have c9:=W.max
 refine .s<|.s<|.g<|.r 2<|.lb E<|.r 1<|.bp ((i:Int)< (d.files.length:Int)) (fun cp=>?_) (fun cp=>?_)
 ·refine .d<|.ct<|.sk<|.s<|.b 1 ?_
  replace h1:=h1.BO
  replace h2:=h2.BO
  replace h3:=h3.BO
  have aS:Gb (ab+1) ao.heap.size:=E.lt
  refine .gd (mtb [r_files] ao.heap.size) 17 fun da aT=>?_
  replace ⟨h1,h2,h3,E,J,W,C,ac⟩:=(se [r_files,ae,ab] aT).g8 h1 h2 h3 E J W C ac
  refine .r [0,1]<|.lb 2 E (BL (all_cons (Nb.symm aB) all_nil) aS)<|.r [3] ?_
  have bC:i< d.files.length:=AB
  refine .ix 4 i 3 h1 bC<|.r [5] ?_
  obtain ⟨ag,ar⟩:∃ y,d.files[i]? = some y:=⟨_,AU AB⟩
  have cC:=Ai ar; have cq:=AV ar
  obtain ⟨_,⟨db,de,df,dg,dh,dj,rfl,aU,aV⟩,aW⟩:=h1.elem i ag ar
  have bD:=aU.len
  subst bD
  have bE:=aV.len
  subst bE
  refine .lh 6 0 aW (h1.nS (Dd ar) (all_cons AI all_nil))<|.r [7]<|.lb 8 E (BL (all_cons (Nb.symm aB) all_nil) aS)<|.r [9] ?_
  have bF:i< d.files.length:=AB
  refine .ix 10 i 3 h1 bF<|.r [11]<|.lg 12 1 aW (h1.nS (Dd ar) (all_cons AI all_nil))<|.r [13]<|.go 14<|.cl (fun aX al=>DN ag.part (⟨([]:List Int),([]:List (List Row))⟩:Prt) (aU.ta.ext al) (aV.ta.ext al) ((RepS.Aj _ all none 0 AE).ext al) ((RepS.Aj _ all none 0 AE).ext al) (p4 _ ‹_›) (by simp [Ck]) (w:=aX) (F:=all)) ?_
  intro aX al
  replace ⟨h2,h3,E,J,W,C,ac⟩:=(se [r_files,ae,ab] al).g7 h2 h3 E J W C ac
  rintro dm dp ⟨⟨_,rfl,⟨cr,dq,cu,cw,dr,cx,rfl,ah,ai⟩⟩,aC⟩
  have aD:=al3 W.lt J.lt E.lt
  have aY:Gb w.heap.size aX.heap.size:=C.size
  have hkeep_:=aC
  replace ⟨h2,h3,E,J,W,C,ac⟩:=(se [r_files,ae,ab] aC).g7 h2 h3 E J W C ac
  refine ⟨Ext.chg hkeep_,?_⟩
  have ah:=ah.fr aD aY
  have cF:=ah.max
  have ai:=ai.fr aD aY
  have cG:=ai.max
  have bG:=ah.len
  subst bG
  have bH:=ai.len
  subst bH
  refine .r [15]<|.go 16<|.ns 1 50 [vI ag.num,.slice cr (((BW ag.part (⟨([]:List Int),([]:List (List Row))⟩:Prt)).ids).length) cu,.slice cw (((BW ag.part (⟨([]:List Int),([]:List (List Row))⟩:Prt)).blocks).length) cx] fun dt aZ=>?_
  replace ⟨h2,h3,E,J,W,ah,ai,C,ac⟩:=(se [r_files,ae,ab] aZ).g9 h2 h3 E J W ah ai C ac
  intro bw du au ba aE bI
  have bJ:=AX au E.lt
  have bK:=AX au J.lt
  have bc:=AX au W.lt
  have bL:=Ae au C.size
  replace ⟨h2,h3,E,J,W,ah,ai,C,ac⟩:=(se [r_files,ae,ab] ba).g9 h2 h3 E J W ah ai C ac
  refine .d fun dv bd=>?_
  replace ⟨h2,h3,E,J,W,ah,ai,aE,C,ac⟩:=(se [r_files,ae,ab] bd).g10 h2 h3 E J W ah ai aE C ac
  replace h2:=h2.Aa
  replace h3:=h3.Aa
  have aN:nin (ge w.heap.size) [r_files,ae,ab] bw∧bw≠r_files:=BR bL (all_cons bc (all_cons bK (all_cons bJ all_nil))) bc
  refine RG.Ax (T:=33) (ty:=33) (y:=(⟨ag.num,(⟨(BW ag.part (⟨([]:List Int),([]:List (List Row))⟩:Prt)).ids,(BW ag.part (⟨([]:List Int),([]:List (List Row))⟩:Prt)).blocks⟩:Prt)⟩:Fil)) W aE AA AA ⟨_,_,_,_,_,_,rfl,ah.oi,ai.oi⟩ aN AB fun cy cz dw av az bg=>?_
  have bM:=CB az aq ac.size
  replace ⟨h2,h3,E,J,C,ac⟩:=(sa [r_files,ae,ab] bg az).g6 h2 h3 E J C ac
  replace av:=av.rn r_files
  exact .r 1<|.d<|.ib 1<|.g<|.r 1<|.it ((i:Int)+1)<|.r 1<|.d<|aR ((files++[(⟨ag.num,(⟨(BW ag.part (⟨([]:List Int),([]:List (List Row))⟩:Prt)).ids,(BW ag.part (⟨([]:List Int),([]:List (List Row))⟩:Prt)).blocks⟩:Prt)⟩:Fil)]),cy,n_files+1,cz,i+1) _ _ ⟨AA,AA,AA,AA,trivial⟩ ⟨ac,av,bM,AB,(by simp; omega),(by exact mapStep ‹_› ‹_› rfl)⟩ (by (simp only []; omega))
 refine .d<|.cf<|.x 0 rfl<|.s ?_
 replace h2:=h2.BO
 replace h3:=h3.BO
 have aF:Gb (ab+1) ao.heap.size:=E.lt
 refine .gd (mtb [r_files] ao.heap.size) 10 fun cA aG=>?_
 replace ⟨h2,h3,E,J,W,C⟩:=(se [r_files,ae,ab] aG).g6 h2 h3 E J W C
 have aH:Chg (mtb [r_files] ao.heap.size) ao cA:=Chg.Cb (Chg.refl (mtb [r_files] ao.heap.size) ao) aG
 refine .r [0,2]<|.lb 3 E (BL (all_cons (Nb.symm aB) all_nil) aF)<|.r [5]<|.lb 6 E (BL (all_cons (Nb.symm aB) all_nil) aF)<|.r [8]<|.lb 9 E (BL (all_cons (Nb.symm aB) all_nil) aF)<|.go 1<|.ns 0 3 [] fun dx bh=>?_
 replace ⟨h2,h3,E,J,W,C,aH⟩:=(se [r_files,ae,ab] bh).g7 h2 h3 E J W C aH
 intro ay cB aj bi bN bO
 have cJ:=AX aj E.lt
 have bP:=AX aj J.lt
 have bQ:=AX aj W.lt
 have bR:=Ae aj C.size
 have cK:=C.cn aj
 have bS:=aH.cn aj
 replace ⟨h2,h3,E,J,W,C⟩:=(sn [r_files,ae,ab] bi aj).g6 h2 h3 E J W C
 have aI:Own (α:=Int) cB ay 3 (nin (ge w.heap.size) [ay,r_files,ae,ab]) 0 0 []:=Own.Aj bN
 refine .go 4<|GE.append (T:=34) (ty:=34) (args:=[vS ay 0 0,.slice a2 d.list.length c2]) AA fun dy bj=>?_
 replace ⟨h2,h3,E,J,W,aI,C⟩:=(se [ay,r_files,ae,ab] bj).g7 h2 h3 E J W aI C
 obtain ⟨aw,bz,dz,bk,aa,ak,aJ,bT⟩:=Own.BG (P:=Tryz.prog) (T:=34) (ty:=34) BS aI AA h2 (fun b h e=>h.2 (e▸AI)) AB
 refine ⟨_,_,bk,Chg.toS aJ (Cov.toS bS),?_⟩
 have cL:=Ag ak bP J.lt
 have bU:=Ag ak bQ W.lt
 have bV:=Bt ak bR C.size
 replace ⟨h3,E,J,W,C⟩:=(sa [ay,r_files,ae,ab] aJ ak).g5 h3 E J W C
 replace aa:=aa.rn ay
 refine .go 7<|.cl (fun bm aK=>Ca d.names (h3.ta.ext aK) AB (by intro n hn; have:=p1 n hn; omega) (w:=bm) (F:=all)) ?_
 intro bm aK
 replace ⟨E,J,W,aa,C⟩:=(se [aw,r_files,ae,ab] aK).g5 E J W aa C
 rintro dA dB ⟨⟨aM,bA,bB,rfl,af,am⟩,aL⟩
 have bn:=al4 aa.lt W.lt J.lt E.lt
 have bW:Gb w.heap.size bm.heap.size:=C.size
 have hkeep_:=aL
 have cO:=Ah am J.lt
 have bX:=Ah am W.lt
 have bY:=Ah am aa.lt
 have bZ:=Bo am C.size
 replace ⟨J,W,aa,C⟩:=(sz [aw,r_files,ae,ab] aL am).g4 J W aa C
 refine ⟨Ext.chg hkeep_,?_⟩
 replace af:=Own.take (s0:=w.heap.size) (M:=[aw,r_files,ae,ab]) af bn bW
 refine .d fun dC bo=>?_
 replace ⟨J,W,aa,af,C⟩:=(se [aM,aw,r_files,ae,ab] bo).g5 J W aa af C
 refine .r 1<|.sc [vS r_files n_files c_files,vS aw (0+d.list.length) bz,vS aM bA bB,vI d.next] J fun dD bq b0 b6=>?_
 replace ⟨W,aa,af,C⟩:=(so [aM,aw,r_files,ae,ab] bq).g4 W aa af C
 exact .d<|.rb func72 results72 b0 ⟨⟨r_files,n_files,c_files,aw,(0+d.list.length),bz,aM,bA,bB,(by rw [show d.next=(((BP d)).next) from by rfl]),((Own.Ap W (all_cons AK (all_cons AJ (all_cons AI all_nil)))).eqx (by exact PD ‹_› AB)),cm,((Own.Ap aa (all_cons AK (all_cons AJ (all_cons AI all_nil)))).eqx AF),bV,bU,((Own.Ap af (all_cons AK (all_cons AJ (all_cons AI all_nil)))).eqx AF),bZ,bX,bY⟩,C⟩
theorem K4 (d:Dsk) (x:Stp) (h1:RepS w F a1 n1 c1 d.files) (h2:RepS w F a2 n2 c2 d.list) (h3:RepS w F a3 n3 c3 d.names) (h4:RepS w F a4 n4 c4 x.part.ids) (h5:RepS w F a5 n5 c5 x.part.blocks) (h6:RepS w F a6 n6 c6 x.list) (h7:RepS w F a7 n7 c7 x.names) (p0:d.files.length≤2000) (p1:d.list.length≤2000) (p2:II x):Calls Tryz.prog 149 [.agg #[.slice a1 n1 c1,.slice a2 n2 c2,.slice a3 n3 c3,.int .i64 d.next],.agg #[.int .i64 x.kind,.int .i64 x.num,.slice a4 n4 c4,.slice a5 n5 c5,.slice a6 n6 c6,.slice a7 n7 c7]].toArray w (BB fun rv w'=>VS (fo F w.heap.size) w' (doD d x:Dsk) rv∧Ext w w'):=by
 refine goT func149 ?_
 obtain ⟨rfl,gf,h1⟩:=h1.tp
 obtain ⟨rfl,gh,h2⟩:=h2.tp
 obtain ⟨rfl,gi,h3⟩:=h3.tp
 obtain ⟨rfl,gj,h4⟩:=h4.tp
 obtain ⟨rfl,gk,h5⟩:=h5.tp
 obtain ⟨rfl,gl,h6⟩:=h6.tp
 obtain ⟨rfl,gm,h7⟩:=h7.tp
 refine .s<|.g<|.np 36 [.slice a1 d.files.length c1,.slice a2 d.list.length c2,.slice a3 d.names.length c3,vI d.next] fun ab hO bN bO J eI=>?_
 have gn:Cov nil w ab:=Bf bN (Nat.le_refl _)
 replace ⟨h1,h2,h3,h4,h5,h6,h7⟩:=(sn [] bO bN).g7 h1 h2 h3 h4 h5 h6 h7
 have C:=bO
 refine .np 137 [vI x.kind,vI x.num,.slice a4 x.part.ids.length c4,.slice a5 x.part.blocks.length c5,.slice a6 x.list.length c6,.slice a7 x.names.length c7] fun ac hQ bP cK E eJ=>?_
 have gp:=AX bP J.lt
 replace ⟨h1,h2,h3,h4,h5,h6,h7,J,C⟩:=(sn [ab] cK bP).g9 h1 h2 h3 h4 h5 h6 h7 J C
 refine .np 36 [AH,AH,AH,vI 0] fun ae aP bd cL W eK=>?_
 have gq:=AX bd J.lt
 have gr:=AX bd E.lt
 have gs:=C.cn bd
 replace ⟨h1,h2,h3,h4,h5,h6,h7,J,E,C⟩:=(sn [ac,ab] cL bd).g10 h1 h2 h3 h4 h5 h6 h7 J E C
 refine .d<|.s<|.s<|.g<|.r 1<|.lb E<|.d<|.b 0<|.s<|.g<|.eq x.kind 1 (fun eL=>?_) (fun eL=>?_)
 ·refine .r 1<|.d<|.ct<|.s<|T.D3 (X:=Nat × Nat × Nat) (mtb [] aP.heap.size) 10 (fun (aN,cJ,aL)=>[(2,.pointer (some ⟨ab,0,none⟩)),(3,.pointer (some ⟨ac,0,none⟩)),(4,.pointer (some ⟨ae,0,none⟩)),(13,vS aN (0+d.files.length) cJ),(19,vS aL 1 1)]) (fun (aN,cJ,aL) bJ=>Ext aP bJ∧aP.heap.size≤aN∧aP.heap.size≤aL∧Nb aL aN∧Own bJ aN 50 (nin (fo F w.heap.size) [aN,ae,ac,ab]) (0+d.files.length) cJ (([]++d.files):List Fil)∧Box bJ aL 50 [vI x.num,.slice a4 x.part.ids.length c4,.slice a5 x.part.blocks.length c5]) AA (fun eM aY=>?_) ?_
  ·replace h1:=h1.BO
   replace h2:=h2.BO
   replace h3:=h3.BO
   replace h4:=h4.BO
   replace h5:=h5.BO
   replace h6:=h6.BO
   replace h7:=h7.BO
   have cT:Gb (ab+1) aP.heap.size:=J.lt
   have bQ:Gb (ac+1) aP.heap.size:=E.lt
   replace ⟨h1,h2,h3,h4,h5,h6,h7,J,E,W,C⟩:=(se [ae,ac,ab] aY).g11 h1 h2 h3 h4 h5 h6 h7 J E W C
   have aa:=aY
   have af:Chg (mtb [] aP.heap.size) aP eM:=Chg.Cb (Chg.refl (mtb [] aP.heap.size) aP) aY
   refine .r [1]<|.lb 2 J (BL all_nil cT)<|.r [4]<|.lb 5 E (BL all_nil bQ)<|.r [6]<|.ln 7 E (BL all_nil bQ)<|.r [8]<|.tw 0 9 ?_ ?_
   ·refine .ns 0 50 [] fun gt bg=>?_
    replace ⟨h1,h2,h3,h4,h5,h6,h7,J,E,W,C,aa⟩:=(se [ae,ac,ab] bg).g12 h1 h2 h3 h4 h5 h6 h7 J E W C aa
    replace af:=(se [ae,ac,ab] bg).g1 af
    intro ah eN ar bh cU cV
    have ff:=AX ar J.lt
    have fg:=AX ar E.lt
    have fh:=AX ar W.lt
    have fi:=C.cn ar
    have bR:=aa.cn ar
    have bS:=af.cn ar
    replace ⟨h1,h2,h3,h4,h5,h6,h7,J,E,W,C,aa⟩:=(sn [ae,ac,ab] bh ar).g12 h1 h2 h3 h4 h5 h6 h7 J E W C aa
    replace af:=(sn [ae,ac,ab] bh ar).g1 af
    have al:Own (α:=Fil) eN ah 50 (nin (fo F w.heap.size) [ah,ae,ac,ab]) 0 0 []:=Own.Aj cU
    refine .tw 3 9 ?_ ?_
    ·refine GE.append (T:=33) (ty:=33) (args:=[vS ah 0 0,.slice a1 d.files.length c1]) AA fun gu bi=>?_
     replace ⟨h1,h2,h3,h4,h5,h6,h7,J,E,W,al,C⟩:=(se [ah,ae,ac,ab] bi).g12 h1 h2 h3 h4 h5 h6 h7 J E W al C
     replace ⟨aa,af⟩:=(se [ah,ae,ac,ab] bi).g2 aa af
     obtain ⟨aQ,eO,gv,bT,ak,aO,aZ,cW⟩:=al.append (P:=Tryz.prog) (T:=33) (ty:=33) AA (h1.base (fun _ _ h=>h.1)) (fun b _ h=>Dx AI h) (by have:=p2.1; omega)
     refine ⟨_,_,bT,Chg.toS aZ (Cov.toS bS),?_⟩
     have cX:=Aw aO bR aa.size
     replace ⟨h1,h2,h3,h4,h5,h6,h7,J,E,W,C,aa⟩:=(sa [ah,ae,ac,ab] aZ aO).g12 h1 h2 h3 h4 h5 h6 h7 J E W C aa
     replace af:=(sa [ah,ae,ac,ab] aZ aO).g1 af
     replace ak:=ak.rn ah
     refine .go 9<|.ns 1 50 [vI x.num,.slice a4 x.part.ids.length c4,.slice a5 x.part.blocks.length c5] fun gw bj=>?_
     replace ⟨h1,h2,h3,h4,h5,h6,h7,J,E,W,ak,C⟩:=(se [aQ,ae,ac,ab] bj).g12 h1 h2 h3 h4 h5 h6 h7 J E W ak C
     replace ⟨aa,af⟩:=(se [aQ,ae,ac,ab] bj).g2 aa af
     intro eP gx bk bm bn cY
     have cZ:=AX bk ak.lt
     have c8:=aa.cn bk
     replace ⟨h1,h2,h3,h4,h5,h6,h7,J,E,W,ak,C⟩:=(se [aQ,ae,ac,ab] bm).g12 h1 h2 h3 h4 h5 h6 h7 J E W ak C
     replace ⟨aa,af⟩:=(se [aQ,ae,ac,ab] bm).g2 aa af
     refine .d fun gy bo=>?_
     replace ⟨h1,h2,h3,h4,h5,h6,h7,J,E,W,ak,bn⟩:=(se [aQ,ae,ac,ab] bo).g12 h1 h2 h3 h4 h5 h6 h7 J E W ak bn
     replace ⟨C,aa,af⟩:=(se [aQ,ae,ac,ab] bo).g3 C aa af
     replace h1:=h1.Aa
     replace h2:=h2.Aa
     replace h3:=h3.Aa
     replace h4:=h4.Aa
     replace h5:=h5.Aa
     replace h6:=h6.Aa
     replace h7:=h7.Aa
     exact ⟨(aQ,eO,eP),⟨AA,AA,AA,AA,AA,trivial⟩,⟨aa,(Ad cX),(Ad c8),cZ,ak,bn⟩⟩
    refine .ns 1 50 [vI x.num,.slice a4 x.part.ids.length c4,.slice a5 x.part.blocks.length c5] fun gz bq=>?_
    replace ⟨h1,h2,h3,h4,h5,h6,h7,J,E,W,al,C⟩:=(se [ah,ae,ac,ab] bq).g12 h1 h2 h3 h4 h5 h6 h7 J E W al C
    replace ⟨aa,af⟩:=(se [ah,ae,ac,ab] bq).g2 aa af
    intro eQ gA br bt aw c9
    have da:=AX br al.lt
    have db:=aa.cn br
    replace ⟨h1,h2,h3,h4,h5,h6,h7,J,E,W,al,C⟩:=(se [ah,ae,ac,ab] bt).g12 h1 h2 h3 h4 h5 h6 h7 J E W al C
    replace ⟨aa,af⟩:=(se [ah,ae,ac,ab] bt).g2 aa af
    refine .go 3<|GE.append (T:=33) (ty:=33) (args:=[vS ah 0 0,.slice a1 d.files.length c1]) AA fun gC bu=>?_
    replace ⟨h1,h2,h3,h4,h5,h6,h7,J,E,W,al,aw⟩:=(se [ah,ae,ac,ab] bu).g12 h1 h2 h3 h4 h5 h6 h7 J E W al aw
    replace ⟨C,aa,af⟩:=(se [ah,ae,ac,ab] bu).g3 C aa af
    obtain ⟨bU,eR,gD,bV,aB,aH,ba,de⟩:=al.append (P:=Tryz.prog) (T:=33) (ty:=33) AA (h1.base (fun _ _ h=>h.1)) (fun b _ h=>Dx AI h) (by have:=p2.1; omega)
    refine ⟨_,_,bV,Chg.toS ba (Cov.toS bS),?_⟩
    have df:=Ag aH (Nb.symm da) aw.lt
    have dg:=Aw aH bR aa.size
    replace ⟨h1,h2,h3,h4,h5,h6,h7,J,E,W,aw,C⟩:=(sa [ah,ae,ac,ab] ba aH).g12 h1 h2 h3 h4 h5 h6 h7 J E W aw C
    replace ⟨aa,af⟩:=(sa [ah,ae,ac,ab] ba aH).g2 aa af
    replace aB:=aB.rn ah
    refine .d fun gE bv=>?_
    replace ⟨h1,h2,h3,h4,h5,h6,h7,J,E,W,aB,aw⟩:=(se [bU,ae,ac,ab] bv).g12 h1 h2 h3 h4 h5 h6 h7 J E W aB aw
    replace ⟨C,aa,af⟩:=(se [bU,ae,ac,ab] bv).g3 C aa af
    replace h1:=h1.Aa
    replace h2:=h2.Aa
    replace h3:=h3.Aa
    replace h4:=h4.Aa
    replace h5:=h5.Aa
    replace h6:=h6.Aa
    replace h7:=h7.Aa
    exact ⟨(bU,eR,eQ),⟨AA,AA,AA,AA,AA,trivial⟩,⟨aa,(Ad dg),(Ad db),(Nb.symm df),aB,aw⟩⟩
   refine .ns 1 50 [vI x.num,.slice a4 x.part.ids.length c4,.slice a5 x.part.blocks.length c5] fun gF bw=>?_
   replace ⟨h1,h2,h3,h4,h5,h6,h7,J,E,W,C,aa⟩:=(se [ae,ac,ab] bw).g12 h1 h2 h3 h4 h5 h6 h7 J E W C aa
   replace af:=(se [ae,ac,ab] bw).g1 af
   intro eS gG bW bz ai dh
   have dj:=aa.cn bW
   replace ⟨h1,h2,h3,h4,h5,h6,h7,J,E,W,C,aa⟩:=(se [ae,ac,ab] bz).g12 h1 h2 h3 h4 h5 h6 h7 J E W C aa
   replace af:=(se [ae,ac,ab] bz).g1 af
   refine .go 0<|.ns 0 50 [] fun gH bA=>?_
   replace ⟨h1,h2,h3,h4,h5,h6,h7,J,E,W,ai,C⟩:=(se [ae,ac,ab] bA).g12 h1 h2 h3 h4 h5 h6 h7 J E W ai C
   replace ⟨aa,af⟩:=(se [ae,ac,ab] bA).g2 aa af
   intro aM eT aq bB dm dp
   have fq:=AX aq J.lt
   have ft:=AX aq E.lt
   have fu:=AX aq W.lt
   have dq:=AX aq ai.lt
   have fv:=C.cn aq
   have dr:=aa.cn aq
   have dt:=af.cn aq
   replace ⟨h1,h2,h3,h4,h5,h6,h7,J,E,W,ai,C⟩:=(sn [ae,ac,ab] bB aq).g12 h1 h2 h3 h4 h5 h6 h7 J E W ai C
   replace aa:=(sn [ae,ac,ab] bB aq).g1 aa
   have bC:Own (α:=Fil) eT aM 50 (nin (fo F w.heap.size) [aM,ae,ac,ab]) 0 0 []:=Own.Aj dm
   refine .go 3<|GE.append (T:=33) (ty:=33) (args:=[vS aM 0 0,.slice a1 d.files.length c1]) AA fun gI bD=>?_
   replace ⟨h1,h2,h3,h4,h5,h6,h7,J,E,W,ai,bC⟩:=(se [aM,ae,ac,ab] bD).g12 h1 h2 h3 h4 h5 h6 h7 J E W ai bC
   replace ⟨C,aa⟩:=(se [aM,ae,ac,ab] bD).g2 C aa
   obtain ⟨bX,eU,gJ,bY,aC,aI,bc,du⟩:=bC.append (P:=Tryz.prog) (T:=33) (ty:=33) AA (h1.base (fun _ _ h=>h.1)) (fun b _ h=>Dx AI h) (by have:=p2.1; omega)
   refine ⟨_,_,bY,Chg.toS bc (Cov.toS dt),?_⟩
   have dv:=Ag aI dq ai.lt
   have dw:=Aw aI dr aa.size
   replace ⟨h1,h2,h3,h4,h5,h6,h7,J,E,W,ai,C⟩:=(sa [aM,ae,ac,ab] bc aI).g12 h1 h2 h3 h4 h5 h6 h7 J E W ai C
   replace aa:=(sa [aM,ae,ac,ab] bc aI).g1 aa
   replace aC:=aC.rn aM
   refine .d fun gK bE=>?_
   replace ⟨h1,h2,h3,h4,h5,h6,h7,J,E,W,ai,aC⟩:=(se [bX,ae,ac,ab] bE).g12 h1 h2 h3 h4 h5 h6 h7 J E W ai aC
   replace ⟨C,aa⟩:=(se [bX,ae,ac,ab] bE).g2 C aa
   replace h1:=h1.Aa
   replace h2:=h2.Aa
   replace h3:=h3.Aa
   replace h4:=h4.Aa
   replace h5:=h5.Aa
   replace h6:=h6.Aa
   replace h7:=h7.Aa
   exact ⟨(bX,eU,eS),⟨AA,AA,AA,AA,AA,trivial⟩,⟨aa,(Ad dw),(Ad dj),(Nb.symm dv),aC,ai⟩⟩
  rintro ⟨aN,cJ,aL⟩ gL bJ ⟨bZ,aD,aR,b0,b6,eV⟩
  have dx:=Ah aD J.lt
  have dy:=Ah aD E.lt
  have dz:=Ah aD W.lt
  have dA:=Bo aD C.size
  have fB:Cov nil w aN:=BT aD C.size
  have dB:=Ah aR J.lt
  have dC:=Ah aR E.lt
  have dD:=Ah aR W.lt
  have dE:=Bo aR C.size
  replace ⟨h1,h2,h3,h4,h5,h6,h7,J,E,W,C⟩:=(sz [ae,ac,ab] bZ aD).g11 h1 h2 h3 h4 h5 h6 h7 J E W C
  have fC:=b6.len
  have bL:nin (fo F w.heap.size) [aN,ae,ac,ab] aL∧aL≠aN:=BR (.inr dE) (all_cons b0 (all_cons dD (all_cons dC (all_cons dB all_nil)))) b0
  refine RG.Ax (T:=33) (ty:=33) (y:=(⟨x.num,(⟨x.part.ids,x.part.blocks⟩:Prt)⟩:Fil)) b6 eV AA AA ⟨_,_,_,_,_,_,rfl,h4.oi,h5.oi⟩ bL (by have:=p2.1; omega) fun aS cM gM am ay b7=>?_
  have fE:=Ag ay dx J.lt
  have fF:=Ag ay dy E.lt
  have fG:=Ag ay dz W.lt
  have dF:=Bt ay dA C.size
  replace ⟨h1,h2,h3,h6,h7,J,E,W,C⟩:=(sa [aN,ae,ac,ab] b7 ay).g9 h1 h2 h3 h6 h7 J E W C
  replace am:=am.rn aN
  refine .r 1<|.ss 0 (vS aS (0+d.files.length+1) cM) J fun gN b8 dG dH=>?_
  replace ⟨h1,h2,h3,h6,h7,E,W,am,C⟩:=(so [aS,ae,ac,ab] b8).g9 h1 h2 h3 h6 h7 E W am C
  refine .d<|.g<|.r 1<|.lb E<|RG.int (x.num+1) AA (by have q1:=Ce d x.num; have q2:=p2.2.2.2; omega)<|.r 1<|.ss 3 (vI (x.num+1)) dG fun gO b9 dI dJ=>?_
  replace ⟨h1,h2,h3,h6,h7,E,W,am,C⟩:=(so [aS,ae,ac,ab] b9).g9 h1 h2 h3 h6 h7 E W am C
  refine .d<|.ib 0<|.s<|.g<|.ln dI<|.sc [vS aS (0+d.files.length+1) cM,.slice a2 d.list.length c2,.slice a3 d.names.length c3,vI (x.num+1)] W fun eW cd dK dL=>?_
  replace ⟨h1,h2,h3,h6,h7,E,am,C⟩:=(so [aS,ae,ac,ab] cd).g8 h1 h2 h3 h6 h7 E am C
  refine .d ?_
  have eX:=am.sl (.inr dF)
  replace ⟨h1,h2,h3,h6,h7⟩:=(sd eW [aS,ae,ac,ab] aS).g5 h1 h2 h3 h6 h7
  exact .rb func149 results149 dK ⟨(VS.of (y:=(⟨(([]++d.files)++[(⟨x.num,(⟨x.part.ids,x.part.blocks⟩:Prt)⟩:Fil)]),d.list,d.names,x.num+1⟩:Dsk)) ⟨_,rfl,⟨_,_,_,_,_,_,_,_,_,rfl,eX.w1,h2.w1,h3.w1⟩⟩ (by (rw [E6 ‹_›]; simp; done))),C⟩
 refine .r 1<|.d<|.cf<|.s<|.g<|.eq x.kind 2 (fun dM=>?_) (fun dM=>?_)
 ·refine .r 1<|.d<|.ct<|.s<|.g<|.ns 0 3 [] fun bK eY aE cg dN dO=>?_
  have dP:=AX aE J.lt
  have dQ:=AX aE E.lt
  have dR:=AX aE W.lt
  have dS:=Ae aE C.size
  have fJ:=C.cn aE
  replace ⟨h1,h2,h3,h6,h7,J,E,W,C⟩:=(sn [ae,ac,ab] cg aE).g9 h1 h2 h3 h6 h7 J E W C
  have dT:Own (α:=Int) eY bK 3 (nin (fo F w.heap.size) [bK,ae,ac,ab]) 0 0 []:=Own.Aj dN
  refine .r 1<|.lb E<|RG.BG (T:=34) (ty:=34) BS dT h6 AA AA (fun b h e=>h.2 (e▸AI)) (by have:=p2.1; omega) fun aJ cN gP ag az ci=>?_
  have fK:=Ag az dP J.lt
  have fL:=Ag az dQ E.lt
  have fM:=Ag az dR W.lt
  have dU:=Bt az dS C.size
  replace ⟨h1,h2,h3,h7,J,E,W,C⟩:=(sa [bK,ae,ac,ab] ci az).g8 h1 h2 h3 h7 J E W C
  replace ag:=ag.rn bK
  refine .r 1<|.ss 1 (vS aJ (0+x.list.length) cN) J fun cO cj aT dV=>?_
  replace ⟨h1,h2,h3,h7,E,W,ag,C⟩:=(so [aJ,ae,ac,ab] cj).g8 h1 h2 h3 h7 E W ag C
  refine .d<|.g<|.r 1<|.lb E<|.cl (Ca x.names h7.ta (by have:=p2.2.1; omega) (by intro n hn; have:=p2.2.2.1 n hn; omega) (w:=cO) (F:=all)) ?_
  rintro gQ gR ⟨⟨aU,cP,cQ,rfl,aj,aF⟩,ck⟩
  have cm:=al4 ag.lt W.lt E.lt aT.lt
  have dW:Gb w.heap.size cO.heap.size:=C.size
  have fP:=Ah aF aT.lt
  have fQ:=Ah aF E.lt
  have fR:=Ah aF W.lt
  have fS:=Ah aF ag.lt
  have dX:=Bo aF C.size
  replace ⟨h1,h2,h3,aT,E,W,ag,C⟩:=(sz [aJ,ae,ac,ab] ck aF).g8 h1 h2 h3 aT E W ag C
  replace aj:=Own.take (s0:=w.heap.size) (M:=[aJ,ae,ac,ab]) aj cm dW
  replace aj:=aj.base (G':=fo F w.heap.size) (fun _ _ h=>.inr h)
  refine .r 1<|.ss 2 (vS aU cP cQ) aT fun gS co dY dZ=>?_
  replace ⟨h1,h2,h3,E,W,ag,aj,C⟩:=(so [aU,aJ,ae,ac,ab] co).g8 h1 h2 h3 E W ag aj C
  refine .d<|.ib 0<|.s<|.g<|.ln dY<|.sc [.slice a1 d.files.length c1,vS aJ (0+x.list.length) cN,vS aU cP cQ,vI d.next] W fun cR cp d0 d3=>?_
  replace ⟨h1,h2,h3,E,ag,aj,C⟩:=(so [aU,aJ,ae,ac,ab] cp).g7 h1 h2 h3 E ag aj C
  refine .d ?_
  have cq:=ag.sl (.inr dU)
  replace ⟨h1,h2,h3,aj⟩:=(sd cR [aU,aJ,ae,ac,ab] aJ).g4 h1 h2 h3 aj
  have eZ:=aj.sl (.inr dX)
  replace ⟨h1,h2,h3,cq⟩:=(sd cR [aU,ae,ac,ab] aU).g4 h1 h2 h3 cq
  exact .rb func149 results149 d0 ⟨(VS.of (y:=(⟨d.files,([]++x.list),x.names,d.next⟩:Dsk)) ⟨_,rfl,⟨_,_,_,_,_,_,_,_,_,rfl,h1.w1,cq.w1,eZ.w1⟩⟩ (by (rw [Fs ‹_›]; simp; done))),C⟩
 refine .r 1<|.d<|.cf<|.s<|.g<|.eq x.kind 3 (fun d4=>?_) (fun d4=>?_)
 ·refine .r 1<|.d<|.ct<|.s<|.g<|.ln J<|.r 1<|.lb E<|.cl (EO d x.num h1.ta h2.ta h3.ta (w:=aP) (F:=all)) ?_
  rintro gT e7 ⟨rfl,cr⟩
  replace ⟨h1,h2,h3,J,E,W,C⟩:=(se [ae,ac,ab] cr).g7 h1 h2 h3 J E W C
  refine .r 1<|.d<|.s<|.g<|.r 1<|.bp (Av d x.num≥0) (fun d5=>?_) (fun d5=>?_)
  ·refine .r 1<|.ln J<|.r 1<|.lb E<|.cl (E5 d x.num h1.ta h2.ta h3.ta (w:=e7) (F:=all)) ?_
   rintro gU aV ⟨rfl,cu⟩
   replace ⟨h1,h2,h3,J,E,W,C⟩:=(se [ae,ac,ab] cu).g7 h1 h2 h3 J E W C
   cases fV:(d.list.contains x.num)
   ·refine .r 2<|.d<|.ct ?_
    replace h1:=h1.BO
    replace h2:=h2.BO
    replace h3:=h3.BO
    have cw:Gb (ab+1) aV.heap.size:=J.lt
    refine .gd (mtb [] aV.heap.size) 11 fun e8 bF=>?_
    replace ⟨h1,h2,h3,J,E,W,C⟩:=(se [ae,ac,ab] bF).g7 h1 h2 h3 J E W C
    have bG:Chg (mtb [] aV.heap.size) aV e8:=Chg.Cb (Chg.refl (mtb [] aV.heap.size) aV) bF
    refine .r [1]<|.lb 2 J (BL all_nil cw)<|.r [3]<|GA.sub (i:=4) (t:=33) (lo:=none) (hi:=some (vI (Av d x.num))) AA h1 0 ((Av d x.num).toNat) AA AA (.inl ⟨rfl,rfl⟩) (.inr ⟨_,_,rfl,by omega⟩) (by have q1:=Ce d x.num; omega) (by have q1:=Ce d x.num; omega) fun fa fb aK=>?_
    have fW:=aK.len; have fX:=aK.max
    refine .r [6]<|.lb 7 J (BL all_nil cw)<|.r [8]<|GA.int (i:=9) (Av d x.num+1) AA (by have q1:=Ce d x.num; omega)<|GA.sub (i:=10) (t:=33) (lo:=some (vI (Av d x.num+1))) (hi:=none) AA h1 ((Av d x.num+1).toNat) d.files.length AA AA (.inr ⟨_,_,rfl,by omega⟩) (.inl ⟨rfl,rfl⟩) (by have q1:=Ce d x.num; omega) (by have q1:=Ce d x.num; omega) fun gV gW ao=>?_
    have fY:=ao.len; have fZ:=ao.max
    refine .go 0<|.ns 0 50 [] fun gX cx=>?_
    replace ⟨h1,h2,h3,J,E,W,aK,ao,C,bG⟩:=(se [ae,ac,ab] cx).g10 h1 h2 h3 J E W aK ao C bG
    intro aW fc ax cy d6 d7
    have d8:=AX ax J.lt
    have d9:=AX ax E.lt
    have ec:=AX ax W.lt
    have ed:=Ae ax C.size
    have ee:=C.cn ax
    have ef:=bG.cn ax
    replace ⟨h1,h2,h3,J,E,W,aK,ao,C⟩:=(sn [ae,ac,ab] cy ax).g9 h1 h2 h3 J E W aK ao C
    have bH:Own (α:=Fil) fc aW 50 (nin (fo F w.heap.size) [aW,ae,ac,ab]) 0 0 []:=Own.Aj d6
    refine .go 5<|GE.append (T:=33) (ty:=33) (args:=[vS aW 0 0,.slice fa ((Av d x.num).toNat - 0) fb]) AA fun gY cz=>?_
    replace ⟨h1,h2,h3,J,E,W,aK,ao,bH,C⟩:=(se [aW,ae,ac,ab] cz).g10 h1 h2 h3 J E W aK ao bH C
    obtain ⟨cA,gZ,g0,cB,aG,au,bI,eg⟩:=bH.append (P:=Tryz.prog) (T:=33) (ty:=33) AA (aK.base (fun _ _ h=>h.1)) (fun b _ h=>Dx AI h) (by have:=p2.1; have q1:=Ce d x.num; omega)
    refine ⟨_,_,cB,Chg.toS bI (Cov.toS ef),?_⟩
    have eh:=Ag au d8 J.lt
    have ej:=Ag au d9 E.lt
    have ek:=Ag au ec W.lt
    have en:=Bt au ed C.size
    have f0:=Aw au ee C.size
    replace ⟨h1,h2,h3,J,E,W,ao,C⟩:=(sa [aW,ae,ac,ab] bI au).g8 h1 h2 h3 J E W ao C
    replace aG:=aG.rn aW
    have f5:=aG.len
    refine .d fun hC cC=>?_
    replace ⟨h1,h2,h3,J,E,W,ao,aG,C⟩:=(se [cA,ae,ac,ab] cC).g9 h1 h2 h3 J E W ao aG C
    replace h1:=h1.Aa
    replace h2:=h2.Aa
    replace h3:=h3.Aa
    replace ao:=ao.Aa
    refine RG.G2 (T:=33) (ty:=33) aG ao AA AA (fun b _ h=>Dx AI h) (by have:=p2.1; have q1:=Ce d x.num; omega) fun aX cS hD av aA cD=>?_
    have f7:=Ag aA eh J.lt
    have f8:=Ag aA ej E.lt
    have f9:=Ag aA ek W.lt
    have et:=Bt aA en C.size
    replace ⟨h1,h2,h3,J,W,C⟩:=(sa [cA,ae,ac,ab] cD aA).g6 h1 h2 h3 J W C
    replace av:=av.rn cA
    refine .r 1<|.ss 0 (vS aX (0+((Av d x.num).toNat - 0)+(d.files.length - (Av d x.num+1).toNat)) cS) J fun hE cE ey ez=>?_
    replace ⟨h1,h2,h3,W,av,C⟩:=(so [aX,ae,ac,ab] cE).g6 h1 h2 h3 W av C
    refine .d<|.ib 0<|.s<|.g<|.ln ey<|.sc [vS aX (0+((Av d x.num).toNat - 0)+(d.files.length - (Av d x.num+1).toNat)) cS,.slice a2 d.list.length c2,.slice a3 d.names.length c3,vI d.next] W fun fd cF eA eB=>?_
    replace ⟨h1,h2,h3,av,C⟩:=(so [aX,ae,ac,ab] cF).g5 h1 h2 h3 av C
    refine .d ?_
    have fe:=av.sl (.inr et)
    replace ⟨h1,h2,h3⟩:=(sd fd [aX,ae,ac,ab] aX).g3 h1 h2 h3
    exact .rb func149 results149 eA ⟨(VS.of (y:=(⟨(([]++((d.files.take ((Av d x.num).toNat)).drop 0))++((d.files.take d.files.length).drop ((Av d x.num+1).toNat))),d.list,d.names,d.next⟩:Dsk)) ⟨_,rfl,⟨_,_,_,_,_,_,_,_,_,rfl,fe.w1,h2.w1,h3.w1⟩⟩ (by (rw [Ej ‹_›,Ml ‹_› ‹_›]; have e1:(Av d x.num+1).toNat=(Av d x.num).toNat+1:=AB; simp [e1]; done))),C⟩
   refine .r 2<|.d<|.cf<|.sk<|.ib 0<|.s<|.g<|.ln J<|.sc [.slice a1 d.files.length c1,.slice a2 d.list.length c2,.slice a3 d.names.length c3,vI d.next] W fun hH cG eC eD=>?_
   replace ⟨h1,h2,h3,J,C⟩:=(so [ae,ac,ab] cG).g5 h1 h2 h3 J C
   exact .d<|.rb func149 results149 eC ⟨(VS.of (y:=d) ⟨_,rfl,⟨_,_,_,_,_,_,_,_,_,rfl,h1.w1,h2.w1,h3.w1⟩⟩ (by (rw [Ej ‹_›,K3 (.inr ‹_›)]))),C⟩
  refine .r 7<|.d<|.cf<|.sk<|.ib 0<|.s<|.g<|.ln J<|.sc [.slice a1 d.files.length c1,.slice a2 d.list.length c2,.slice a3 d.names.length c3,vI d.next] W fun hJ cH eE eF=>?_
  replace ⟨h1,h2,h3,J,C⟩:=(so [ae,ac,ab] cH).g5 h1 h2 h3 J C
  exact .d<|.rb func149 results149 eE ⟨(VS.of (y:=d) ⟨_,rfl,⟨_,_,_,_,_,_,_,_,_,rfl,h1.w1,h2.w1,h3.w1⟩⟩ (by (rw [Ej ‹_›,K3 (.inl ‹_›)]))),C⟩
 refine .r 1<|.d<|.cf<|.sk<|.ib 0<|.s<|.g<|.ln J<|.sc [.slice a1 d.files.length c1,.slice a2 d.list.length c2,.slice a3 d.names.length c3,vI d.next] W fun hN cI eG eH=>?_
 replace ⟨h1,h2,h3,C⟩:=(so [ae,ac,ab] cI).g4 h1 h2 h3 C
 exact .d<|.rb func149 results149 eG ⟨(VS.of (y:=d) ⟨_,rfl,⟨_,_,_,_,_,_,_,_,_,rfl,h1.w1,h2.w1,h3.w1⟩⟩ (by rw [R8 ‹_› ‹_› ‹_›])),C⟩
theorem K5 (d:Dsk) (steps:List Stp) (cut:Int) (h1:RepS w F a1 n1 c1 d.files) (h2:RepS w F a2 n2 c2 d.list) (h3:RepS w F a3 n3 c3 d.names) (h4:RepS w F a4 n4 c4 steps) (p0:d.files.length≤1000) (p1:steps.length≤1000) (p2:d.list.length≤1000) (p3:∀ x∈steps,II x):Calls Tryz.prog 110 [.agg #[.slice a1 n1 c1,.slice a2 n2 c2,.slice a3 n3 c3,.int .i64 d.next],.slice a4 n4 c4,.int .i64 cut].toArray w (BB fun rv w'=>VS (fo F w.heap.size) w' (toD d steps cut:Dsk) rv∧Ext w w'):=by
 refine goT func110 ?_
 obtain ⟨rfl,bC,h1⟩:=h1.tp
 obtain ⟨rfl,bD,h2⟩:=h2.tp
 obtain ⟨rfl,bE,h3⟩:=h3.tp
 obtain ⟨rfl,bF,h4⟩:=h4.tp
 refine .s<|.g<|.np 36 [.slice a1 d.files.length c1,.slice a2 d.list.length c2,.slice a3 d.names.length c3,vI d.next] fun ab cd ax ay av bg=>?_
 have bG:Cov nil w ab:=Bf ax (Nat.le_refl _)
 replace ⟨h1,h2,h3,h4⟩:=(sn [] ay ax).g4 h1 h2 h3 h4
 have C:=ay
 refine .np 36 [AH,AH,AH,vI 0] fun aj aT aw aI ag bh=>?_
 have bH:=AX aw av.lt
 have bI:=C.cn aw
 replace ⟨h1,h2,h3,h4,av,C⟩:=(sn [ab] aI aw).g6 h1 h2 h3 h4 av C
 refine .d<|.s<|.s<|.g<|.r 1<|.d<|.b 0<|T.loop (X:=Nat × (List Fil) × (Option Addr) × Nat × Nat × (List Int) × (Option Addr) × Nat × Nat × (List (List Tag)) × (Option Addr) × Nat × Nat × Int) (0,(d.files:List Fil),a1,d.files.length,c1,(d.list:List Int),a2,d.list.length,c2,(d.names:List (List Tag)),a3,d.names.length,c3,d.next) (fun (i,ac,a_d_0,n_d_0,c_d_0,ae,a_d_1,n_d_1,c_d_1,af,a_d_2,n_d_2,c_d_2,aa)=>[(1,.slice a4 steps.length c4),(2,vI cut),(3,.pointer (some ⟨ab,0,none⟩)),(6,.pointer (some ⟨aj,0,none⟩)),(7,vI (i:Int))]) (fun (i,ac,a_d_0,n_d_0,c_d_0,ae,a_d_1,n_d_1,c_d_1,af,a_d_2,n_d_2,c_d_2,aa) ar=>Chg (ins [ab]) aT ar∧RepS ar (nin (fo F w.heap.size) [aj,ab]) a_d_0 n_d_0 c_d_0 ac∧RepS ar (nin (fo F w.heap.size) [aj,ab]) a_d_1 n_d_1 c_d_1 ae∧RepS ar (nin (fo F w.heap.size) [aj,ab]) a_d_2 n_d_2 c_d_2 af∧Box ar ab 36 [.slice a_d_0 n_d_0 c_d_0,.slice a_d_1 n_d_1 c_d_1,.slice a_d_2 n_d_2 c_d_2,vI aa]∧(i≤steps.length)∧(ac.length≤d.files.length+i)∧(ae.length≤1000)∧(((steps.take cut.toNat).drop i).foldl doD ⟨ac,ae,af,aa⟩=toD d steps cut)) (fun (i,ac,a_d_0,n_d_0,c_d_0,ae,a_d_1,n_d_1,c_d_1,af,a_d_2,n_d_2,c_d_2,aa)=>steps.length - i) AA ⟨AA,AA,AA,AA,AA,trivial⟩ ⟨Chg.refl _ _,h1,h2,h3,av,AB,AB,AB,AF⟩ ?_
 rintro ⟨i,ac,a_d_0,n_d_0,c_d_0,ae,a_d_1,n_d_1,c_d_1,af,a_d_2,n_d_2,c_d_2,aa⟩ ce ar ⟨ai,E,J,W,ah,bJ,bK,bL,bM⟩ az
 have bN:Cov (ins [ab]) aT ab:=⟨.inl AI⟩
 have aJ:Mv [aj,ab] [aj,ab] aT ar:=Mv.inl ai (all_cons AJ all_nil) (all_cons (.inl AI) (all_cons (.inl AJ) all_nil))
 replace ⟨h4,ag,C⟩:=(sp aJ ai).g3 h4 ag C
 have bO:=E.len; have bP:=E.max
 have bQ:=J.len
 refine .s<|.s<|.g<|.r 3<|.bp ((i:Int)< (steps.length:Int)) (fun bi=>?_) (fun bi=>?_)
 ·refine .r 3<|.bp ((i:Int)< cut) (fun bj=>?_) (fun bj=>?_)
  ·refine .r 1<|.d<|.ct<|.sk<|.s<|.b 1<|.gd nil 5 fun cg aK=>?_
   replace ⟨h4,ah,ag,E,J,W,C,ai⟩:=(se [aj,ab] aK).g8 h4 ah ag E J W C ai
   refine .ln 0 ah id<|.r [1,2] ?_
   have bk:i< steps.length:=AB
   refine .ix 3 i 6 h4 bk ?_
   obtain ⟨ak,aA⟩:∃ y,steps[i]? = some y:=⟨_,AU AB⟩
   have bU:=Ai aA; have bu:=AV aA
   obtain ⟨_,⟨ci,cj,ck,cm,co,cp,cq,cr,cu,cw,cx,cy,rfl,aB,aC,aD,aE⟩,bm⟩:=h4.elem i ak aA
   have bn:=aB.len
   subst bn
   have bo:=aC.len
   subst bo
   have bq:=aD.len
   subst bq
   have br:=aE.len
   subst br
   refine .lg 4 0 bm id<|.d fun bt aL=>?_
   replace ⟨ah,ag,E,J,W,aB,aC,aD,aE,C,ai⟩:=(se [aj,ab] aL).g11 ah ag E J W aB aC aD aE C ai
   refine .cl (K4 (⟨ac,ae,af,aa⟩:Dsk) ak E J W aB aC aD aE (by simp only; omega) (by simp only; omega) (p3 _ ‹_›) (w:=bt) (F:=nin (fo F w.heap.size) [aj,ab])) ?_
   rintro cz cA ⟨⟨_,rfl,⟨aM,bZ,aN,aO,b0,aP,aQ,b6,aR,rfl,al,am,ao⟩⟩,aS⟩
   have aq:=al2 ag.lt ah.lt
   have au:Gb w.heap.size bt.heap.size:=C.size
   replace ⟨ah,ag,E,J,W,C,ai⟩:=(se [aj,ab] aS).g7 ah ag E J W C ai
   replace al:=RepS.Af (M:=[aj,ab]) al aq au
   have bv:=al.max
   replace am:=RepS.Af (M:=[aj,ab]) am aq au
   have bw:=am.max
   replace ao:=RepS.Af (M:=[aj,ab]) ao aq au
   have bz:=ao.max
   have aU:=al.len
   subst aU
   have aV:=am.len
   subst aV
   have aW:=ao.len
   subst aW
   refine .sc [.slice aM (((doD (⟨ac,ae,af,aa⟩:Dsk) ak).files).length) aN,.slice aO (((doD (⟨ac,ae,af,aa⟩:Dsk) ak).list).length) aP,.slice aQ (((doD (⟨ac,ae,af,aa⟩:Dsk) ak).names).length) aR,vI ((doD (⟨ac,ae,af,aa⟩:Dsk) ak).next)] ah fun b7 aF aX aY=>?_
   replace ⟨ag,E,J,W,al,am,ao,C,ai⟩:=(so [aj,ab] aF).g9 ag E J W al am ao C ai
   exact .d<|.ib 1<|.g<|.r 1<|.it ((i:Int)+1)<|.r 1<|.d<|az (i+1,(doD (⟨ac,ae,af,aa⟩:Dsk) ak).files,aM,((doD (⟨ac,ae,af,aa⟩:Dsk) ak).files).length,aN,(doD (⟨ac,ae,af,aa⟩:Dsk) ak).list,aO,((doD (⟨ac,ae,af,aa⟩:Dsk) ak).list).length,aP,(doD (⟨ac,ae,af,aa⟩:Dsk) ak).names,aQ,((doD (⟨ac,ae,af,aa⟩:Dsk) ak).names).length,aR,(doD (⟨ac,ae,af,aa⟩:Dsk) ak).next) _ _ ⟨AA,AA,AA,AA,AA,trivial⟩ ⟨ai,al,am,ao,aX,AB,(by have q1:=p3 _ ‹_›; have q2:=NY (d:=⟨ac,ae,af,aa⟩) q1.1 ‹_›; dsimp only at q2; omega),(by have q1:=p3 _ ‹_›; have q2:=NY (d:=⟨ac,ae,af,aa⟩) q1.1 ‹_›; dsimp only at q2; omega),(by exact toStep ‹_› ‹_› AB)⟩ (by (simp only []; omega))
  refine .r 1<|.d<|.cf<|.x 0 rfl<|.s<|.g<|.ln ah<|.sc [.slice a_d_0 n_d_0 c_d_0,.slice a_d_1 n_d_1 c_d_1,.slice a_d_2 n_d_2 c_d_2,vI aa] ag fun b8 aG aZ ba=>?_
  replace ⟨ah,E,J,W,C⟩:=(so [aj,ab] aG).g5 ah E J W C
  exact .d<|.rb func110 results110 aZ ⟨(VS.of (y:=(⟨ac,ae,af,aa⟩:Dsk)) ⟨_,rfl,⟨_,_,_,_,_,_,_,_,_,rfl,E.w1,J.w1,W.w1⟩⟩ (by exact toEnd ‹_› AB)),C⟩
 refine .r 5<|.d<|.cf<|.x 0 rfl<|.s<|.g<|.ln ah<|.sc [.slice a_d_0 n_d_0 c_d_0,.slice a_d_1 n_d_1 c_d_1,.slice a_d_2 n_d_2 c_d_2,vI aa] ag fun b9 aH bc bd=>?_
 replace ⟨E,J,W,C⟩:=(so [aj,ab] aH).g4 E J W C
 exact .d<|.rb func110 results110 bc ⟨(VS.of (y:=(⟨ac,ae,af,aa⟩:Dsk)) ⟨_,rfl,⟨_,_,_,_,_,_,_,_,_,rfl,E.w1,J.w1,W.w1⟩⟩ (by exact toEnd ‹_› AB)),C⟩
theorem IY (d:Dsk) (at_:Int) (h1:RepS w F a1 n1 c1 d.files) (h2:RepS w F a2 n2 c2 d.list) (h3:RepS w F a3 n3 c3 d.names) (p0:d.names.length≤1000) (p1:∀ n∈d.names,n.length≤1000) (p2:d.list.length≤1000) (p3:∀ n∈d.list,0≤Av d n) (p4:∀ f∈d.files,Ck f.part):Calls Tryz.prog 69 [.agg #[.slice a1 n1 c1,.slice a2 n2 c2,.slice a3 n3 c3,.int .i64 d.next],.int .i64 at_].toArray w (BB fun rv w'=>VL (ge w.heap.size) w' (BF d at_:List Stp) rv∧Ext w w'):=by
 refine goT func69 ?_
 obtain ⟨rfl,iT,h1⟩:=h1.tp
 obtain ⟨rfl,iU,h2⟩:=h2.tp
 obtain ⟨rfl,iV,h3⟩:=h3.tp
 refine .s<|.g<|.np 36 [.slice a1 d.files.length c1,.slice a2 d.list.length c2,.slice a3 d.names.length c3,vI d.next] fun ah gY d9 cH C fF=>?_
 replace ⟨h1,h2,h3⟩:=(sn [] cH d9).g3 h1 h2 h3
 have E:=cH
 refine .r 1<|.d<|.s<|.s<|.g<|.r 2<|.lb C<|.r 1<|.it ((d.list.length:Int) - 2)<|.cl (C5 at_ 0 ((d.list.length:Int) - 2) (w:=gY) (F:=all)) ?_
 rintro jZ fG ⟨rfl,ec⟩
 replace ⟨h1,h2,h3,C,E⟩:=(se [ah] ec).g5 h1 h2 h3 C E
 cases ed:(inR at_ 0 ((d.list.length:Int) - 2))
 ·refine .r 12<|.d<|.ct<|.s<|.g<|.ns 0 137 [] fun cI fH cg ee fI fJ=>?_
  have iX:=AX cg C.lt
  have fK:=Ae cg E.size
  replace ⟨h1,h2,h3,C,E⟩:=(sn [ah] ee cg).g5 h1 h2 h3 C E
  have fL:Own (α:=Stp) fH cI 137 (nin (ge w.heap.size) [cI,ah]) 0 0 []:=Own.Aj fI
  refine .r 1<|.d ?_
  have gZ:=fL.sl fK
  replace ⟨h1,h2,h3⟩:=(sd fH [cI,ah] cI).g3 h1 h2 h3
  exact .rt func69 results69 (vS cI 0 0) ⟨(gZ.vl (by rw [G8 (.inl ‹_›)]) (fun _ _ h=>h.1)),E⟩
 have iY:=CF ed
 refine .r 3<|.lb C<|.bp (d.next≥999) (fun fM=>?_) (fun fM=>?_)
 ·refine .r 7<|.d<|.ct<|.s<|.g<|.ns 0 137 [] fun cJ fN ci ef fO fP=>?_
  have iZ:=AX ci C.lt
  have fQ:=Ae ci E.size
  replace ⟨h1,h2,h3,C,E⟩:=(sn [ah] ef ci).g5 h1 h2 h3 C E
  have fR:Own (α:=Stp) fN cJ 137 (nin (ge w.heap.size) [cJ,ah]) 0 0 []:=Own.Aj fO
  refine .r 1<|.d ?_
  have g0:=fR.sl fQ
  replace ⟨h1,h2,h3⟩:=(sd fN [cJ,ah] cJ).g3 h1 h2 h3
  exact .rt func69 results69 (vS cJ 0 0) ⟨(g0.vl (by rw [G8 (.inr (.inl ‹_›))]) (fun _ _ h=>h.1)),E⟩
 refine .r 3<|.lb C<|.r 1<|.bp ((d.files.length:Int)≥20) (fun fS=>?_) (fun fS=>?_)
 ·refine .r 1<|.d<|.ct<|.s<|.g<|.ns 0 137 [] fun cK fT cj eg fU fV=>?_
  have ja:=AX cj C.lt
  have fW:=Ae cj E.size
  replace ⟨h1,h2,h3,C,E⟩:=(sn [ah] eg cj).g5 h1 h2 h3 C E
  have fX:Own (α:=Stp) fT cK 137 (nin (ge w.heap.size) [cK,ah]) 0 0 []:=Own.Aj fU
  refine .r 1<|.d ?_
  have hC:=fX.sl fW
  replace ⟨h1,h2,h3⟩:=(sd fT [cK,ah] cK).g3 h1 h2 h3
  exact .rt func69 results69 (vS cK 0 0) ⟨(hC.vl (by rw [G8 (.inr (.inr ‹_›))]) (fun _ _ h=>h.1)),E⟩
 refine .r 1<|.d<|.cf<|.sk<|.s<|.g<|.r 1<|.lb C<|.r 1 ?_
 have eh:at_.toNat< d.list.length:=AB
 refine RG.idx (at_.toNat) (len:=d.list.length) (i:=at_) (sz:=1) AA AB eh (h2.addr (Nat.zero_lt_of_lt eh)) ?_
 obtain ⟨aY,cL⟩:∃ y,d.list[at_.toNat]? = some y:=⟨_,AU AB⟩
 have gw:=AV cL
 obtain ⟨_,rfl,fY⟩:=h2.elem (at_.toNat) aY cL
 refine .lh 0 fY<|.r 1<|.d<|.s<|.g<|.r 1<|.lb C<|.r 1<|.it (at_+1) ?_
 have ej:(at_+1).toNat< d.list.length:=AB
 refine RG.idx ((at_+1).toNat) (len:=d.list.length) (i:=at_+1) (sz:=1) AA AB ej (h2.addr (Nat.zero_lt_of_lt ej)) ?_
 obtain ⟨aZ,cM⟩:∃ y,d.list[(at_+1).toNat]? = some y:=⟨_,AU AB⟩
 have gx:=AV cM
 obtain ⟨_,rfl,fZ⟩:=h2.elem ((at_+1).toNat) aZ cM
 refine .lh 0 fZ<|.r 1<|.d<|.s<|T.D3 (X:=Nat × (Option Addr) × Fil × Fil × Nat × (Option Addr) × Nat) nil 18 (fun (af,bm,aN,aw,bn,bo,bq)=>[(1,vI at_),(2,.pointer (some ⟨ah,0,none⟩)),(5,vI aY),(6,vI aZ),(7,.pointer (some ⟨af,0,none⟩)),(55,.agg #[.slice bm ((BW aN.part aw.part).ids.length) bn,.slice bo ((BW aN.part aw.part).blocks.length) bq])]) (fun (af,bm,aN,aw,bn,bo,bq) bH=>Ext fG bH∧fG.heap.size≤af∧Box bH af 48 [AH,AH]∧RepS bH (nin (ge w.heap.size) [af,ah]) bm ((BW aN.part aw.part).ids.length) bn ((BW aN.part aw.part).ids:List Int)∧RepS bH (nin (ge w.heap.size) [af,ah]) bo ((BW aN.part aw.part).blocks.length) bq ((BW aN.part aw.part).blocks:List (List Row))∧d.files[(Av d aY).toNat]? = some aN∧d.files[(Av d aZ).toNat]? = some aw) AA (fun jd bK=>?_) ?_
 ·replace ⟨h1,h2,h3,C,E⟩:=(se [ah] bK).g5 h1 h2 h3 C E
  have ai:=bK
  refine .r [0]<|.lb 1 C id<|.ln 2 C id<|.r [3]<|GA.Dt (i:=4) AA (fun f0 bL=>EO d aY (h1.ta.ext bL) (h2.ta.ext bL) (h3.ta.ext bL) (w:=f0) (F:=all)) ?_
  have cN:(Av d aY).toNat< d.files.length:=(by exact He p3 ‹_›)
  refine GA.idx (i:=5) ((Av d aY).toNat) (len:=d.files.length) (z:=Av d aY) (sz:=3) AA (by exact Hf p3 ‹_›) cN (h1.addr (Nat.zero_lt_of_lt cN))<|.r [6] ?_
  obtain ⟨bI,ba⟩:∃ y,d.files[(Av d aY).toNat]? = some y:=⟨_,AU AB⟩
  have f5:=AV ba
  obtain ⟨_,⟨je,jf,jg,jh,ji,jj,rfl,al,am⟩,ey⟩:=h1.elem ((Av d aY).toNat) bI ba
  have ez:=al.len
  subst ez
  have eA:=am.len
  subst eA
  refine .lg 7 1 ey id<|.r [8]<|.lb 9 C id<|.ln 10 C id<|.r [11]<|GA.Dt (i:=12) AA (fun f6 bM=>EO d aZ (h1.ta.ext bM) (h2.ta.ext bM) (h3.ta.ext bM) (w:=f6) (F:=all)) ?_
  have cO:(Av d aZ).toNat< d.files.length:=(by exact He p3 ‹_›)
  refine GA.idx (i:=13) ((Av d aZ).toNat) (len:=d.files.length) (z:=Av d aZ) (sz:=3) AA (by exact Hf p3 ‹_›) cO (h1.addr (Nat.zero_lt_of_lt cO))<|.r [14] ?_
  obtain ⟨bJ,bc⟩:∃ y,d.files[(Av d aZ).toNat]? = some y:=⟨_,AU AB⟩
  have f7:=AV bc
  obtain ⟨_,⟨jk,jl,jm,jn,jo,jp,rfl,ao,aq⟩,eB⟩:=h1.elem ((Av d aZ).toNat) bJ bc
  have eC:=ao.len
  subst eC
  have eD:=aq.len
  subst eD
  refine .lg 15 1 eB id<|.tw 16 17 ?_ ?_
  ·refine .cl (fun cP aT=>DN bI.part bJ.part (al.ta.ext aT) (am.ta.ext aT) (ao.ta.ext aT) (aq.ta.ext aT) (p4 _ ‹_›) (p4 _ ‹_›) (w:=cP) (F:=all)) ?_
   intro cP aT
   replace ⟨h2,h3,C,al,am,ao,aq,E,ai⟩:=(se [ah] aT).g9 h2 h3 C al am ao aq E ai
   rintro jq jr ⟨⟨_,rfl,⟨f8,js,f9,ga,jt,gb,rfl,aE,aF⟩⟩,bN⟩
   have bO:=al1 C.lt
   have cQ:Gb w.heap.size cP.heap.size:=E.size
   have hkeep_:=bN
   replace ⟨h2,h3,C,al,am,ao,aq,E,ai⟩:=(se [ah] bN).g9 h2 h3 C al am ao aq E ai
   refine ⟨Ext.chg hkeep_,?_⟩
   have aE:=aE.fr bO cQ
   have hQ:=aE.max
   have aF:=aF.fr bO cQ
   have hV:=aF.max
   have eE:=aE.len
   subst eE
   have eF:=aF.len
   subst eF
   refine .go 17<|.nw (fun b=>.pointer (some ⟨b,0,none⟩)) 48 [AH,AH] fun ju cR=>?_
   replace ⟨h2,h3,C,al,am,ao,aq,aE,aF,E,ai⟩:=(se [ah] cR).g11 h2 h3 C al am ao aq aE aF E ai
   intro ek jv bP cS bQ eG
   have eH:=ai.cn bP
   replace ⟨h2,h3,C,al,am,ao,aq,aE,aF,E,ai⟩:=(sn [ah] cS bP).g11 h2 h3 C al am ao aq aE aF E ai
   refine .d fun jw cT=>?_
   replace ⟨h2,h3,C,al,am,ao,aq,aE,aF,bQ,E,ai⟩:=(se [ek,ah] cT).g12 h2 h3 C al am ao aq aE aF bQ E ai
   exact ⟨(ek,f8,bI,bJ,f9,ga,gb),⟨AA,AA,AA,AA,AA,AA,trivial⟩,⟨ai,(Ad eH),bQ,aE,aF,ba,bc⟩⟩
  refine .nw (fun b=>.pointer (some ⟨b,0,none⟩)) 48 [AH,AH] fun jx cU=>?_
  replace ⟨h2,h3,C,al,am,ao,aq,E,ai⟩:=(se [ah] cU).g9 h2 h3 C al am ao aq E ai
  intro ck jy bR cV aG eI
  have eJ:=ai.cn bR
  replace ⟨h2,h3,C,al,am,ao,aq,E,ai⟩:=(sn [ah] cV bR).g9 h2 h3 C al am ao aq E ai
  refine .go 16<|.cl (fun cW aU=>DN bI.part bJ.part (al.ta.ext aU) (am.ta.ext aU) (ao.ta.ext aU) (aq.ta.ext aU) (p4 _ ‹_›) (p4 _ ‹_›) (w:=cW) (F:=all)) ?_
  intro cW aU
  replace ⟨h2,h3,C,aG,E,ai⟩:=(se [ck,ah] aU).g6 h2 h3 C aG E ai
  rintro jz jA ⟨⟨_,rfl,⟨gf,jB,gh,gi,jC,gj,rfl,bd,bg⟩⟩,bS⟩
  have bT:=al2 aG.lt C.lt
  have cX:Gb w.heap.size cW.heap.size:=E.size
  have hkeep_:=bS
  replace ⟨h2,h3,C,aG,E,ai⟩:=(se [ck,ah] bS).g6 h2 h3 C aG E ai
  refine ⟨Ext.chg hkeep_,?_⟩
  have bd:=bd.fr bT cX
  have hW:=bd.max
  have bg:=bg.fr bT cX
  have ia:=bg.max
  have eK:=bd.len
  subst eK
  have eL:=bg.len
  subst eL
  refine .d fun jD cY=>?_
  replace ⟨h2,h3,C,aG,bd,bg,E,ai⟩:=(se [ck,ah] cY).g8 h2 h3 C aG bd bg E ai
  exact ⟨(ck,gf,bI,bJ,gh,gi,gj),⟨AA,AA,AA,AA,AA,AA,trivial⟩,⟨ai,(Ad eJ),aG,bd,bg,ba,bc⟩⟩
 rintro ⟨af,bm,aN,aw,bn,bo,bq⟩ jE bH ⟨cZ,bv,gk,W,aa,c7,c8⟩
 have ic:=Ah bv C.lt
 have ie:Cov nil w af:=BT bv E.size
 replace ⟨h2,h3,C,E⟩:=(sz [ah] cZ bv).g4 h2 h3 C E
 refine .sc [.slice bm ((BW aN.part aw.part).ids.length) bn,.slice bo ((BW aN.part aw.part).blocks.length) bq] gk fun aW c9 J eM=>?_
 replace ⟨h2,h3,C,W,aa,E⟩:=(so [af,ah] c9).g6 h2 h3 C W aa E
 refine .d<|.s<|T.D3 (X:=Nat × Nat × (Option Addr) × Nat) (mtb [] aW.heap.size) 15 (fun (aM,cm,co,cp)=>[(2,.pointer (some ⟨ah,0,none⟩)),(5,vI aY),(6,vI aZ),(7,.pointer (some ⟨af,0,none⟩)),(65,vS aM (0+(at_.toNat - 0)+1) cm),(70,.slice co (d.list.length - (at_+2).toNat) cp)]) (fun (aM,cm,co,cp) cq=>Ext aW cq∧aW.heap.size≤aM∧Own cq aM 3 (nin (ge w.heap.size) [aM,af,ah]) (0+(at_.toNat - 0)+1) cm ((([]++((d.list.take (at_.toNat)).drop 0))++[d.next]):List Int)∧RepS cq (nin (fo F w.heap.size) [aM,af,ah]) co (d.list.length - (at_+2).toNat) cp (((d.list.take d.list.length).drop ((at_+2).toNat)):List Int)) AA (fun gn bw=>?_) ?_
 ·replace h2:=h2.BO
  replace h3:=h3.BO
  replace W:=W.BO
  replace aa:=aa.BO
  have bU:Gb (ah+1) aW.heap.size:=C.lt
  replace ⟨h2,h3,C,J,W,aa,E⟩:=(se [af,ah] bw).g7 h2 h3 C J W aa E
  have ab:=bw
  have ac:Chg (mtb [] aW.heap.size) aW gn:=Chg.Cb (Chg.refl (mtb [] aW.heap.size) aW) bw
  refine .r [1]<|.lb 2 C (BL all_nil bU)<|.r [3]<|GA.sub (i:=4) (t:=34) (lo:=none) (hi:=some (vI at_)) AA h2 0 (at_.toNat) AA AA (.inl ⟨rfl,rfl⟩) (.inr ⟨_,_,rfl,by omega⟩) AB AB fun da db ag=>?_
  have io:=ag.len; have ip:=ag.max
  refine .r [6]<|.lb 7 C (BL all_nil bU)<|.r [10]<|.lb 11 C (BL all_nil bU)<|.r [12]<|GA.int (i:=13) (at_+2) AA AB<|GA.sub (i:=14) (t:=34) (lo:=some (vI (at_+2))) (hi:=none) AA h2 ((at_+2).toNat) d.list.length AA AA (.inr ⟨_,_,rfl,by omega⟩) (.inl ⟨rfl,rfl⟩) AB AB fun de df ae=>?_
  have iq:=ae.len
  refine .tw 0 8 ?_ ?_
  ·refine .ns 0 3 [] fun jF dg=>?_
   replace ⟨h3,C,J,W,aa,ag,ae,E,ab,ac⟩:=(se [af,ah] dg).g10 h3 C J W aa ag ae E ab ac
   intro aD gp aO dh eN eO
   have dj:=AX aO C.lt
   have dm:=AX aO J.lt
   have dp:=E.cn aO
   have dq:=ab.cn aO
   have bz:=ac.cn aO
   replace ⟨h3,C,J,W,aa,ag,ae,E,ab,ac⟩:=(sn [af,ah] dh aO).g10 h3 C J W aa ag ae E ab ac
   have ax:Own (α:=Int) gp aD 3 (nin (ge w.heap.size) [aD,af,ah]) 0 0 []:=Own.Aj eN
   refine .tw 5 8 ?_ ?_
   ·refine GE.append (T:=34) (ty:=34) (args:=[vS aD 0 0,.slice da (at_.toNat - 0) db]) AA fun jG dr=>?_
    replace ⟨h3,C,J,W,aa,ag,ae,ax,E,ab,ac⟩:=(se [aD,af,ah] dr).g11 h3 C J W aa ag ae ax E ab ac
    obtain ⟨aX,gq,jH,dt,av,az,bV,eP⟩:=Own.BG (P:=Tryz.prog) (T:=34) (ty:=34) BS ax AA ag (fun b h e=>h.2 (e▸AI)) AB
    refine ⟨_,_,dt,Chg.toS bV (Cov.toS bz),?_⟩
    have iu:=Ag az dj C.lt
    have iw:=Ag az dm J.lt
    have iy:=Aw az dp E.size
    have eQ:=Aw az dq ab.size
    have eR:=Aw az bz ac.size
    replace ⟨h3,C,J,W,aa,ag,ae,E,ab,ac⟩:=(sa [aD,af,ah] bV az).g10 h3 C J W aa ag ae E ab ac
    replace av:=av.rn aD
    have iz:=av.len
    refine .go 8<|.ns 1 3 [vI d.next] fun jI du=>?_
    replace ⟨h3,C,J,W,aa,ag,ae,av,E,ab,ac⟩:=(se [aX,af,ah] du).g11 h3 C J W aa ag ae av E ab ac
    intro dv jJ bh dw bW eS
    have eT:=AX bh C.lt
    have eU:=AX bh J.lt
    have dx:=AX bh av.lt
    have eV:=Ae bh E.size
    replace ⟨h3,C,J,W,aa,ag,ae,av,E,ab,ac⟩:=(se [aX,af,ah] dw).g11 h3 C J W aa ag ae av E ab ac
    refine .go 9<|GE.append (T:=34) (ty:=34) (args:=[vS aX (0+(at_.toNat - 0)) gq,vS dv 1 1]) AA fun jK dy=>?_
    replace ⟨h3,C,J,W,aa,ag,ae,av,bW,E,ab,ac⟩:=(se [aX,af,ah] dy).g12 h3 C J W aa ag ae av bW E ab ac
    have cD:nin (ge w.heap.size) [aX,af,ah] dv∧dv≠aX:=BR eV (all_cons dx (all_cons eU (all_cons eT all_nil))) dx
    obtain ⟨en,gr,jL,dz,aP,bA,bX,eW⟩:=av.Ax (P:=Tryz.prog) (T:=34) (ty:=34) (y:=d.next) AA bW rfl cD AB
    refine ⟨_,_,dz,Chg.toS bX (Cov.toS eR),?_⟩
    have eX:=Aw bA eQ ab.size
    replace ⟨h3,C,J,W,aa,ag,ae,E,ab,ac⟩:=(sa [aX,af,ah] bX bA).g10 h3 C J W aa ag ae E ab ac
    replace aP:=aP.rn aX
    refine .d fun jM dA=>?_
    replace ⟨h3,C,J,W,aa,ag,ae,aP,E,ab,ac⟩:=(se [en,af,ah] dA).g11 h3 C J W aa ag ae aP E ab ac
    replace h3:=h3.Aa
    replace W:=W.Aa
    replace aa:=aa.Aa
    replace ag:=ag.Aa
    replace ae:=ae.Aa
    exact ⟨(en,gr,de,df),⟨AA,AA,AA,AA,AA,AA,trivial⟩,⟨ab,(Ad eX),aP,ae⟩⟩
   refine .ns 1 3 [vI d.next] fun jN dB=>?_
   replace ⟨h3,C,J,W,aa,ag,ae,ax,E,ab,ac⟩:=(se [aD,af,ah] dB).g11 h3 C J W aa ag ae ax E ab ac
   intro dC jO bi dD aH eY
   have eZ:=AX bi C.lt
   have e7:=AX bi J.lt
   have e8:=AX bi ax.lt
   have fa:=Ae bi E.size
   replace ⟨h3,C,J,W,aa,ag,ae,ax,E,ab,ac⟩:=(se [aD,af,ah] dD).g11 h3 C J W aa ag ae ax E ab ac
   refine .go 5<|GE.append (T:=34) (ty:=34) (args:=[vS aD 0 0,.slice da (at_.toNat - 0) db]) AA fun jP dE=>?_
   replace ⟨h3,C,J,W,aa,ag,ae,ax,aH,E,ab,ac⟩:=(se [aD,af,ah] dE).g12 h3 C J W aa ag ae ax aH E ab ac
   obtain ⟨br,gs,jQ,dF,aQ,ay,bY,fb⟩:=Own.BG (P:=Tryz.prog) (T:=34) (ty:=34) BS ax AA ag (fun b h e=>h.2 (e▸AI)) AB
   refine ⟨_,_,dF,Chg.toS bY (Cov.toS bz),?_⟩
   have iD:=Ag ay dj C.lt
   have iE:=Ag ay dm J.lt
   have dG:=Ag ay (Nb.symm e8) aH.lt
   have iF:=Aw ay dp E.size
   have fc:=Aw ay dq ab.size
   have fd:=Aw ay bz ac.size
   replace ⟨h3,C,J,W,aa,ag,ae,aH,E,ab,ac⟩:=(sa [aD,af,ah] bY ay).g11 h3 C J W aa ag ae aH E ab ac
   replace aQ:=aQ.rn aD
   have iG:=aQ.len
   refine .go 9<|GE.append (T:=34) (ty:=34) (args:=[vS br (0+(at_.toNat - 0)) gs,vS dC 1 1]) AA fun jR dH=>?_
   replace ⟨h3,C,J,W,aa,ag,ae,aQ,aH,E,ab,ac⟩:=(se [br,af,ah] dH).g12 h3 C J W aa ag ae aQ aH E ab ac
   have cE:nin (ge w.heap.size) [br,af,ah] dC∧dC≠br:=BR fa (all_cons (Nb.symm dG) (all_cons e7 (all_cons eZ all_nil))) (Nb.symm dG)
   obtain ⟨et,gt,jS,dI,aR,bB,bZ,fe⟩:=aQ.Ax (P:=Tryz.prog) (T:=34) (ty:=34) (y:=d.next) AA aH rfl cE AB
   refine ⟨_,_,dI,Chg.toS bZ (Cov.toS fd),?_⟩
   have ff:=Aw bB fc ab.size
   replace ⟨h3,C,J,W,aa,ag,ae,E,ab,ac⟩:=(sa [br,af,ah] bZ bB).g10 h3 C J W aa ag ae E ab ac
   replace aR:=aR.rn br
   refine .d fun jT dJ=>?_
   replace ⟨h3,C,J,W,aa,ag,ae,aR,E,ab,ac⟩:=(se [et,af,ah] dJ).g11 h3 C J W aa ag ae aR E ab ac
   replace h3:=h3.Aa
   replace W:=W.Aa
   replace aa:=aa.Aa
   replace ag:=ag.Aa
   replace ae:=ae.Aa
   exact ⟨(et,gt,de,df),⟨AA,AA,AA,AA,AA,AA,trivial⟩,⟨ab,(Ad ff),aR,ae⟩⟩
  refine .ns 1 3 [vI d.next] fun jU dK=>?_
  replace ⟨h3,C,J,W,aa,ag,ae,E,ab,ac⟩:=(se [af,ah] dK).g10 h3 C J W aa ag ae E ab ac
  intro dL jV bC dM ar fg
  have fh:=AX bC C.lt
  have fi:=AX bC J.lt
  have fj:=Ae bC E.size
  replace ⟨h3,C,J,W,aa,ag,ae,E,ab,ac⟩:=(se [af,ah] dM).g10 h3 C J W aa ag ae E ab ac
  refine .go 0<|.ns 0 3 [] fun jW dN=>?_
  replace ⟨h3,C,J,W,aa,ag,ae,ar,E,ab,ac⟩:=(se [af,ah] dN).g11 h3 C J W aa ag ae ar E ab ac
  intro bt gu aI dO fk fm
  have fp:=AX aI C.lt
  have fq:=AX aI J.lt
  have ft:=AX aI ar.lt
  have fu:=E.cn aI
  have fv:=ab.cn aI
  have dP:=ac.cn aI
  replace ⟨h3,C,J,W,aa,ag,ae,ar,E,ab,ac⟩:=(sn [af,ah] dO aI).g11 h3 C J W aa ag ae ar E ab ac
  have b0:Own (α:=Int) gu bt 3 (nin (ge w.heap.size) [bt,af,ah]) 0 0 []:=Own.Aj fk
  refine .go 5<|GE.append (T:=34) (ty:=34) (args:=[vS bt 0 0,.slice da (at_.toNat - 0) db]) AA fun jX dQ=>?_
  replace ⟨h3,C,J,W,aa,ag,ae,ar,b0,E,ab,ac⟩:=(se [bt,af,ah] dQ).g12 h3 C J W aa ag ae ar b0 E ab ac
  obtain ⟨bu,gv,jY,cF,aS,au,bD,dS⟩:=Own.BG (P:=Tryz.prog) (T:=34) (ty:=34) BS b0 AA ag (fun b h e=>h.2 (e▸AI)) AB
  refine ⟨_,_,cF,Chg.toS bD (Cov.toS dP),?_⟩
  have gy:=Ag au fp C.lt
  have gz:=Ag au fq J.lt
  have cr:=Ag au ft ar.lt
  have gA:=Aw au fu E.size
  have dT:=Aw au fv ab.size
  have dU:=Aw au dP ac.size
  replace ⟨h3,C,J,W,aa,ae,ar,E,ab⟩:=(sa [bt,af,ah] bD au).g9 h3 C J W aa ae ar E ab
  replace aS:=aS.rn bt
  have gC:=aS.len
  refine .go 9<|GE.append (T:=34) (ty:=34) (args:=[vS bu (0+(at_.toNat - 0)) gv,vS dL 1 1]) AA fun iK cu=>?_
  replace ⟨h3,C,J,W,aa,ae,ar,aS,E,ab⟩:=(se [bu,af,ah] cu).g10 h3 C J W aa ae ar aS E ab
  have b6:nin (ge w.heap.size) [bu,af,ah] dL∧dL≠bu:=BR fj (all_cons (Nb.symm cr) (all_cons fi (all_cons fh all_nil))) (Nb.symm cr)
  obtain ⟨dR,fw,iL,cG,aA,bj,bE,dV⟩:=aS.Ax (P:=Tryz.prog) (T:=34) (ty:=34) (y:=d.next) AA ar rfl b6 AB
  refine ⟨_,_,cG,Chg.toS bE (Cov.toS dU),?_⟩
  have dW:=Aw bj dT ab.size
  replace ⟨h3,C,J,W,aa,ae,E,ab⟩:=(sa [bu,af,ah] bE bj).g8 h3 C J W aa ae E ab
  replace aA:=aA.rn bu
  refine .d fun iM cw=>?_
  replace ⟨h3,C,J,W,aa,ae,aA,E,ab⟩:=(se [dR,af,ah] cw).g9 h3 C J W aa ae aA E ab
  replace h3:=h3.Aa
  replace W:=W.Aa
  replace aa:=aa.Aa
  replace ae:=ae.Aa
  exact ⟨(dR,fw,de,df),⟨AA,AA,AA,AA,AA,AA,trivial⟩,⟨ab,(Ad dW),aA,ae⟩⟩
 rintro ⟨aM,cm,co,cp⟩ iN cq ⟨cx,aK,b7,b8⟩
 have dX:=Ah aK C.lt
 have dY:=Ah aK J.lt
 have dZ:=Bo aK E.size
 have gG:Cov nil w aM:=BT aK E.size
 replace ⟨h3,C,J,W,aa,E⟩:=(sz [af,ah] cx aK).g6 h3 C J W aa E
 have gH:=b7.len
 have gJ:=b8.len; have gK:=b8.max
 refine RG.BG (T:=34) (ty:=34) BS b7 b8 AA AA (fun b h e=>h.2 (e▸AI)) AB fun aB fA iO aj aJ cy=>?_
 have gL:=Ag aJ dX C.lt
 have gM:=Ag aJ dY J.lt
 have d0:=Bt aJ dZ E.size
 replace ⟨h3,C,J,W,aa,E⟩:=(sa [aM,af,ah] cy aJ).g6 h3 C J W aa E
 replace aj:=aj.rn aM
 refine .r 1<|.d<|.s<|.gd nil 13 fun iP cz=>?_
 replace ⟨h3,C,J,W,aa,aj,E⟩:=(se [aB,af,ah] cz).g7 h3 C J W aa aj E
 refine .r [0]<|.lb 1 C id<|.ln 2 J id<|.r [3,4,5]<|.lb 6 C id<|.r [9,10,11,12]<|.go 7<|.cl (fun b9 bF=>Ca d.names (h3.ta.ext bF) AB (by intro n hn; have:=p1 n hn; omega) (w:=b9) (F:=all)) ?_
 intro b9 bF
 replace ⟨C,J,W,aa,aj,E⟩:=(se [aB,af,ah] bF).g6 C J W aa aj E
 rintro iQ iR ⟨⟨aV,fB,fC,rfl,ak,aL⟩,bG⟩
 have cA:=al3 aj.lt J.lt C.lt
 have d3:Gb w.heap.size b9.heap.size:=E.size
 have hkeep_:=bG
 have gP:=Ah aL C.lt
 have gQ:=Ah aL J.lt
 have gR:=Ah aL aj.lt
 have d4:=Bo aL E.size
 replace ⟨C,J,W,aa,aj,E⟩:=(sz [aB,af,ah] bG aL).g6 C J W aa aj E
 refine ⟨Ext.chg hkeep_,?_⟩
 replace ak:=Own.take (s0:=w.heap.size) (M:=[aB,af,ah]) ak cA d3
 refine .r [8]<|.d fun iS cB=>?_
 replace ⟨C,J,W,aa,aj,ak,E⟩:=(se [aV,aB,af,ah] cB).g7 C J W aa aj ak E
 refine .ns 4 137 [vI 1,vI d.next,.slice bm ((BW aN.part aw.part).ids.length) bn,.slice bo ((BW aN.part aw.part).blocks.length) bq,AH,AH,vI 2,vI 0,AH,AH,vS aB (0+(at_.toNat - 0)+1+(d.list.length - (at_+2).toNat)) fA,vS aV fB fC,vI 3,vI aY,AH,AH,AH,AH,vI 3,vI aZ,AH,AH,AH,AH] fun bk cd aC cC d5 d6=>?_
 have gU:=AX aC C.lt
 have gV:=AX aC J.lt
 have gW:=AX aC aj.lt
 have gX:=AX aC ak.lt
 have d7:=Ae aC E.size
 replace ⟨W,aa,aj,ak,E⟩:=(sn [aV,aB,af,ah] cC aC).g5 W aa aj ak E
 have ce:=aj.sl d0
 replace ⟨W,aa,ak⟩:=(sd cd [bk,aV,aB,af,ah] aB).g3 W aa ak
 have fD:=ak.sl d4
 replace ⟨W,aa,ce⟩:=(sd cd [bk,aV,af,ah] aV).g3 W aa ce
 have d8:Own (α:=Stp) cd bk 137 (nin (ge w.heap.size) [bk,af,ah]) 4 4 [(⟨1,d.next,(⟨(BW aN.part aw.part).ids,(BW aN.part aw.part).blocks⟩:Prt),([]:List Int),([]:List (List Tag))⟩:Stp),(⟨2,0,(⟨([]:List Int),([]:List (List Row))⟩:Prt),((([]++((d.list.take (at_.toNat)).drop 0))++[d.next])++((d.list.take d.list.length).drop ((at_+2).toNat))),d.names⟩:Stp),(⟨3,aY,(⟨([]:List Int),([]:List (List Row))⟩:Prt),([]:List Int),([]:List (List Tag))⟩:Stp),(⟨3,aZ,(⟨([]:List Int),([]:List (List Row))⟩:Prt),([]:List Int),([]:List (List Tag))⟩:Stp)]:=Own.lit d5 rfl AE ⟨⟨_,_,_,_,_,_,_,_,_,_,_,_,rfl,W.oi,aa.oi,(RepS.Aj _ _ none 0 AE),(RepS.Aj _ _ none 0 AE)⟩,⟨_,_,_,_,_,_,_,_,_,_,_,_,rfl,(RepS.Aj _ _ none 0 AE),(RepS.Aj _ _ none 0 AE),ce.oi,fD.oi⟩,⟨_,_,_,_,_,_,_,_,_,_,_,_,rfl,(RepS.Aj _ _ none 0 AE),(RepS.Aj _ _ none 0 AE),(RepS.Aj _ _ none 0 AE),(RepS.Aj _ _ none 0 AE)⟩,⟨_,_,_,_,_,_,_,_,_,_,_,_,rfl,(RepS.Aj _ _ none 0 AE),(RepS.Aj _ _ none 0 AE),(RepS.Aj _ _ none 0 AE),(RepS.Aj _ _ none 0 AE)⟩,rfl⟩
 refine .r 1<|.d ?_
 have fE:=d8.sl d7
 exact .rt func69 results69 (vS bk 4 4) ⟨(fE.vl (by rw [KF ‹_› ‹_› ‹_› ‹_› ‹_› ‹_› ‹_›]) (fun _ _ h=>h.1)),E⟩
end Go.Proofs.YtggnnidleedpaaaGreat
namespace Go.Proofs.YtggnnidleedpaaaGreat
def Blk (b:List Row):Prop:=CX none b=true
theorem Bj {o:Option Row}{r:Row}{rs:List Row}:CX o (r::rs)=true↔Bi r=true∧(∀ q,o=some q→q.t< r.t)∧CX (some r) rs=true:=by
 simp only [CX,AW]
 cases o <;> simp [and_assoc]
theorem Lg {o:Option Row}{b:List Row}(h:CX o b=true):Blk b:=by
 cases b with
 | nil=>rfl
 | cons r rs=>exact Bj.2 ⟨(Bj.1 h).1,by simp,(Bj.1 h).2.2⟩
theorem K6 {r:Row}(h:Bi r=true):0≤r.t∧r.t≤99:=by
 simp only [Bi,AW] at h
 exact CF h.1
theorem Q0 {r:Row}(h:Bi r=true):-99≤r.v∧r.v≤99:=by
 simp only [Bi,AW] at h
 exact CF h.2
theorem Mm:∀ (b:List Row) (q:Row),CX (some q) b=true→q.t≤99→(b.length:Int)≤99 - q.t:=by
 intro b
 induction b with
 | nil=>intro q _ h; simp; omega
 | cons r rs ih =>
   intro q h hq
   obtain ⟨h1,h2,h3⟩:=Bj.1 h
   have h4:=h2 q rfl
   have h5:=K6 h1
   have h6:=ih r h3 AB
   simp only [List.length_cons]
   omega
theorem Blk.len {b:List Row}(h:Blk b):b.length≤100:=by
 cases b with
 | nil=>simp
 | cons r rs =>
   obtain ⟨h1,_,h3⟩:=Bj.1 h
   have h5:=K6 h1
   have h6:=Mm rs r h3 AB
   simp only [List.length_cons]
   omega
theorem Lh:∀ (b:List Row) (o:Option Row),CX o b=true→∀ r∈b,Bi r=true:=by
 intro b
 induction b with
 | nil=>intro o _ r hr; cases hr
 | cons x xs ih =>
   intro o h r hr
   obtain ⟨h1,_,h3⟩:=Bj.1 h
   rcases List.mem_cons.1 hr with rfl | hr
   ·exact h1
   ·exact ih _ h3 r hr
theorem Blk.rows {b:List Row}(h:Blk b):∀ r∈b,Bi r=true:=Lh b none h
theorem KG:∀ (b:List Row) (q:Row),CX (some q) b=true→∀ r∈b,q.t< r.t:=by
 intro b
 induction b with
 | nil=>intro q _ r hr; cases hr
 | cons x xs ih =>
   intro q h r hr
   obtain ⟨_,h2,h3⟩:=Bj.1 h
   have h4:=h2 q rfl
   rcases List.mem_cons.1 hr with rfl | hr
   ·exact h4
   ·have:=ih x h3 r hr; omega
def Cx (r:Row):List Row→List Row
 | []=>[r]
 | x::xs=>if r.t< x.t then r::x::xs else if r.t=x.t then r::xs else x::Cx r xs
theorem KH (r:Row):∀ (b out:List Row),(∀ x∈b,r.t< x.t)→Ci out r true b=out++b:=by
 intro b
 induction b with
 | nil=>intro out _; simp [Ci]
 | cons x xs ih =>
   intro out h
   have h1:=h x AD
   have h2:(x.t != r.t)=true:=by simp; omega
   unfold Ci
   simp only [Bool.not_true,Bool.false_and,if_neg,h2,if_true]
   rw [if_neg AD,ih _ (fun y hy=>h y (by simp [hy]))]
   simp
theorem PE (r:Row):∀ (b out:List Row) (o:Option Row),CX o b=true→Ci out r false b=out++Cx r b:=by
 intro b
 induction b with
 | nil=>intro out o _; simp [Ci,Cx]
 | cons x xs ih =>
   intro out o h
   obtain ⟨_,_,h3⟩:=Bj.1 h
   have hg:=KG xs x h3
   unfold Ci Cx
   by_cases h1:r.t< x.t
   ·have e1:(x.t != r.t)=true:=by simp; omega
    have e2:(!false&&decide (x.t≥r.t))=true:=by simp; omega
    rw [if_pos e2,if_pos e1,if_pos h1,KH r xs _ (fun y hy=>by have:=hg y hy; omega)]
    simp
   ·by_cases h2:r.t=x.t
    ·have e1:¬ (x.t != r.t)=true:=by simp; omega
     have e2:(!false&&decide (x.t≥r.t))=true:=by simp; omega
     rw [if_pos e2,if_neg e1,if_neg h1,if_pos h2,KH r xs _ (fun y hy=>by have:=hg y hy; omega)]
     simp
    ·have e1:(x.t != r.t)=true:=by simp; omega
     have e2:¬ (!false&&decide (x.t≥r.t))=true:=by simp; omega
     rw [if_neg e2,if_pos e1,if_neg h1,if_neg h2,ih _ _ h3]
     simp
theorem E7 {b:List Row}(h:Blk b) (r:Row):DR b r=Cx r b:=by
 unfold DR
 rw [PE r b [] none h]
 rfl
theorem Q1 {r:Row}(hr:Bi r=true):∀ (b:List Row) (o:Option Row),CX o b=true→(∀ q,o=some q→q.t< r.t)→CX o (Cx r b)=true:=by
 intro b
 induction b with
 | nil=>intro o _ ho; exact Bj.2 ⟨hr,ho,rfl⟩
 | cons x xs ih =>
   intro o h ho
   obtain ⟨h1,h2,h3⟩:=Bj.1 h
   unfold Cx
   split
   ·exact Bj.2 ⟨hr,ho,Bj.2 ⟨h1,fun q hq=>by cases hq; assumption,h3⟩⟩
   ·split
    ·rename_i _ he
     refine Bj.2 ⟨hr,ho,?_⟩
     cases xs with
     | nil=>rfl
     | cons y ys =>
       obtain ⟨g1,g2,g3⟩:=Bj.1 h3
       exact Bj.2 ⟨g1,fun q hq=>by cases hq; have:=g2 x rfl; omega,g3⟩
    ·exact Bj.2 ⟨h1,h2,ih _ h3 (fun q hq=>by cases hq; omega)⟩
theorem Blk.put {b:List Row}(h:Blk b){r:Row}(hr:Bi r=true):Blk (DR b r):=by
 rw [E7 h]
 exact Q1 hr b none h AD
theorem Blk.nil:Blk []:=rfl
theorem Blk.foldl {b:List Row}:∀ {a:List Row},Blk a→(∀ r∈b,Bi r=true)→Blk (b.foldl DR a):=by
 induction b with
 | nil=>intro a h _; exact h
 | cons x xs ih=>intro a h hr; exact ih (h.put (hr x AD)) (fun r hr'=>hr r (by simp [hr']))
theorem Blk.merge {a b:List Row}(ha:Blk a) (hb:Blk b):Blk (Bg a b):=Blk.foldl ha hb.rows
structure PrtI (p:Prt):Prop where
 len:p.ids.length=p.blocks.length
 le:p.blocks.length≤6
 blk:∀ b∈p.blocks,Blk b
theorem PrtI.sz {p:Prt}(h:PrtI p):Ck p:=⟨h.len,by have:=h.le; omega,fun b hb=>by have:=(h.blk b hb).len; omega⟩
theorem PrtI.nil:PrtI ⟨[],[]⟩:=⟨rfl,by simp,by simp⟩
theorem PrtI.of {p:Prt}(h:PrtI p) (id:Int):Blk (partOf p id):=by
 rcases GG id p.ids p.blocks with h1 | h1
 ·unfold partOf; rw [h1]; exact Blk.nil
 ·exact h.blk _ h1
theorem KI:∀ (bs:List (List Row)) (i:Nat),(BY i bs).1.length=(BY i bs).2.length∧(BY i bs).2.length≤bs.length∧∀ b∈(BY i bs).2,b∈bs:=by
 intro bs
 induction bs with
 | nil=>intro i; simp [BY]
 | cons b bs ih =>
   intro i
   obtain ⟨h1,h2,h3⟩:=ih (i+1)
   unfold BY
   split
   ·refine ⟨by simp [h1],by simp; omega,fun x hx=>?_⟩
    rcases List.mem_cons.1 hx with rfl | hx
    ·simp
    ·exact List.mem_cons_of_mem _ (h3 x hx)
   ·exact ⟨h1,by simp; omega,fun x hx=>List.mem_cons_of_mem _ (h3 x hx)⟩
theorem PrtI.make {bs:List (List Row)}(hl:bs.length≤6) (h:∀ b∈bs,Blk b):PrtI (C2 bs):=by
 obtain ⟨h1,h2,h3⟩:=KI bs 0
 exact ⟨h1,by unfold C2; dsimp only; omega,fun b hb=>h b (h3 b hb)⟩
theorem PrtI.merge {p q:Prt}(hp:PrtI p) (hq:PrtI q):PrtI (BW p q):=by
 refine PrtI.make (by rw [DX]; omega) (fun b hb=>?_)
 simp only [Be,List.mem_map] at hb
 obtain ⟨i,_,rfl⟩:=hb
 exact (hp.of _).merge (hq.of _)
theorem PF:∀ (mem:List Smp) (bl:List (List Row)),bl.length=6→(∀ b∈bl,Blk b)→(∀ m∈mem,Bi m.row=true)→(mem.foldl Ff bl).length=6∧∀ b∈mem.foldl Ff bl,Blk b:=by
 intro mem
 induction mem with
 | nil=>intro bl h1 h2 _; exact ⟨h1,h2⟩
 | cons m ms ih =>
   intro bl h1 h2 h3
   refine ih (Ff bl m) (by rw [PA,h1]) (fun b hb=>?_) (fun x hx=>h3 x (by simp [hx]))
   unfold Ff at hb
   rcases List.mem_or_eq_of_mem_set hb with hb | rfl
   ·exact h2 b hb
   ·refine Blk.put ?_ (h3 m AD)
    rw [List.getD_eq_getElem?_getD]
    cases hx:bl[(m.id - 1).toNat]? with
    | none=>exact Blk.nil
    | some y=>exact h2 y (AV hx)
theorem PrtI.mem {mem:List Smp}(h:∀ m∈mem,Bi m.row=true):PrtI (BJ mem):=by
 obtain ⟨h1,h2⟩:=PF mem [[],[],[],[],[],[]] rfl (by simp [Blk.nil]) h
 exact PrtI.make AB h2
structure NmI (names:List (List Tag)):Prop where
 len:names.length≤6
 ok:∀ n∈names,BC n=true
 nodup:(names.map text).Nodup
theorem Dh {lo hi:Int}{s:Str}(h:JD lo hi s=true):s.length=1:=by
 match s,h with
 | [x],_=>rfl
 | [],h=>simp [JD] at h
 | x::y::r,h=>simp [JD] at h
theorem EZ:∀ (n:List Tag) (o:Option Tag),DV o n=true→∀ t∈n,Bq t=true:=by
 intro n
 induction n with
 | nil=>intro o _ t ht; cases ht
 | cons x xs ih =>
   intro o h t ht
   simp only [DV,AW] at h
   rcases List.mem_cons.1 ht with rfl | ht
   ·exact h.1.1
   ·exact ih _ h.2 t ht
theorem OE {n:List Tag}(h:BC n=true):n.length≤3∧Fc n:=by
 simp only [BC,AW] at h
 have h1:=CF h.2
 refine ⟨by omega,by omega,fun t ht=>?_⟩
 have h2:=EZ n none h.1 t ht
 simp only [Bq,AW] at h2
 have h3:=Dh h2.1
 have h4:=Dh h2.2
 omega
theorem NmI.sz {names:List (List Tag)}(h:NmI names):∀ n∈names,Fc n:=fun n hn=>(OE (h.ok n hn)).2
theorem Li (t:Str):∀ (ns:List (List Tag)) (i:Nat),(nmF t i ns=0∧t∉ns.map text)∨((i:Int)< nmF t i ns∧nmF t i ns≤i+ns.length∧t∈ns.map text):=by
 intro ns
 induction ns with
 | nil=>intro i; simp [nmF]
 | cons x xs ih =>
   intro i
   unfold nmF
   by_cases h:text x=t
   ·right
    simp [h]
    omega
   ·have h1:¬ (text x==t)=true:=by simpa using h
    rw [if_neg h1]
    rcases ih (i+1) with ⟨h2,h3⟩ | ⟨h2,h3,h4⟩
    ·left
     refine ⟨h2,?_⟩
     simp only [List.map_cons,List.mem_cons,not_or]
     exact ⟨fun e=>h e.symm,h3⟩
    ·right
     refine ⟨by omega,by simp only [List.length_cons]; omega,?_⟩
     simp only [List.map_cons,List.mem_cons]
     exact .inr h4
theorem NmI.add {names:List (List Tag)}{ps:List Pst}(h:NmI names){n:List Tag}(hn:BC n=true) (h0:¬ Fe ⟨names,ps⟩ n > 0) (hl:names.length< 6):NmI (names++[n]):=by
 refine ⟨by simp; omega,fun m hm=>?_,?_⟩
 ·rcases List.mem_append.1 hm with hm | hm
  ·exact h.ok m hm
  ·simp at hm; rw [hm]; exact hn
 ·rw [List.map_append]
  refine List.nodup_append.2 ⟨h.nodup,by simp,fun a ha b hb=>?_⟩
  simp at hb
  subst hb
  rintro rfl
  rcases Li (text n) names 0 with ⟨h2,h3⟩ | ⟨h2,_,_⟩
  ·exact h3 ha
  ·exact h0 (by unfold Fe; simpa using h2)
structure StoI (s:Sto):Prop where
 idx:s.idx=idxOf s.idx.names
 nm:NmI s.idx.names
 np:s.parts.length≤6
 part:∀ p∈s.parts,PrtI p
 nm2:s.mem.length≤20
 mem:∀ m∈s.mem,1≤m.id∧m.id≤s.idx.names.length∧Bi m.row=true
theorem StoI.sz {s:Sto}(h:StoI s):KE s:=⟨⟨by have:=h.nm.len; omega,h.nm.sz⟩,by have:=h.np; omega,fun p hp=>(h.part p hp).sz,by have:=h.nm2; omega⟩
theorem StoI.copy {s:Sto}(h:StoI s):Am s=s:=by
 have:=h.idx
 unfold Am
 rw [← this]
theorem StoI.Hg {s:Sto}(h:StoI s):∀ m∈s.mem,1≤m.id∧m.id≤6:=fun m hm=>by
 have h1:=h.mem m hm
 have h2:=h.nm.len
 omega
theorem StoI.new:StoI ⟨⟨[],[]⟩,[],[]⟩:=⟨by rfl,⟨by simp,by simp,by simp⟩,by simp,by simp,by simp,by simp⟩
theorem PG {ix:Idx}(h:ix=idxOf ix.names) (hn:NmI ix.names) (n:List Tag) :
 (Bu ix n).1=idxOf (Bu ix n).1.names∧NmI (Bu ix n).1.names∧ix.names.length≤(Bu ix n).1.names.length∧((Bu ix n).2.2=true→1≤(Bu ix n).2.1∧(Bu ix n).2.1≤(Bu ix n).1.names.length):=by
 by_cases h1:Fe ix n > 0
 ·rw [Fo h1]
  refine ⟨h,hn,Nat.le_refl _,fun _=>?_⟩
  rcases Li (text n) ix.names 0 with ⟨h2,_⟩ | ⟨h2,h3,_⟩
  ·unfold Fe at h1; omega
  ·unfold Fe at h1 ⊢; simp only; omega
 ·by_cases h2:BC n=false∨(ix.names.length:Int)≥6
  ·rw [Ei h1 h2]
   exact ⟨h,hn,Nat.le_refl _,by simp⟩
  ·have h3:BC n=true:=by
    cases h4:BC n
    ·exact absurd (.inl h4) h2
    ·rfl
   have h4:¬ (ix.names.length:Int)≥6:=fun h=>h2 (.inr h)
   rw [Fp h1 h3 h4]
   refine ⟨rfl,?_,by simp [idxOf],fun _=>by simp [idxOf]; omega⟩
   exact NmI.add (ps:=ix.AY) hn h3 h1 AB
theorem StoI.add {s:Sto}(h:StoI s) (n:List Tag) (r:Row):StoI (CI s n r).1:=by
 unfold CI
 split
 ·exact h
 ·rename_i h1
  split
  ·exact h
  ·simp only [Bool.or_eq_true,not_or] at h1
   obtain ⟨⟨h1,h2⟩,h3⟩:=h1
   obtain ⟨g1,g2,g3,g4⟩:=PG h.idx h.nm n
   have h5:=g4 (by simpa using h1)
   refine ⟨g1,g2,h.np,h.part,?_,fun m hm=>?_⟩
   ·have:¬ s.mem.length≥20:=by simpa using h3
    simp only [Hd,List.length_append,List.length_cons,List.length_nil]; omega
   ·rcases List.mem_append.1 hm with hm | hm
    ·have:=h.mem m hm
     refine ⟨this.1,?_,this.2.2⟩
     have h6:=this.2.1
     show m.id≤((Bu s.idx n).1.names.length:Int)
     omega
    ·simp at hm
     subst hm
     exact ⟨h5.1,h5.2,by simpa using h2⟩
theorem StoI.flush {s:Sto}(h:StoI s):StoI (As s).1:=by
 unfold As
 split
 ·exact h
 ·rename_i h1
  refine ⟨h.idx,h.nm,by simp; omega,fun p hp=>?_,by simp,by simp⟩
  rcases List.mem_append.1 hp with hp | hp
  ·exact h.part p hp
  ·simp at hp; subst hp; exact PrtI.mem (fun m hm=>(h.mem m hm).2.2)
theorem StoI.merge {s:Sto}(h:StoI s) (a:Int):StoI (Au s a).1:=by
 unfold Au
 split
 ·rename_i h1
  have h2:=CF h1
  have h3:a.toNat+1< s.parts.length:=by omega
  refine ⟨h.idx,h.nm,?_,fun p hp=>?_,h.nm2,h.mem⟩
  ·show (FM s.parts a.toNat).length≤6
   rw [GH (AU AB) (AU h3)]
   have:=h.np
   simp only [List.length_append,List.length_take,List.length_drop,List.length_cons,List.length_nil]
   omega
  ·change p∈FM s.parts a.toNat at hp
   rw [GH (AU AB) (AU h3)] at hp
   rcases List.mem_append.1 hp with hp | hp
   ·rcases List.mem_append.1 hp with hp | hp
    ·exact h.part p (List.mem_of_mem_take hp)
    ·simp at hp; subst hp
     exact (h.part _ (List.getElem_mem _)).merge (h.part _ (List.getElem_mem _))
   ·exact h.part p (List.mem_of_mem_drop hp)
 ·exact h
structure DskI (d:Dsk):Prop where
 nm:NmI d.names
 nf:d.files.length≤20
 file:∀ f∈d.files,PrtI f.part
 nl:d.list.length≤6
 there:∀ n∈d.list,∃ f∈d.files,f.num=n
 num:∀ n∈d.list,0≤n∧n≤999
 next:1≤d.next∧d.next≤999
theorem OF (n:Int):∀ (fs:List Fil) (i:Nat),0≤C1 n i fs↔∃ f∈fs,f.num=n:=by
 intro fs
 induction fs with
 | nil=>intro i; simp [C1]
 | cons f fs ih =>
   intro i
   unfold C1
   by_cases h:f.num=n
   ·simp [h]
   ·have h1:¬ (f.num==n)=true:=by simpa using h
    rw [if_neg h1,ih]
    simp [h]
theorem Ea (d:Dsk) (n:Int):0≤Av d n↔∃ f∈d.files,f.num=n:=OF n d.files 0
theorem DskI.at {d:Dsk}(h:DskI d):∀ n∈d.list,0≤Av d n:=fun n hn=>(Ea d n).2 (h.there n hn)
theorem DskI.new:DskI ⟨[],[],[],1⟩:=⟨⟨by simp,by simp,by simp⟩,by simp,by simp,by simp,by simp,by simp,by simp⟩
theorem DskI.part {d:Dsk}(h:DskI d) (n:Int):PrtI (BH d n):=by
 unfold BH
 rw [List.getD_eq_getElem?_getD]
 cases hx:d.files[(Av d n).toNat]? with
 | none=>exact PrtI.nil
 | some f=>exact h.file f (AV hx)
theorem DskI.copy {d:Dsk}(h:DskI d):DskI (BP d):=by
 refine ⟨h.nm,by simp [BP]; exact h.nf,fun f hf=>?_,h.nl,fun n hn=>?_,h.num,h.next⟩
 ·simp only [BP,List.mem_map] at hf
  obtain ⟨g,hg,rfl⟩:=hf
  exact (h.file g hg).merge PrtI.nil
 ·obtain ⟨f,hf,he⟩:=h.there n hn
  exact ⟨JM f,by simp only [BP,List.mem_map]; exact ⟨f,hf,rfl⟩,he⟩
theorem DskI.tidy {d:Dsk}(h:DskI d):DskI (BM d):=by
 refine ⟨h.nm,Nat.le_trans (List.length_filter_le _ _) h.nf,fun f hf=>h.file f (List.mem_filter.1 hf).1,h.nl,fun n hn=>?_,h.num,h.next⟩
 obtain ⟨f,hf,he⟩:=h.there n hn
 exact ⟨f,List.mem_filter.2 ⟨hf,by rw [he]; have h1:n∈d.list:=hn; simpa using h1⟩,he⟩
theorem DskI.open {d:Dsk}(h:DskI d):StoI (At d):=by
 refine ⟨rfl,h.nm,by simp [At]; exact h.nl,fun p hp=>?_,by simp [At],by simp [At]⟩
 simp only [At,List.mem_map] at hp
 obtain ⟨n,_,rfl⟩:=hp
 exact h.part n
theorem DskI.gone {d:Dsk}(h:DskI d) (n:Int):DskI ⟨DY d n,d.list,d.names,d.next⟩:=by
 unfold DY
 split
 ·rename_i h1
  refine ⟨h.nm,?_,fun f hf=>?_,h.nl,fun k hk=>?_,h.num,h.next⟩
  ·have:=h.nf
   simp only [List.length_append,List.length_take,List.length_drop]; omega
  ·rcases List.mem_append.1 hf with hf | hf
   ·exact h.file f (List.mem_of_mem_take hf)
   ·exact h.file f (List.mem_of_mem_drop hf)
  ·obtain ⟨f,hf,he⟩:=h.there k hk
   obtain ⟨i,hi,hif⟩:=List.mem_iff_getElem.1 hf
   have hne:k≠n:=by rintro rfl; have:=h1.2; simp at this; exact this hk
   have hat:∀ (fs:List Fil) (j:Nat) (g:Fil),0≤C1 n j fs→fs[(C1 n j fs).toNat - j]? = some g→g.num=n:=by
    intro fs
    induction fs with
    | nil=>intro j g hj; simp [C1] at hj
    | cons y ys ih =>
      intro j g hj hg
      unfold C1 at hj hg
      by_cases hy:(y.num==n)=true
      ·rw [if_pos hy] at hg
       simp at hg
       subst hg
       simpa using hy
      ·rw [if_neg hy] at hj hg
       have h3:=Iu n ys (j+1)
       have h4:(C1 n (j+1) ys).toNat - j=((C1 n (j+1) ys).toNat - (j+1))+1:=by omega
       rw [h4,List.getElem?_cons_succ] at hg
       exact ih _ _ hj hg
   have hin:i≠(Av d n).toNat:=by
    rintro rfl
    have:=hat d.files 0 f h1.1 (by show d.files[(Av d n).toNat - 0]? = _; rw [Nat.sub_zero,AU hi,hif])
    exact hne (he▸this)
   refine ⟨f,?_,he⟩
   rcases Nat.lt_or_gt_of_ne hin with hlt | hgt
   ·refine List.mem_append.2 (.inl (List.mem_iff_getElem.2 ⟨i,by simp; omega,?_⟩))
    rw [List.getElem_take]; exact hif
   ·refine List.mem_append.2 (.inr (List.mem_iff_getElem.2 ⟨i - ((Av d n).toNat+1),by simp; omega,?_⟩))
    rw [List.getElem_drop]
    simp only [show (Av d n).toNat+1+(i - ((Av d n).toNat+1))=i by omega]
    exact hif
 ·exact h
theorem DskI.R9 {d:Dsk}(h:DskI d){p:Prt}(hp:PrtI p) (hf:d.files.length< 20) (hn:d.next< 999):DskI ⟨d.files++[⟨d.next,p⟩],d.list,d.names,d.next+1⟩:=by
 refine ⟨h.nm,by simp; omega,fun f hf=>?_,h.nl,fun n hn=>?_,h.num,by have:=h.next; simp only; omega⟩
 ·rcases List.mem_append.1 hf with hf | hf
  ·exact h.file f hf
  ·simp at hf; subst hf; exact hp
 ·obtain ⟨f,hf,he⟩:=h.there n hn
  exact ⟨f,List.mem_append.2 (.inl hf),he⟩
structure WI (w:Wld):Prop where
 sto:StoI w.store
 dsk:DskI w.disk
theorem WI.new:WI ⟨⟨⟨[],[]⟩,[],[]⟩,⟨[],[],[],1⟩⟩:=⟨StoI.new,DskI.new⟩
theorem WI.Qn {w:Wld}(h:DskI w.disk):WI (BE w):=by
 have h1:=h.tidy.copy
 refine ⟨?_,h1⟩
 show StoI (Am (At (BP (BM w.disk))))
 rw [h1.open.copy]
 exact h1.open
theorem WI.copy {w:Wld}(h:WI w):WI (Cd w):=⟨by show StoI (Am w.store); rw [h.sto.copy]; exact h.sto,h.dsk.copy⟩
structure StI (d:Dsk) (st:List Stp):Prop where
 len:st.length≤4
 sz:∀ x∈st,II x
 ok:∀ k:Nat,DskI ((st.take k).foldl doD d)
theorem StI.nil {d:Dsk}(h:DskI d):StI d []:=⟨by simp,by simp,by simpa using h⟩
theorem Hh {d:Dsk}{x:Stp}{xs:List Stp}(h0:DskI d) (h:∀ k:Nat,DskI ((xs.take k).foldl doD (doD d x))):∀ k:Nat,DskI (((x::xs).take k).foldl doD d):=by
 intro k
 cases k with
 | zero=>exact h0
 | succ k=>exact h k
theorem NZ {d:Dsk}(h0:DskI d):∀ k:Nat,DskI ((([]:List Stp).take k).foldl doD d):=by intro k; simpa using h0
theorem StI.flush {w:Wld}(h:WI w):StI w.disk (BD w.disk w.store):=by
 unfold BD
 split
 ·exact StI.nil h.dsk
 ·rename_i h1
  have hd:=h.dsk
  have hs:=h.sto
  have hp:PrtI (BJ w.store.mem):=PrtI.mem (fun m hm=>(hs.mem m hm).2.2)
  have h2:=hd.R9 hp AB AB
  have hn:=hd.next
  refine ⟨by simp,fun x hx=>?_,?_⟩
  ·simp only [List.mem_cons,List.not_mem_nil,or_false] at hx
   rcases hx with rfl | rfl
   ·exact ⟨by simp,by simp,by simp,by simp only; omega,by simp only; omega⟩
   ·refine ⟨?_,?_,fun n hn=>?_,by simp,by simp⟩
    ·have:=hd.nl; simp; omega
    ·have:=hs.nm.len; simp only; omega
    ·have:=(hs.nm.sz n hn).1; omega
  ·refine Hh hd (Hh ?_ (NZ ?_))
   ·rw [E6 rfl]; exact h2
   ·rw [Fs rfl,E6 rfl]
    refine ⟨hs.nm,h2.nf,h2.file,by simp only [List.length_append,List.length_cons,List.length_nil]; omega,fun n hn'=>?_,fun n hn'=>?_,h2.next⟩
    ·rcases List.mem_append.1 hn' with hn' | hn'
     ·exact h2.there n hn'
     ·simp at hn'; subst hn'
      exact ⟨⟨w.disk.next,BJ w.store.mem⟩,by simp,rfl⟩
    ·rcases List.mem_append.1 hn' with hn' | hn'
     ·exact h2.num n hn'
     ·simp at hn'; omega
theorem StI.merge {d:Dsk}(hd:DskI d) (at_:Int):StI d (BF d at_):=by
 unfold BF
 split
 ·exact StI.nil hd
 ·rename_i h1
  simp only [Bool.or_eq_true,not_or,Bool.not_eq_true,Bool.not_eq_false',decide_eq_true_eq] at h1
  obtain ⟨⟨h1,h3⟩,h4⟩:=h1
  have h0:=CF (by simpa using h1)
  have hl:at_.toNat+1< d.list.length:=by omega
  have ha:d.list.getD at_.toNat 0∈d.list:=by rw [List.getD_eq_getElem?_getD,AU AB]; exact List.getElem_mem _
  have hb:d.list.getD (at_.toNat+1) 0∈d.list:=by rw [List.getD_eq_getElem?_getD,AU hl]; exact List.getElem_mem _
  have na:=hd.num _ ha
  have nb:=hd.num _ hb
  generalize d.list.getD at_.toNat 0=a at *
  generalize d.list.getD (at_.toNat+1) 0=b at *
  have hp:PrtI (BW (BH d a) (BH d b)):=(hd.part a).merge (hd.part b)
  have h2:=hd.R9 hp AB AB
  have hn:=hd.next
  have hlen:(d.list.take at_.toNat++[d.next]++d.list.drop (at_.toNat+2)).length≤6:=by
   have:=hd.nl
   simp only [List.length_append,List.length_take,List.length_drop,List.length_cons,List.length_nil]; omega
  have hm:∀ n∈d.list.take at_.toNat++[d.next]++d.list.drop (at_.toNat+2),n∈d.list∨n=d.next:=by
   intro n hn
   rcases List.mem_append.1 hn with hn | hn
   ·rcases List.mem_append.1 hn with hn | hn
    ·exact .inl (List.mem_of_mem_take hn)
    ·simp at hn; exact .inr hn
   ·exact .inl (List.mem_of_mem_drop hn)
  have h5:DskI ⟨d.files++[⟨d.next,BW (BH d a) (BH d b)⟩],d.list.take at_.toNat++[d.next]++d.list.drop (at_.toNat+2),d.names,d.next+1⟩:=by
   refine ⟨h2.nm,h2.nf,h2.file,hlen,fun n hn'=>?_,fun n hn'=>?_,h2.next⟩
   ·rcases hm n hn' with hn' | rfl
    ·exact h2.there n hn'
    ·exact ⟨⟨d.next,BW (BH d a) (BH d b)⟩,by simp,rfl⟩
   ·rcases hm n hn' with hn' | rfl
    ·exact h2.num n hn'
    ·omega
  refine ⟨by simp,fun x hx=>?_,?_⟩
  ·simp only [List.mem_cons,List.not_mem_nil,or_false] at hx
   rcases hx with rfl | rfl | rfl | rfl
   ·exact ⟨by simp,by simp,by simp,by simp only; omega,by simp only; omega⟩
   ·refine ⟨by simp only; omega,by have:=hd.nm.len; simp only; omega,fun n hn=>?_,by simp,by simp⟩
    have:=(hd.nm.sz n hn).1; omega
   ·exact ⟨by simp,by simp,by simp,by simp only; omega,by simp only; omega⟩
   ·exact ⟨by simp,by simp,by simp,by simp only; omega,by simp only; omega⟩
  ·refine Hh hd (Hh ?_ (Hh ?_ (Hh ?_ (NZ ?_))))
   ·rw [E6 rfl]; exact h2
   ·rw [Fs rfl,E6 rfl]; exact h5
   ·rw [Ej rfl,Fs rfl,E6 rfl]; exact h5.gone a
   ·rw [Ej rfl,Ej rfl,Fs rfl,E6 rfl]; exact (h5.gone a).gone b
theorem WI.steps {w:Wld}(h:WI w){st:List Stp}(hs:StI w.disk st) (cut:Int){s:Sto}(h2:StoI s):WI (BZ w st cut s):=by
 unfold BZ
 split
 ·exact h
 ·split
  ·exact WI.Qn (hs.ok _)
  ·exact ⟨h2,hs.ok _⟩
theorem WI.do {w:Wld}(h:WI w) (e:Evt):WI (doW w e):=by
 unfold doW
 split
 ·split
  ·exact ⟨h.sto.add _ _,h.dsk⟩
  ·exact h
 ·split
  ·exact h.steps (StI.flush h) _ h.sto.flush
  ·split
   ·exact h.steps (StI.merge h.dsk _) _ (h.sto.merge _)
   ·split
    ·exact WI.Qn h.dsk
    ·exact h
theorem D9 {w:Wld}{st:List Stp}{c:Int}{s:Sto}(h:(st.length:Int)=0∨c< 0):BZ w st c s=w:=by unfold BZ; rw [if_pos AB]
theorem Eb {w:Wld}{st:List Stp}{c:Int}{s:Sto}(h:(st.length:Int)≠0) (h2:¬ c< 0) (h3:c< st.length):BZ w st c s=BE ⟨w.store,toD w.disk st c⟩:=by unfold BZ; rw [if_neg AB,if_pos h3]
theorem Ec {w:Wld}{st:List Stp}{c:Int}{s:Sto}(h:(st.length:Int)≠0) (h2:¬ c< 0) (h3:¬ c< st.length):BZ w st c s=⟨s,toD w.disk st c⟩:=by unfold BZ; rw [if_neg AB,if_neg h3]
theorem Lj {w:Wld}{e:Evt}(h:e.kind=1) (h2:BC e.name=true):doW w e=⟨(CI w.store e.name e.row).1,w.disk⟩:=by unfold doW; rw [if_pos h,if_pos h2]
theorem K7 {w:Wld}{e:Evt}(h:e.kind=1) (h2:BC e.name=false):doW w e=w:=by unfold doW; rw [if_pos h,if_neg (by simp [h2])]
theorem KJ {w:Wld}{e:Evt}(h:e.kind=2):doW w e=BZ w (BD w.disk w.store) e.cut (As w.store).1:=by unfold doW; rw [if_neg AB,if_pos h]
theorem KK {w:Wld}{e:Evt}(h:e.kind=3):doW w e=BZ w (BF w.disk e.at_) e.cut (Au w.store e.at_).1:=by unfold doW; rw [if_neg AB,if_neg AB,if_pos h]
theorem Na {w:Wld}{e:Evt}(h:e.kind=4):doW w e=BE w:=by unfold doW; rw [if_neg AB,if_neg AB,if_neg AB,if_pos h]
theorem Nc {w:Wld}{e:Evt}(h:e.kind≠1) (h2:e.kind≠2) (h3:e.kind≠3) (h4:e.kind≠4):doW w e=w:=by unfold doW; rw [if_neg h,if_neg h2,if_neg h3,if_neg h4]
end Go.Proofs.YtggnnidleedpaaaGreat
namespace Go.Proofs.YtggnnidleedpaaaGreat
set_option maxRecDepth 100000
set_option maxHeartbeats 4000000
variable {w:World} {F:Nat→Prop} {a1 a2 a3 a4 a5 a6 a7 a8 a9 a10 a11 a12:Option Addr} {n1 c1 n2 c2 n3 c3 n4 c4 n5 c5 n6 c6 n7 c7 n8 c8 n9 c9 n10 c10 n11 c11 n12 c12:Nat}
theorem Fu (w_:Wld) (h1:RepS w F a1 n1 c1 w_.store.idx.names) (h2:RepS w F a2 n2 c2 w_.store.idx.AY) (h3:RepS w F a3 n3 c3 w_.store.parts) (h4:RepS w F a4 n4 c4 w_.store.mem) (h5:RepS w F a5 n5 c5 w_.disk.files) (h6:RepS w F a6 n6 c6 w_.disk.list) (h7:RepS w F a7 n7 c7 w_.disk.names) (p0:WI w_):Calls Tryz.prog 37 [.agg #[.slice a1 n1 c1,.slice a2 n2 c2,.slice a3 n3 c3,.slice a4 n4 c4,.slice a5 n5 c5,.slice a6 n6 c6,.slice a7 n7 c7,.int .i64 w_.disk.next]].toArray w (BB fun rv w'=>(∃ (a0:Option Addr) (n0 c0:Nat) (a1:Option Addr) (n1 c1:Nat) (a2:Option Addr) (n2 c2:Nat) (r3 n3 c3:Nat) (r4 n4 c4:Nat) (r5 n5 c5:Nat) (r6 n6 c6:Nat),rv=.agg #[.slice a0 n0 c0,.slice a1 n1 c1,.slice a2 n2 c2,.slice (some ⟨r3,0,none⟩) n3 c3,.slice (some ⟨r4,0,none⟩) n4 c4,.slice (some ⟨r5,0,none⟩) n5 c5,.slice (some ⟨r6,0,none⟩) n6 c6,.int .i64 ((((Cd w_)).disk).next)]∧RepS w' (nin (ge w.heap.size) [r3,r4,r5,r6]) a0 n0 c0 (((((Cd w_)).store).idx).names)∧RepS w' (nin (ge w.heap.size) [r3,r4,r5,r6]) a1 n1 c1 (((((Cd w_)).store).idx).AY)∧RepS w' (nin (ge w.heap.size) [r3,r4,r5,r6]) a2 n2 c2 ((((Cd w_)).store).parts)∧Own w' r3 85 (nin (ge w.heap.size) [r3,r4,r5,r6]) n3 c3 ((((Cd w_)).store).mem)∧w.heap.size≤r3∧Own w' r4 50 (nin (ge w.heap.size) [r3,r4,r5,r6]) n4 c4 ((((Cd w_)).disk).files)∧w.heap.size≤r4∧Nb r4 r3∧Own w' r5 3 (nin (ge w.heap.size) [r3,r4,r5,r6]) n5 c5 ((((Cd w_)).disk).list)∧w.heap.size≤r5∧Nb r5 r3∧Nb r5 r4∧Own w' r6 43 (nin (ge w.heap.size) [r3,r4,r5,r6]) n6 c6 ((((Cd w_)).disk).names)∧w.heap.size≤r6∧Nb r6 r3∧Nb r6 r4∧Nb r6 r5)∧Ext w w'):=by
 refine goT func37 ?_
 obtain ⟨rfl,bK,h1⟩:=h1.tp
 obtain ⟨rfl,bL,h2⟩:=h2.tp
 obtain ⟨rfl,bM,h3⟩:=h3.tp
 obtain ⟨rfl,bN,h4⟩:=h4.tp
 obtain ⟨rfl,bO,h5⟩:=h5.tp
 obtain ⟨rfl,bP,h6⟩:=h6.tp
 obtain ⟨rfl,bQ,h7⟩:=h7.tp
 refine .s<|.g<|.np 38 [.slice a1 w_.store.idx.names.length c1,.slice a2 w_.store.idx.AY.length c2,.slice a3 w_.store.parts.length c3,.slice a4 w_.store.mem.length c4,.slice a5 w_.disk.files.length c5,.slice a6 w_.disk.list.length c6,.slice a7 w_.disk.names.length c7,vI w_.disk.next] fun W bZ aI aA aa bg=>?_
 replace ⟨h1,h2,h3,h4,h5,h6,h7⟩:=(sn [] aA aI).g7 h1 h2 h3 h4 h5 h6 h7
 have C:=aA
 refine .np 38 [AH,AH,AH,AH,AH,AH,AH,vI 0] fun ab b0 aB aJ E bh=>?_
 have bR:=C.cn aB
 replace ⟨h1,h2,h3,h4,h5,h6,h7,aa,C⟩:=(sn [W] aJ aB).g9 h1 h2 h3 h4 h5 h6 h7 aa C
 refine .d<|.s<|.gd nil 5 fun b6 aK=>?_
 replace ⟨h1,h2,h3,h4,h5,h6,h7,aa,E,C⟩:=(se [ab,W] aK).g10 h1 h2 h3 h4 h5 h6 h7 aa E C
 refine .r [0]<|.ln 1 aa id<|.r [3]<|.ln 4 aa id<|.go 2<|.cl (fun aQ am=>Fq w_.store (h1.ta.ext am) (h2.ta.ext am) (h3.ta.ext am) (h4.ta.ext am) p0.sto.sz (w:=aQ) (F:=all)) ?_
 intro aQ am
 replace ⟨h5,h6,h7,aa,E,C⟩:=(se [ab,W] am).g6 h5 h6 h7 aa E C
 rintro b7 aG ⟨⟨bi,b8,bj,bk,b9,bm,bn,cd,bo,ac,bq,br,rfl,ag,ah,ai,J,ay⟩,aC⟩
 have aq:=al2 E.lt aa.lt
 have az:Gb w.heap.size aQ.heap.size:=C.size
 have hkeep_:=aC
 have bS:=Ah ay E.lt
 have bt:=Bo ay C.size
 replace ⟨h5,h6,h7,aa,E,C⟩:=(sz [ab,W] aC ay).g6 h5 h6 h7 aa E C
 refine ⟨Ext.chg hkeep_,?_⟩
 replace ag:RepS aG (nin (ge w.heap.size) [ac,ab,W]) _ _ _ _:=RepS.Bc (s0:=w.heap.size) (M:=[ab,W]) ag aq az
 have bT:=ag.max
 replace ah:RepS aG (nin (ge w.heap.size) [ac,ab,W]) _ _ _ _:=RepS.Bc (s0:=w.heap.size) (M:=[ab,W]) ah aq az
 have bU:=ah.max
 replace ai:RepS aG (nin (ge w.heap.size) [ac,ab,W]) _ _ _ _:=RepS.Bc (s0:=w.heap.size) (M:=[ab,W]) ai aq az
 have bV:=ai.max
 replace J:Own aG ac 85 (nin (ge w.heap.size) [ac,ab,W]) _ _ _:=Own.Bc (s0:=w.heap.size) (M:=[ab,W]) J aq az
 have bu:=ag.len
 subst bu
 have bv:=ah.len
 subst bv
 have bw:=ai.len
 subst bw
 refine .d fun aR aL=>?_
 replace ⟨h5,h6,h7,aa,E,ag,ah,ai,J,C⟩:=(se [ac,ab,W] aL).g10 h5 h6 h7 aa E ag ah ai J C
 refine .cl (Ft w_.disk h5.ta h6.ta h7.ta (by have:=p0.dsk.nm.len; omega) (fun n hn=>by have:=(p0.dsk.nm.sz n hn).1; omega) (by have:=p0.dsk.nl; omega) (by have:=p0.dsk.nf; omega) (fun f hf=>(p0.dsk.file f hf).sz) (w:=aR) (F:=all)) ?_
 rintro ce aH ⟨⟨ar,bz,bA,au,aM,aN,av,aO,aP,rfl,aj,aw,ae,ak,aS,af,al,aT,aU⟩,aD⟩
 have ao:=al3 J.lt E.lt aa.lt
 have ax:Gb w.heap.size aR.heap.size:=C.size
 have bB:=Ah aw E.lt
 have aV:=Ah aw J.lt
 have aW:=Bo aw C.size
 have bC:=Ah ak E.lt
 have aX:=Ah ak J.lt
 have aY:=Bo ak C.size
 have bD:=Ah al E.lt
 have aZ:=Ah al J.lt
 have ba:=Bo al C.size
 have aE:Mv [ac,ab,W] [ar,au,av,ac,ab,W] aR aH:=Mv.cons (Mv.cons (Mv.cons (Mv.ext aD) al) ak) aw
 replace ⟨E,ag,ah,ai,J,C⟩:=(sp aE aD).g6 E ag ah ai J C
 replace aj:Own aH ar 50 (nin (ge w.heap.size) [ar,au,av,ac,ab,W]) _ _ _:=Own.Bc (s0:=w.heap.size) (M:=[ac,ab,W]) aj ao ax
 replace ae:Own aH au 3 (nin (ge w.heap.size) [ar,au,av,ac,ab,W]) _ _ _:=Own.Bc (s0:=w.heap.size) (M:=[ac,ab,W]) ae ao ax
 replace af:Own aH av 43 (nin (ge w.heap.size) [ar,au,av,ac,ab,W]) _ _ _:=Own.Bc (s0:=w.heap.size) (M:=[ac,ab,W]) af ao ax
 refine .r 1<|.sc [.slice bi (((((Am w_.store)).idx).names).length) bj,.slice bk (((((Am w_.store)).idx).AY).length) bm,.slice bn ((((Am w_.store)).parts).length) bo,vS ac bq br,vS ar bz bA,vS au aM aN,vS av aO aP,vI (((BP w_.disk)).next)] E fun bY aF bc bd=>?_
 replace ⟨ag,ah,ai,J,aj,ae,af,C⟩:=(so [ar,au,av,ac,ab,W] aF).g8 ag ah ai J aj ae af C
 exact .d<|.rb func37 results37 bc ⟨⟨bi,((((Am w_.store)).idx).names).length,bj,bk,((((Am w_.store)).idx).AY).length,bm,bn,(((Am w_.store)).parts).length,bo,ac,bq,br,ar,bz,bA,au,aM,aN,av,aO,aP,(by rw [show (((BP w_.disk)).next)=((((Cd w_)).disk).next) from by rfl]),((RepS.Ap ag (all_cons AL (all_cons AI (all_cons AJ (all_cons AK all_nil))))).eqx AF),((RepS.Ap ah (all_cons AL (all_cons AI (all_cons AJ (all_cons AK all_nil))))).eqx AF),((RepS.Ap ai (all_cons AL (all_cons AI (all_cons AJ (all_cons AK all_nil))))).eqx AF),((Own.Ap J (all_cons AL (all_cons AI (all_cons AJ (all_cons AK all_nil))))).eqx AF),bt,((Own.Ap aj (all_cons AL (all_cons AI (all_cons AJ (all_cons AK all_nil))))).eqx AF),aW,aV,((Own.Ap ae (all_cons AL (all_cons AI (all_cons AJ (all_cons AK all_nil))))).eqx AF),aY,aX,aS,((Own.Ap af (all_cons AL (all_cons AI (all_cons AJ (all_cons AK all_nil))))).eqx AF),ba,aZ,aT,aU⟩,C⟩
theorem Fv (w_:Wld) (h1:RepS w F a1 n1 c1 w_.store.idx.names) (h2:RepS w F a2 n2 c2 w_.store.idx.AY) (h3:RepS w F a3 n3 c3 w_.store.parts) (h4:RepS w F a4 n4 c4 w_.store.mem) (h5:RepS w F a5 n5 c5 w_.disk.files) (h6:RepS w F a6 n6 c6 w_.disk.list) (h7:RepS w F a7 n7 c7 w_.disk.names) (p0:DskI w_.disk):Calls Tryz.prog 70 [.agg #[.slice a1 n1 c1,.slice a2 n2 c2,.slice a3 n3 c3,.slice a4 n4 c4,.slice a5 n5 c5,.slice a6 n6 c6,.slice a7 n7 c7,.int .i64 w_.disk.next]].toArray w (BB fun rv w'=>VS (ge w.heap.size) w' (BE w_:Wld) rv∧Ext w w'):=by
 refine goT func70 ?_
 obtain ⟨rfl,cw,h1⟩:=h1.tp
 obtain ⟨rfl,cx,h2⟩:=h2.tp
 obtain ⟨rfl,cy,h3⟩:=h3.tp
 obtain ⟨rfl,cz,h4⟩:=h4.tp
 obtain ⟨rfl,cA,h5⟩:=h5.tp
 obtain ⟨rfl,cB,h6⟩:=h6.tp
 obtain ⟨rfl,cC,h7⟩:=h7.tp
 refine .s<|.g<|.np 38 [.slice a1 w_.store.idx.names.length c1,.slice a2 w_.store.idx.AY.length c2,.slice a3 w_.store.parts.length c3,.slice a4 w_.store.mem.length c4,.slice a5 w_.disk.files.length c5,.slice a6 w_.disk.list.length c6,.slice a7 w_.disk.names.length c7,vI w_.disk.next] fun E dj aM aN ab bO=>?_
 have cD:Cov nil w E:=Bf aM (Nat.le_refl _)
 replace ⟨h5,h6,h7⟩:=(sn [] aN aM).g3 h5 h6 h7
 have C:=aN
 refine .np 38 [AH,AH,AH,AH,AH,AH,AH,vI 0] fun J bP aF br W bQ=>?_
 have cE:=AX aF ab.lt
 have cF:=C.cn aF
 replace ⟨h5,h6,h7,ab,C⟩:=(sn [E] br aF).g5 h5 h6 h7 ab C
 refine .d<|.s<|.g<|.r 1<|.ln ab<|.cl (JL w_.disk h5 h6 h7 (by have:=p0.nf; omega) (w:=bP) (F:=nin (fo F w.heap.size) [J,E])) ?_
 rintro dm bR ⟨⟨_,rfl,⟨dp,dq,dr,dt,du,dv,dw,dx,dy,rfl,aO,aP,aQ⟩⟩,bt⟩
 have aG:=al2 W.lt ab.lt
 have aR:Gb w.heap.size bP.heap.size:=C.size
 replace ⟨ab,W,C⟩:=(se [] bt).g3 ab W C
 replace aO:=RepS.Af (M:=[J,E]) aO aG aR
 have cG:=aO.max
 replace aP:=RepS.Af (M:=[J,E]) aP aG aR
 have cH:=aP.max
 replace aQ:=RepS.Af (M:=[J,E]) aQ aG aR
 have cI:=aQ.max
 have bS:=aO.len
 subst bS
 have bT:=aP.len
 subst bT
 have bU:=aQ.len
 subst bU
 refine .cl (Ft (BM w_.disk) aO.ta aP.ta aQ.ta (by have:=p0.tidy.nm.len; omega) (fun n hn=>by have:=(p0.tidy.nm.sz n hn).1; omega) (by have:=p0.tidy.nl; omega) (by have:=p0.tidy.nf; omega) (fun f hf=>(p0.tidy.file f hf).sz) (w:=bR) (F:=all)) ?_
 rintro dz bw ⟨⟨ar,bj,bk,aq,bm,bn,ao,bo,bq,rfl,au,aH,am,aI,cJ,ai,aJ,cK,cL⟩,bu⟩
 have aK:=al2 W.lt ab.lt
 have aS:Gb w.heap.size bR.heap.size:=C.size
 have cM:=Ah aH ab.lt
 have cN:=Ah aH W.lt
 have bV:=Bo aH C.size
 have cO:=Ah aI ab.lt
 have cP:=Ah aI W.lt
 have bz:=Bo aI C.size
 have bY:=Ah aJ ab.lt
 have bZ:=Ah aJ W.lt
 have bA:=Bo aJ C.size
 replace ⟨ab,W,C⟩:=(se [] bu).g3 ab W C
 replace au:Own bw ar 50 (nin (ge w.heap.size) [ar,aq,ao,J,E]) _ _ _:=Own.Bc (s0:=w.heap.size) (M:=[J,E]) au aK aS
 replace am:Own bw aq 3 (nin (ge w.heap.size) [ar,aq,ao,J,E]) _ _ _:=Own.Bc (s0:=w.heap.size) (M:=[J,E]) am aK aS
 have b7:=am.max
 have b8:=am.len
 replace ai:Own bw ao 43 (nin (ge w.heap.size) [ar,aq,ao,J,E]) _ _ _:=Own.Bc (s0:=w.heap.size) (M:=[J,E]) ai aK aS
 have b9:=ai.max
 have cd:=ai.len
 refine .r 1<|.sb 4 (.agg #[vS ar bj bk,vS aq bm bn,vS ao bo bq,vI (((BP (BM w_.disk))).next)]) [.slice a1 w_.store.idx.names.length c1,.slice a2 w_.store.idx.AY.length c2,.slice a3 w_.store.parts.length c3,.slice a4 w_.store.mem.length c4,vS ar bj bk,vS aq bm bn,vS ao bo bq,vI (((BP (BM w_.disk))).next)] ab fun aA aT ae bB=>?_
 replace ⟨W,au,am,ai,C⟩:=(so [ar,aq,ao,J,E] aT).g5 W au am ai C
 refine .d<|.s<|.g<|.r 1<|.ln ae ?_
 have aa:=au.sl bV
 replace ⟨am,ai⟩:=(sd aA [ar,aq,ao,J,E] ar).g2 am ai
 have ac:=am.sl bz
 replace ⟨aa,ai⟩:=(sd aA [aq,ao,J,E] aq).g2 aa ai
 have ag:=ai.sl bA
 replace ⟨aa,ac⟩:=(sd aA [ao,J,E] ao).g2 aa ac
 refine .cl (JN ((BP (BM w_.disk))) (aa.base (fun _ _ h=>.inr h)) (ac.base (fun _ _ h=>.inr h)) (ag.base (fun _ _ h=>.inr h)) (by have:=p0.tidy.copy.nm.len; omega) p0.tidy.copy.nm.sz (by have:=p0.tidy.copy.nl; omega) p0.tidy.copy.at (w:=aA) (F:=nin (fo F w.heap.size) [J,E])) ?_
 rintro cQ bv ⟨⟨_,rfl,⟨cR,cS,cT,cU,cV,cW,cX,cY,cZ,c8,c9,da,rfl,aB,aC,aD,aE⟩⟩,aU⟩
 have av:=al2 W.lt ae.lt
 have ay:Gb w.heap.size aA.heap.size:=C.size
 replace ⟨ae,W,aa,ac,ag,C⟩:=(se [J,E] aU).g6 ae W aa ac ag C
 replace aB:=RepS.Af (M:=[J,E]) aB av ay
 have ce:=aB.max
 replace aC:=RepS.Af (M:=[J,E]) aC av ay
 have cg:=aC.max
 replace aD:=RepS.Af (M:=[J,E]) aD av ay
 have ci:=aD.max
 replace aE:=RepS.Af (M:=[J,E]) aE av ay
 have cj:=aE.max
 have bC:=aB.len
 subst bC
 have bD:=aC.len
 subst bD
 have bE:=aD.len
 subst bE
 have bF:=aE.len
 subst bF
 refine .cl (Fq (⟨(⟨((At ((BP (BM w_.disk)))).idx).names,((At ((BP (BM w_.disk)))).idx).AY⟩:Idx),(At ((BP (BM w_.disk)))).parts,(At ((BP (BM w_.disk)))).mem⟩:Sto) aB.ta aC.ta aD.ta aE.ta p0.tidy.copy.open.sz (w:=bv) (F:=all)) ?_
 rintro db aL ⟨⟨aV,de,aW,aX,df,aY,aZ,dg,ba,ah,bc,bd,rfl,aj,ak,al,af,aw⟩,bg⟩
 have ax:=al2 W.lt ae.lt
 have az:Gb w.heap.size bv.heap.size:=C.size
 have ck:=Ah aw ae.lt
 have cm:=Ah aw W.lt
 have bG:=Bo aw C.size
 replace ⟨ae,W,aa,ac,ag,C⟩:=(sz [J,E] bg aw).g6 ae W aa ac ag C
 replace aj:RepS aL (nin (ge w.heap.size) [ah,J,E]) _ _ _ _:=RepS.Bc (s0:=w.heap.size) (M:=[J,E]) aj ax az
 have co:=aj.max
 replace ak:RepS aL (nin (ge w.heap.size) [ah,J,E]) _ _ _ _:=RepS.Bc (s0:=w.heap.size) (M:=[J,E]) ak ax az
 have cp:=ak.max
 replace al:RepS aL (nin (ge w.heap.size) [ah,J,E]) _ _ _ _:=RepS.Bc (s0:=w.heap.size) (M:=[J,E]) al ax az
 have cq:=al.max
 replace af:Own aL ah 85 (nin (ge w.heap.size) [ah,J,E]) _ _ _:=Own.Bc (s0:=w.heap.size) (M:=[J,E]) af ax az
 have bH:=aj.len
 subst bH
 have bI:=ak.len
 subst bI
 have bJ:=al.len
 subst bJ
 refine .r 1<|.sb 0 (.agg #[.slice aV (((((Am (⟨(⟨((At ((BP (BM w_.disk)))).idx).names,((At ((BP (BM w_.disk)))).idx).AY⟩:Idx),(At ((BP (BM w_.disk)))).parts,(At ((BP (BM w_.disk)))).mem⟩:Sto))).idx).names).length) aW,.slice aX (((((Am (⟨(⟨((At ((BP (BM w_.disk)))).idx).names,((At ((BP (BM w_.disk)))).idx).AY⟩:Idx),(At ((BP (BM w_.disk)))).parts,(At ((BP (BM w_.disk)))).mem⟩:Sto))).idx).AY).length) aY,.slice aZ ((((Am (⟨(⟨((At ((BP (BM w_.disk)))).idx).names,((At ((BP (BM w_.disk)))).idx).AY⟩:Idx),(At ((BP (BM w_.disk)))).parts,(At ((BP (BM w_.disk)))).mem⟩:Sto))).parts).length) ba,vS ah bc bd]) [.slice aV (((((Am (⟨(⟨((At ((BP (BM w_.disk)))).idx).names,((At ((BP (BM w_.disk)))).idx).AY⟩:Idx),(At ((BP (BM w_.disk)))).parts,(At ((BP (BM w_.disk)))).mem⟩:Sto))).idx).names).length) aW,.slice aX (((((Am (⟨(⟨((At ((BP (BM w_.disk)))).idx).names,((At ((BP (BM w_.disk)))).idx).AY⟩:Idx),(At ((BP (BM w_.disk)))).parts,(At ((BP (BM w_.disk)))).mem⟩:Sto))).idx).AY).length) aY,.slice aZ ((((Am (⟨(⟨((At ((BP (BM w_.disk)))).idx).names,((At ((BP (BM w_.disk)))).idx).AY⟩:Idx),(At ((BP (BM w_.disk)))).parts,(At ((BP (BM w_.disk)))).mem⟩:Sto))).parts).length) ba,vS ah bc bd,vS ar bj bk,vS aq bm bn,vS ao bo bq,vI (((BP (BM w_.disk))).next)] ae fun dh bh bK bL=>?_
 replace ⟨W,aa,ac,ag,aj,ak,al,af,C⟩:=(so [ah,J,E] bh).g9 W aa ac ag aj ak al af C
 refine .d<|.s<|.g<|.ln bK<|.sc [.slice aV (((((Am (⟨(⟨((At ((BP (BM w_.disk)))).idx).names,((At ((BP (BM w_.disk)))).idx).AY⟩:Idx),(At ((BP (BM w_.disk)))).parts,(At ((BP (BM w_.disk)))).mem⟩:Sto))).idx).names).length) aW,.slice aX (((((Am (⟨(⟨((At ((BP (BM w_.disk)))).idx).names,((At ((BP (BM w_.disk)))).idx).AY⟩:Idx),(At ((BP (BM w_.disk)))).parts,(At ((BP (BM w_.disk)))).mem⟩:Sto))).idx).AY).length) aY,.slice aZ ((((Am (⟨(⟨((At ((BP (BM w_.disk)))).idx).names,((At ((BP (BM w_.disk)))).idx).AY⟩:Idx),(At ((BP (BM w_.disk)))).parts,(At ((BP (BM w_.disk)))).mem⟩:Sto))).parts).length) ba,vS ah bc bd,vS ar bj bk,vS aq bm bn,vS ao bo bq,vI (((BP (BM w_.disk))).next)] W fun bW bi bM bN=>?_
 replace ⟨aa,ac,ag,aj,ak,al,af,C⟩:=(so [ah,J,E] bi).g8 aa ac ag aj ak al af C
 refine .d ?_
 have bX:=af.sl bG
 replace ⟨aa,ac,ag,aj,ak,al⟩:=(sd bW [ah,J,E] ah).g6 aa ac ag aj ak al
 exact .rb func70 results70 bM ⟨(VS.of (y:=(⟨(⟨(⟨(((Am (⟨(⟨((At ((BP (BM w_.disk)))).idx).names,((At ((BP (BM w_.disk)))).idx).AY⟩:Idx),(At ((BP (BM w_.disk)))).parts,(At ((BP (BM w_.disk)))).mem⟩:Sto))).idx).names,(((Am (⟨(⟨((At ((BP (BM w_.disk)))).idx).names,((At ((BP (BM w_.disk)))).idx).AY⟩:Idx),(At ((BP (BM w_.disk)))).parts,(At ((BP (BM w_.disk)))).mem⟩:Sto))).idx).AY⟩:Idx),((Am (⟨(⟨((At ((BP (BM w_.disk)))).idx).names,((At ((BP (BM w_.disk)))).idx).AY⟩:Idx),(At ((BP (BM w_.disk)))).parts,(At ((BP (BM w_.disk)))).mem⟩:Sto))).parts,((Am (⟨(⟨((At ((BP (BM w_.disk)))).idx).names,((At ((BP (BM w_.disk)))).idx).AY⟩:Idx),(At ((BP (BM w_.disk)))).parts,(At ((BP (BM w_.disk)))).mem⟩:Sto))).mem⟩:Sto),(⟨((BP (BM w_.disk))).files,((BP (BM w_.disk))).list,((BP (BM w_.disk))).names,((BP (BM w_.disk))).next⟩:Dsk)⟩:Wld)) ⟨_,rfl,⟨_,_,_,_,_,_,_,_,_,_,_,_,_,_,_,_,_,_,_,_,_,rfl,aj.w1,ak.w1,al.w1,bX.w1,aa.w1,ac.w1,ag.w1⟩⟩ AF),C⟩
theorem FW (w_:Wld) (steps:List Stp) (cut:Int) (s:Sto) (h1:RepS w F a1 n1 c1 w_.store.idx.names) (h2:RepS w F a2 n2 c2 w_.store.idx.AY) (h3:RepS w F a3 n3 c3 w_.store.parts) (h4:RepS w F a4 n4 c4 w_.store.mem) (h5:RepS w F a5 n5 c5 w_.disk.files) (h6:RepS w F a6 n6 c6 w_.disk.list) (h7:RepS w F a7 n7 c7 w_.disk.names) (h8:RepS w F a8 n8 c8 steps) (h9:RepS w F a9 n9 c9 s.idx.names) (h10:RepS w F a10 n10 c10 s.idx.AY) (h11:RepS w F a11 n11 c11 s.parts) (h12:RepS w F a12 n12 c12 s.mem) (p0:WI w_) (p1:StI w_.disk steps) (p2:StoI s):Calls Tryz.prog 66 [.agg #[.slice a1 n1 c1,.slice a2 n2 c2,.slice a3 n3 c3,.slice a4 n4 c4,.slice a5 n5 c5,.slice a6 n6 c6,.slice a7 n7 c7,.int .i64 w_.disk.next],.slice a8 n8 c8,.int .i64 cut,.agg #[.slice a9 n9 c9,.slice a10 n10 c10,.slice a11 n11 c11,.slice a12 n12 c12]].toArray w (BB fun rv w'=>VS (fo F w.heap.size) w' (BZ w_ steps cut s:Wld) rv∧Ext w w'):=by
 refine goT func66 ?_
 obtain ⟨rfl,bX,h1⟩:=h1.tp
 obtain ⟨rfl,bY,h2⟩:=h2.tp
 obtain ⟨rfl,bZ,h3⟩:=h3.tp
 obtain ⟨rfl,b0,h4⟩:=h4.tp
 obtain ⟨rfl,b6,h5⟩:=h5.tp
 obtain ⟨rfl,b7,h6⟩:=h6.tp
 obtain ⟨rfl,b8,h7⟩:=h7.tp
 obtain ⟨rfl,b9,h8⟩:=h8.tp
 obtain ⟨rfl,cd,h9⟩:=h9.tp
 obtain ⟨rfl,ce,h10⟩:=h10.tp
 obtain ⟨rfl,cg,h11⟩:=h11.tp
 obtain ⟨rfl,ci,h12⟩:=h12.tp
 refine .s<|.g<|.np 38 [.slice a1 w_.store.idx.names.length c1,.slice a2 w_.store.idx.AY.length c2,.slice a3 w_.store.parts.length c3,.slice a4 w_.store.mem.length c4,.slice a5 w_.disk.files.length c5,.slice a6 w_.disk.list.length c6,.slice a7 w_.disk.names.length c7,vI w_.disk.next] fun aa cI aA aB J bo=>?_
 have cj:Cov nil w aa:=Bf aA (Nat.le_refl _)
 replace ⟨h1,h2,h3,h4,h5,h6,h7,h8,h9,h10,h11,h12⟩:=(sn [] aB aA).g12 h1 h2 h3 h4 h5 h6 h7 h8 h9 h10 h11 h12
 have C:=aB
 refine .np 32 [.slice a9 s.idx.names.length c9,.slice a10 s.idx.AY.length c10,.slice a11 s.parts.length c11,.slice a12 s.mem.length c12] fun ab cJ ay aC E bq=>?_
 have ck:=AX ay J.lt
 replace ⟨h1,h2,h3,h4,h5,h6,h7,h8,h9,h10,h11,h12⟩:=(sn [aa] aC ay).g12 h1 h2 h3 h4 h5 h6 h7 h8 h9 h10 h11 h12
 replace ⟨J,C⟩:=(sn [aa] aC ay).g2 J C
 refine .np 38 [AH,AH,AH,AH,AH,AH,AH,vI 0] fun ae br av aD W bt=>?_
 have cm:=AX av J.lt
 have co:=AX av E.lt
 have cp:=C.cn av
 replace ⟨h1,h2,h3,h4,h5,h6,h7,h8,h9,h10,h11,h12⟩:=(sn [ab,aa] aD av).g12 h1 h2 h3 h4 h5 h6 h7 h8 h9 h10 h11 h12
 replace ⟨J,E,C⟩:=(sn [ab,aa] aD av).g3 J E C
 refine .d<|.s<|.s<|.g<|.r 2<|.eq (steps.length:Int) 0 (fun bu=>?_) (fun bu=>?_)
 ·refine .r 4<|.d<|.ct<|.s<|.g<|.ln J<|.sc [.slice a1 w_.store.idx.names.length c1,.slice a2 w_.store.idx.AY.length c2,.slice a3 w_.store.parts.length c3,.slice a4 w_.store.mem.length c4,.slice a5 w_.disk.files.length c5,.slice a6 w_.disk.list.length c6,.slice a7 w_.disk.names.length c7,vI w_.disk.next] W fun cK aE bv bw=>?_
  replace ⟨h1,h2,h3,h4,h5,h6,h7,h8,h9,h10,h11,h12⟩:=(so [ae,ab,aa] aE).g12 h1 h2 h3 h4 h5 h6 h7 h8 h9 h10 h11 h12
  replace ⟨J,E,C⟩:=(so [ae,ab,aa] aE).g3 J E C
  exact .d<|.rb func66 results66 bv ⟨(VS.of (y:=w_) ⟨_,rfl,⟨_,_,_,_,_,_,_,_,_,_,_,_,_,_,_,_,_,_,_,_,_,rfl,h1.w1,h2.w1,h3.w1,h4.w1,h5.w1,h6.w1,h7.w1⟩⟩ (by rw [D9 AB])),C⟩
 refine .r 2<|.bp (cut< 0) (fun bz=>?_) (fun bz=>?_)
 ·refine .r 1<|.d<|.ct<|.s<|.g<|.ln J<|.sc [.slice a1 w_.store.idx.names.length c1,.slice a2 w_.store.idx.AY.length c2,.slice a3 w_.store.parts.length c3,.slice a4 w_.store.mem.length c4,.slice a5 w_.disk.files.length c5,.slice a6 w_.disk.list.length c6,.slice a7 w_.disk.names.length c7,vI w_.disk.next] W fun cL aF bA bB=>?_
  replace ⟨h1,h2,h3,h4,h5,h6,h7,h8,h9,h10,h11,h12⟩:=(so [ae,ab,aa] aF).g12 h1 h2 h3 h4 h5 h6 h7 h8 h9 h10 h11 h12
  replace ⟨J,E,C⟩:=(so [ae,ab,aa] aF).g3 J E C
  exact .d<|.rb func66 results66 bA ⟨(VS.of (y:=w_) ⟨_,rfl,⟨_,_,_,_,_,_,_,_,_,_,_,_,_,_,_,_,_,_,_,_,_,rfl,h1.w1,h2.w1,h3.w1,h4.w1,h5.w1,h6.w1,h7.w1⟩⟩ (by rw [D9 AB])),C⟩
 refine .r 1<|.d<|.cf<|.sk<|.s<|.g<|.r 1<|.ln J<|.r 2<|.cl (K5 w_.disk steps cut h5 h6 h7 h8 (by have:=p0.dsk.nf; omega) (by have:=p1.len; omega) (by have:=p0.dsk.nl; omega) p1.sz (w:=br) (F:=nin (fo F w.heap.size) [ae,ab,aa])) ?_
 rintro cM cN ⟨⟨_,rfl,⟨aK,cO,aL,aM,cP,aN,aO,cQ,aP,rfl,af,ag,ah⟩⟩,aQ⟩
 have az:=al3 W.lt E.lt J.lt
 have aG:Gb w.heap.size br.heap.size:=C.size
 replace ⟨h1,h2,h3,h4,h9,h10,h11,h12,J,E,W,C⟩:=(se [ae,ab,aa] aQ).g12 h1 h2 h3 h4 h9 h10 h11 h12 J E W C
 replace af:=RepS.Af (M:=[ae,ab,aa]) af az aG
 have cq:=af.max
 replace ag:=RepS.Af (M:=[ae,ab,aa]) ag az aG
 have cr:=ag.max
 replace ah:=RepS.Af (M:=[ae,ab,aa]) ah az aG
 have cu:=ah.max
 have aS:=af.len
 subst aS
 have aT:=ag.len
 subst aT
 have aU:=ah.len
 subst aU
 refine .r 1<|.sb 4 (.agg #[.slice aK ((toD w_.disk steps cut).files.length) aL,.slice aM ((toD w_.disk steps cut).list.length) aN,.slice aO ((toD w_.disk steps cut).names.length) aP,vI ((toD w_.disk steps cut).next)]) [.slice a1 w_.store.idx.names.length c1,.slice a2 w_.store.idx.AY.length c2,.slice a3 w_.store.parts.length c3,.slice a4 w_.store.mem.length c4,.slice aK ((toD w_.disk steps cut).files.length) aL,.slice aM ((toD w_.disk steps cut).list.length) aN,.slice aO ((toD w_.disk steps cut).names.length) aP,vI ((toD w_.disk steps cut).next)] J fun aR aw ai aV=>?_
 replace ⟨h1,h2,h3,h4,h9,h10,h11,h12,E,W,af,ag⟩:=(so [ae,ab,aa] aw).g12 h1 h2 h3 h4 h9 h10 h11 h12 E W af ag
 replace ⟨ah,C⟩:=(so [ae,ab,aa] aw).g2 ah C
 refine .d<|.s<|.s<|.g<|.r 3<|.bp (cut< (steps.length:Int)) (fun aW=>?_) (fun aW=>?_)
 ·refine .d<|.ct<|.s<|.g<|.ln ai<|.cl (Fv (⟨(⟨(⟨w_.store.idx.names,w_.store.idx.AY⟩:Idx),w_.store.parts,w_.store.mem⟩:Sto),(⟨(toD w_.disk steps cut).files,(toD w_.disk steps cut).list,(toD w_.disk steps cut).names,(toD w_.disk steps cut).next⟩:Dsk)⟩:Wld) h1.ta h2.ta h3.ta h4.ta af.ta ag.ta ah.ta (p1.ok _) (w:=aR) (F:=all)) ?_
  rintro cw cx ⟨⟨_,rfl,⟨bC,cy,bD,bE,cz,bF,bG,cA,bH,bI,cB,bJ,bK,cC,bL,bM,cD,bN,bO,cE,bP,rfl,ak,al,am,ao,aq,ar,au⟩⟩,aH⟩
  have ac:=al3 W.lt E.lt ai.lt
  have aj:Gb w.heap.size aR.heap.size:=C.size
  replace ⟨h9,h10,h11,h12,ai,E,W,af,ag,ah,C⟩:=(se [ae,ab,aa] aH).g11 h9 h10 h11 h12 ai E W af ag ah C
  have ak:=ak.fr ac aj
  replace ak:=ak.base (G':=fo F w.heap.size) (fun _ _ h=>.inr h)
  have bQ:=ak.max
  have al:=al.fr ac aj
  replace al:=al.base (G':=fo F w.heap.size) (fun _ _ h=>.inr h)
  have bR:=al.max
  have am:=am.fr ac aj
  replace am:=am.base (G':=fo F w.heap.size) (fun _ _ h=>.inr h)
  have bS:=am.max
  have ao:=ao.fr ac aj
  replace ao:=ao.base (G':=fo F w.heap.size) (fun _ _ h=>.inr h)
  have bT:=ao.max
  have aq:=aq.fr ac aj
  replace aq:=aq.base (G':=fo F w.heap.size) (fun _ _ h=>.inr h)
  have bU:=aq.max
  have ar:=ar.fr ac aj
  replace ar:=ar.base (G':=fo F w.heap.size) (fun _ _ h=>.inr h)
  have bV:=ar.max
  have au:=au.fr ac aj
  replace au:=au.base (G':=fo F w.heap.size) (fun _ _ h=>.inr h)
  have bW:=au.max
  have aX:=ak.len
  subst aX
  have aY:=al.len
  subst aY
  have aZ:=am.len
  subst aZ
  have ba:=ao.len
  subst ba
  have bc:=aq.len
  subst bc
  have bd:=ar.len
  subst bd
  have bg:=au.len
  subst bg
  refine .sc [.slice bC (((((BE (⟨(⟨(⟨w_.store.idx.names,w_.store.idx.AY⟩:Idx),w_.store.parts,w_.store.mem⟩:Sto),(⟨(toD w_.disk steps cut).files,(toD w_.disk steps cut).list,(toD w_.disk steps cut).names,(toD w_.disk steps cut).next⟩:Dsk)⟩:Wld)).store).idx).names).length) bD,.slice bE (((((BE (⟨(⟨(⟨w_.store.idx.names,w_.store.idx.AY⟩:Idx),w_.store.parts,w_.store.mem⟩:Sto),(⟨(toD w_.disk steps cut).files,(toD w_.disk steps cut).list,(toD w_.disk steps cut).names,(toD w_.disk steps cut).next⟩:Dsk)⟩:Wld)).store).idx).AY).length) bF,.slice bG ((((BE (⟨(⟨(⟨w_.store.idx.names,w_.store.idx.AY⟩:Idx),w_.store.parts,w_.store.mem⟩:Sto),(⟨(toD w_.disk steps cut).files,(toD w_.disk steps cut).list,(toD w_.disk steps cut).names,(toD w_.disk steps cut).next⟩:Dsk)⟩:Wld)).store).parts).length) bH,.slice bI ((((BE (⟨(⟨(⟨w_.store.idx.names,w_.store.idx.AY⟩:Idx),w_.store.parts,w_.store.mem⟩:Sto),(⟨(toD w_.disk steps cut).files,(toD w_.disk steps cut).list,(toD w_.disk steps cut).names,(toD w_.disk steps cut).next⟩:Dsk)⟩:Wld)).store).mem).length) bJ,.slice bK ((((BE (⟨(⟨(⟨w_.store.idx.names,w_.store.idx.AY⟩:Idx),w_.store.parts,w_.store.mem⟩:Sto),(⟨(toD w_.disk steps cut).files,(toD w_.disk steps cut).list,(toD w_.disk steps cut).names,(toD w_.disk steps cut).next⟩:Dsk)⟩:Wld)).disk).files).length) bL,.slice bM ((((BE (⟨(⟨(⟨w_.store.idx.names,w_.store.idx.AY⟩:Idx),w_.store.parts,w_.store.mem⟩:Sto),(⟨(toD w_.disk steps cut).files,(toD w_.disk steps cut).list,(toD w_.disk steps cut).names,(toD w_.disk steps cut).next⟩:Dsk)⟩:Wld)).disk).list).length) bN,.slice bO ((((BE (⟨(⟨(⟨w_.store.idx.names,w_.store.idx.AY⟩:Idx),w_.store.parts,w_.store.mem⟩:Sto),(⟨(toD w_.disk steps cut).files,(toD w_.disk steps cut).list,(toD w_.disk steps cut).names,(toD w_.disk steps cut).next⟩:Dsk)⟩:Wld)).disk).names).length) bP,vI (((BE (⟨(⟨(⟨w_.store.idx.names,w_.store.idx.AY⟩:Idx),w_.store.parts,w_.store.mem⟩:Sto),(⟨(toD w_.disk steps cut).files,(toD w_.disk steps cut).list,(toD w_.disk steps cut).names,(toD w_.disk steps cut).next⟩:Dsk)⟩:Wld)).disk).next)] W fun cF ax bh bi=>?_
  replace ⟨h9,h10,h11,h12,ai,E,af,ag,ah,ak,al,am⟩:=(so [ae,ab,aa] ax).g12 h9 h10 h11 h12 ai E af ag ah ak al am
  replace ⟨ao,aq,ar,au,C⟩:=(so [ae,ab,aa] ax).g5 ao aq ar au C
  exact .d<|.rb func66 results66 bh ⟨(VS.of (y:=(⟨(⟨(⟨(((BE (⟨(⟨(⟨w_.store.idx.names,w_.store.idx.AY⟩:Idx),w_.store.parts,w_.store.mem⟩:Sto),(⟨(toD w_.disk steps cut).files,(toD w_.disk steps cut).list,(toD w_.disk steps cut).names,(toD w_.disk steps cut).next⟩:Dsk)⟩:Wld)).store).idx).names,(((BE (⟨(⟨(⟨w_.store.idx.names,w_.store.idx.AY⟩:Idx),w_.store.parts,w_.store.mem⟩:Sto),(⟨(toD w_.disk steps cut).files,(toD w_.disk steps cut).list,(toD w_.disk steps cut).names,(toD w_.disk steps cut).next⟩:Dsk)⟩:Wld)).store).idx).AY⟩:Idx),((BE (⟨(⟨(⟨w_.store.idx.names,w_.store.idx.AY⟩:Idx),w_.store.parts,w_.store.mem⟩:Sto),(⟨(toD w_.disk steps cut).files,(toD w_.disk steps cut).list,(toD w_.disk steps cut).names,(toD w_.disk steps cut).next⟩:Dsk)⟩:Wld)).store).parts,((BE (⟨(⟨(⟨w_.store.idx.names,w_.store.idx.AY⟩:Idx),w_.store.parts,w_.store.mem⟩:Sto),(⟨(toD w_.disk steps cut).files,(toD w_.disk steps cut).list,(toD w_.disk steps cut).names,(toD w_.disk steps cut).next⟩:Dsk)⟩:Wld)).store).mem⟩:Sto),(⟨((BE (⟨(⟨(⟨w_.store.idx.names,w_.store.idx.AY⟩:Idx),w_.store.parts,w_.store.mem⟩:Sto),(⟨(toD w_.disk steps cut).files,(toD w_.disk steps cut).list,(toD w_.disk steps cut).names,(toD w_.disk steps cut).next⟩:Dsk)⟩:Wld)).disk).files,((BE (⟨(⟨(⟨w_.store.idx.names,w_.store.idx.AY⟩:Idx),w_.store.parts,w_.store.mem⟩:Sto),(⟨(toD w_.disk steps cut).files,(toD w_.disk steps cut).list,(toD w_.disk steps cut).names,(toD w_.disk steps cut).next⟩:Dsk)⟩:Wld)).disk).list,((BE (⟨(⟨(⟨w_.store.idx.names,w_.store.idx.AY⟩:Idx),w_.store.parts,w_.store.mem⟩:Sto),(⟨(toD w_.disk steps cut).files,(toD w_.disk steps cut).list,(toD w_.disk steps cut).names,(toD w_.disk steps cut).next⟩:Dsk)⟩:Wld)).disk).names,((BE (⟨(⟨(⟨w_.store.idx.names,w_.store.idx.AY⟩:Idx),w_.store.parts,w_.store.mem⟩:Sto),(⟨(toD w_.disk steps cut).files,(toD w_.disk steps cut).list,(toD w_.disk steps cut).names,(toD w_.disk steps cut).next⟩:Dsk)⟩:Wld)).disk).next⟩:Dsk)⟩:Wld)) ⟨_,rfl,⟨_,_,_,_,_,_,_,_,_,_,_,_,_,_,_,_,_,_,_,_,_,rfl,ak.w1,al.w1,am.w1,ao.w1,aq.w1,ar.w1,au.w1⟩⟩ (by rw [Eb AB AB AB])),C⟩
 refine .d<|.cf<|.sk<|.s<|.g<|.ln E<|.r 1<|.sb 0 (.agg #[.slice a9 s.idx.names.length c9,.slice a10 s.idx.AY.length c10,.slice a11 s.parts.length c11,.slice a12 s.mem.length c12]) [.slice a9 s.idx.names.length c9,.slice a10 s.idx.AY.length c10,.slice a11 s.parts.length c11,.slice a12 s.mem.length c12,.slice aK ((toD w_.disk steps cut).files.length) aL,.slice aM ((toD w_.disk steps cut).list.length) aN,.slice aO ((toD w_.disk steps cut).names.length) aP,vI ((toD w_.disk steps cut).next)] ai fun cG aI bj bk=>?_
 replace ⟨h9,h10,h11,h12,W,af,ag,ah,C⟩:=(so [ae,ab,aa] aI).g9 h9 h10 h11 h12 W af ag ah C
 refine .d<|.s<|.g<|.ln bj<|.sc [.slice a9 s.idx.names.length c9,.slice a10 s.idx.AY.length c10,.slice a11 s.parts.length c11,.slice a12 s.mem.length c12,.slice aK ((toD w_.disk steps cut).files.length) aL,.slice aM ((toD w_.disk steps cut).list.length) aN,.slice aO ((toD w_.disk steps cut).names.length) aP,vI ((toD w_.disk steps cut).next)] W fun cH aJ bm bn=>?_
 replace ⟨h9,h10,h11,h12,af,ag,ah,C⟩:=(so [ae,ab,aa] aJ).g8 h9 h10 h11 h12 af ag ah C
 exact .d<|.rb func66 results66 bm ⟨(VS.of (y:=(⟨(⟨(⟨s.idx.names,s.idx.AY⟩:Idx),s.parts,s.mem⟩:Sto),(⟨(toD w_.disk steps cut).files,(toD w_.disk steps cut).list,(toD w_.disk steps cut).names,(toD w_.disk steps cut).next⟩:Dsk)⟩:Wld)) ⟨_,rfl,⟨_,_,_,_,_,_,_,_,_,_,_,_,_,_,_,_,_,_,_,_,_,rfl,h9.w1,h10.w1,h11.w1,h12.w1,af.w1,ag.w1,ah.w1⟩⟩ (by rw [Ec AB AB AB])),C⟩
theorem G9 (w_:Wld) (e:Evt) (h1:RepS w F a1 n1 c1 w_.store.idx.names) (h2:RepS w F a2 n2 c2 w_.store.idx.AY) (h3:RepS w F a3 n3 c3 w_.store.parts) (h4:RepS w F a4 n4 c4 w_.store.mem) (h5:RepS w F a5 n5 c5 w_.disk.files) (h6:RepS w F a6 n6 c6 w_.disk.list) (h7:RepS w F a7 n7 c7 w_.disk.names) (h8:RepS w F a8 n8 c8 e.name) (p0:WI w_) (p1:Fc e.name):Calls Tryz.prog 36 [.agg #[.slice a1 n1 c1,.slice a2 n2 c2,.slice a3 n3 c3,.slice a4 n4 c4,.slice a5 n5 c5,.slice a6 n6 c6,.slice a7 n7 c7,.int .i64 w_.disk.next],.agg #[.int .i64 e.kind,.int .i64 e.at_,.int .i64 e.cut,.slice a8 n8 c8,.int .i64 e.row.t,.int .i64 e.row.v]].toArray w (BB fun rv w'=>VS (fo F w.heap.size) w' (doW w_ e:Wld) rv∧Ext w w'):=by
 refine goT func36 ?_
 obtain ⟨rfl,f0,h1⟩:=h1.tp
 obtain ⟨rfl,f5,h2⟩:=h2.tp
 obtain ⟨rfl,f6,h3⟩:=h3.tp
 obtain ⟨rfl,f7,h4⟩:=h4.tp
 obtain ⟨rfl,f8,h5⟩:=h5.tp
 obtain ⟨rfl,f9,h6⟩:=h6.tp
 obtain ⟨rfl,ga,h7⟩:=h7.tp
 obtain ⟨rfl,gb,h8⟩:=h8.tp
 refine .s<|.g<|.np 38 [.slice a1 w_.store.idx.names.length c1,.slice a2 w_.store.idx.AY.length c2,.slice a3 w_.store.parts.length c3,.slice a4 w_.store.mem.length c4,.slice a5 w_.disk.files.length c5,.slice a6 w_.disk.list.length c6,.slice a7 w_.disk.names.length c7,vI w_.disk.next] fun aa iB bO bP C dH=>?_
 have gf:Cov nil w aa:=Bf bO (Nat.le_refl _)
 replace ⟨h1,h2,h3,h4,h5,h6,h7,h8⟩:=(sn [] bP bO).g8 h1 h2 h3 h4 h5 h6 h7 h8
 have E:=bP
 refine .np 58 [vI e.kind,vI e.at_,vI e.cut,.slice a8 e.name.length c8,vI e.row.t,vI e.row.v] fun ab iC bQ cj J dI=>?_
 have gh:=AX bQ C.lt
 replace ⟨h1,h2,h3,h4,h5,h6,h7,h8,C,E⟩:=(sn [aa] cj bQ).g10 h1 h2 h3 h4 h5 h6 h7 h8 C E
 refine .np 38 [AH,AH,AH,AH,AH,AH,AH,vI 0] fun ac bv bt ck W dJ=>?_
 have gi:=AX bt C.lt
 have gj:=AX bt J.lt
 have gk:=E.cn bt
 replace ⟨h1,h2,h3,h4,h5,h6,h7,h8,C,J,E⟩:=(sn [ab,aa] ck bt).g11 h1 h2 h3 h4 h5 h6 h7 h8 C J E
 refine .d<|.s<|.s<|.g<|.r 1<|.lb J<|.d<|.b 0<|.s<|.g<|.eq e.kind 1 (fun dK=>?_) (fun dK=>?_)
 ·refine .r 1<|.d<|.ct<|.s<|.g<|.r 1<|.lb J<|.cl (Es e.name h8.ta (w:=bv) (F:=all)) ?_
  rintro iD dL ⟨rfl,cm⟩
  replace ⟨h1,h2,h3,h4,h5,h6,h7,h8,C,J,W,E⟩:=(se [ac,ab,aa] cm).g12 h1 h2 h3 h4 h5 h6 h7 h8 C J W E
  cases gl:(BC e.name)
  ·refine .d<|.cf<|.sk<|.ib 0<|.s<|.g<|.ln C<|.sc [.slice a1 w_.store.idx.names.length c1,.slice a2 w_.store.idx.AY.length c2,.slice a3 w_.store.parts.length c3,.slice a4 w_.store.mem.length c4,.slice a5 w_.disk.files.length c5,.slice a6 w_.disk.list.length c6,.slice a7 w_.disk.names.length c7,vI w_.disk.next] W fun iE co dM dN=>?_
   replace ⟨h1,h2,h3,h4,h5,h6,h7,h8,C,J,E⟩:=(so [ac,ab,aa] co).g11 h1 h2 h3 h4 h5 h6 h7 h8 C J E
   exact .d<|.rb func36 results36 dM ⟨(VS.of (y:=w_) ⟨_,rfl,⟨_,_,_,_,_,_,_,_,_,_,_,_,_,_,_,_,_,_,_,_,_,rfl,h1.w1,h2.w1,h3.w1,h4.w1,h5.w1,h6.w1,h7.w1⟩⟩ (by (rw [K7 ‹_› ‹_›]))),E⟩
  refine .d<|.ct<|.s<|.g<|.r 1<|.ln C<|.r 1<|.lb J<|.r 1<|.ln J<|.cl (Jy w_.store e.name e.row h1 h2 h3 h4 h8 p0.sto.sz p1 (w:=dL) (F:=nin (fo F w.heap.size) [ac,ab,aa])) ?_
  rintro iF iG ⟨⟨iH,rfl,⟨_,rfl,⟨b6,iI,b7,b8,iJ,b9,cd,iK,ce,cg,iL,ci,rfl,aL,aM,aN,aO⟩⟩⟩,cp⟩
  have bu:=al3 W.lt J.lt C.lt
  have bN:Gb w.heap.size dL.heap.size:=E.size
  replace ⟨h1,h2,h3,h4,h5,h6,h7,C,J,W,E⟩:=(se [ac,ab,aa] cp).g11 h1 h2 h3 h4 h5 h6 h7 C J W E
  replace aL:=RepS.Af (M:=[ac,ab,aa]) aL bu bN
  have gm:=aL.max
  replace aM:=RepS.Af (M:=[ac,ab,aa]) aM bu bN
  have gn:=aM.max
  replace aN:=RepS.Af (M:=[ac,ab,aa]) aN bu bN
  have gp:=aN.max
  replace aO:=RepS.Af (M:=[ac,ab,aa]) aO bu bN
  have gq:=aO.max
  have dO:=aL.len
  subst dO
  have dP:=aM.len
  subst dP
  have dQ:=aN.len
  subst dQ
  have cu:=aO.len
  subst cu
  refine .r 3<|.np 32 [AH,AH,AH,AH] fun bm gr ay bw cw cx=>?_
  have fb:=AX ay C.lt
  have fc:=AX ay J.lt
  have fd:=AX ay W.lt
  have fe:=E.cn ay
  replace ⟨h1,h2,h3,h4,h5,h6,h7,C,J,W,aL,aM⟩:=(sn [ac,ab,aa] bw ay).g12 h1 h2 h3 h4 h5 h6 h7 C J W aL aM
  replace ⟨aN,aO,E⟩:=(sn [ac,ab,aa] bw ay).g3 aN aO E
  refine .sc [.slice b6 ((CI w_.store e.name e.row).1.idx.names.length) b7,.slice b8 ((((CI w_.store e.name e.row).1.idx).AY).length) b9,.slice cd ((CI w_.store e.name e.row).1.parts.length) ce,.slice cg ((CI w_.store e.name e.row).1.mem.length) ci] cw fun gs bz cy cz=>?_
  replace ⟨h1,h2,h3,h4,h5,h6,h7,C,J,W,aL,aM⟩:=(so [bm,ac,ab,aa] bz).g12 h1 h2 h3 h4 h5 h6 h7 C J W aL aM
  replace ⟨aN,aO,E⟩:=(so [bm,ac,ab,aa] bz).g3 aN aO E
  refine .r 1<|.d<|.g<|.ln cy<|.r 1<|.sb 0 (.agg #[.slice b6 ((CI w_.store e.name e.row).1.idx.names.length) b7,.slice b8 ((((CI w_.store e.name e.row).1.idx).AY).length) b9,.slice cd ((CI w_.store e.name e.row).1.parts.length) ce,.slice cg ((CI w_.store e.name e.row).1.mem.length) ci]) [.slice b6 ((CI w_.store e.name e.row).1.idx.names.length) b7,.slice b8 ((((CI w_.store e.name e.row).1.idx).AY).length) b9,.slice cd ((CI w_.store e.name e.row).1.parts.length) ce,.slice cg ((CI w_.store e.name e.row).1.mem.length) ci,.slice a5 w_.disk.files.length c5,.slice a6 w_.disk.list.length c6,.slice a7 w_.disk.names.length c7,vI w_.disk.next] C fun gt bA cA cB=>?_
  replace ⟨h1,h2,h3,h4,h5,h6,h7,J,W,aL,aM,aN⟩:=(so [bm,ac,ab,aa] bA).g12 h1 h2 h3 h4 h5 h6 h7 J W aL aM aN
  replace ⟨aO,E⟩:=(so [bm,ac,ab,aa] bA).g2 aO E
  refine .d<|.ib 0<|.s<|.g<|.ln cA<|.sc [.slice b6 ((CI w_.store e.name e.row).1.idx.names.length) b7,.slice b8 ((((CI w_.store e.name e.row).1.idx).AY).length) b9,.slice cd ((CI w_.store e.name e.row).1.parts.length) ce,.slice cg ((CI w_.store e.name e.row).1.mem.length) ci,.slice a5 w_.disk.files.length c5,.slice a6 w_.disk.list.length c6,.slice a7 w_.disk.names.length c7,vI w_.disk.next] W fun gu bB cC cD=>?_
  replace ⟨h1,h2,h3,h4,h5,h6,h7,J,aL,aM,aN,aO⟩:=(so [bm,ac,ab,aa] bB).g12 h1 h2 h3 h4 h5 h6 h7 J aL aM aN aO
  replace E:=(so [bm,ac,ab,aa] bB).g1 E
  exact .d<|.rb func36 results36 cC ⟨(VS.of (y:=(⟨(⟨(⟨(CI w_.store e.name e.row).1.idx.names,((CI w_.store e.name e.row).1.idx).AY⟩:Idx),(CI w_.store e.name e.row).1.parts,(CI w_.store e.name e.row).1.mem⟩:Sto),(⟨w_.disk.files,w_.disk.list,w_.disk.names,w_.disk.next⟩:Dsk)⟩:Wld)) ⟨_,rfl,⟨_,_,_,_,_,_,_,_,_,_,_,_,_,_,_,_,_,_,_,_,_,rfl,aL.w1,aM.w1,aN.w1,aO.w1,h5.w1,h6.w1,h7.w1⟩⟩ (by (rw [Lj ‹_› ‹_›]))),E⟩
 refine .r 1<|.d<|.cf<|.s<|.g<|.eq e.kind 2 (fun cE=>?_) (fun cE=>?_)
 ·refine .r 1<|.d<|.ct<|.s<|.g<|.r 1<|.ln C<|.cl (IU w_.store h1 h2 h3 h4 (by have:=p0.sto.nm2; omega) p0.sto.Hg (w:=bv) (F:=nin (fo F w.heap.size) [ac,ab,aa])) ?_
  rintro gv gw ⟨⟨gx,rfl,⟨_,rfl,⟨dR,gy,dS,dT,gz,dU,dV,gA,dW,dX,gC,dY,rfl,ag,ah,ai,aj⟩⟩⟩,bR⟩
  have aS:=al3 W.lt J.lt C.lt
  have bn:Gb w.heap.size bv.heap.size:=E.size
  replace ⟨h1,h2,h3,h4,h5,h6,h7,C,J,W,E⟩:=(se [ac,ab,aa] bR).g11 h1 h2 h3 h4 h5 h6 h7 C J W E
  replace ag:=RepS.Af (M:=[ac,ab,aa]) ag aS bn
  have ff:=ag.max
  replace ah:=RepS.Af (M:=[ac,ab,aa]) ah aS bn
  have fg:=ah.max
  replace ai:=RepS.Af (M:=[ac,ab,aa]) ai aS bn
  have fh:=ai.max
  replace aj:=RepS.Af (M:=[ac,ab,aa]) aj aS bn
  have fi:=aj.max
  have cF:=ag.len
  subst cF
  have cG:=ah.len
  subst cG
  have cH:=ai.len
  subst cH
  have cI:=aj.len
  subst cI
  refine .r 3<|.np 32 [AH,AH,AH,AH] fun ae gD az bC cJ cK=>?_
  have fj:=AX az C.lt
  have fk:=AX az J.lt
  have fm:=AX az W.lt
  have fp:=E.cn az
  replace ⟨h1,h2,h3,h4,h5,h6,h7,C,J,W,ag,ah⟩:=(sn [ac,ab,aa] bC az).g12 h1 h2 h3 h4 h5 h6 h7 C J W ag ah
  replace ⟨ai,aj,E⟩:=(sn [ac,ab,aa] bC az).g3 ai aj E
  refine .sc [.slice dR ((As w_.store).1.idx.names.length) dS,.slice dT ((((As w_.store).1.idx).AY).length) dU,.slice dV ((As w_.store).1.parts.length) dW,.slice dX ((As w_.store).1.mem.length) dY] cJ fun gE bD aq cL=>?_
  replace ⟨h1,h2,h3,h4,h5,h6,h7,C,J,W,ag,ah⟩:=(so [ae,ac,ab,aa] bD).g12 h1 h2 h3 h4 h5 h6 h7 C J W ag ah
  replace ⟨ai,aj,E⟩:=(so [ae,ac,ab,aa] bD).g3 ai aj E
  refine .r 1<|.d<|.s<|.gd nil 9 fun gF bE=>?_
  replace ⟨h1,h2,h3,h4,h5,h6,h7,C,J,W,ag,ah⟩:=(se [ae,ac,ab,aa] bE).g12 h1 h2 h3 h4 h5 h6 h7 C J W ag ah
  replace ⟨ai,aj,aq,E⟩:=(se [ae,ac,ab,aa] bE).g4 ai aj aq E
  refine .ln 0 C id<|.r [1]<|.ln 2 C id<|.r [3]<|.ln 4 C id<|.r [6]<|.lb 7 J id<|.ln 8 aq id<|.go 5<|.cl (fun bS au=>IW w_.disk w_.store (h5.ta.ext au) (h6.ta.ext au) (h7.ta.ext au) (h1.ta.ext au) (h2.ta.ext au) (h3.ta.ext au) (h4.ta.ext au) (by have:=p0.sto.nm2; omega) p0.sto.Hg (by have:=p0.dsk.nl; omega) (by have:=p0.sto.nm.len; omega) (fun n hn=>(p0.sto.nm.sz n hn).1) (w:=bS) (F:=all)) ?_
  intro bS au
  replace ⟨h1,h2,h3,h4,h5,h6,h7,C,J,W,ag,ah⟩:=(se [ae,ac,ab,aa] au).g12 h1 h2 h3 h4 h5 h6 h7 C J W ag ah
  replace ⟨ai,aj,aq,E⟩:=(se [ae,ac,ab,aa] au).g4 ai aj aq E
  rintro gG gH ⟨⟨gI,gJ,rfl,aQ⟩,bo⟩
  have bT:=al4 aq.lt W.lt J.lt C.lt
  have cM:Gb w.heap.size bS.heap.size:=E.size
  have hkeep_:=bo
  replace ⟨h1,h2,h3,h4,h5,h6,h7,C,J,W,ag,ah⟩:=(se [ae,ac,ab,aa] bo).g12 h1 h2 h3 h4 h5 h6 h7 C J W ag ah
  replace ⟨ai,aj,aq,E⟩:=(se [ae,ac,ab,aa] bo).g4 ai aj aq E
  refine ⟨Ext.chg hkeep_,?_⟩
  have aQ:=aQ.fr bT cM
  replace aQ:=aQ.base (G':=fo F w.heap.size) (fun _ _ h=>.inr h)
  refine .d fun cq bF=>?_
  replace ⟨h1,h2,h3,h4,h5,h6,h7,C,J,W,ag,ah⟩:=(se [ae,ac,ab,aa] bF).g12 h1 h2 h3 h4 h5 h6 h7 C J W ag ah
  replace ⟨ai,aj,aq,aQ,E⟩:=(se [ae,ac,ab,aa] bF).g5 ai aj aq aQ E
  refine .cl (FW w_ (BD w_.disk w_.store) e.cut (⟨(⟨(As w_.store).1.idx.names,((As w_.store).1.idx).AY⟩:Idx),(As w_.store).1.parts,(As w_.store).1.mem⟩:Sto) h1 h2 h3 h4 h5 h6 h7 aQ ag ah ai aj p0 (by exact StI.flush p0) (by exact p0.sto.flush) (w:=cq) (F:=nin (fo F w.heap.size) [ae,ac,ab,aa])) ?_
  rintro gK gL ⟨⟨_,rfl,⟨dZ,gM,d0,d3,gN,d4,d5,gO,d6,d7,gP,d8,d9,gQ,ec,ed,gR,ee,ef,gS,eg,rfl,aT,aU,aV,aW,aX,aY,aZ⟩⟩,bU⟩
  have av:=al4 aq.lt W.lt J.lt C.lt
  have aA:Gb w.heap.size cq.heap.size:=E.size
  replace ⟨h1,h2,h3,h4,h5,h6,h7,C,J,W,E⟩:=(se [ae,ac,ab,aa] bU).g11 h1 h2 h3 h4 h5 h6 h7 C J W E
  replace aT:=RepS.Af (M:=[ae,ac,ab,aa]) aT av aA
  have ft:=aT.max
  replace aU:=RepS.Af (M:=[ae,ac,ab,aa]) aU av aA
  have fu:=aU.max
  replace aV:=RepS.Af (M:=[ae,ac,ab,aa]) aV av aA
  have fv:=aV.max
  replace aW:=RepS.Af (M:=[ae,ac,ab,aa]) aW av aA
  have fw:=aW.max
  replace aX:=RepS.Af (M:=[ae,ac,ab,aa]) aX av aA
  have fA:=aX.max
  replace aY:=RepS.Af (M:=[ae,ac,ab,aa]) aY av aA
  have fB:=aY.max
  replace aZ:=RepS.Af (M:=[ae,ac,ab,aa]) aZ av aA
  have fC:=aZ.max
  have cN:=aT.len
  subst cN
  have cO:=aU.len
  subst cO
  have cP:=aV.len
  subst cP
  have cQ:=aW.len
  subst cQ
  have cR:=aX.len
  subst cR
  have cS:=aY.len
  subst cS
  have cT:=aZ.len
  subst cT
  refine .sc [.slice dZ (((((BZ w_ (BD w_.disk w_.store) e.cut (⟨(⟨(As w_.store).1.idx.names,((As w_.store).1.idx).AY⟩:Idx),(As w_.store).1.parts,(As w_.store).1.mem⟩:Sto)).store).idx).names).length) d0,.slice d3 (((((BZ w_ (BD w_.disk w_.store) e.cut (⟨(⟨(As w_.store).1.idx.names,((As w_.store).1.idx).AY⟩:Idx),(As w_.store).1.parts,(As w_.store).1.mem⟩:Sto)).store).idx).AY).length) d4,.slice d5 ((((BZ w_ (BD w_.disk w_.store) e.cut (⟨(⟨(As w_.store).1.idx.names,((As w_.store).1.idx).AY⟩:Idx),(As w_.store).1.parts,(As w_.store).1.mem⟩:Sto)).store).parts).length) d6,.slice d7 ((((BZ w_ (BD w_.disk w_.store) e.cut (⟨(⟨(As w_.store).1.idx.names,((As w_.store).1.idx).AY⟩:Idx),(As w_.store).1.parts,(As w_.store).1.mem⟩:Sto)).store).mem).length) d8,.slice d9 ((((BZ w_ (BD w_.disk w_.store) e.cut (⟨(⟨(As w_.store).1.idx.names,((As w_.store).1.idx).AY⟩:Idx),(As w_.store).1.parts,(As w_.store).1.mem⟩:Sto)).disk).files).length) ec,.slice ed ((((BZ w_ (BD w_.disk w_.store) e.cut (⟨(⟨(As w_.store).1.idx.names,((As w_.store).1.idx).AY⟩:Idx),(As w_.store).1.parts,(As w_.store).1.mem⟩:Sto)).disk).list).length) ee,.slice ef ((((BZ w_ (BD w_.disk w_.store) e.cut (⟨(⟨(As w_.store).1.idx.names,((As w_.store).1.idx).AY⟩:Idx),(As w_.store).1.parts,(As w_.store).1.mem⟩:Sto)).disk).names).length) eg,vI (((BZ w_ (BD w_.disk w_.store) e.cut (⟨(⟨(As w_.store).1.idx.names,((As w_.store).1.idx).AY⟩:Idx),(As w_.store).1.parts,(As w_.store).1.mem⟩:Sto)).disk).next)] W fun gT bG cU cV=>?_
  replace ⟨h1,h2,h3,h4,h5,h6,h7,C,J,aT,aU,aV⟩:=(so [ae,ac,ab,aa] bG).g12 h1 h2 h3 h4 h5 h6 h7 C J aT aU aV
  replace ⟨aW,aX,aY,aZ,E⟩:=(so [ae,ac,ab,aa] bG).g5 aW aX aY aZ E
  exact .d<|.rb func36 results36 cU ⟨(VS.of (y:=(⟨(⟨(⟨(((BZ w_ (BD w_.disk w_.store) e.cut (⟨(⟨(As w_.store).1.idx.names,((As w_.store).1.idx).AY⟩:Idx),(As w_.store).1.parts,(As w_.store).1.mem⟩:Sto)).store).idx).names,(((BZ w_ (BD w_.disk w_.store) e.cut (⟨(⟨(As w_.store).1.idx.names,((As w_.store).1.idx).AY⟩:Idx),(As w_.store).1.parts,(As w_.store).1.mem⟩:Sto)).store).idx).AY⟩:Idx),((BZ w_ (BD w_.disk w_.store) e.cut (⟨(⟨(As w_.store).1.idx.names,((As w_.store).1.idx).AY⟩:Idx),(As w_.store).1.parts,(As w_.store).1.mem⟩:Sto)).store).parts,((BZ w_ (BD w_.disk w_.store) e.cut (⟨(⟨(As w_.store).1.idx.names,((As w_.store).1.idx).AY⟩:Idx),(As w_.store).1.parts,(As w_.store).1.mem⟩:Sto)).store).mem⟩:Sto),(⟨((BZ w_ (BD w_.disk w_.store) e.cut (⟨(⟨(As w_.store).1.idx.names,((As w_.store).1.idx).AY⟩:Idx),(As w_.store).1.parts,(As w_.store).1.mem⟩:Sto)).disk).files,((BZ w_ (BD w_.disk w_.store) e.cut (⟨(⟨(As w_.store).1.idx.names,((As w_.store).1.idx).AY⟩:Idx),(As w_.store).1.parts,(As w_.store).1.mem⟩:Sto)).disk).list,((BZ w_ (BD w_.disk w_.store) e.cut (⟨(⟨(As w_.store).1.idx.names,((As w_.store).1.idx).AY⟩:Idx),(As w_.store).1.parts,(As w_.store).1.mem⟩:Sto)).disk).names,((BZ w_ (BD w_.disk w_.store) e.cut (⟨(⟨(As w_.store).1.idx.names,((As w_.store).1.idx).AY⟩:Idx),(As w_.store).1.parts,(As w_.store).1.mem⟩:Sto)).disk).next⟩:Dsk)⟩:Wld)) ⟨_,rfl,⟨_,_,_,_,_,_,_,_,_,_,_,_,_,_,_,_,_,_,_,_,_,rfl,aT.w1,aU.w1,aV.w1,aW.w1,aX.w1,aY.w1,aZ.w1⟩⟩ (by (rw [KJ ‹_›]))),E⟩
 refine .r 1<|.d<|.cf<|.s<|.g<|.eq e.kind 3 (fun cW=>?_) (fun cW=>?_)
 ·refine .r 1<|.d<|.ct<|.s<|.g<|.r 1<|.ln C<|.r 1<|.lb J<|.cl (IV w_.store e.at_ h1 h2 h3 h4 (by have:=p0.sto.np; omega) (fun p hp=>(p0.sto.part p hp).sz) (w:=bv) (F:=nin (fo F w.heap.size) [ac,ab,aa])) ?_
  rintro gU gV ⟨⟨gW,rfl,⟨_,rfl,⟨eh,gX,ej,ek,gY,en,et,gZ,ey,ez,g0,eA,rfl,ak,al,am,ao⟩⟩⟩,bV⟩
  have ba:=al3 W.lt J.lt C.lt
  have bq:Gb w.heap.size bv.heap.size:=E.size
  replace ⟨h1,h2,h3,h4,h5,h6,h7,C,J,W,E⟩:=(se [ac,ab,aa] bV).g11 h1 h2 h3 h4 h5 h6 h7 C J W E
  replace ak:=RepS.Af (M:=[ac,ab,aa]) ak ba bq
  have fD:=ak.max
  replace al:=RepS.Af (M:=[ac,ab,aa]) al ba bq
  have fE:=al.max
  replace am:=RepS.Af (M:=[ac,ab,aa]) am ba bq
  have fF:=am.max
  replace ao:=RepS.Af (M:=[ac,ab,aa]) ao ba bq
  have fG:=ao.max
  have cX:=ak.len
  subst cX
  have cY:=al.len
  subst cY
  have cZ:=am.len
  subst cZ
  have c9:=ao.len
  subst c9
  refine .r 3<|.np 32 [AH,AH,AH,AH] fun af hC aB bH da db=>?_
  have fH:=AX aB C.lt
  have fI:=AX aB J.lt
  have fJ:=AX aB W.lt
  have fK:=E.cn aB
  replace ⟨h1,h2,h3,h4,h5,h6,h7,C,J,W,ak,al⟩:=(sn [ac,ab,aa] bH aB).g12 h1 h2 h3 h4 h5 h6 h7 C J W ak al
  replace ⟨am,ao,E⟩:=(sn [ac,ab,aa] bH aB).g3 am ao E
  refine .sc [.slice eh ((Au w_.store e.at_).1.idx.names.length) ej,.slice ek ((((Au w_.store e.at_).1.idx).AY).length) en,.slice et ((Au w_.store e.at_).1.parts.length) ey,.slice ez ((Au w_.store e.at_).1.mem.length) eA] da fun hD bI ar de=>?_
  replace ⟨h1,h2,h3,h4,h5,h6,h7,C,J,W,ak,al⟩:=(so [af,ac,ab,aa] bI).g12 h1 h2 h3 h4 h5 h6 h7 C J W ak al
  replace ⟨am,ao,E⟩:=(so [af,ac,ab,aa] bI).g3 am ao E
  refine .r 1<|.d<|.s<|.gd nil 9 fun hE bJ=>?_
  replace ⟨h1,h2,h3,h4,h5,h6,h7,C,J,W,ak,al⟩:=(se [af,ac,ab,aa] bJ).g12 h1 h2 h3 h4 h5 h6 h7 C J W ak al
  replace ⟨am,ao,ar,E⟩:=(se [af,ac,ab,aa] bJ).g4 am ao ar E
  refine .ln 0 C id<|.r [1]<|.ln 2 C id<|.r [3]<|.lb 4 J id<|.r [6]<|.lb 7 J id<|.ln 8 ar id<|.go 5<|.cl (fun bW aP=>IY w_.disk e.at_ (h5.ta.ext aP) (h6.ta.ext aP) (h7.ta.ext aP) (by have:=p0.dsk.nm.len; omega) (fun n hn=>(p0.dsk.nm.sz n hn).1) (by have:=p0.dsk.nl; omega) p0.dsk.at (fun f hf=>(p0.dsk.file f hf).sz) (w:=bW) (F:=all)) ?_
  intro bW aP
  replace ⟨h1,h2,h3,h4,h5,h6,h7,C,J,W,ak,al⟩:=(se [af,ac,ab,aa] aP).g12 h1 h2 h3 h4 h5 h6 h7 C J W ak al
  replace ⟨am,ao,ar,E⟩:=(se [af,ac,ab,aa] aP).g4 am ao ar E
  rintro hH hJ ⟨⟨hN,hO,rfl,aR⟩,br⟩
  have bX:=al4 ar.lt W.lt J.lt C.lt
  have df:Gb w.heap.size bW.heap.size:=E.size
  have hkeep_:=br
  replace ⟨h1,h2,h3,h4,h5,h6,h7,C,J,W,ak,al⟩:=(se [af,ac,ab,aa] br).g12 h1 h2 h3 h4 h5 h6 h7 C J W ak al
  replace ⟨am,ao,ar,E⟩:=(se [af,ac,ab,aa] br).g4 am ao ar E
  refine ⟨Ext.chg hkeep_,?_⟩
  have aR:=aR.fr bX df
  replace aR:=aR.base (G':=fo F w.heap.size) (fun _ _ h=>.inr h)
  refine .d fun cr bK=>?_
  replace ⟨h1,h2,h3,h4,h5,h6,h7,C,J,W,ak,al⟩:=(se [af,ac,ab,aa] bK).g12 h1 h2 h3 h4 h5 h6 h7 C J W ak al
  replace ⟨am,ao,ar,aR,E⟩:=(se [af,ac,ab,aa] bK).g5 am ao ar aR E
  refine .cl (FW w_ (BF w_.disk e.at_) e.cut (⟨(⟨(Au w_.store e.at_).1.idx.names,((Au w_.store e.at_).1.idx).AY⟩:Idx),(Au w_.store e.at_).1.parts,(Au w_.store e.at_).1.mem⟩:Sto) h1 h2 h3 h4 h5 h6 h7 aR ak al am ao p0 (by exact StI.merge p0.dsk _) (by exact p0.sto.merge _) (w:=cr) (F:=nin (fo F w.heap.size) [af,ac,ab,aa])) ?_
  rintro hQ hV ⟨⟨_,rfl,⟨eB,hW,eC,eD,ia,eE,eF,ic,eG,eH,ie,eI,eJ,ig,eK,eL,ii,eM,eN,ij,eO,rfl,bc,bd,bg,bh,bi,bj,bk⟩⟩,bY⟩
  have aw:=al4 ar.lt W.lt J.lt C.lt
  have aC:Gb w.heap.size cr.heap.size:=E.size
  replace ⟨h1,h2,h3,h4,h5,h6,h7,C,J,W,E⟩:=(se [af,ac,ab,aa] bY).g11 h1 h2 h3 h4 h5 h6 h7 C J W E
  replace bc:=RepS.Af (M:=[af,ac,ab,aa]) bc aw aC
  have fM:=bc.max
  replace bd:=RepS.Af (M:=[af,ac,ab,aa]) bd aw aC
  have fN:=bd.max
  replace bg:=RepS.Af (M:=[af,ac,ab,aa]) bg aw aC
  have fO:=bg.max
  replace bh:=RepS.Af (M:=[af,ac,ab,aa]) bh aw aC
  have fP:=bh.max
  replace bi:=RepS.Af (M:=[af,ac,ab,aa]) bi aw aC
  have fQ:=bi.max
  replace bj:=RepS.Af (M:=[af,ac,ab,aa]) bj aw aC
  have fR:=bj.max
  replace bk:=RepS.Af (M:=[af,ac,ab,aa]) bk aw aC
  have fS:=bk.max
  have dg:=bc.len
  subst dg
  have dh:=bd.len
  subst dh
  have dj:=bg.len
  subst dj
  have dm:=bh.len
  subst dm
  have dp:=bi.len
  subst dp
  have dq:=bj.len
  subst dq
  have dr:=bk.len
  subst dr
  refine .sc [.slice eB (((((BZ w_ (BF w_.disk e.at_) e.cut (⟨(⟨(Au w_.store e.at_).1.idx.names,((Au w_.store e.at_).1.idx).AY⟩:Idx),(Au w_.store e.at_).1.parts,(Au w_.store e.at_).1.mem⟩:Sto)).store).idx).names).length) eC,.slice eD (((((BZ w_ (BF w_.disk e.at_) e.cut (⟨(⟨(Au w_.store e.at_).1.idx.names,((Au w_.store e.at_).1.idx).AY⟩:Idx),(Au w_.store e.at_).1.parts,(Au w_.store e.at_).1.mem⟩:Sto)).store).idx).AY).length) eE,.slice eF ((((BZ w_ (BF w_.disk e.at_) e.cut (⟨(⟨(Au w_.store e.at_).1.idx.names,((Au w_.store e.at_).1.idx).AY⟩:Idx),(Au w_.store e.at_).1.parts,(Au w_.store e.at_).1.mem⟩:Sto)).store).parts).length) eG,.slice eH ((((BZ w_ (BF w_.disk e.at_) e.cut (⟨(⟨(Au w_.store e.at_).1.idx.names,((Au w_.store e.at_).1.idx).AY⟩:Idx),(Au w_.store e.at_).1.parts,(Au w_.store e.at_).1.mem⟩:Sto)).store).mem).length) eI,.slice eJ ((((BZ w_ (BF w_.disk e.at_) e.cut (⟨(⟨(Au w_.store e.at_).1.idx.names,((Au w_.store e.at_).1.idx).AY⟩:Idx),(Au w_.store e.at_).1.parts,(Au w_.store e.at_).1.mem⟩:Sto)).disk).files).length) eK,.slice eL ((((BZ w_ (BF w_.disk e.at_) e.cut (⟨(⟨(Au w_.store e.at_).1.idx.names,((Au w_.store e.at_).1.idx).AY⟩:Idx),(Au w_.store e.at_).1.parts,(Au w_.store e.at_).1.mem⟩:Sto)).disk).list).length) eM,.slice eN ((((BZ w_ (BF w_.disk e.at_) e.cut (⟨(⟨(Au w_.store e.at_).1.idx.names,((Au w_.store e.at_).1.idx).AY⟩:Idx),(Au w_.store e.at_).1.parts,(Au w_.store e.at_).1.mem⟩:Sto)).disk).names).length) eO,vI (((BZ w_ (BF w_.disk e.at_) e.cut (⟨(⟨(Au w_.store e.at_).1.idx.names,((Au w_.store e.at_).1.idx).AY⟩:Idx),(Au w_.store e.at_).1.parts,(Au w_.store e.at_).1.mem⟩:Sto)).disk).next)] W fun ik bL dt du=>?_
  replace ⟨h1,h2,h3,h4,h5,h6,h7,C,J,bc,bd,bg⟩:=(so [af,ac,ab,aa] bL).g12 h1 h2 h3 h4 h5 h6 h7 C J bc bd bg
  replace ⟨bh,bi,bj,bk,E⟩:=(so [af,ac,ab,aa] bL).g5 bh bi bj bk E
  exact .d<|.rb func36 results36 dt ⟨(VS.of (y:=(⟨(⟨(⟨(((BZ w_ (BF w_.disk e.at_) e.cut (⟨(⟨(Au w_.store e.at_).1.idx.names,((Au w_.store e.at_).1.idx).AY⟩:Idx),(Au w_.store e.at_).1.parts,(Au w_.store e.at_).1.mem⟩:Sto)).store).idx).names,(((BZ w_ (BF w_.disk e.at_) e.cut (⟨(⟨(Au w_.store e.at_).1.idx.names,((Au w_.store e.at_).1.idx).AY⟩:Idx),(Au w_.store e.at_).1.parts,(Au w_.store e.at_).1.mem⟩:Sto)).store).idx).AY⟩:Idx),((BZ w_ (BF w_.disk e.at_) e.cut (⟨(⟨(Au w_.store e.at_).1.idx.names,((Au w_.store e.at_).1.idx).AY⟩:Idx),(Au w_.store e.at_).1.parts,(Au w_.store e.at_).1.mem⟩:Sto)).store).parts,((BZ w_ (BF w_.disk e.at_) e.cut (⟨(⟨(Au w_.store e.at_).1.idx.names,((Au w_.store e.at_).1.idx).AY⟩:Idx),(Au w_.store e.at_).1.parts,(Au w_.store e.at_).1.mem⟩:Sto)).store).mem⟩:Sto),(⟨((BZ w_ (BF w_.disk e.at_) e.cut (⟨(⟨(Au w_.store e.at_).1.idx.names,((Au w_.store e.at_).1.idx).AY⟩:Idx),(Au w_.store e.at_).1.parts,(Au w_.store e.at_).1.mem⟩:Sto)).disk).files,((BZ w_ (BF w_.disk e.at_) e.cut (⟨(⟨(Au w_.store e.at_).1.idx.names,((Au w_.store e.at_).1.idx).AY⟩:Idx),(Au w_.store e.at_).1.parts,(Au w_.store e.at_).1.mem⟩:Sto)).disk).list,((BZ w_ (BF w_.disk e.at_) e.cut (⟨(⟨(Au w_.store e.at_).1.idx.names,((Au w_.store e.at_).1.idx).AY⟩:Idx),(Au w_.store e.at_).1.parts,(Au w_.store e.at_).1.mem⟩:Sto)).disk).names,((BZ w_ (BF w_.disk e.at_) e.cut (⟨(⟨(Au w_.store e.at_).1.idx.names,((Au w_.store e.at_).1.idx).AY⟩:Idx),(Au w_.store e.at_).1.parts,(Au w_.store e.at_).1.mem⟩:Sto)).disk).next⟩:Dsk)⟩:Wld)) ⟨_,rfl,⟨_,_,_,_,_,_,_,_,_,_,_,_,_,_,_,_,_,_,_,_,_,rfl,bc.w1,bd.w1,bg.w1,bh.w1,bi.w1,bj.w1,bk.w1⟩⟩ (by (rw [KK ‹_›]))),E⟩
 refine .r 1<|.d<|.cf<|.s<|.g<|.eq e.kind 4 (fun dv=>?_) (fun dv=>?_)
 ·refine .r 1<|.d<|.ct<|.s<|.g<|.ln C<|.cl (Fv w_ h1.ta h2.ta h3.ta h4.ta h5.ta h6.ta h7.ta p0.dsk (w:=bv) (F:=all)) ?_
  rintro il im ⟨⟨_,rfl,⟨eP,io,eQ,eR,ip,eS,eT,iq,eU,eV,ir,eW,eX,iu,eY,eZ,iw,e7,e8,iy,fa,rfl,aE,aF,aG,aH,aI,aJ,aK⟩⟩,bZ⟩
  have ax:=al3 W.lt J.lt C.lt
  have aD:Gb w.heap.size bv.heap.size:=E.size
  replace ⟨h1,h2,h3,h4,h5,h6,h7,C,W,E⟩:=(se [ac,ab,aa] bZ).g10 h1 h2 h3 h4 h5 h6 h7 C W E
  have aE:=aE.fr ax aD
  replace aE:=aE.base (G':=fo F w.heap.size) (fun _ _ h=>.inr h)
  have fT:=aE.max
  have aF:=aF.fr ax aD
  replace aF:=aF.base (G':=fo F w.heap.size) (fun _ _ h=>.inr h)
  have fU:=aF.max
  have aG:=aG.fr ax aD
  replace aG:=aG.base (G':=fo F w.heap.size) (fun _ _ h=>.inr h)
  have fV:=aG.max
  have aH:=aH.fr ax aD
  replace aH:=aH.base (G':=fo F w.heap.size) (fun _ _ h=>.inr h)
  have fW:=aH.max
  have aI:=aI.fr ax aD
  replace aI:=aI.base (G':=fo F w.heap.size) (fun _ _ h=>.inr h)
  have fX:=aI.max
  have aJ:=aJ.fr ax aD
  replace aJ:=aJ.base (G':=fo F w.heap.size) (fun _ _ h=>.inr h)
  have fY:=aJ.max
  have aK:=aK.fr ax aD
  replace aK:=aK.base (G':=fo F w.heap.size) (fun _ _ h=>.inr h)
  have fZ:=aK.max
  have dw:=aE.len
  subst dw
  have dx:=aF.len
  subst dx
  have dy:=aG.len
  subst dy
  have dz:=aH.len
  subst dz
  have dA:=aI.len
  subst dA
  have dB:=aJ.len
  subst dB
  have dC:=aK.len
  subst dC
  refine .sc [.slice eP ((BE w_).store.idx.names.length) eQ,.slice eR ((((BE w_).store.idx).AY).length) eS,.slice eT ((BE w_).store.parts.length) eU,.slice eV ((BE w_).store.mem.length) eW,.slice eX ((BE w_).disk.files.length) eY,.slice eZ ((BE w_).disk.list.length) e7,.slice e8 ((BE w_).disk.names.length) fa,vI ((BE w_).disk.next)] W fun iz bM dD dE=>?_
  replace ⟨h1,h2,h3,h4,h5,h6,h7,C,aE,aF,aG,aH⟩:=(so [ac,ab,aa] bM).g12 h1 h2 h3 h4 h5 h6 h7 C aE aF aG aH
  replace ⟨aI,aJ,aK,E⟩:=(so [ac,ab,aa] bM).g4 aI aJ aK E
  exact .d<|.rb func36 results36 dD ⟨(VS.of (y:=(⟨(⟨(⟨(BE w_).store.idx.names,((BE w_).store.idx).AY⟩:Idx),(BE w_).store.parts,(BE w_).store.mem⟩:Sto),(⟨(BE w_).disk.files,(BE w_).disk.list,(BE w_).disk.names,(BE w_).disk.next⟩:Dsk)⟩:Wld)) ⟨_,rfl,⟨_,_,_,_,_,_,_,_,_,_,_,_,_,_,_,_,_,_,_,_,_,rfl,aE.w1,aF.w1,aG.w1,aH.w1,aI.w1,aJ.w1,aK.w1⟩⟩ (by (rw [Na ‹_›]))),E⟩
 refine .r 1<|.d<|.cf<|.sk<|.ib 0<|.s<|.g<|.ln C<|.sc [.slice a1 w_.store.idx.names.length c1,.slice a2 w_.store.idx.AY.length c2,.slice a3 w_.store.parts.length c3,.slice a4 w_.store.mem.length c4,.slice a5 w_.disk.files.length c5,.slice a6 w_.disk.list.length c6,.slice a7 w_.disk.names.length c7,vI w_.disk.next] W fun iA b0 dF dG=>?_
 replace ⟨h1,h2,h3,h4,h5,h6,h7,E⟩:=(so [ac,ab,aa] b0).g8 h1 h2 h3 h4 h5 h6 h7 E
 exact .d<|.rb func36 results36 dF ⟨(VS.of (y:=w_) ⟨_,rfl,⟨_,_,_,_,_,_,_,_,_,_,_,_,_,_,_,_,_,_,_,_,_,rfl,h1.w1,h2.w1,h3.w1,h4.w1,h5.w1,h6.w1,h7.w1⟩⟩ (by (rw [Nc ‹_› ‹_› ‹_› ‹_›]))),E⟩
end Go.Proofs.YtggnnidleedpaaaGreat
namespace Go.Proofs.YtggnnidleedpaaaGreat
def SA (n m:Nat) (ops:Array Oper) (l is:List Nat) (e:Env):Bool :=
 is.all (fun i=>DG n m ops l i&&CT n ops i e)&&decide (I7 ops l=is) && !is.isEmpty
section
variable {P:Program} {S:Nat→Prop} {n m:Nat} {L:Env→World→Prop} {ops:Array Oper} {l:List Nat} {e:Env} {w:World}
theorem GE.many (is:List Nat) (h:SA n m ops l is e=true) (H:∀ i∈is,GE P S n m L ops l i e w):GA P S n m L ops l e w:=by
 intro hB f a hf ha inv
 simp only [SA,AW,decide_eq_true_eq,List.all_eq_true] at h
 obtain ⟨⟨h1,hready⟩,hne⟩:=h
 rw [Hc] at hready
 have hne:is≠[]:=by rintro rfl; simp at hne
 obtain ⟨i0,hi0⟩:=List.exists_mem_of_ne_nil is hne
 have hlm:=(Dw (h1 i0 hi0).1).1
 obtain ⟨f,rfl⟩:∃ g,f=g+1:=⟨f - 1,by omega⟩
 have key:∀ k,DG n m ops l k=true→CT n ops k e=true→GE P S n m L ops l k e w→∀ w1,Ext w w1→k< m∧gOp P S ops k (IP P S ops m (fun listed a' w'=>listed=fin ops m∧∃ e',Sees n a' e'∧L e' w') f ((lst ops.size l).setIfInBounds k true)) a w1:=by
  intro k hk1 hk2 HK w1 hx
  obtain ⟨_,him,hd,hi,hr⟩:=Dw hk1
  refine ⟨him,?_⟩
  simp only [CT,AW] at hk2
  unfold gOp
  simp only [hi]
  rw [ha.want,hk2.2,if_pos rfl,ha.eval]
  refine Dv (fun v w2 _ hq=>?_) (HK w1 hx)
  have:=hq hB f (a.put (Aq ops k).dst v) (by simp only [List.length_cons]; omega) (ha.Kh hd v) (by rw [DH]; exact inv.set hr him)
  rwa [DH] at this
 refine ⟨by rw [hready]; exact hne,fun w1 hx k hk=>?_⟩
 rw [hready] at hk
 exact key k (h1 k hk).1 (h1 k hk).2 (H k hk) w1 hx
end
theorem Nd {a b:Int}(ha:0≤a∧a< 4611686018427387904) (hb:0≤b∧b< 4611686018427387904) :
 IntKind.i64.wrap ((BitVec.ofInt 64 a ^^^ BitVec.ofInt 64 b).toNat:Int)=((a.toNat ^^^ b.toNat:Nat):Int)∧a.toNat ^^^ b.toNat< 4611686018427387904:=by
 have h1:(BitVec.ofInt 64 a).toNat=a.toNat:=by rw [BitVec.toNat_ofInt]; omega
 have h2:(BitVec.ofInt 64 b).toNat=b.toNat:=by rw [BitVec.toNat_ofInt]; omega
 have h3:a.toNat ^^^ b.toNat< 2 ^ 62:=Nat.xor_lt_two_pow AB AB
 rw [BitVec.toNat_xor,h1,h2]
 exact ⟨IntWalk.i64_in _ AB,by omega⟩
theorem Q2 {P:Program}{t:TypeId}{x y:Operand}{a b:Int}(ha:0≤a∧a< 4611686018427387904) (hb:0≤b∧b< 4611686018427387904) (w:World) :
 (do eqGuard .xor t x y (.int .i64 a) (.int .i64 b); binOp .xor t (.int .i64 a) (.int .i64 b)).run P w=.ok (.int .i64 ((a.toNat ^^^ b.toNat:Nat):Int)) w:=by
 have h1:(eqGuard .xor t x y (.int .i64 a) (.int .i64 b)).run P w=.ok () w:=rfl
 rw [AZ h1,← (Nd ha hb).1]
 rfl
section
variable {P:Program} {n:Nat} {K:Env→World→Prop} {ops:Array Oper} {j:Nat} {e:Env} {w:World}
theorem RG.xor {t:TypeId}{a b:Int}(h:EH n ops j e=some (.xor,t,.int .i64 a,.int .i64 b)) (ha:0≤a∧a< 4611686018427387904) (hb:0≤b∧b< 4611686018427387904)
 (H:RG P n K ops (j+1) (BN e (Aq ops j).dst (.int .i64 ((a.toNat ^^^ b.toNat:Nat):Int))) w):RG P n K ops j e w :=
 have h1:=Cp (P:=P) (w:=w) h (fun _ _=>Q2 ha hb w)
 RG.val h1.1 h1.2 H
end
theorem GA.quo {P:Program}{S:Nat→Prop}{n m:Nat}{L:Env→World→Prop}{ops:Array Oper}{l:List Nat}{e:Env}{w:World}{i:Nat}{t:TypeId}{a b:Int}(hb:gB n m ops l i=true) (h:EH n ops i e=some (.quo,t,.int .i64 a,.int .i64 b)) (hb0:b≠0) (hr:-9223372036854775808≤a.tdiv b∧a.tdiv b≤9223372036854775807)
 (H:GA P S n m L ops (i::l) (BN e (Aq ops i).dst (.int .i64 (a.tdiv b))) w):GA P S n m L ops l e w :=
 GA.IT hb (fun w=>Cp h (fun _ _=>NR hb0 hr w)) H
section
variable {α:Type} [Rep α] {w:World} {G F:Nat→Prop} {M:List Nat} {o:Option Addr} {n c r b s:Nat} {t:TypeId} {xs:List α}
theorem RepS.Bk (h:RepS w (nin G M) o n c xs) (hb:b∈M):RepS w (nin all [b]) o n c xs:=h.CE fun k _ hk=>⟨trivial,fun e=>hk.2 (by simp at e; exact e▸hb)⟩
theorem Own.Bk (h:Own w r t (nin G M) n c xs) (hb:b∈M) (hr:Nb r b):RepS w (nin all [b]) (some ⟨r,0,none⟩) n c xs :=
 h.O0 (fun k _ hk=>⟨trivial,fun e=>hk.2 (by simp at e; exact e▸hb)⟩) ⟨trivial,fun e=>hr.ne (by simpa using e)⟩
theorem RepS.Tg (h:RepS w (nin G M) o n c xs) (hb:b∈M):RepS w (nin G [b]) o n c xs:=h.CE fun k _ hk=>⟨hk.1,fun e=>hk.2 (by simp at e; exact e▸hb)⟩
theorem RepS.Lk (h:RepS w (nin F [b]) o n c xs):RepS w (nin (fo F s) [b]) o n c xs:=h.CE fun _ _ hF=>⟨.inl hF.1,hF.2⟩
end
theorem Cov.mk1 (w:World) (b:Nat):Cov (Go.Proofs.YtggnnidleedpaaaGreat.one b) w b:=⟨.inl rfl⟩
instance {w:World}{b:Nat}:Cov (Go.Proofs.YtggnnidleedpaaaGreat.one b) w b:=⟨.inl rfl⟩
variable {w:World} {F:Nat→Prop}
theorem RepS.Sg {α:Type}[Rep α] {M:List Nat}{b s s' n c:Nat}{o:Option Addr}{xs:List α}(h:RepS w (nin (fo (nin (fo F s') M) s) [b]) o n c xs) (hM:∀ k∈M,k< s) (hs:s'≤s):RepS w (nin (fo F s') (b::M)) o n c xs :=
 h.CE fun k _ hF=>by
  have hb:k≠b:=fun e=>hF.2 (by simp [e])
  rcases hF.1 with h1 | h1
  ·exact ⟨h1.1,by simp [hb]; exact h1.2⟩
  ·exact ⟨.inr AB,by
    intro hm
    rcases List.mem_cons.1 hm with hm | hm
    ·exact hb hm
    ·have:=hM k hm; omega⟩
theorem PH {a:Int}{n:Nat}(ha:0≤a) (hn:(n:Int)≠0):(Int.tmod a n).toNat< n:=by
 have h1:=Int.tmod_nonneg (n:Int) ha
 have h2:=Int.tmod_lt_of_pos a (show (0:Int)< n by omega)
 omega
theorem PI {a:Int}{n:Nat}(ha:0≤a):Int.tmod a n=((Int.tmod a n).toNat:Int):=by
 have h1:=Int.tmod_nonneg (n:Int) ha
 omega
theorem SB {a n:Int}(ha:0≤a) (hn:¬ n< 1):0≤Int.tmod a n∧(Int.tmod a n< n∨Int.tmod a n=0):=by
 have h1:=Int.tmod_nonneg n ha
 have h2:=Int.tmod_lt_of_pos a (show (0:Int)< n by omega)
 omega
theorem SC {a n:Int}(ha:0≤a) (hn:0≤n):0≤Int.tdiv a n∧Int.tdiv a n≤a:=by
 refine ⟨Int.tdiv_nonneg ha hn,?_⟩
 rw [Int.tdiv_eq_ediv_of_nonneg ha]
 exact Int.ediv_le_self n ha
section
variable {α:Type} [Rep α] {w:World} {G:Nat→Prop} {M rs:List Nat} {o:Option Addr} {n c r s:Nat} {t:TypeId} {xs:List α}
theorem Mn {k:Nat}(h:nin (fo (nin G M) s) rs k) (hM:∀ b∈M,b< s) (hG:∀ b,s≤b→G b):nin G (rs++M) k:=by
 refine ⟨?_,fun hm=>?_⟩
 ·rcases h.1 with h1 | h1
  ·exact h1.1
  ·exact hG _ h1
 ·rcases List.mem_append.1 hm with hm | hm
  ·exact h.2 hm
  ·rcases h.1 with h1 | h1
   ·exact h1.2 hm
   ·have h2:=hM k hm
    omega
theorem RepS.Gl (h:RepS w (fo (nin G M) s) o n c xs) (hM:∀ b∈M,b< s) (hG:∀ b,s≤b→G b):RepS w (nin G M) o n c xs:=h.CE fun k _ hk=>Mn (rs:=[]) ⟨hk,by simp⟩ hM hG
end
def GQ (t:Tag):Prop:=t.key∈[[97],[98],[99]]∧t.val∈[[112],[113],[122],[],[111],[112,112]]
def NmD (n:List Tag):Prop:=n.length≤5∧∀ t∈n,GQ t
def Ek (r:Row):Prop:=-1≤r.t∧r.t≤100 ∧ -100≤r.v∧r.v≤100
def Q3 (n:List Tag):Nat:=(n.filter (fun t=>!Bq t)).length
def NmX (n:List Tag):Prop:=NmD n∧Q3 n≤1
theorem Nf {n:List Tag}(h:∀ t∈n,Bq t=true):Q3 n=0:=by
 unfold Q3
 rw [List.length_eq_zero_iff,List.filter_eq_nil_iff]
 intro t ht
 rw [h t ht]
 simp
theorem Iv {n:List Tag}(hl:n.length≤5) (hd:∀ t∈n,GQ t) (h:∀ t∈n,Bq t=true):NmX n:=⟨⟨hl,hd⟩,by rw [Nf h]; omega⟩
theorem Ng {n:List Tag}{i:Nat}{u:Tag}(hl:n.length≤5) (hd:∀ t∈n.set i u,GQ t) (h:∀ t∈n,Bq t=true):NmX (n.set i u):=by
 refine ⟨⟨by rw [List.length_set]; exact hl,hd⟩,?_⟩
 by_cases hi:i< n.length
 ·rw [List.set_eq_take_append_cons_drop,if_pos hi]
  unfold Q3
  rw [List.filter_append,List.filter_cons]
  have h1:((n.take i).filter (fun t=>!Bq t))=[]:=List.filter_eq_nil_iff.2 (fun t ht=>by rw [h t (List.mem_of_mem_take ht)]; simp)
  have h2:((n.drop (i+1)).filter (fun t=>!Bq t))=[]:=List.filter_eq_nil_iff.2 (fun t ht=>by rw [h t (List.mem_of_mem_drop ht)]; simp)
  rw [h1,h2]
  split <;> simp
 ·rw [List.set_eq_of_length_le AB,Nf h]
  omega
theorem Q4 {k v:Str}(hk:k∈[[97],[98],[99]]) (hv:v∈[[112],[113],[122]]):Bq ⟨k,v⟩=true:=by
 simp only [List.mem_cons,List.not_mem_nil,or_false] at hk hv
 rcases hk with rfl | rfl | rfl <;> rcases hv with rfl | rfl | rfl <;> decide
theorem PJ {k v:Str}(hk:(⟨k⟩:Txt)∈([⟨[97]⟩,⟨[98]⟩,⟨[99]⟩]:List Txt)) (hv:(⟨v⟩:Txt)∈([⟨[112]⟩,⟨[113]⟩,⟨[122]⟩]:List Txt)):GQ ⟨k,v⟩∧Bq ⟨k,v⟩=true:=by
 simp only [List.mem_cons,List.not_mem_nil,or_false,Txt.mk.injEq] at hk hv
 refine ⟨⟨?_,?_⟩,Q4 (by simpa using hk) (by simpa using hv)⟩
 ·simpa using hk
 ·rcases hv with rfl | rfl | rfl <;> simp
theorem PK {b:Txt}{v:Str}(hk:b=⟨[97]⟩∨b=⟨[98]⟩∨b=⟨[99]⟩) (hv:(⟨v⟩:Txt)∈([⟨[112]⟩,⟨[113]⟩,⟨[122]⟩]:List Txt)):GQ ⟨b.s,v⟩∧Bq ⟨b.s,v⟩=true:=PJ (by rcases hk with rfl | rfl | rfl <;> simp) hv
theorem Ll {α:Type}{P:α→Prop}{l:List α}{x:α}(h:∀ t∈l,P t) (hx:P x):∀ t∈l++[x],P t:=fun t ht=>by
 rcases List.mem_append.1 ht with ht | ht
 ·exact h t ht
 ·simp at ht
  subst ht
  exact hx
end Go.Proofs.YtggnnidleedpaaaGreat
namespace Go.Proofs.YtggnnidleedpaaaGreat
set_option maxRecDepth 100000
set_option maxHeartbeats 4000000
variable {w:World} {F:Nat→Prop} {a1:Option Addr} {n1 c1:Nat}
theorem Jz (code:List UInt8) (h1:RepS w F a1 n1 c1 code)  : Calls Tryz.prog 30 [.slice a1 n1 c1].toArray w (BB fun rv w'=>(∃ (D:List UInt8) (b:Nat) (a:Option Addr) (c:Nat),rv=.pointer (some ⟨b,0,none⟩)∧w.heap.size≤b∧Box w' b 95 [.slice a D.length c,.int .i64 ((0:Nat):Int)]∧RepS w' (nin (fo F w.heap.size) [b]) a D.length c D)∧Ext w w'):=by
 refine goT func30 ?_
 obtain ⟨rfl,au,h1⟩:=h1.tp
 refine .s<|.g<|.r 1<|.d<|.s<|.s<|.g<|.r 2<|.bp ((code.length:Int) > 2000) (fun ac=>?_) (fun ac=>?_)
 ·refine .d<|.ct<|.g<|.r 1<|RG.sub (t:=22) (lo:=none) (hi:=some (vI 2000)) h1 0 2000 AA AA (.inl ⟨rfl,rfl⟩) (.inr ⟨_,_,rfl,by omega⟩) AB AB fun am ao C=>?_
  refine .r 1<|.d<|.s<|.g<|.r 2<|.np 95 [.slice am (2000 - 0) ao,vI 0] fun aq ax E J ab ae=>?_
  have af:=Ae E (Nat.le_refl _)
  replace ⟨h1,C⟩:=(sn [] J E).g2 h1 C
  have ag:=J
  refine .r 1<|.d ?_
  have ah:=C.len; rw [ah] at C ab
  exact .rt func30 results30 (.pointer (some ⟨aq,0,none⟩)) ⟨⟨_,_,_,_,rfl,af,ab,(RepS.Tg C AI)⟩,ag⟩
 refine .d<|.cf<|.sk<|.s<|.g<|.r 2<|.np 95 [.slice a1 code.length c1,vI 0] fun ar ay W aa ai aj=>?_
 have ak:=Ae W (Nat.le_refl _)
 replace h1:=(sn [] aa W).g1 h1
 have al:=aa
 exact .r 1<|.d<|.rt func30 results30 (.pointer (some ⟨ar,0,none⟩)) ⟨⟨_,_,_,_,rfl,ak,ai,(RepS.Tg h1 AI)⟩,al⟩
theorem BK (n:Int){F:Nat→Prop}{b:Nat}{ad:Option Addr}{cd p:Nat}{D:List UInt8}(hr:Box w b 95 [.slice ad D.length cd,.int .i64 (p:Int)]) (hD:RepS w (nin all [b]) ad D.length cd D) (hp:p+1≤1000000000)  : Calls Tryz.prog 32 [.pointer (some ⟨b,0,none⟩),.int .i64 n].toArray w (BB fun rv w'=>(∃ (y:Int),rv=.int .i64 (y)∧(0≤y∧(y< n∨y=0)))∧∃ p':Nat,p'≤p+1∧Box w' b 95 [.slice ad D.length cd,.int .i64 (p':Int)]∧Chg (one b) w w'):=by
 refine goT func32 ?_
 have aB:=hD.max
 refine .s<|.g<|.r 1<|.d<|.s<|.g<|.r 4<|.lb hr<|.it ((p:Int)+1)<|.r 2<|.ss 1 (vI ((p:Int)+1)) hr fun aA ab C am=>?_
 replace hD:=(so [b] ab).g1 hD
 have W:Chg (one b) w aA:=Chg.EW (Chg.refl (one b) w) ab (Cov.mk1 w b)
 refine .d<|.s<|.s<|.g<|.r 1<|.bp (n< 1) (fun ao=>.r 8<|.d<|.ct<|.s<|.g<|.r 1<|.d<|.rt func32 results32 (vI 0) ⟨⟨(0:Int),(congrArg (Value.int .i64) AF),AB⟩,p+1,by omega,C,W⟩) fun ao=>.r 4<|.lb C<|.r 1<|.eq (D.length:Int) 0 (fun aq=>.r 1<|.d<|.ct<|.s<|.g<|.r 1<|.d<|.rt func32 results32 (vI 0) ⟨⟨(0:Int),(congrArg (Value.int .i64) AF),AB⟩,p+1,by omega,C,W⟩) fun aq=>.r 1<|.d<|.cf<|.sk<|.s<|.g<|.r 3<|.lb C<|.it (((p:Int)+1) - 1)<|.r 1<|.d<|.s<|.s<|.g<|.r 4<|.lb C<|.r 1<|.bp (((p:Int)+1) - 1< (D.length:Int)) (fun ar=>?_) (fun ar=>?_)
 ·refine .d<|.ct<|.s<|.g<|.r 3<|.lb C<|.r 1 ?_
  have ag:(((p:Int)+1) - 1).toNat< D.length:=AB
  refine RG.idx ((((p:Int)+1) - 1).toNat) (len:=D.length) (i:=((p:Int)+1) - 1) (sz:=1) AA AB ag (hD.addr (Nat.zero_lt_of_lt ag)) ?_
  obtain ⟨aa,ac⟩:∃ y,D[(((p:Int)+1) - 1).toNat]? = some y:=⟨_,AU AB⟩
  have aD:=UInt8.toNat_lt aa
  obtain ⟨_,rfl,au⟩:=hD.elem ((((p:Int)+1) - 1).toNat) aa ac
  exact .lh 0 au<|.it ((aa.toNat:Int))<|.r 1<|RG.rem (t:=3) (k:=.i64) (a:=(aa.toNat:Int)) (b:=n) AA AB<|.r 1<|.d<|.rt func32 results32 (vI (Int.tmod (aa.toNat:Int) n)) ⟨⟨((Int.tmod (aa.toNat:Int) n):Int),(congrArg (Value.int .i64) AF),(by exact SB AB ‹_›)⟩,p+1,by omega,C,W⟩
 refine .d<|.cf<|.sk<|.s<|.gd nil 44 fun aL ah=>?_
 replace ⟨hD,C,W⟩:=(se [b] ah).g3 hD C W
 refine .r [0,1,2]<|.lb 3 C id<|.r [4,5,6,7]<|.lb 8 C id<|.r [9]<|GA.rem (i:=10) (t:=3) (k:=.i64) (a:=((p:Int)+1) - 1) (b:=(D.length:Int)) AA AA AB ?_
 have ai:((Int.tmod (((p:Int)+1) - 1) (D.length:Int))).toNat< D.length:=(by exact PH AB AB)
 refine GA.idx (i:=11) (((Int.tmod (((p:Int)+1) - 1) (D.length:Int))).toNat) (len:=D.length) (z:=(Int.tmod (((p:Int)+1) - 1) (D.length:Int))) (sz:=1) AA (by exact PI AB) ai (hD.addr (Nat.zero_lt_of_lt ai)) ?_
 obtain ⟨E,ae⟩:∃ y,D[((Int.tmod (((p:Int)+1) - 1) (D.length:Int))).toNat]? = some y:=⟨_,AU AB⟩
 have aF:=UInt8.toNat_lt E
 obtain ⟨_,rfl,av⟩:=hD.elem (((Int.tmod (((p:Int)+1) - 1) (D.length:Int))).toNat) E ae
 refine .lh 12 0 av id<|GA.int (i:=13) ((E.toNat:Int)) AA AB<|GA.int (i:=14) ((E.toNat:Int) * 131) AA AB<|.r [15,16,17]<|.lb 18 C id<|.r [19]<|GA.int (i:=20) ((((p:Int)+1) - 1) * 7) AA AB<|GA.int (i:=21) ((((p:Int)+1) - 1) * 7+3) AA AB<|.r [22,23,24]<|.lb 25 C id<|.r [26]<|GA.rem (i:=27) (t:=3) (k:=.i64) (a:=(((p:Int)+1) - 1) * 7+3) (b:=(D.length:Int)) AA AA AB ?_
 have aj:((Int.tmod ((((p:Int)+1) - 1) * 7+3) (D.length:Int))).toNat< D.length:=(by exact PH AB AB)
 refine GA.idx (i:=28) (((Int.tmod ((((p:Int)+1) - 1) * 7+3) (D.length:Int))).toNat) (len:=D.length) (z:=(Int.tmod ((((p:Int)+1) - 1) * 7+3) (D.length:Int))) (sz:=1) AA (by exact PI AB) aj (hD.addr (Nat.zero_lt_of_lt aj)) ?_
 obtain ⟨J,af⟩:∃ y,D[((Int.tmod ((((p:Int)+1) - 1) * 7+3) (D.length:Int))).toNat]? = some y:=⟨_,AU AB⟩
 have aH:=UInt8.toNat_lt J
 obtain ⟨_,rfl,aw⟩:=hD.elem (((Int.tmod ((((p:Int)+1) - 1) * 7+3) (D.length:Int))).toNat) J af
 refine .lh 29 0 aw id<|GA.int (i:=30) ((J.toNat:Int)) AA AB<|GA.int (i:=31) ((J.toNat:Int) * 1117) AA AB<|GA.int (i:=32) ((E.toNat:Int) * 131+((J.toNat:Int) * 1117)) AA AB<|.r [33]<|GA.int (i:=34) ((((p:Int)+1) - 1) * 29) AA AB<|GA.int (i:=35) ((E.toNat:Int) * 131+((J.toNat:Int) * 1117)+((((p:Int)+1) - 1) * 29)) AA AB<|.r [36,37,38,39]<|.lb 40 C id<|.r [41] ?_
 have aI:=SC (a:=((p:Int)+1) - 1) (n:=(D.length:Int)) AB AB
 refine GA.quo (i:=42) (t:=3) (a:=((p:Int)+1) - 1) (b:=(D.length:Int)) AA AA AB AB<|GA.int (i:=43) ((Int.tdiv (((p:Int)+1) - 1) (D.length:Int)) * 53) AA AB<|.d fun aM ak=>?_
 replace ⟨hD,C,W⟩:=(se [b] ak).g3 hD C W
 refine .it ((E.toNat:Int) * 131+((J.toNat:Int) * 1117)+((((p:Int)+1) - 1) * 29)+((Int.tdiv (((p:Int)+1) - 1) (D.length:Int)) * 53))<|.r 1<|.d<|.s<|.g<|.r 2 ?_
 have aJ:=SC (a:=(E.toNat:Int) * 131+((J.toNat:Int) * 1117)+((((p:Int)+1) - 1) * 29)+((Int.tdiv (((p:Int)+1) - 1) (D.length:Int)) * 53)) (n:=64) AB AB
 refine RG.quo (t:=3) (a:=(E.toNat:Int) * 131+((J.toNat:Int) * 1117)+((((p:Int)+1) - 1) * 29)+((Int.tdiv (((p:Int)+1) - 1) (D.length:Int)) * 53)) (b:=64) AA AB AB<|RG.xor (t:=3) (a:=(E.toNat:Int) * 131+((J.toNat:Int) * 1117)+((((p:Int)+1) - 1) * 29)+((Int.tdiv (((p:Int)+1) - 1) (D.length:Int)) * 53)) (b:=(Int.tdiv ((E.toNat:Int) * 131+((J.toNat:Int) * 1117)+((((p:Int)+1) - 1) * 29)+((Int.tdiv (((p:Int)+1) - 1) (D.length:Int)) * 53)) 64)) AA AB AB ?_
 obtain ⟨al,aK,hz51e⟩:∃ z:Nat,z< 4611686018427387904∧((((E.toNat:Int) * 131+((J.toNat:Int) * 1117)+((((p:Int)+1) - 1) * 29)+((Int.tdiv (((p:Int)+1) - 1) (D.length:Int)) * 53)).toNat ^^^ ((Int.tdiv ((E.toNat:Int) * 131+((J.toNat:Int) * 1117)+((((p:Int)+1) - 1) * 29)+((Int.tdiv (((p:Int)+1) - 1) (D.length:Int)) * 53)) 64)).toNat:Nat):Int)=(z:Int):=⟨_,(Nd AB AB).2,rfl⟩
 rw [hz51e]
 exact .r 1<|.d<|.s<|.g<|.r 2<|RG.rem (t:=3) (k:=.i64) (a:=(al:Int)) (b:=n) AA AB<|.r 1<|.d<|.rt func32 results32 (vI (Int.tmod (al:Int) n)) ⟨⟨((Int.tmod (al:Int) n):Int),(congrArg (Value.int .i64) AF),(by exact SB AB ‹_›)⟩,p+1,by omega,C,W⟩
theorem Cl (list:List Txt){b:Nat}{ad:Option Addr}{cd p:Nat}{D:List UInt8}(hr:Box w b 95 [.slice ad D.length cd,.int .i64 (p:Int)]) (hD:RepS w (nin all [b]) ad D.length cd D) (hp:p+1≤1000000000) (h1:RepS w (nin F [b]) a1 n1 c1 list) (p0:0< list.length):Calls Tryz.prog 137 [.pointer (some ⟨b,0,none⟩),.slice a1 n1 c1].toArray w (BB fun rv w'=>(∃ (y:Str),rv=.string (bs (y))∧((⟨y⟩:Txt)∈list))∧∃ p':Nat,p'≤p+1∧Box w' b 95 [.slice ad D.length cd,.int .i64 (p':Int)]∧Chg (one b) w w'):=by
 refine goT func137 ?_
 obtain rfl:=h1.len
 replace h1:=h1.Lk (s:=w.heap.size)
 have aj:=h1.max
 refine .s<|.g<|.r 1<|.d<|.s<|.g<|.r 4<|.cl (BK (list.length:Int) hr (hD.Bk AI) AB (w:=w) (F:=all)) ?_
 rintro ao ag ⟨⟨C,rfl,ak⟩,ah,al,ab,E⟩
 replace ⟨hD,h1⟩:=(so [b] E).g2 hD h1
 have ac:Chg (one b) w ag:=Chg.EW (Chg.refl (one b) w) E (Cov.mk1 w b)
 have W:C.toNat< list.length:=AB
 refine RG.idx (C.toNat) (len:=list.length) (i:=C) (sz:=1) AA AB W (h1.addr (Nat.zero_lt_of_lt W)) ?_
 obtain ⟨aa,J⟩:∃ y,list[C.toNat]? = some y:=⟨_,AU AB⟩
 have af:=AV J
 obtain ⟨_,rfl,ae⟩:=h1.elem (C.toNat) aa J
 exact .lh 0 ae<|.r 1<|.d<|.rt func137 results137 (vT aa.s) ⟨⟨(aa.s:Str),(congrArg (fun s=>Value.string (bs s)) AF),‹_›⟩,ah,by omega,ab,ac⟩
theorem Eu  {F:Nat→Prop}{b:Nat}{ad:Option Addr}{cd p:Nat}{D:List UInt8}(hr:Box w b 95 [.slice ad D.length cd,.int .i64 (p:Int)]) (hD:RepS w (nin all [b]) ad D.length cd D) (hp:p+4≤1000000000)  : Calls Tryz.prog 94 [.pointer (some ⟨b,0,none⟩)].toArray w (BB fun rv w'=>(∃ (y:Row),VS (ge w.heap.size) w' (y:Row) rv∧(Ek y))∧∃ p':Nat,p'≤p+4∧Box w' b 95 [.slice ad D.length cd,.int .i64 (p':Int)]∧Chg (one b) w w'):=by
 refine goT func94 ?_
 refine .s<|.g<|.np 56 [vI 0,vI 0] fun W bj ar aw E bk=>?_
 have bO:=AX ar hr.lt
 have bP:Cov (one b) w W:=Bf ar (Nat.le_refl _)
 replace ⟨hD,hr⟩:=(sn [b] aw ar).g2 hD hr
 have C:Chg (one b) w bj:=Chg.Cb (Chg.refl (one b) w) aw
 refine .d<|.s<|.g<|.r 1<|.cl (BK 40 hr (hD.Bk AJ) AB (w:=bj) (F:=all)) ?_
 rintro cj bE ⟨⟨ax,rfl,bQ⟩,ck,bR,bm,aL⟩
 replace ⟨hD,E,C⟩:=(so [W,b] aL).g3 hD E C
 refine .r 1<|.cl (BK 20 bm (hD.Bk AJ) AB (w:=bE) (F:=all)) ?_
 rintro cm co ⟨⟨au,rfl,bS⟩,cp,bT,af,aM⟩
 replace ⟨hD,E,C⟩:=(so [W,b] aM).g3 hD E C
 refine .it (au - 6)<|.r 1<|.np 56 [vI 0,vI 0] fun ab cq ah aN bn bo=>?_
 have bU:=AX ah af.lt
 have bV:=AX ah E.lt
 have bW:=C.cn ah
 replace ⟨hD,af,E,C⟩:=(sn [W,b] aN ah).g4 hD af E C
 refine .sc [vI ax,vI (au - 6)] bn fun bF aO J bq=>?_
 replace ⟨hD,af,E,C⟩:=(so [ab,W,b] aO).g4 hD af E C
 refine .d<|.s<|.s<|.g<|.r 1<|.cl (BK 40 af (hD.Bk AK) AB (w:=bF) (F:=all)) ?_
 rintro cr cu ⟨⟨br,rfl,bX⟩,bG,bY,aa,aP⟩
 replace ⟨hD,E,J,C⟩:=(so [ab,W,b] aP).g4 hD E J C
 refine .d<|.b 0<|.s<|.g<|.eq br 0 (fun bt=>?_) (fun bt=>?_)
 ·refine .r 1<|.d<|.ct<|.g<|.ns 3 3 [vI (-1),vI 99,vI 100] fun ak bu ay aQ bv bw=>?_
  have bZ:=AX ay aa.lt
  replace ⟨hD,aa,E,J,C⟩:=(sn [ab,W,b] aQ ay).g5 hD aa E J C
  have az:Own (α:=Int) bu ak 3 (nin (ge w.heap.size) [ak,ab,W,b]) 3 3 [(-1),99,100]:=Own.lit bv rfl AE ⟨rfl,rfl,rfl,rfl⟩
  refine .r 1<|.cl (BK 3 aa (hD.Bk AL) AB (w:=bu) (F:=all)) ?_
  rintro cw bH ⟨⟨av,rfl,b0⟩,bI,b6,ai,aR⟩
  replace ⟨hD,E,J,az,C⟩:=(so [ak,ab,W,b] aR).g5 hD E J az C
  have bz:av.toNat< 3:=AB
  refine RG.idx (b:=ak) (o:=0) (av.toNat) (len:=3) (i:=av) (sz:=1) AA AB bz rfl ?_
  obtain ⟨aA,aB⟩:∃ y,([(-1),99,100]:List Int)[av.toNat]? = some y:=⟨_,AU AB⟩
  have aK:=AV aB
  simp only [List.mem_cons,List.not_mem_nil,or_false] at aK
  obtain ⟨_,rfl,aC⟩:=az.elem (av.toNat) aA aB
  replace aC:Has bH ⟨ak,0+(av.toNat) * Rep.sz Int,none⟩ [vI aA]:=by rw [Nat.zero_add]; exact aC
  refine .lh 0 aC<|.r 1<|.ss 0 (vI aA) J fun cx aS bA bB=>?_
  replace ⟨hD,ai,E,C⟩:=(so [ak,ab,W,b] aS).g4 hD ai E C
  refine .d<|.ib 0<|.s<|.g<|.ln bA<|.sc [vI aA,vI (au - 6)] E fun b8 aD aU aV=>?_
  replace ⟨hD,ai,C⟩:=(so [ak,ab,W,b] aD).g3 hD ai C
  exact .d<|.rb func94 results94 aU ⟨⟨((⟨aA,au - 6⟩:Row):Row),⟨_,rfl,rfl⟩,(by (unfold Ek; dsimp only; omega))⟩,bI,by omega,ai,C⟩
 refine .r 1<|.d<|.cf<|.s<|.g<|.eq br 1 (fun aW=>?_) (fun aW=>?_)
 ·refine .r 1<|.d<|.ct<|.g<|.ns 3 3 [vI (-99),vI 99,vI 100] fun ac aT al aE aX aY=>?_
  have bJ:=AX al aa.lt
  replace ⟨hD,aa,E,J,C⟩:=(sn [ab,W,b] aE al).g5 hD aa E J C
  have am:Own (α:=Int) aT ac 3 (nin (ge w.heap.size) [ac,ab,W,b]) 3 3 [(-99),99,100]:=Own.lit aX rfl AE ⟨rfl,rfl,rfl,rfl⟩
  refine .r 1<|.cl (BK 3 aa (hD.Bk AL) AB (w:=aT) (F:=all)) ?_
  rintro b9 bC ⟨⟨ag,rfl,bK⟩,bD,bL,ae,aF⟩
  replace ⟨hD,E,J,am,C⟩:=(so [ac,ab,W,b] aF).g5 hD E J am C
  have aZ:ag.toNat< 3:=AB
  refine RG.idx (b:=ac) (o:=0) (ag.toNat) (len:=3) (i:=ag) (sz:=1) AA AB aZ rfl ?_
  obtain ⟨aj,ao⟩:∃ y,([(-99),99,100]:List Int)[ag.toNat]? = some y:=⟨_,AU AB⟩
  have aG:=AV ao
  simp only [List.mem_cons,List.not_mem_nil,or_false] at aG
  obtain ⟨_,rfl,aq⟩:=am.elem (ag.toNat) aj ao
  replace aq:Has bC ⟨ac,0+(ag.toNat) * Rep.sz Int,none⟩ [vI aj]:=by rw [Nat.zero_add]; exact aq
  refine .lh 0 aq<|.r 1<|.ss 1 (vI aj) J fun ce aH ba bc=>?_
  replace ⟨hD,ae,E,C⟩:=(so [ac,ab,W,b] aH).g4 hD ae E C
  refine .d<|.ib 0<|.s<|.g<|.ln ba<|.sc [vI ax,vI aj] E fun cg aI bd bg=>?_
  replace ⟨hD,ae,C⟩:=(so [ac,ab,W,b] aI).g3 hD ae C
  exact .d<|.rb func94 results94 bd ⟨⟨((⟨ax,aj⟩:Row):Row),⟨_,rfl,rfl⟩,(by (unfold Ek; dsimp only; omega))⟩,bD,by omega,ae,C⟩
 refine .r 1<|.d<|.cf<|.sk<|.ib 0<|.s<|.g<|.ln J<|.sc [vI ax,vI (au - 6)] E fun ci aJ bh bi=>?_
 replace ⟨hD,aa,C⟩:=(so [ab,W,b] aJ).g3 hD aa C
 exact .d<|.rb func94 results94 bh ⟨⟨((⟨ax,au - 6⟩:Row):Row),⟨_,rfl,rfl⟩,(by (unfold Ek; dsimp only; omega))⟩,bG,by omega,aa,C⟩
theorem Ev  {F:Nat→Prop}{b:Nat}{ad:Option Addr}{cd p:Nat}{D:List UInt8}(hr:Box w b 95 [.slice ad D.length cd,.int .i64 (p:Int)]) (hD:RepS w (nin all [b]) ad D.length cd D) (hp:p+2≤1000000000)  : Calls Tryz.prog 162 [.pointer (some ⟨b,0,none⟩)].toArray w (BB fun rv w'=>(∃ (y:Tag),VS (ge w.heap.size) w' (y:Tag) rv∧(GQ y∧Bq y=true))∧∃ p':Nat,p'≤p+2∧Box w' b 95 [.slice ad D.length cd,.int .i64 (p':Int)]∧Chg (one b) w w'):=by
 refine goT func162 ?_
 refine .s<|.g<|.np 67 [.string (bs []),.string (bs [])] fun J aG aa ac E ao=>?_
 have aJ:=AX aa hr.lt
 have aK:Cov (one b) w J:=Bf aa (Nat.le_refl _)
 replace ⟨hD,hr⟩:=(sn [b] ac aa).g2 hD hr
 have C:Chg (one b) w aG:=Chg.Cb (Chg.refl (one b) w) ac
 refine .d<|.s<|.g<|.r 1<|.ns 3 9 [.string (bs [97]),.string (bs [98]),.string (bs [99])] fun W aq ae ai ar au=>?_
 have av:=AX ae hr.lt
 replace ⟨hD,hr,E,C⟩:=(sn [J,b] ai ae).g4 hD hr E C
 have aw:Own (α:=Txt) aq W 9 (nin (ge w.heap.size) [W,J,b]) 3 3 [(⟨[97]⟩:Txt),(⟨[98]⟩:Txt),(⟨[99]⟩:Txt)]:=Own.lit ar rfl AE ⟨rfl,rfl,rfl,rfl⟩
 refine .cl (Cl ([(⟨[97]⟩:Txt),(⟨[98]⟩:Txt),(⟨[99]⟩:Txt)]:List Txt) hr (hD.Bk AK) AB (aw.Bk AK av) AD (w:=aq) (F:=all)) ?_
 rintro aP aQ ⟨⟨ax,rfl,aL⟩,aR,aM,ab,aj⟩
 replace ⟨hD,E,C⟩:=(so [W,J,b] aj).g3 hD E C
 refine .r 1<|.ns 3 9 [.string (bs [112]),.string (bs [113]),.string (bs [122])] fun ah ay af ak az aA=>?_
 have aB:=AX af ab.lt
 replace ⟨hD,ab,E,C⟩:=(sn [W,J,b] ak af).g4 hD ab E C
 have aC:Own (α:=Txt) ay ah 9 (nin (ge w.heap.size) [ah,W,J,b]) 3 3 [(⟨[112]⟩:Txt),(⟨[113]⟩:Txt),(⟨[122]⟩:Txt)]:=Own.lit az rfl AE ⟨rfl,rfl,rfl,rfl⟩
 refine .cl (Cl ([(⟨[112]⟩:Txt),(⟨[113]⟩:Txt),(⟨[122]⟩:Txt)]:List Txt) ab (hD.Bk AL) AB (aC.Bk AL aB) AD (w:=ay) (F:=all)) ?_
 rintro aS aT ⟨⟨aD,rfl,aN⟩,aH,aO,ag,al⟩
 replace ⟨hD,E,C⟩:=(so [ah,W,J,b] al).g3 hD E C
 refine .r 1<|.sc [vT ax,vT aD] E fun aU am aE aF=>?_
 replace ⟨hD,ag,C⟩:=(so [ah,W,J,b] am).g3 hD ag C
 exact .d<|.rb func162 results162 aE ⟨⟨((⟨ax,aD⟩:Tag):Tag),⟨_,rfl,rfl⟩,(by exact PJ ‹_› ‹_›)⟩,aH,by omega,ag,C⟩
theorem JO  {F:Nat→Prop}{b:Nat}{ad:Option Addr}{cd p:Nat}{D:List UInt8}(hr:Box w b 95 [.slice ad D.length cd,.int .i64 (p:Int)]) (hD:RepS w (nin all [b]) ad D.length cd D) (hp:p+20≤1000000000)  : Calls Tryz.prog 135 [.pointer (some ⟨b,0,none⟩)].toArray w (BB fun rv w'=>(∃ (y:List Tag),VL (ge w.heap.size) w' (y:List Tag) rv∧(NmX y))∧∃ p':Nat,p'≤p+20∧Box w' b 95 [.slice ad D.length cd,.int .i64 (p':Int)]∧Chg (one b) w w'):=by
 refine goT func135 ?_
 refine .s<|.g<|.r 1<|.d<|.s<|.g<|.ns 0 67 [] fun ar du aJ bi dv dw=>?_
 have dx:=AX aJ hr.lt
 have dy:=Ae aJ (Nat.le_refl _)
 have dz:Cov (one b) w ar:=Bf aJ (Nat.le_refl _)
 replace ⟨hD,hr⟩:=(sn [b] bi aJ).g2 hD hr
 have C:Chg (one b) w du:=Chg.Cb (Chg.refl (one b) w) bi
 have aU:Own (α:=Tag) du ar 67 (nin (ge w.heap.size) [ar,b]) 0 0 []:=Own.Aj dv
 refine .r 1<|.d<|.s<|.s<|.g<|.ns 3 9 [.string (bs [97]),.string (bs [98]),.string (bs [99])] fun W ba aV bW dA dB=>?_
 have e7:=AX aV hr.lt
 have dC:=AX aV aU.lt
 replace ⟨hD,hr,aU,C⟩:=(sn [ar,b] bW aV).g4 hD hr aU C
 have E:Own (α:=Txt) ba W 9 (nin (ge w.heap.size) [W,ar,b]) 3 3 [(⟨[97]⟩:Txt),(⟨[98]⟩:Txt),(⟨[99]⟩:Txt)]:=Own.lit dA rfl AE ⟨rfl,rfl,rfl,rfl⟩
 refine .r 2<|.d<|.b 0<|T.loop (X:=(List Tag) × Nat × Nat × Nat × Nat × Nat) (([]:List Tag),ar,0,0,0,p) (fun (out,r_out,n_out,c_out,k,p_)=>[(0,.pointer (some ⟨b,0,none⟩)),(3,vS r_out n_out c_out),(7,vS W 3 3),(8,vI 3),(9,vI (k:Int))]) (fun (out,r_out,n_out,c_out,k,p_) aD=>Chg (ins [ar,b]) ba aD∧Own aD r_out 67 (nin (ge w.heap.size) [W,r_out,b]) n_out c_out out∧OrB r_out ar ba.heap.size∧Box aD b 95 [.slice ad D.length cd,vI (p_:Int)]∧(k≤3)∧(out.length≤k)∧(∀ t∈out,GQ t)∧(∀ t∈out,Bq t=true)∧(p_≤p+2 * k)) (fun (out,r_out,n_out,c_out,k,p_)=>3 - k) AA ⟨AA,AA,AA,AA,AA,trivial⟩ ⟨Chg.refl _ _,aU,BU,hr,AD,AD,AD,AD,AD⟩ ?_
 rintro ⟨out,r_out,n_out,c_out,k,p_⟩ fJ aD ⟨ac,J,aq,bj,e8,fa,fb,fc,fd⟩ aK
 have bX:=Ay aq dx hr.lt
 have bY:=Ay aq (Nb.symm dC) E.lt
 have aW:=Bz aq dy C.size
 have dD:=BA aq dz C.size
 have dE:Cov (ins [ar,b]) ba ar:=⟨.inl AI⟩
 have fe:Cov (ins [ar,b]) ba b:=⟨.inl AJ⟩
 have ff:=BA aq dE (Nat.le_refl _)
 have bZ:Mv [W,ar,b] [W,r_out,b] ba aD:=Mv.inl ac (all_cons AJ (all_cons AK all_nil)) (all_cons (.inl AI) (all_cons (Bb aq AJ) (all_cons (.inl AK) all_nil)))
 replace ⟨hD,E,C⟩:=(sp bZ ac).g3 hD E C
 have fg:=J.len; have fh:=J.max
 refine .s<|.g<|.bp ((k:Int)< 3) (fun dF=>?_) (fun dF=>?_)
 ·refine .d<|.s<|.ct<|.sk<|.s<|.b 1<|.s<|.g ?_
  have dG:k< 3:=AB
  refine RG.idx (b:=W) (o:=0) k (len:=3) (i:=(k:Int)) (sz:=1) AA AB dG rfl ?_
  obtain ⟨bk,bm⟩:∃ y,([(⟨[97]⟩:Txt),(⟨[98]⟩:Txt),(⟨[99]⟩:Txt)]:List Txt)[k]? = some y:=⟨_,AU AB⟩
  have bV:=AV bm
  simp only [List.mem_cons,List.not_mem_nil,or_false] at bV
  obtain ⟨_,rfl,bn⟩:=E.elem k bk bm
  replace bn:Has aD ⟨W,0+k * Rep.sz Txt,none⟩ [vT bk.s]:=by rw [Nat.zero_add]; exact bn
  refine .lh 0 bn<|.r 1<|.d<|.s<|.g<|.r 1<|.cl (BK 2 bj (hD.Bk AK) AB (w:=aD) (F:=all)) ?_
  rintro fK fL ⟨⟨ef,rfl,fj⟩,eg,fk,aL,b0⟩
  replace ⟨hD,J,E,C,ac⟩:=(so [W,r_out,b] b0).g5 hD J E C ac
  refine .eq ef 0 (fun dH=>?_) (fun dH=>.d<|.cf<|.sk<|.ib 1<|.g<|.it ((k:Int)+1)<|.r 1<|.d<|aK (out,r_out,n_out,c_out,k+1,eg) _ _ ⟨AA,AA,AA,AA,AA,trivial⟩ ⟨ac,J,aq,aL,AB,AB,‹_›,‹_›,AB⟩ (by (simp only []; omega)))
  refine .d<|.ct<|.g<|.r 3<|.ns 3 9 [.string (bs [112]),.string (bs [113]),.string (bs [122])] fun aO dI bo b6 dJ dK=>?_
  have dL:=AX bo aL.lt
  replace ⟨hD,aL,J,E,C,ac⟩:=(sn [W,r_out,b] b6 bo).g6 hD aL J E C ac
  have aX:Own (α:=Txt) dI aO 9 (nin (ge w.heap.size) [aO,W,r_out,b]) 3 3 [(⟨[112]⟩:Txt),(⟨[113]⟩:Txt),(⟨[122]⟩:Txt)]:=Own.lit dJ rfl AE ⟨rfl,rfl,rfl,rfl⟩
  refine .cl (Cl ([(⟨[112]⟩:Txt),(⟨[113]⟩:Txt),(⟨[122]⟩:Txt)]:List Txt) aL (hD.Bk AL) AB (aX.Bk AL dL) AD (w:=dI) (F:=all)) ?_
  rintro fM fN ⟨⟨cr,rfl,fm⟩,eh,fp,aC,b7⟩
  replace ⟨hD,J,E,aX,C,ac⟩:=(so [aO,W,r_out,b] b7).g6 hD J E aX C ac
  refine .r 1<|.ns 1 67 [vT bk.s,vT cr] fun dM fO al bq cu cw=>?_
  have cx:=AX al aC.lt
  have br:=AX al J.lt
  have cy:=AX al E.lt
  have cz:=AX al aX.lt
  have cA:=Ae al C.size
  replace ⟨hD,aC,J,E,C,ac⟩:=(se [aO,W,r_out,b] bq).g6 hD aC J E C ac
  have bc:nin (ge w.heap.size) [aO,W,r_out,b] dM∧dM≠r_out:=BR cA (all_cons cz (all_cons cy (all_cons br (all_cons cx all_nil)))) br
  refine RG.Ax (T:=43) (ty:=43) (y:=(⟨bk.s,cr⟩:Tag)) J cu AA AA rfl bc AB fun bt dN b8 af aE bu=>?_
  have cB:=CB aE aq ac.size
  replace ⟨hD,aC,E,C,ac⟩:=(sa [aO,W,r_out,b] bu aE).g5 hD aC E C ac
  replace af:=af.rn r_out
  have ej:=af.len
  refine .r 1<|.d<|.ib 1<|.g<|.it ((k:Int)+1)<|.r 1<|.d ?_
  have cC:Mv [aO,W,bt,b] [W,bt,b] b8 b8:=Mv.less (all_cons AJ (all_cons AK (all_cons AL all_nil)))
  replace ⟨hD,af,E⟩:=(sp cC (Chg.refl nil _)).g3 hD af E
  exact aK ((out++[(⟨bk.s,cr⟩:Tag)]),bt,n_out+1,dN,k+1,eh) _ _ ⟨AA,AA,AA,AA,AA,trivial⟩ ⟨ac,af,cB,aC,AB,AB,(by exact Ll ‹_› (PK ‹_› ‹_›).1),(by exact Ll ‹_› (PK ‹_› ‹_›).2),AB⟩ (by (simp only []; omega))
 refine .d<|.s<|.cf<|.x 0 rfl<|.s<|.s<|.g<|.r 2<|.eq (n_out:Int) 0 (fun cD=>?_) (fun cD=>?_)
 ·refine .d<|.ct<|.g<|.r 2<|.cl (Ev bj (hD.Bk AK) AB (w:=aD) (F:=all)) ?_
  rintro fq ft ⟨⟨au,⟨_,rfl,rfl⟩,en⟩,fu,et,ag,bv⟩
  replace ⟨hD,J,E,C⟩:=(so [W,r_out,b] bv).g4 hD J E C
  refine .ns 1 67 [vT au.key,vT au.val] fun b9 fv av bw cE cF=>?_
  have cG:=AX av ag.lt
  have bz:=AX av J.lt
  have cH:=AX av E.lt
  have cI:=Ae av C.size
  replace ⟨hD,ag,J,E,C⟩:=(se [W,r_out,b] bw).g5 hD ag J E C
  have bd:nin (ge w.heap.size) [W,r_out,b] b9∧b9≠r_out:=BR cI (all_cons cH (all_cons bz (all_cons cG all_nil))) bz
  refine RG.Ax (T:=43) (ty:=43) (y:=au) J cE AA AA rfl bd AB fun ab ce dO aa ae bA=>?_
  have cJ:=Ag ae bX ag.lt
  have cK:=Ag ae bY E.lt
  have aP:=Bt ae aW C.size
  have ey:=Aw ae dD C.size
  replace ⟨hD,ag,E,C⟩:=(sa [W,r_out,b] bA ae).g4 hD ag E C
  replace aa:=aa.rn r_out
  have ez:=aa.len
  refine .r 1<|.d<|.s<|.s<|.g<|.r 1<|.cl (BK 40 ag (hD.Bk AK) AB (w:=dO) (F:=all)) ?_
  rintro fw cg ⟨⟨ci,rfl,eB⟩,dP,eC,am,bB⟩
  replace ⟨hD,aa,E,C⟩:=(so [W,ab,b] bB).g4 hD aa E C
  refine .d<|.b 2<|.s<|.g<|.eq ci 0 (fun cL=>?_) (fun cL=>?_)
  ·refine .r 1<|.d<|.ct<|.s<|.g<|.r 2<|.cl (Ev am (hD.Bk AK) AB (w:=cg) (F:=all)) ?_
   rintro fA fB ⟨⟨aY,⟨_,rfl,rfl⟩,eD⟩,dQ,eE,ah,bC⟩
   replace ⟨hD,aa,E,C⟩:=(so [W,ab,b] bC).g4 hD aa E C
   refine .ns 1 67 [vT aY.key,vT aY.val] fun cj fC aw bD cM cN=>?_
   have cO:=AX aw ah.lt
   have bE:=AX aw aa.lt
   have cP:=AX aw E.lt
   have cQ:=Ae aw C.size
   replace ⟨hD,ah,aa,E,C⟩:=(se [W,ab,b] bD).g5 hD ah aa E C
   have bg:nin (ge w.heap.size) [W,ab,b] cj∧cj≠ab:=BR cQ (all_cons cP (all_cons bE (all_cons cO all_nil))) bE
   refine RG.Ax (T:=43) (ty:=43) (y:=aY) aa cM AA AA rfl bg AB fun bF dR dS ax aj bG=>?_
   have eF:=Ag aj cJ ah.lt
   have eG:=Ag aj cK E.lt
   have cR:=Bt aj aP C.size
   replace ⟨hD,ah,E,C⟩:=(sa [W,ab,b] bG aj).g4 hD ah E C
   replace ax:=ax.rn ab
   have eH:=ax.len
   refine .r 1<|.d ?_
   have dT:=ax.sl cR
   replace ⟨hD,E⟩:=(sd dS [W,bF,b] bF).g2 hD E
   exact .rt func135 results135 (vS bF (n_out+1+1) dR) ⟨⟨(((out++[au])++[aY]):List Tag),(dT.vl AF (fun _ _ h=>h.1)),(by exact Iv AB (by grind [GQ]) (by grind))⟩,dQ,by omega,ah,C⟩
  refine .r 1<|.d<|.cf<|.s<|.g<|.eq ci 1 (fun cS=>?_) (fun cS=>?_)
  ·refine .r 1<|.d<|.ct<|.g<|.r 2<|.ns 3 9 [.string (bs []),.string (bs [111]),.string (bs [112,112])] fun aM ck aF bH cT cU=>?_
   have cV:=AX aF am.lt
   have eJ:=AX aF aa.lt
   replace ⟨hD,am,aa,E,C⟩:=(sn [W,ab,b] bH aF).g5 hD am aa E C
   have cW:Own (α:=Txt) ck aM 9 (nin (ge w.heap.size) [aM,W,ab,b]) 3 3 [(⟨[]⟩:Txt),(⟨[111]⟩:Txt),(⟨[112,112]⟩:Txt)]:=Own.lit cT rfl AE ⟨rfl,rfl,rfl,rfl⟩
   refine .cl (Cl ([(⟨[]⟩:Txt),(⟨[111]⟩:Txt),(⟨[112,112]⟩:Txt)]:List Txt) am (hD.Bk AL) AB (cW.Bk AL cV) AD (w:=ck) (F:=all)) ?_
   rintro fD dU ⟨⟨bI,rfl,eK⟩,dV,eL,aQ,bJ⟩
   replace ⟨hD,aa,E,C⟩:=(so [aM,W,ab,b] bJ).g4 hD aa E C
   have cX:0< n_out+1:=AB
   refine RG.idx (b:=ab) (o:=0) 0 (len:=n_out+1) (i:=0) (sz:=2) AA AB cX rfl<|.r 1 ?_
   obtain ⟨ay,aG⟩:∃ y,(out++[au])[0]? = some y:=⟨_,AU AB⟩
   have eM:=Ai aG; have dW:=AV aG
   obtain ⟨_,rfl,aR⟩:=aa.elem 0 ay aG
   replace aR:Has dU ⟨ab,0+0 * Rep.sz Tag,none⟩ [vT ay.key,vT ay.val]:=by rw [Nat.zero_add]; exact aR
   refine RG.DQ (t':=9) (i:=0) (k:=1) (v:=vT bI) (cs:=[vT ay.key,vT ay.val]) (⟨ay.key,bI⟩:Tag) aa aG aR AA AA AA rfl fun dX cY bK cZ=>?_
   replace ⟨hD,aQ,E,C⟩:=(so [aM,W,ab,b] bK).g4 hD aQ E C
   refine .d<|.ib 2<|.s<|.g<|.r 2<|.d ?_
   have dY:=cY.sl aP
   replace ⟨hD,E⟩:=(sd dX [aM,W,ab,b] ab).g2 hD E
   exact .rt func135 results135 (vS ab (n_out+1) ce) ⟨⟨(((out++[au]).set 0 (⟨ay.key,bI⟩:Tag)):List Tag),(dY.vl AF (fun _ _ h=>h.1)),(by exact Ng AB (by grind [GQ]) (by grind))⟩,dV,by omega,aQ,C⟩
  refine .r 1<|.d<|.cf<|.sk<|.ib 2<|.s<|.g<|.r 2<|.d ?_
  have dZ:=aa.sl aP
  replace ⟨hD,E⟩:=(sd cg [W,ab,b] ab).g2 hD E
  exact .rt func135 results135 (vS ab (n_out+1) ce) ⟨⟨((out++[au]):List Tag),(dZ.vl AF (fun _ _ h=>h.1)),(by exact Iv AB (by grind [GQ]) (by grind))⟩,dP,by omega,am,C⟩
 refine .d<|.cf<|.sk<|.s<|.s<|.g<|.r 1<|.cl (BK 40 bj (hD.Bk AK) AB (w:=aD) (F:=all)) ?_
 rintro fE cm ⟨⟨co,rfl,eN⟩,d0,eO,ao,bL⟩
 replace ⟨hD,J,E,C⟩:=(so [W,r_out,b] bL).g4 hD J E C
 refine .d<|.b 2<|.s<|.g<|.eq co 0 (fun c7=>?_) (fun c7=>?_)
 ·refine .r 1<|.d<|.ct<|.s<|.g<|.r 2<|.cl (Ev ao (hD.Bk AK) AB (w:=cm) (F:=all)) ?_
  rintro fF fG ⟨⟨aZ,⟨_,rfl,rfl⟩,eP⟩,d3,eQ,ai,bM⟩
  replace ⟨hD,J,E,C⟩:=(so [W,r_out,b] bM).g4 hD J E C
  refine .ns 1 67 [vT aZ.key,vT aZ.val] fun cp fH az bN c8 c9=>?_
  have da:=AX az ai.lt
  have bO:=AX az J.lt
  have db:=AX az E.lt
  have de:=Ae az C.size
  replace ⟨hD,ai,J,E,C⟩:=(se [W,r_out,b] bN).g5 hD ai J E C
  have bh:nin (ge w.heap.size) [W,r_out,b] cp∧cp≠r_out:=BR de (all_cons db (all_cons bO (all_cons da all_nil))) bO
  refine RG.Ax (T:=43) (ty:=43) (y:=aZ) J c8 AA AA rfl bh AB fun bP d4 d5 aA ak bQ=>?_
  have eR:=Ag ak bX ai.lt
  have eS:=Ag ak bY E.lt
  have df:=Bt ak aW C.size
  replace ⟨hD,ai,C⟩:=(sa [W,r_out,b] bQ ak).g3 hD ai C
  replace aA:=aA.rn r_out
  have eT:=aA.len
  refine .r 1<|.d ?_
  have d6:=aA.sl df
  replace hD:=(sd d5 [W,bP,b] bP).g1 hD
  exact .rt func135 results135 (vS bP (n_out+1) d4) ⟨⟨((out++[aZ]):List Tag),(d6.vl AF (fun _ _ h=>h.1)),(by exact Iv AB (by grind [GQ]) (by grind))⟩,d3,by omega,ai,C⟩
 refine .r 1<|.d<|.cf<|.s<|.g<|.eq co 1 (fun dg=>?_) (fun dg=>?_)
 ·refine .r 1<|.d<|.ct<|.g<|.r 2<|.ns 3 9 [.string (bs []),.string (bs [111]),.string (bs [112,112])] fun aN cq aH bR dh dj=>?_
  have dm:=AX aH ao.lt
  have eV:=AX aH J.lt
  replace ⟨hD,ao,J,C⟩:=(sn [W,r_out,b] bR aH).g4 hD ao J C
  have dp:Own (α:=Txt) cq aN 9 (nin (ge w.heap.size) [aN,W,r_out,b]) 3 3 [(⟨[]⟩:Txt),(⟨[111]⟩:Txt),(⟨[112,112]⟩:Txt)]:=Own.lit dh rfl AE ⟨rfl,rfl,rfl,rfl⟩
  refine .cl (Cl ([(⟨[]⟩:Txt),(⟨[111]⟩:Txt),(⟨[112,112]⟩:Txt)]:List Txt) ao (hD.Bk AL) AB (dp.Bk AL dm) AD (w:=cq) (F:=all)) ?_
  rintro fI d7 ⟨⟨bS,rfl,eW⟩,d8,eX,aS,bT⟩
  replace ⟨hD,J,C⟩:=(so [aN,W,r_out,b] bT).g3 hD J C
  have dq:0< n_out:=AB
  refine RG.idx (b:=r_out) (o:=0) 0 (len:=n_out) (i:=0) (sz:=2) AA AB dq rfl<|.r 1 ?_
  obtain ⟨aB,aI⟩:∃ y,out[0]? = some y:=⟨_,AU AB⟩
  have d9:=AV aI
  obtain ⟨_,rfl,aT⟩:=J.elem 0 aB aI
  replace aT:Has d7 ⟨r_out,0+0 * Rep.sz Tag,none⟩ [vT aB.key,vT aB.val]:=by rw [Nat.zero_add]; exact aT
  refine RG.DQ (t':=9) (i:=0) (k:=1) (v:=vT bS) (cs:=[vT aB.key,vT aB.val]) (⟨aB.key,bS⟩:Tag) J aI aT AA AA AA rfl fun ec dr bU dt=>?_
  replace ⟨hD,aS,C⟩:=(so [aN,W,r_out,b] bU).g3 hD aS C
  refine .d<|.ib 2<|.s<|.g<|.r 2<|.d ?_
  have ed:=dr.sl aW
  replace hD:=(sd ec [aN,W,r_out,b] r_out).g1 hD
  exact .rt func135 results135 (vS r_out n_out c_out) ⟨⟨((out.set 0 (⟨aB.key,bS⟩:Tag)):List Tag),(ed.vl AF (fun _ _ h=>h.1)),(by exact Ng AB (by grind [GQ]) ‹_›)⟩,d8,by omega,aS,C⟩
 refine .r 1<|.d<|.cf<|.sk<|.ib 2<|.s<|.g<|.r 2<|.d ?_
 have ee:=J.sl aW
 replace hD:=(sd cm [W,r_out,b] r_out).g1 hD
 exact .rt func135 results135 (vS r_out n_out c_out) ⟨⟨(out:List Tag),(ee.vl AF (fun _ _ h=>h.1)),(by exact Iv AB ‹_› ‹_›)⟩,d0,by omega,ao,C⟩
end Go.Proofs.YtggnnidleedpaaaGreat
namespace Go.Proofs.YtggnnidleedpaaaGreat
def Q5 (P:Program) (s d:TypeId):Bool :=
 match P.underlying s,P.underlying d with
 | some (.slice e),some .string=>(match P.underlying e with | some (.int .u8)=>true | _=>false)
 | _,_=>false
theorem JP {P:Program}{w:World}{r:Nat}{src dst:TypeId}{y:UInt8}{c:Nat}(h:Has w ⟨r,0,none⟩ [.int .u8 (y.toNat:Int)]) (hb:Q5 P src dst=true) :
 (convert src dst (.slice (some ⟨r,0,none⟩) 1 c)).run P w=.ok (.string (bs [y])) w:=by
 unfold Q5 at hb
 split at hb
 ·rename_i e h1 h2
  split at hb
  ·rename_i h3
   have h4:=run_loadCellsFrom (P:=P) ⟨r,0,none⟩ [.int .u8 (y.toNat:Int)] 0 #[] _ rfl h
   have h5:(loadCells ⟨r,0,none⟩ 1).run P w=.ok #[.int .u8 (y.toNat:Int)] w:=h4
   have h6:(Conv.bytesToString (.slice (some ⟨r,0,none⟩) 1 c)).run P w=.ok (.string (bs [y])) w:=by
    unfold Conv.bytesToString
    simp only []
    rw [AZ h5]
    simp [go_sem]
    rfl
   unfold convert
   rw [AZ (run_underlying h1 w),AZ (run_underlying h2 w)]
   simp only []
   rw [AZ (run_underlying h3 w)]
   exact h6
  ·cases hb
 ·cases hb
def PL (n:Nat) (ops:Array Oper) (j:Nat) (e:Env):Option (TypeId × TypeId × Value) :=
 bif CT n ops j e then
  match (Aq ops j).op with
  | .convert s d x=>some (s,d,ev e x)
  | _=>none
 else none
theorem Hk {P:Program}{n:Nat}{ops:Array Oper}{j:Nat}{e:Env}{s d:TypeId}{a v:Value}{w:World}(h:PL n ops j e=some (s,d,a))
 (hr:(convert s d a).run P w=.ok v w):CT n ops j e=true∧(execOp (ev e) (Aq ops j)).run P w=.ok (.value v) w:=by
 obtain ⟨hg,h⟩:=CR h
 refine ⟨hg,?_⟩
 split at h
 ·rename_i s' d' x hop
  simp only [Option.some.injEq,Prod.mk.injEq] at h
  obtain ⟨rfl,rfl,rfl⟩:=h
  simp only [execOp,hop]
  exact AZ hr
 ·cases h
theorem GA.b2s {P:Program}{n m:Nat}{L:Env→World→Prop}{ops:Array Oper}{l:List Nat}{e:Env}{w:World}{i:Nat}{s d:TypeId}{r c:Nat}{y:UInt8}{t:TypeId}{F:Nat→Prop}
 (hb:gB n m ops l i=true) (ho:Own w r t F 1 c [y]) (h:PL n ops i e=some (s,d,.slice (some ⟨r,0,none⟩) 1 c)) (ht:Q5 P s d=true)
 (H:GA P nil n m L ops (i::l) (BN e (Aq ops i).dst (.string (bs [y]))) w):GA P nil n m L ops l e w:=by
 obtain ⟨cs,h1,h2⟩:=ho.elem 0 y rfl
 cases h1
 have h3:Has w ⟨r,0,none⟩ [.int .u8 (y.toNat:Int)]:=by simpa using h2
 have h4:=Hk (P:=P) (w:=w) h (JP h3 ht)
 refine GA.det (by unfold gB at hb; rw [hb,h4.1]; rfl) (fun w1 hx=>?_) H
 exact (Hk (P:=P) (w:=w1) h (JP (h3.ext hx) ht)).2
def Gm (at_:UInt8) (out:List Txt):List UInt8→List Txt
 | []=>out
 | x::xs=>if x=at_ then Gm at_ (out++[⟨[]⟩]) xs else Gm at_ (out.set (out.length - 1) ⟨(out.getD (out.length - 1) ⟨[]⟩).s++[x]⟩) xs
def HA (s:List UInt8) (at_:UInt8):List Txt:=Gm at_ [⟨[]⟩] s
theorem PM {at_:UInt8}{s:List UInt8}{i:Nat}{out:List Txt}{x:UInt8}{Y:List Txt}(h:Gm at_ out (s.drop i)=Y) (hd:s.drop i=x::s.drop (i+1)) (he:(x.toNat:Int)=(at_.toNat:Int)):Gm at_ (out++[⟨[]⟩]) (s.drop (i+1))=Y:=by
 have:x=at_:=UInt8.toNat_inj.1 AB
 rw [hd] at h
 unfold Gm at h
 rw [if_pos this] at h
 exact h
theorem PN {at_:UInt8}{s:List UInt8}{i:Nat}{out:List Txt}{x:UInt8}{Y:List Txt}{t:Txt}{k:Nat}(h:Gm at_ out (s.drop i)=Y) (hd:s.drop i=x::s.drop (i+1)) (he:(x.toNat:Int)≠(at_.toNat:Int)) (hk:k=out.length - 1) (ht:out[k]? = some t):Gm at_ (out.set k ⟨t.s++[x]⟩) (s.drop (i+1))=Y:=by
 have:x≠at_:=fun e=>he (by rw [e])
 rw [hd] at h
 unfold Gm at h
 rw [if_neg this,List.getD_eq_getElem?_getD,← hk,ht] at h
 exact h
theorem Sh {at_:UInt8}{s:List UInt8}{i:Nat}{out:List Txt}{Y:List Txt}(h:Gm at_ out (s.drop i)=Y) (hi:s.length≤i):out=Y:=by
 rw [Ab hi] at h
 exact h
def HB (s:Str):Bool:=decide (s.length=4)&&decide (s[1]? = some 33)
def El (s:Str):Str:=if HB s then s.take 1++s.drop 2 else s
def Cm (s:Str):Cnd × Bool :=
 if (El s).length=3∧(El s)[1]? = some 61 then (⟨⟨(El s).take 1,(El s).drop 2⟩,HB s⟩,Bq ⟨(El s).take 1,(El s).drop 2⟩) else (⟨⟨[],[]⟩,HB s⟩,false)
def FX:List Cnd→List Txt→List Cnd × Bool
 | out,[]=>(out,true)
 | out,t::ts=>if (Cm t.s).2=false∨out.length≥3 then ([],false) else FX (out++[(Cm t.s).1]) ts
def Bn (s:Str):List Cnd × Bool:=if s=[42] then ([],true) else FX [] (HA s 44)
def DZ:List Tag→List Cnd→Option (List Tag)
 | out,[]=>some out
 | out,c::cs=>if c.no then none else DZ (out++[c.tag]) cs
def E8 (s:Str):List Tag:=match DZ [] (Bn s).1 with
 | some out=>if (Bn s).2=true∧BC out=true then out else []
 | none=>[]
theorem Hl {w:Str}(h:(w.length:Int)≠4):HB w=false∧El w=w:=by
 have:HB w=false:=by unfold HB; rw [decide_eq_false AB]; rfl
 exact ⟨this,by unfold El; rw [this]; rfl⟩
theorem Hm {w:Str}{y:UInt8}(h:(w.length:Int)=4) (hy:w[1]? = some y) (h2:(y.toNat:Int)≠33):HB w=false∧El w=w:=by
 have:HB w=false:=by
  unfold HB
  rw [hy,decide_eq_false (p:=some y=some 33),Bool.and_false]
  intro e
  cases e
  exact h2 rfl
 exact ⟨this,by unfold El; rw [this]; rfl⟩
theorem Hn {w:Str}{y:UInt8}(h:(w.length:Int)=4) (hy:w[1]? = some y) (h2:(y.toNat:Int)=33):HB w=true∧El w=((w.take 1).drop 0)++((w.take w.length).drop 2):=by
 have hy2:y=33:=UInt8.toNat_inj.1 (by show y.toNat=33; omega)
 have:HB w=true:=by
  unfold HB
  rw [hy,hy2,decide_eq_true AB]
  rfl
 exact ⟨this,by unfold El; rw [this]; simp⟩
theorem Cs {w u:Str}{b:Bool}(h:HB w=b∧El w=u) (h2:(u.length:Int)≠3∨(∃ z,u[1]? = some z∧(z.toNat:Int)≠61)):Cm w=(⟨⟨[],[]⟩,b⟩,false):=by
 obtain ⟨rfl,rfl⟩:=h
 unfold Cm
 rw [if_neg]
 rintro ⟨h3,h4⟩
 rcases h2 with h2 | ⟨z,h2,h5⟩
 ·omega
 ·rw [h2] at h4
  cases h4
  exact h5 rfl
theorem ES {w u:Str}{b:Bool}{z:UInt8}(h:HB w=b∧El w=u) (h1:(u.length:Int)=3) (h2:u[1]? = some z) (h3:(z.toNat:Int)=61) :
 Cm w=(⟨⟨(u.take 1).drop 0,(u.take u.length).drop 2⟩,b⟩,Bq ⟨(u.take 1).drop 0,(u.take u.length).drop 2⟩):=by
 obtain ⟨rfl,rfl⟩:=h
 have hz:z=61:=UInt8.toNat_inj.1 (by show z.toNat=61; omega)
 unfold Cm
 rw [if_pos ⟨by omega,by rw [h2,hz]⟩]
 simp
theorem Si {out:List Txt}{i k:Nat}{t:Txt}{y:UInt8}(h:∀ t∈out,t.s.length≤i) (ht:out[k]? = some t):∀ t'∈out.set k ⟨t.s++[y]⟩,t'.s.length≤i+1:=by
 intro t' ht'
 rcases List.mem_or_eq_of_mem_set ht' with ht' | rfl
 ·have:=h t' ht'; omega
 ·have:=h t (AV ht)
  simp only [List.length_append,List.length_cons,List.length_nil]; omega
theorem Nh {out:List Txt}{i:Nat}(h:∀ t∈out,t.s.length≤i):∀ t'∈out++[⟨[]⟩],t'.s.length≤i+1:=by
 intro t' ht'
 rcases List.mem_append.1 ht' with ht' | ht'
 ·have:=h t' ht'; omega
 ·simp at ht'; subst ht'; simp
theorem PO (a:UInt8):∀ (s:List UInt8) (out:List Txt) (i:Nat),(∀ t∈out,t.s.length≤i)→(∀ t∈Gm a out s,t.s.length≤i+s.length)∧(Gm a out s).length≤out.length+s.length:=by
 intro s
 induction s with
 | nil=>intro out i h; exact ⟨fun t ht=>by have:=h t ht; simpa using this,by unfold Gm; simp⟩
 | cons x xs ih =>
   intro out i h
   unfold Gm
   split
   ·obtain ⟨h1,h2⟩:=ih (out++[⟨[]⟩]) (i+1) (Nh h)
    refine ⟨fun t ht=>?_,?_⟩
    ·have:=h1 t ht; simp only [List.length_cons]; omega
    ·simp only [List.length_append,List.length_cons,List.length_nil] at h2 ⊢; omega
   ·have h3:∀ t∈out.set (out.length - 1) ⟨(out.getD (out.length - 1) ⟨[]⟩).s++[x]⟩,t.s.length≤i+1:=by
     intro t ht
     rcases List.mem_or_eq_of_mem_set ht with ht | rfl
     ·have:=h t ht; omega
     ·rw [List.getD_eq_getElem?_getD]
      cases hq:out[out.length - 1]? with
      | none=>simp
      | some q=>have:=h q (AV hq); simp; omega
    obtain ⟨h1,h2⟩:=ih _ (i+1) h3
    refine ⟨fun t ht=>?_,?_⟩
    ·have:=h1 t ht; simp only [List.length_cons]; omega
    ·simp only [List.length_set,List.length_cons] at h2 ⊢; omega
theorem Lm (s:List UInt8) (a:UInt8):(∀ t∈HA s a,t.s.length≤s.length)∧(HA s a).length≤s.length+1:=by
 obtain ⟨h1,h2⟩:=PO a s [⟨[]⟩] 0 AD
 refine ⟨fun t ht=>by have:=h1 t ht; omega,?_⟩
 unfold HA
 simp only [List.length_cons,List.length_nil] at h2; omega
theorem Iw {out:List Cnd}{ts:List Txt}{i:Nat}{t:Txt}{Y:List Cnd × Bool}(h:FX out (ts.drop i)=Y) (hd:ts.drop i=t::ts.drop (i+1)) (h2:(Cm t.s).2=false∨(out.length:Int)≥3):Y=([],false):=by
 rw [hd] at h
 unfold FX at h
 rw [if_pos (by rcases h2 with h2 | h2; exact .inl h2; exact .inr AB)] at h
 exact h.symm
theorem PQ {out:List Cnd}{ts:List Txt}{i:Nat}{t:Txt}{Y:List Cnd × Bool}(h:FX out (ts.drop i)=Y) (hd:ts.drop i=t::ts.drop (i+1)) (h2:(Cm t.s).2=true) (h3:¬ (out.length:Int)≥3):FX (out++[(Cm t.s).1]) (ts.drop (i+1))=Y:=by
 rw [hd] at h
 unfold FX at h
 rw [if_neg (by rw [h2]; simp; omega)] at h
 exact h
theorem Ni {out:List Cnd}{ts:List Txt}{i:Nat}{Y:List Cnd × Bool}(h:FX out (ts.drop i)=Y) (hi:ts.length≤i):Y=(out,true):=by
 rw [Ab hi] at h
 exact h.symm
theorem OG:∀ (ts:List Txt) (out:List Cnd),out.length≤3→(FX out ts).1.length≤3:=by
 intro ts
 induction ts with
 | nil=>intro out h; exact h
 | cons t ts ih =>
   intro out h
   unfold FX
   split
   ·simp
   ·rename_i h2
    refine ih _ ?_
    simp only [not_or] at h2
    simp only [List.length_append,List.length_cons,List.length_nil]; omega
theorem GI (s:Str):(Bn s).1.length≤3:=by
 unfold Bn
 split
 ·simp
 ·exact OG _ _ AD
theorem JQ {s:Str}(h:(s==[42])=true):Bn s=([],true):=by unfold Bn; rw [if_pos (by simpa using h)]
theorem Mo {s:Str}(h:(s==[42])=false):FX [] (HA s 44)=Bn s:=by unfold Bn; rw [if_neg (by simpa using h)]
theorem Ln {out:List Tag}{cs:List Cnd}{i:Nat}{c:Cnd}{Y:Option (List Tag)}(h:DZ out (cs.drop i)=Y) (hd:cs.drop i=c::cs.drop (i+1)) (h2:c.no=true):Y=none:=by
 rw [hd] at h
 unfold DZ at h
 rw [if_pos h2] at h
 exact h.symm
theorem Lo {out:List Tag}{cs:List Cnd}{i:Nat}{c:Cnd}{Y:Option (List Tag)}(h:DZ out (cs.drop i)=Y) (hd:cs.drop i=c::cs.drop (i+1)) (h2:c.no=false):DZ (out++[c.tag]) (cs.drop (i+1))=Y:=by
 rw [hd] at h
 unfold DZ at h
 rw [if_neg (by rw [h2]; simp)] at h
 exact h
theorem Lp {s:Str}(h:DZ [] (Bn s).1=none):E8 s=[]:=by unfold E8; rw [h]
theorem KL {s:Str}{out:List Tag}{i:Nat}(h:DZ out ((Bn s).1.drop i)=DZ [] (Bn s).1) (hi:(Bn s).1.length≤i):E8 s=if (Bn s).2=true∧BC out=true then out else []:=by
 rw [Ab hi] at h
 unfold E8
 rw [← h]
 rfl
theorem Lq {s:Str}{out:List Tag}{i:Nat}(h:DZ out ((Bn s).1.drop i)=DZ [] (Bn s).1) (hi:(Bn s).1.length≤i) (h2:(Bn s).2=false∨BC out=false):E8 s=[]:=by
 rw [KL h hi,if_neg]
 rintro ⟨h3,h4⟩
 rcases h2 with h2 | h2
 ·rw [h2] at h3; cases h3
 ·rw [h2] at h4; cases h4
theorem PR {s:Str}{out:List Tag}{i:Nat}(h:DZ out ((Bn s).1.drop i)=DZ [] (Bn s).1) (hi:(Bn s).1.length≤i) (h2:(Bn s).2=true) (h3:BC out=true):E8 s=out:=by
 rw [KL h hi,if_pos ⟨h2,h3⟩]
end Go.Proofs.YtggnnidleedpaaaGreat
