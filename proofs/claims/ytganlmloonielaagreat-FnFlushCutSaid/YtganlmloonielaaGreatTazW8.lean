/- walks; hints pruned; squeezed -/
import Derived.Test.YtganlmloonielaaGreatTazW4
set_option linter.unusedVariables false
set_option linter.unusedSimpArgs false
namespace Go.Proofs.YtganlmloonielaaGreat
set_option maxRecDepth 100000
set_option maxHeartbeats 4000000
theorem E2 (d:Dsk) {w:World} {F:Nat→Prop} {a1:Option Addr} {n1 c1:Nat} (h1:RepS w F a1 n1 c1 d.files) {a2:Option Addr} {n2 c2:Nat} (h2:RepS w F a2 n2 c2 d.list) {a3:Option Addr} {n3 c3:Nat} (h3:RepS w F a3 n3 c3 d.names) (p0:d.names.length≤1000) (p1:∀ n∈d.names,Fg n) (p2:d.list.length≤1000) (p3:∀ n∈d.list,0≤Ao d n):Calls Tryz.prog 68 [.agg #[.slice a1 n1 c1,.slice a2 n2 c2,.slice a3 n3 c3,.int .i64 d.next]].toArray w (As fun rv w'=>VS (fo F w.heap.size) w' (Ai d:Sto) rv∧Ext w w'):=by
 refine goT Tryz.func68 ?_
 obtain ⟨rfl,du,h1⟩:=h1.tp
 obtain ⟨rfl,dv,h2⟩:=h2.tp
 obtain ⟨rfl,dw,h3⟩:=h3.tp
 refine .s<|.g<|.np 27 [.slice a1 d.files.length c1,.slice a2 d.list.length c2,.slice a3 d.names.length c3,vI d.next] fun af dN bq aT W b6=>?_
 replace ⟨h1,h2,h3⟩:=(sn [] aT bq).g3 h1 h2 h3
 have C:=aT
 refine .np 34 [.slice none 0 0,.slice none 0 0,.slice none 0 0,.slice none 0 0] fun ag b7 aU br O b8=>?_
 have dx:=C.cn aU
 replace ⟨h1,h2,h3,W,C⟩:=(sn [af] br aU).g5 h1 h2 h3 W C
 refine .d<|.s<|.g<|.r 1<|.lb W<|.cl (Eo d.names h3.ta p0 p1 (w:=b7) (F:=all)) ?_
 rintro dO dP ⟨⟨_,rfl,⟨b9,dQ,cd,ce,dR,cg,rfl,al,am⟩⟩,bt⟩
 have aV:=al2 O.lt W.lt
 have bu:Gb w.heap.size b7.heap.size:=C.size
 replace ⟨h1,h2,h3,W,O,C⟩:=(se [ag,af] bt).g6 h1 h2 h3 W O C
 have al:=al.fr aV bu
 replace al:=al.base (G':=fo F w.heap.size) (fun _ _ h=>.inr h)
 have dy:=al.max
 have am:=am.fr aV bu
 replace am:=am.base (G':=fo F w.heap.size) (fun _ _ h=>.inr h)
 have dz:=am.max
 have ci:=al.len
 subst ci
 have cj:=am.len
 subst cj
 refine .ns 0 42 [] fun ar cN aC bv ck cm=>?_
 have co:=AS aC W.lt
 have cp:=AS aC O.lt
 have cq:=Ad aC C.size
 have cr:=C.cn aC
 replace ⟨h1,h2,h3,W,O,al,am,C⟩:=(sn [ag,af] bv aC).g8 h1 h2 h3 W O al am C
 have au:Own (α:=Prt) cN ar 42 (nin (fo F w.heap.size) [ar,ag,af]) 0 0 []:=Own.Ag ck
 refine .ns 0 107 [] fun ax cO ay bw cu cv=>?_
 have cw:=AS ay W.lt
 have cx:=AS ay O.lt
 have cy:=AS ay au.lt
 have cz:=Ad ay C.size
 have dA:=C.cn ay
 replace ⟨h1,h2,h3,W,O,al,am,au,C⟩:=(sn [ar,ag,af] bw ay).g9 h1 h2 h3 W O al am au C
 have aD:Own (α:=Smp) cO ax 107 (nin (fo F w.heap.size) [ax,ar,ag,af]) 0 0 []:=Own.Ag cu
 refine .r 1<|.np 34 [.slice none 0 0,.slice none 0 0,.slice none 0 0,.slice none 0 0] fun ah dS az bz cA cB=>?_
 have dB:=AS az W.lt
 have dC:=AS az O.lt
 have cC:=AS az au.lt
 have cD:=AS az aD.lt
 have dD:=C.cn az
 replace ⟨h1,h2,h3,W,O,al,am,au,aD,C⟩:=(sn [ax,ar,ag,af] bz az).g10 h1 h2 h3 W O al am au aD C
 refine .sc [.slice b9 (((idxOf d.names).names).length) cd,.slice ce (((idxOf d.names).AV).length) cg,vS ar 0 0,vS ax 0 0] cA fun aQ bA aW cE=>?_
 replace ⟨h1,h2,h3,W,O,al,am,au,aD,C⟩:=(so [ah,ax,ar,ag,af] bA).g10 h1 h2 h3 W O al am au aD C
 refine .d<|.s<|.s<|.g<|.r 1<|.d<|.b 0<|T.loop (X:=Nat × (List (List Tag)) × (Option Addr) × Nat × Nat × (List Pst) × (Option Addr) × Nat × Nat × (List Prt) × Nat × Nat × Nat × (List Smp) × Nat × Nat × Nat) (0,((idxOf d.names).names:List (List Tag)),b9,((idxOf d.names).names).length,cd,((idxOf d.names).AV:List Pst),ce,((idxOf d.names).AV).length,cg,([]:List Prt),ar,0,0,([]:List Smp),ax,0,0) (fun (i,aI,a_s_0,n_s_0,c_s_0,aJ,a_s_1,n_s_1,c_s_1,aE,r_s_2,n_s_2,c_s_2,aK,r_s_3,n_s_3,c_s_3)=>[(1,.pointer (some ⟨af,0,none⟩)),(2,.pointer (some ⟨ag,0,none⟩)),(3,.pointer (some ⟨ah,0,none⟩)),(4,vI (i:Int))]) (fun (i,aI,a_s_0,n_s_0,c_s_0,aJ,a_s_1,n_s_1,c_s_1,aE,r_s_2,n_s_2,c_s_2,aK,r_s_3,n_s_3,c_s_3) aA=>Chg (ins [ar,ax,ah]) aQ aA∧Own aA r_s_2 42 (nin (fo F w.heap.size) [ah,r_s_3,r_s_2,ag,af]) n_s_2 c_s_2 aE∧OrB r_s_2 ar aQ.heap.size∧Own aA r_s_3 107 (nin (fo F w.heap.size) [ah,r_s_3,r_s_2,ag,af]) n_s_3 c_s_3 aK∧OrB r_s_3 ax aQ.heap.size∧Nb r_s_3 r_s_2∧RepS aA (nin (fo F w.heap.size) [ah,r_s_3,r_s_2,ag,af]) a_s_0 n_s_0 c_s_0 aI∧RepS aA (nin (fo F w.heap.size) [ah,r_s_3,r_s_2,ag,af]) a_s_1 n_s_1 c_s_1 aJ∧Box aA ah 34 [.slice a_s_0 n_s_0 c_s_0,.slice a_s_1 n_s_1 c_s_1,vS r_s_2 n_s_2 c_s_2,vS r_s_3 n_s_3 c_s_3]∧(i≤d.list.length)∧(aI=d.names)∧(aJ=Ci d.names)∧(aK=[])∧(aE.length≤i)∧(aE++(d.list.drop i).map (BD d)=d.list.map (BD d))) (fun (i,aI,a_s_0,n_s_0,c_s_0,aJ,a_s_1,n_s_1,c_s_1,aE,r_s_2,n_s_2,c_s_2,aK,r_s_3,n_s_3,c_s_3)=>d.list.length - i) AA ⟨AA,AA,AA,AA,trivial⟩ ⟨Chg.refl _ _,au,BJ,aD,BJ,cy,al,am,aW,(by simp),(by rfl),(by rfl),(by rfl),(by simp),(by rfl)⟩ ?_
 rintro ⟨i,aI,a_s_0,n_s_0,c_s_0,aJ,a_s_1,n_s_1,c_s_1,aE,r_s_2,n_s_2,c_s_2,aK,r_s_3,n_s_3,c_s_3⟩ dE aA ⟨ab,ae,ai,aa,aw,bE,E,J,ac,cP,cQ,cR,cS,cT,cU⟩ aR
 have aL:=Aw ai co W.lt
 have cV:=Aw ai cp O.lt
 have aX:=Aw ai (Nb.symm cC) aW.lt
 have bF:=Bv ai cq C.size
 have cW:=Ar ai cr C.size
 have aM:=Aw aw cw W.lt
 have cX:=Aw aw cx O.lt
 have bG:=Aw aw (Nb.symm cD) aW.lt
 have bH:=Bv aw cz C.size
 have bI:Cov (ins [ar,ax,ah]) aQ ar:=⟨.inl AD⟩
 have cY:Cov (ins [ar,ax,ah]) aQ ah:=⟨.inl AF⟩
 have cZ:=Ar ai bI (Nat.le_refl _)
 have aY:Mv [ah,ax,ar,ag,af] [ah,r_s_3,r_s_2,ag,af] aQ aA:=Mv.inl ab (all_cons AF (all_cons AE (all_cons AD all_nil))) (all_cons (.inl AD) (all_cons (BV aw AE) (all_cons (BV ai AF) (all_cons (.inl AG) (all_cons (.inl AH) all_nil)))))
 replace ⟨h1,h2,h3,W,O,C⟩:=(sp aY ab).g6 h1 h2 h3 W O C
 have c7:=ae.len; have c8:=ae.max
 have c9:=aa.len; have da:=aa.max
 have db:=E.len; have de:=E.max
 have df:=J.len; have dg:=J.max
 refine .s<|.s<|.g<|.r 2<|.lb W<|.r 1<|.bp ((i:Int)< (d.list.length:Int)) (fun bJ=>?_) (fun bJ=>?_)
 ·refine .d<|.ct<|.sk<|.s<|.b 1 ?_
  replace h1:=h1.Ah
  replace h2:=h2.Ah
  replace h3:=h3.Ah
  replace E:=E.Ah
  replace J:=J.Ah
  have aN:Gb (af+1) aA.heap.size:=W.lt
  have bK:Gb (ah+1) aA.heap.size:=ac.lt
  refine .gd (mtb [r_s_2,r_s_3] aA.heap.size) 15 fun dF aZ=>?_
  replace ⟨h1,h2,h3,W,O,ae,aa,ac,E,J,C,ab⟩:=(se [ah,r_s_3,r_s_2,ag,af] aZ).g12 h1 h2 h3 W O ae aa ac E J C ab
  refine .r [0]<|.lb 1 ac (Ax (all_cons (Nb.symm aX) (all_cons (Nb.symm bG) all_nil)) bK)<|.r [2]<|.lb 3 W (Ax (all_cons (Nb.symm aL) (all_cons (Nb.symm aM) all_nil)) aN)<|.ln 4 W (Ax (all_cons (Nb.symm aL) (all_cons (Nb.symm aM) all_nil)) aN)<|.r [5]<|.lb 6 W (Ax (all_cons (Nb.symm aL) (all_cons (Nb.symm aM) all_nil)) aN)<|.r [7] ?_
  have ba:i< d.list.length:=AB
  refine GA.idx (i:=8) i (len:=d.list.length) (z:=(i:Int)) (sz:=1) AA AB ba (h2.addr (Nat.zero_lt_of_lt ba)) ?_
  obtain ⟨aB,aF⟩:∃ y,d.list[i]? = some y:=⟨_,AP AB⟩
  have dh:=AX aF; have cF:=AQ aF
  obtain ⟨_,rfl,bL⟩:=h2.elem i aB aF
  refine .lh 9 0 bL (h2.nS (Dt aF) (all_cons AF (all_cons AE all_nil)))<|GA.Bz (i:=10) AA (fun cG aO=>DO d aB (h1.JQ aO (all_cons AF (all_cons AE all_nil))) (h2.JQ aO (all_cons AF (all_cons AE all_nil))) (h3.JQ aO (all_cons AF (all_cons AE all_nil))) (w:=cG) (F:=all)) ?_
  have bc:(Ao d aB).toNat< d.files.length:=(by exact Ig p3 ‹_›)
  refine GA.idx (i:=11) ((Ao d aB).toNat) (len:=d.files.length) (z:=Ao d aB) (sz:=3) AA (by exact Ih p3 ‹_›) bc (h1.addr (Nat.zero_lt_of_lt bc))<|.r [12] ?_
  obtain ⟨aH,aG⟩:∃ y,d.files[(Ao d aB).toNat]? = some y:=⟨_,AP AB⟩
  have dj:=AX aG; have cH:=AQ aG
  obtain ⟨_,⟨cI,dG,cJ,cK,dH,cL,rfl,aj,ak⟩,bM⟩:=h1.elem ((Ao d aB).toNat) aH aG
  have bN:=aj.len
  subst bN
  have dm:=aj.max
  have bO:=ak.len
  subst bO
  have dp:=ak.max
  refine .lg 13 1 bM (h1.nS (Dt aG) (all_cons AF (all_cons AE all_nil)))<|.go 14<|.ns 1 42 [.slice cI aH.part.ids.length cJ,.slice cK aH.part.blocks.length cL] fun dI bd=>?_
  replace ⟨W,O,ae,aa,ac,E,J,aj,ak,C,ab⟩:=(se [ah,r_s_3,r_s_2,ag,af] bd).g11 W O ae aa ac E J aj ak C ab
  intro bB dJ ao bg aP bP
  have bQ:=AS ao W.lt
  have bR:=AS ao O.lt
  have bh:=AS ao ae.lt
  have bS:=AS ao aa.lt
  have bT:=AS ao ac.lt
  have bU:=Ad ao C.size
  replace ⟨O,ae,aa,ac,E,J,aj,ak,C,ab⟩:=(se [ah,r_s_3,r_s_2,ag,af] bg).g10 O ae aa ac E J aj ak C ab
  refine .d fun dK bi=>?_
  replace ⟨O,ae,aa,ac,E,J,aj,ak,aP,C,ab⟩:=(se [ah,r_s_3,r_s_2,ag,af] bi).g11 O ae aa ac E J aj ak aP C ab
  replace E:=E.AU
  replace J:=J.AU
  replace aj:=aj.AU
  replace ak:=ak.AU
  have aS:nin (fo F w.heap.size) [ah,r_s_3,r_s_2,ag,af] bB∧bB≠r_s_2:=BG (.inr bU) (all_cons bT (all_cons bS (all_cons bh (all_cons bR (all_cons bQ all_nil))))) bh
  refine RG.Ap (T:=31) (ty:=31) (y:=aH.part) ae aP AA AA ⟨_,_,_,_,_,_,rfl,aj.oi,ak.oi⟩ aS AB fun bj bC dL aq av bk=>?_
  have bV:=Ae av (Nb.symm bE) aa.lt
  have dq:=Ae av aX ac.lt
  have bW:=Bo av ai ab.size
  replace ⟨O,aa,ac,E,J,C,ab⟩:=(sa [ah,r_s_3,r_s_2,ag,af] bk av).g7 O aa ac E J C ab
  replace aq:=aq.rn r_s_2
  have dr:=aq.len; have dt:=aq.max
  refine .r 1<|.ss 2 (vS bj (n_s_2+1) bC) ac fun dM bm bX bY=>?_
  replace ⟨O,aq,aa,E,J,C,ab⟩:=(so [ah,r_s_3,bj,ag,af] bm).g7 O aq aa E J C ab
  exact .d<|.ib 1<|.g<|.r 1<|.it ((i:Int)+1)<|.r 1<|.d<|aR (i+1,aI,a_s_0,n_s_0,c_s_0,aJ,a_s_1,n_s_1,c_s_1,(aE++[aH.part]),bj,n_s_2+1,bC,aK,r_s_3,n_s_3,c_s_3) _ _ ⟨AA,AA,AA,AA,trivial⟩ ⟨ab,aq,bW,aa,aw,(Nb.symm bV),E,J,bX,AB,‹_›,‹_›,‹_›,(by simp; omega),(by exact mapStep ‹_› ‹_› (Dp ‹_›).symm)⟩ (by (simp only []; omega))
 refine .d<|.cf<|.x 0 rfl<|.s<|.g<|.ln ac<|.sc [.slice a_s_0 n_s_0 c_s_0,.slice a_s_1 n_s_1 c_s_1,vS r_s_2 n_s_2 c_s_2,vS r_s_3 n_s_3 c_s_3] O fun bD bn bZ b0=>?_
 replace ⟨ae,aa,E,J,C⟩:=(so [ah,r_s_3,r_s_2,ag,af] bn).g5 ae aa E J C
 refine .d ?_
 have bo:=ae.sl (.inr bF)
 replace ⟨aa,E,J⟩:=(sd bD [ah,r_s_3,r_s_2,ag,af] r_s_2).g3 aa E J
 have cM:=aa.sl (.inr bH)
 replace ⟨bo,E,J⟩:=(sd bD [ah,r_s_3,ag,af] r_s_3).g3 bo E J
 exact .rb Tryz.func68 Tryz.results68 bZ ⟨(VS.of (y:=(⟨(⟨aI,aJ⟩:Idx),aE,aK⟩:Sto)) ⟨_,rfl,⟨_,_,_,_,_,_,_,_,_,_,_,_,rfl,E.w1,J.w1,bo.w1,cM.w1⟩⟩ (by have q1:aE=_:=GW ‹_› AB; subst_vars; rfl)),C⟩
theorem DL (d:Dsk) {w:World} {F:Nat→Prop} {a1:Option Addr} {n1 c1:Nat} (h1:RepS w F a1 n1 c1 d.files) {a2:Option Addr} {n2 c2:Nat} (h2:RepS w F a2 n2 c2 d.list) {a3:Option Addr} {n3 c3:Nat} (h3:RepS w F a3 n3 c3 d.names) (p0:d.names.length≤1000) (p1:∀ n∈d.names,n.length≤1000) (p2:d.list.length≤1000) (p3:d.files.length≤1000) (p4:∀ f∈d.files,Cw f.part):Calls Tryz.prog 63 [.agg #[.slice a1 n1 c1,.slice a2 n2 c2,.slice a3 n3 c3,.int .i64 d.next]].toArray w (As fun rv w'=>(∃ (r0 n0 c0:Nat) (r1 n1 c1:Nat) (r2 n2 c2:Nat),rv=.agg #[.slice (some ⟨r0,0,none⟩) n0 c0,.slice (some ⟨r1,0,none⟩) n1 c1,.slice (some ⟨r2,0,none⟩) n2 c2,.int .i64 (((Az d)).next)]∧Own w' r0 66 (nin (ge w.heap.size) [r0,r1,r2]) n0 c0 (((Az d)).files)∧w.heap.size≤r0∧Own w' r1 3 (nin (ge w.heap.size) [r0,r1,r2]) n1 c1 (((Az d)).list)∧w.heap.size≤r1∧Nb r1 r0∧Own w' r2 77 (nin (ge w.heap.size) [r0,r1,r2]) n2 c2 (((Az d)).names)∧w.heap.size≤r2∧Nb r2 r0∧Nb r2 r1)∧Ext w w'):=by
 refine goT Tryz.func63 ?_
 obtain ⟨rfl,cP,h1⟩:=h1.tp
 obtain ⟨rfl,cQ,h2⟩:=h2.tp
 obtain ⟨rfl,cR,h3⟩:=h3.tp
 refine .s<|.g<|.np 27 [.slice a1 d.files.length c1,.slice a2 d.list.length c2,.slice a3 d.names.length c3,vI d.next] fun aa dC bq aN E b6=>?_
 replace ⟨h1,h2,h3⟩:=(sn [] aN bq).g3 h1 h2 h3
 have C:=aN
 refine .np 27 [.slice none 0 0,.slice none 0 0,.slice none 0 0,vI 0] fun ac dD aO br J b7=>?_
 have cS:=C.cn aO
 replace ⟨h1,h2,h3,E,C⟩:=(sn [aa] br aO).g5 h1 h2 h3 E C
 refine .d<|.s<|.g<|.ns 0 66 [] fun az aP aw bt b8 b9=>?_
 have cd:=AS aw E.lt
 have ce:=AS aw J.lt
 have cg:=Ad aw C.size
 have ci:=C.cn aw
 replace ⟨h1,h2,h3,E,J,C⟩:=(sn [ac,aa] bt aw).g6 h1 h2 h3 E J C
 have cj:Own (α:=Fil) aP az 66 (nin (ge w.heap.size) [az,ac,aa]) 0 0 []:=Own.Ag b8
 refine .r 1<|.d<|.s<|.s<|.g<|.r 1<|.d<|.b 0<|T.loop (X:=(List Fil) × Nat × Nat × Nat × Nat) (([]:List Fil),az,0,0,0) (fun (files,r_files,n_files,c_files,i)=>[(1,.pointer (some ⟨aa,0,none⟩)),(2,.pointer (some ⟨ac,0,none⟩)),(3,vS r_files n_files c_files),(4,vI (i:Int))]) (fun (files,r_files,n_files,c_files,i) am=>Chg (ins [az]) aP am∧Own am r_files 66 (nin (ge w.heap.size) [r_files,ac,aa]) n_files c_files files∧OrB r_files az aP.heap.size∧(i≤d.files.length)∧(files.length≤i)∧(files++(d.files.drop i).map KA=d.files.map KA)) (fun (files,r_files,n_files,c_files,i)=>d.files.length - i) AA ⟨AA,AA,AA,AA,trivial⟩ ⟨Chg.refl _ _,cj,BJ,(by simp),(by simp),(by simp)⟩ ?_
 rintro ⟨files,r_files,n_files,c_files,i⟩ dE am ⟨ab,O,ao,cT,cU,cV⟩ aQ
 have aA:=Aw ao cd E.lt
 have cW:=Aw ao ce J.lt
 have ck:=Bv ao cg C.size
 have cX:=Ar ao ci C.size
 have cm:Cov (ins [az]) aP az:=⟨.inl AD⟩
 have cY:=Ar ao cm (Nat.le_refl _)
 have bu:Mv [az,ac,aa] [r_files,ac,aa] aP am:=Mv.inl ab (all_cons AD all_nil) (all_cons (BV ao AD) (all_cons (.inl AE) (all_cons (.inl AF) all_nil)))
 replace ⟨h1,h2,h3,E,J,C⟩:=(sp bu ab).g6 h1 h2 h3 E J C
 have cZ:=O.len; have c7:=O.max
 refine .s<|.s<|.g<|.r 2<|.lb E<|.r 1<|.bp ((i:Int)< (d.files.length:Int)) (fun co=>?_) (fun co=>?_)
 ·refine .d<|.ct<|.sk<|.s<|.b 1 ?_
  replace h1:=h1.Ah
  replace h2:=h2.Ah
  replace h3:=h3.Ah
  have aR:Gb (aa+1) am.heap.size:=E.lt
  refine .gd (mtb [r_files] am.heap.size) 17 fun c8 aS=>?_
  replace ⟨h1,h2,h3,E,J,O,C,ab⟩:=(se [r_files,ac,aa] aS).g8 h1 h2 h3 E J O C ab
  refine .r [0,1]<|.lb 2 E (Ax (all_cons (Nb.symm aA) all_nil) aR)<|.r [3] ?_
  have bB:i< d.files.length:=AB
  refine .ix 4 i 3 h1 bB<|.r [5] ?_
  obtain ⟨af,aq⟩:∃ y,d.files[i]? = some y:=⟨_,AP AB⟩
  have cA:=AX aq; have cp:=AQ aq
  obtain ⟨_,⟨c9,da,db,de,df,dg,rfl,aT,aU⟩,aV⟩:=h1.elem i af aq
  have bC:=aT.len
  subst bC
  have cB:=aT.max
  have bD:=aU.len
  subst bD
  have cC:=aU.max
  refine .lh 6 0 aV (h1.nS (Dt aq) (all_cons AD all_nil))<|.r [7]<|.lb 8 E (Ax (all_cons (Nb.symm aA) all_nil) aR)<|.r [9] ?_
  have bE:i< d.files.length:=AB
  refine .ix 10 i 3 h1 bE<|.r [11]<|.lg 12 1 aV (h1.nS (Dt aq) (all_cons AD all_nil))<|.r [13]<|.go 14<|.cl (fun aW ak=>De af.part (⟨([]:List Int),([]:List (List Row))⟩:Prt) (aT.ta.ext ak) (aU.ta.ext ak) ((RepS.Ag _ all none 0 (by decide)).ext ak) ((RepS.Ag _ all none 0 (by decide)).ext ak) (p4 _ ‹_›) (by simp [Cw]) (w:=aW) (F:=all)) ?_
  intro aW ak
  replace ⟨h2,h3,E,J,O,C,ab⟩:=(se [r_files,ac,aa] ak).g7 h2 h3 E J O C ab
  rintro dh dj ⟨⟨_,rfl,⟨cq,dm,cr,cu,dp,cv,rfl,ag,ah⟩⟩,aB⟩
  have aC:=al3 O.lt J.lt E.lt
  have aX:Gb w.heap.size aW.heap.size:=C.size
  have hkeep_:=aB
  replace ⟨h2,h3,E,J,O,C,ab⟩:=(se [r_files,ac,aa] aB).g7 h2 h3 E J O C ab
  refine ⟨Ext.chg hkeep_,?_⟩
  have ag:=ag.fr aC aX
  have cD:=ag.max
  have ah:=ah.fr aC aX
  have cE:=ah.max
  have bF:=ag.len
  subst bF
  have bG:=ah.len
  subst bG
  refine .r [15]<|.go 16<|.ns 1 66 [vI af.num,.slice cq (((BT af.part (⟨([]:List Int),([]:List (List Row))⟩:Prt)).ids).length) cr,.slice cu (((BT af.part (⟨([]:List Int),([]:List (List Row))⟩:Prt)).blocks).length) cv] fun dq aY=>?_
  replace ⟨h2,h3,E,J,O,ag,ah,C,ab⟩:=(se [r_files,ac,aa] aY).g9 h2 h3 E J O ag ah C ab
  intro bv dr ar aZ aD bH
  have bI:=AS ar E.lt
  have bJ:=AS ar J.lt
  have ba:=AS ar O.lt
  have bK:=Ad ar C.size
  replace ⟨h2,h3,E,J,O,ag,ah,C,ab⟩:=(se [r_files,ac,aa] aZ).g9 h2 h3 E J O ag ah C ab
  refine .d fun dt bc=>?_
  replace ⟨h2,h3,E,J,O,ag,ah,aD,C,ab⟩:=(se [r_files,ac,aa] bc).g10 h2 h3 E J O ag ah aD C ab
  replace h2:=h2.AU
  replace h3:=h3.AU
  have aM:nin (ge w.heap.size) [r_files,ac,aa] bv∧bv≠r_files:=BG bK (all_cons ba (all_cons bJ (all_cons bI all_nil))) ba
  refine RG.Ap (T:=23) (ty:=23) (y:=(⟨af.num,(⟨(BT af.part (⟨([]:List Int),([]:List (List Row))⟩:Prt)).ids,(BT af.part (⟨([]:List Int),([]:List (List Row))⟩:Prt)).blocks⟩:Prt)⟩:Fil)) O aD AA AA ⟨_,_,_,_,_,_,rfl,ag.oi,ah.oi⟩ aM AB fun cw cx du au ay bd=>?_
  have bL:=Bo ay ao ab.size
  replace ⟨h2,h3,E,J,C,ab⟩:=(sa [r_files,ac,aa] bd ay).g6 h2 h3 E J C ab
  replace au:=au.rn r_files
  have cF:=au.len; have cG:=au.max
  exact .r 1<|.d<|.ib 1<|.g<|.r 1<|.it ((i:Int)+1)<|.r 1<|.d<|aQ ((files++[(⟨af.num,(⟨(BT af.part (⟨([]:List Int),([]:List (List Row))⟩:Prt)).ids,(BT af.part (⟨([]:List Int),([]:List (List Row))⟩:Prt)).blocks⟩:Prt)⟩:Fil)]),cw,n_files+1,cx,i+1) _ _ ⟨AA,AA,AA,AA,trivial⟩ ⟨ab,au,bL,AB,(by simp; omega),(by exact mapStep ‹_› ‹_› rfl)⟩ (by (simp only []; omega))
 refine .d<|.cf<|.x 0 rfl<|.s ?_
 replace h2:=h2.Ah
 replace h3:=h3.Ah
 have aE:Gb (aa+1) am.heap.size:=E.lt
 refine .gd (mtb [r_files] am.heap.size) 10 fun cy aF=>?_
 replace ⟨h2,h3,E,J,O,C⟩:=(se [r_files,ac,aa] aF).g6 h2 h3 E J O C
 have aG:Chg (mtb [r_files] am.heap.size) am cy:=Chg.Cc (Chg.refl (mtb [r_files] am.heap.size) am) aF
 refine .r [0,2]<|.lb 3 E (Ax (all_cons (Nb.symm aA) all_nil) aE)<|.r [5]<|.lb 6 E (Ax (all_cons (Nb.symm aA) all_nil) aE)<|.r [8]<|.lb 9 E (Ax (all_cons (Nb.symm aA) all_nil) aE)<|.go 1<|.ns 0 3 [] fun dv bg=>?_
 replace ⟨h2,h3,E,J,O,C,aG⟩:=(se [r_files,ac,aa] bg).g7 h2 h3 E J O C aG
 intro ax cz ai bh bM bN
 have cH:=AS ai E.lt
 have bO:=AS ai J.lt
 have bP:=AS ai O.lt
 have bQ:=Ad ai C.size
 have cI:=C.cn ai
 have bR:=aG.cn ai
 replace ⟨h2,h3,E,J,O,C⟩:=(sn [r_files,ac,aa] bh ai).g6 h2 h3 E J O C
 have aH:Own (α:=Int) cz ax 3 (nin (ge w.heap.size) [ax,r_files,ac,aa]) 0 0 []:=Own.Ag bM
 refine .go 4<|GE.append (T:=24) (ty:=24) (args:=[vS ax 0 0,.slice a2 d.list.length c2]) AA fun dw bi=>?_
 replace ⟨h2,h3,E,J,O,aH,C⟩:=(se [ax,r_files,ac,aa] bi).g7 h2 h3 E J O aH C
 obtain ⟨av,bw,dx,bj,W,aj,aI,bS⟩:=Own.Ay (P:=Tryz.prog) (T:=24) (ty:=24) BF aH AA h2 (fun b h e=>h.2 (e▸AD)) AB
 refine ⟨_,_,bj,Chg.toS aI (Cov.toS bR),?_⟩
 have cJ:=Ae aj bO J.lt
 have bT:=Ae aj bP O.lt
 have bU:=Bt aj bQ C.size
 replace ⟨h3,E,J,O,C⟩:=(sa [ax,r_files,ac,aa] aI aj).g5 h3 E J O C
 replace W:=W.rn ax
 have cK:=W.len; have cL:=W.max
 refine .go 7<|.cl (fun bk aJ=>Cf d.names (h3.ta.ext aJ) AB (by intro n hn; have:=p1 n hn; omega) (w:=bk) (F:=all)) ?_
 intro bk aJ
 replace ⟨E,J,O,W,C⟩:=(se [av,r_files,ac,aa] aJ).g5 E J O W C
 rintro dy dz ⟨⟨aL,bz,bA,rfl,ae,al⟩,aK⟩
 have bm:=al4 W.lt O.lt J.lt E.lt
 have bV:Gb w.heap.size bk.heap.size:=C.size
 have hkeep_:=aK
 have cM:=Ab al J.lt
 have bW:=Ab al O.lt
 have bX:=Ab al W.lt
 have bY:=Bd al C.size
 replace ⟨J,O,W,C⟩:=(sz [av,r_files,ac,aa] aK al).g4 J O W C
 refine ⟨Ext.chg hkeep_,?_⟩
 replace ae:=Own.take (s0:=w.heap.size) (M:=[av,r_files,ac,aa]) ae bm bV
 have cN:=ae.len; have cO:=ae.max
 refine .d fun dA bn=>?_
 replace ⟨J,O,W,ae,C⟩:=(se [aL,av,r_files,ac,aa] bn).g5 J O W ae C
 refine .r 1<|.sc [vS r_files n_files c_files,vS av (0+d.list.length) bw,vS aL bz bA,vI d.next] J fun dB bo bZ b0=>?_
 replace ⟨O,W,ae,C⟩:=(so [aL,av,r_files,ac,aa] bo).g4 O W ae C
 exact .d<|.rb Tryz.func63 Tryz.results63 bZ ⟨⟨r_files,n_files,c_files,av,(0+d.list.length),bw,aL,bz,bA,(by rw [show d.next=(((Az d)).next) from by rfl]),((Own.BI O (all_cons AF (all_cons AE (all_cons AD all_nil)))).eqx (by exact GW ‹_› AB)),ck,((Own.BI W (all_cons AF (all_cons AE (all_cons AD all_nil)))).eqx (by rfl)),bU,bT,((Own.BI ae (all_cons AF (all_cons AE (all_cons AD all_nil)))).eqx (by rfl)),bY,bW,bX⟩,C⟩
theorem Lv (d:Dsk) (x:Stp) {w:World} {F:Nat→Prop} {a1:Option Addr} {n1 c1:Nat} (h1:RepS w F a1 n1 c1 d.files) {a2:Option Addr} {n2 c2:Nat} (h2:RepS w F a2 n2 c2 d.list) {a3:Option Addr} {n3 c3:Nat} (h3:RepS w F a3 n3 c3 d.names) {a4:Option Addr} {n4 c4:Nat} (h4:RepS w F a4 n4 c4 x.part.ids) {a5:Option Addr} {n5 c5:Nat} (h5:RepS w F a5 n5 c5 x.part.blocks) {a6:Option Addr} {n6 c6:Nat} (h6:RepS w F a6 n6 c6 x.list) {a7:Option Addr} {n7 c7:Nat} (h7:RepS w F a7 n7 c7 x.names) (p0:d.files.length≤2000) (p1:d.list.length≤2000) (p2:JJ x):Calls Tryz.prog 110 [.agg #[.slice a1 n1 c1,.slice a2 n2 c2,.slice a3 n3 c3,.int .i64 d.next],.agg #[.int .i64 x.kind,.int .i64 x.num,.slice a4 n4 c4,.slice a5 n5 c5,.slice a6 n6 c6,.slice a7 n7 c7]].toArray w (As fun rv w'=>VS (fo F w.heap.size) w' (doD d x:Dsk) rv∧Ext w w'):=by
 refine goT Tryz.func110 ?_
 obtain ⟨rfl,f9,h1⟩:=h1.tp
 obtain ⟨rfl,ga,h2⟩:=h2.tp
 obtain ⟨rfl,gb,h3⟩:=h3.tp
 obtain ⟨rfl,gf,h4⟩:=h4.tp
 obtain ⟨rfl,gh,h5⟩:=h5.tp
 obtain ⟨rfl,gi,h6⟩:=h6.tp
 obtain ⟨rfl,gj,h7⟩:=h7.tp
 refine .s<|.g<|.np 27 [.slice a1 d.files.length c1,.slice a2 d.list.length c2,.slice a3 d.names.length c3,vI d.next] fun aa hH bM bN J eG=>?_
 have gk:Cov nil w aa:=Bc bM (Nat.le_refl _)
 replace ⟨h1,h2,h3,h4,h5,h6,h7⟩:=(sn [] bN bM).g7 h1 h2 h3 h4 h5 h6 h7
 have C:=bN
 refine .np 44 [vI x.kind,vI x.num,.slice a4 x.part.ids.length c4,.slice a5 x.part.blocks.length c5,.slice a6 x.list.length c6,.slice a7 x.names.length c7] fun ab hJ bO cI E eH=>?_
 have gl:=AS bO J.lt
 replace ⟨h1,h2,h3,h4,h5,h6,h7,J,C⟩:=(sn [aa] cI bO).g9 h1 h2 h3 h4 h5 h6 h7 J C
 refine .np 27 [.slice none 0 0,.slice none 0 0,.slice none 0 0,vI 0] fun ac aO bc cJ O eI=>?_
 have gm:=AS bc J.lt
 have gn:=AS bc E.lt
 have gp:=C.cn bc
 replace ⟨h1,h2,h3,h4,h5,h6,h7,J,E,C⟩:=(sn [ab,aa] cJ bc).g10 h1 h2 h3 h4 h5 h6 h7 J E C
 refine .d<|.s<|.s<|.g<|.r 1<|.lb E<|.d<|.b 0<|.s<|.g<|.eq x.kind 1 (fun eJ=>?_) (fun eJ=>?_)
 ·refine .r 1<|.d<|.ct<|.s<|T.Du (X:=Nat × Nat × Nat) (mtb [] aO.heap.size) 10 (fun (aM,cH,aK)=>[(2,.pointer (some ⟨aa,0,none⟩)),(3,.pointer (some ⟨ab,0,none⟩)),(4,.pointer (some ⟨ac,0,none⟩)),(13,vS aM (0+d.files.length) cH),(19,vS aK 1 1)]) (fun (aM,cH,aK) bI=>Ext aO bI∧aO.heap.size≤aM∧aO.heap.size≤aK∧Nb aK aM∧Own bI aM 66 (nin (fo F w.heap.size) [aM,ac,ab,aa]) (0+d.files.length) cH (([]++d.files):List Fil)∧Box bI aK 66 [vI x.num,.slice a4 x.part.ids.length c4,.slice a5 x.part.blocks.length c5]) AA (fun eK aX=>?_) ?_
  ·replace h1:=h1.Ah
   replace h2:=h2.Ah
   replace h3:=h3.Ah
   replace h4:=h4.Ah
   replace h5:=h5.Ah
   replace h6:=h6.Ah
   replace h7:=h7.Ah
   have cR:Gb (aa+1) aO.heap.size:=J.lt
   have bP:Gb (ab+1) aO.heap.size:=E.lt
   replace ⟨h1,h2,h3,h4,h5,h6,h7,J,E,O,C⟩:=(se [ac,ab,aa] aX).g11 h1 h2 h3 h4 h5 h6 h7 J E O C
   have W:=aX
   have ae:Chg (mtb [] aO.heap.size) aO eK:=Chg.Cc (Chg.refl (mtb [] aO.heap.size) aO) aX
   refine .r [1]<|.lb 2 J (Ax all_nil cR)<|.r [4]<|.lb 5 E (Ax all_nil bP)<|.r [6]<|.ln 7 E (Ax all_nil bP)<|.r [8]<|.tw 0 9 ?_ ?_
   ·refine .ns 0 66 [] fun gq bd=>?_
    replace ⟨h1,h2,h3,h4,h5,h6,h7,J,E,O,C,W⟩:=(se [ac,ab,aa] bd).g12 h1 h2 h3 h4 h5 h6 h7 J E O C W
    replace ae:=(se [ac,ab,aa] bd).g1 ae
    intro ag eL aq bg cS cT
    have fd:=AS aq J.lt
    have fe:=AS aq E.lt
    have ff:=AS aq O.lt
    have fg:=C.cn aq
    have bQ:=W.cn aq
    have bR:=ae.cn aq
    replace ⟨h1,h2,h3,h4,h5,h6,h7,J,E,O,C,W⟩:=(sn [ac,ab,aa] bg aq).g12 h1 h2 h3 h4 h5 h6 h7 J E O C W
    replace ae:=(sn [ac,ab,aa] bg aq).g1 ae
    have ak:Own (α:=Fil) eL ag 66 (nin (fo F w.heap.size) [ag,ac,ab,aa]) 0 0 []:=Own.Ag cS
    refine .tw 3 9 ?_ ?_
    ·refine GE.append (T:=23) (ty:=23) (args:=[vS ag 0 0,.slice a1 d.files.length c1]) AA fun gr bh=>?_
     replace ⟨h1,h2,h3,h4,h5,h6,h7,J,E,O,ak,C⟩:=(se [ag,ac,ab,aa] bh).g12 h1 h2 h3 h4 h5 h6 h7 J E O ak C
     replace ⟨W,ae⟩:=(se [ag,ac,ab,aa] bh).g2 W ae
     obtain ⟨aP,eM,gs,bS,aj,aN,aY,cU⟩:=ak.append (P:=Tryz.prog) (T:=23) (ty:=23) AA (h1.base (fun _ _ h=>h.1)) (fun b _ h=>FQ AD h) (by have:=p2.1; have q1:=CC d x.num; omega)
     refine ⟨_,_,bS,Chg.toS aY (Cov.toS bR),?_⟩
     have cV:=Am aN bQ W.size
     replace ⟨h1,h2,h3,h4,h5,h6,h7,J,E,O,C,W⟩:=(sa [ag,ac,ab,aa] aY aN).g12 h1 h2 h3 h4 h5 h6 h7 J E O C W
     replace ae:=(sa [ag,ac,ab,aa] aY aN).g1 ae
     replace aj:=aj.rn ag
     have fh:=aj.len; have fi:=aj.max
     refine .go 9<|.ns 1 66 [vI x.num,.slice a4 x.part.ids.length c4,.slice a5 x.part.blocks.length c5] fun gt bi=>?_
     replace ⟨h1,h2,h3,h4,h5,h6,h7,J,E,O,aj,C⟩:=(se [aP,ac,ab,aa] bi).g12 h1 h2 h3 h4 h5 h6 h7 J E O aj C
     replace ⟨W,ae⟩:=(se [aP,ac,ab,aa] bi).g2 W ae
     intro eN gu bj bk bm cW
     have cX:=AS bj aj.lt
     have cY:=W.cn bj
     replace ⟨h1,h2,h3,h4,h5,h6,h7,J,E,O,aj,C⟩:=(se [aP,ac,ab,aa] bk).g12 h1 h2 h3 h4 h5 h6 h7 J E O aj C
     replace ⟨W,ae⟩:=(se [aP,ac,ab,aa] bk).g2 W ae
     refine .d fun gv bn=>?_
     replace ⟨h1,h2,h3,h4,h5,h6,h7,J,E,O,aj,bm⟩:=(se [aP,ac,ab,aa] bn).g12 h1 h2 h3 h4 h5 h6 h7 J E O aj bm
     replace ⟨C,W,ae⟩:=(se [aP,ac,ab,aa] bn).g3 C W ae
     replace h1:=h1.AU
     replace h2:=h2.AU
     replace h3:=h3.AU
     replace h4:=h4.AU
     replace h5:=h5.AU
     replace h6:=h6.AU
     replace h7:=h7.AU
     exact ⟨(aP,eM,eN),⟨AA,AA,AA,AA,AA,trivial⟩,⟨W,(Ac cV),(Ac cY),cX,aj,bm⟩⟩
    refine .ns 1 66 [vI x.num,.slice a4 x.part.ids.length c4,.slice a5 x.part.blocks.length c5] fun gw bo=>?_
    replace ⟨h1,h2,h3,h4,h5,h6,h7,J,E,O,ak,C⟩:=(se [ag,ac,ab,aa] bo).g12 h1 h2 h3 h4 h5 h6 h7 J E O ak C
    replace ⟨W,ae⟩:=(se [ag,ac,ab,aa] bo).g2 W ae
    intro eO gx bq br av cZ
    have c8:=AS bq ak.lt
    have c9:=W.cn bq
    replace ⟨h1,h2,h3,h4,h5,h6,h7,J,E,O,ak,C⟩:=(se [ag,ac,ab,aa] br).g12 h1 h2 h3 h4 h5 h6 h7 J E O ak C
    replace ⟨W,ae⟩:=(se [ag,ac,ab,aa] br).g2 W ae
    refine .go 3<|GE.append (T:=23) (ty:=23) (args:=[vS ag 0 0,.slice a1 d.files.length c1]) AA fun gy bt=>?_
    replace ⟨h1,h2,h3,h4,h5,h6,h7,J,E,O,ak,av⟩:=(se [ag,ac,ab,aa] bt).g12 h1 h2 h3 h4 h5 h6 h7 J E O ak av
    replace ⟨C,W,ae⟩:=(se [ag,ac,ab,aa] bt).g3 C W ae
    obtain ⟨bT,eP,gz,bU,aA,aG,aZ,da⟩:=ak.append (P:=Tryz.prog) (T:=23) (ty:=23) AA (h1.base (fun _ _ h=>h.1)) (fun b _ h=>FQ AD h) (by have:=p2.1; have q1:=CC d x.num; omega)
    refine ⟨_,_,bU,Chg.toS aZ (Cov.toS bR),?_⟩
    have db:=Ae aG (Nb.symm c8) av.lt
    have de:=Am aG bQ W.size
    replace ⟨h1,h2,h3,h4,h5,h6,h7,J,E,O,av,C⟩:=(sa [ag,ac,ab,aa] aZ aG).g12 h1 h2 h3 h4 h5 h6 h7 J E O av C
    replace ⟨W,ae⟩:=(sa [ag,ac,ab,aa] aZ aG).g2 W ae
    replace aA:=aA.rn ag
    have fj:=aA.len; have fk:=aA.max
    refine .d fun gA bu=>?_
    replace ⟨h1,h2,h3,h4,h5,h6,h7,J,E,O,aA,av⟩:=(se [bT,ac,ab,aa] bu).g12 h1 h2 h3 h4 h5 h6 h7 J E O aA av
    replace ⟨C,W,ae⟩:=(se [bT,ac,ab,aa] bu).g3 C W ae
    replace h1:=h1.AU
    replace h2:=h2.AU
    replace h3:=h3.AU
    replace h4:=h4.AU
    replace h5:=h5.AU
    replace h6:=h6.AU
    replace h7:=h7.AU
    exact ⟨(bT,eP,eO),⟨AA,AA,AA,AA,AA,trivial⟩,⟨W,(Ac de),(Ac c9),(Nb.symm db),aA,av⟩⟩
   refine .ns 1 66 [vI x.num,.slice a4 x.part.ids.length c4,.slice a5 x.part.blocks.length c5] fun gC bv=>?_
   replace ⟨h1,h2,h3,h4,h5,h6,h7,J,E,O,C,W⟩:=(se [ac,ab,aa] bv).g12 h1 h2 h3 h4 h5 h6 h7 J E O C W
   replace ae:=(se [ac,ab,aa] bv).g1 ae
   intro eQ gD bV bw ah df
   have dg:=W.cn bV
   replace ⟨h1,h2,h3,h4,h5,h6,h7,J,E,O,C,W⟩:=(se [ac,ab,aa] bw).g12 h1 h2 h3 h4 h5 h6 h7 J E O C W
   replace ae:=(se [ac,ab,aa] bw).g1 ae
   refine .go 0<|.ns 0 66 [] fun gE bz=>?_
   replace ⟨h1,h2,h3,h4,h5,h6,h7,J,E,O,ah,C⟩:=(se [ac,ab,aa] bz).g12 h1 h2 h3 h4 h5 h6 h7 J E O ah C
   replace ⟨W,ae⟩:=(se [ac,ab,aa] bz).g2 W ae
   intro aL eR ao bA dh dj
   have fm:=AS ao J.lt
   have fp:=AS ao E.lt
   have fq:=AS ao O.lt
   have dm:=AS ao ah.lt
   have ft:=C.cn ao
   have dp:=W.cn ao
   have dq:=ae.cn ao
   replace ⟨h1,h2,h3,h4,h5,h6,h7,J,E,O,ah,C⟩:=(sn [ac,ab,aa] bA ao).g12 h1 h2 h3 h4 h5 h6 h7 J E O ah C
   replace W:=(sn [ac,ab,aa] bA ao).g1 W
   have bB:Own (α:=Fil) eR aL 66 (nin (fo F w.heap.size) [aL,ac,ab,aa]) 0 0 []:=Own.Ag dh
   refine .go 3<|GE.append (T:=23) (ty:=23) (args:=[vS aL 0 0,.slice a1 d.files.length c1]) AA fun gF bC=>?_
   replace ⟨h1,h2,h3,h4,h5,h6,h7,J,E,O,ah,bB⟩:=(se [aL,ac,ab,aa] bC).g12 h1 h2 h3 h4 h5 h6 h7 J E O ah bB
   replace ⟨C,W⟩:=(se [aL,ac,ab,aa] bC).g2 C W
   obtain ⟨bW,eS,gG,bX,aB,aH,ba,dr⟩:=bB.append (P:=Tryz.prog) (T:=23) (ty:=23) AA (h1.base (fun _ _ h=>h.1)) (fun b _ h=>FQ AD h) (by have:=p2.1; have q1:=CC d x.num; omega)
   refine ⟨_,_,bX,Chg.toS ba (Cov.toS dq),?_⟩
   have dt:=Ae aH dm ah.lt
   have du:=Am aH dp W.size
   replace ⟨h1,h2,h3,h4,h5,h6,h7,J,E,O,ah,C⟩:=(sa [aL,ac,ab,aa] ba aH).g12 h1 h2 h3 h4 h5 h6 h7 J E O ah C
   replace W:=(sa [aL,ac,ab,aa] ba aH).g1 W
   replace aB:=aB.rn aL
   have fu:=aB.len; have fv:=aB.max
   refine .d fun gH bD=>?_
   replace ⟨h1,h2,h3,h4,h5,h6,h7,J,E,O,ah,aB⟩:=(se [bW,ac,ab,aa] bD).g12 h1 h2 h3 h4 h5 h6 h7 J E O ah aB
   replace ⟨C,W⟩:=(se [bW,ac,ab,aa] bD).g2 C W
   replace h1:=h1.AU
   replace h2:=h2.AU
   replace h3:=h3.AU
   replace h4:=h4.AU
   replace h5:=h5.AU
   replace h6:=h6.AU
   replace h7:=h7.AU
   exact ⟨(bW,eS,eQ),⟨AA,AA,AA,AA,AA,trivial⟩,⟨W,(Ac du),(Ac dg),(Nb.symm dt),aB,ah⟩⟩
  rintro ⟨aM,cH,aK⟩ gI bI ⟨bY,aC,aQ,bZ,b0,eT⟩
  have dv:=Ab aC J.lt
  have dw:=Ab aC E.lt
  have dx:=Ab aC O.lt
  have dy:=Bd aC C.size
  have fw:Cov nil w aM:=BR aC C.size
  have dz:=Ab aQ J.lt
  have dA:=Ab aQ E.lt
  have dB:=Ab aQ O.lt
  have dC:=Bd aQ C.size
  replace ⟨h1,h2,h3,h4,h5,h6,h7,J,E,O,C⟩:=(sz [ac,ab,aa] bY aC).g11 h1 h2 h3 h4 h5 h6 h7 J E O C
  have fz:=b0.len; have fA:=b0.max
  have bK:nin (fo F w.heap.size) [aM,ac,ab,aa] aK∧aK≠aM:=BG (.inr dC) (all_cons bZ (all_cons dB (all_cons dA (all_cons dz all_nil)))) bZ
  refine RG.Ap (T:=23) (ty:=23) (y:=(⟨x.num,(⟨x.part.ids,x.part.blocks⟩:Prt)⟩:Fil)) b0 eT AA AA ⟨_,_,_,_,_,_,rfl,h4.oi,h5.oi⟩ bK (by have:=p2.1; have q1:=CC d x.num; omega) fun aR cK gJ al ax b6=>?_
  have fB:=Ae ax dv J.lt
  have fC:=Ae ax dw E.lt
  have fD:=Ae ax dx O.lt
  have dD:=Bt ax dy C.size
  replace ⟨h1,h2,h3,h6,h7,J,E,O,C⟩:=(sa [aM,ac,ab,aa] b6 ax).g9 h1 h2 h3 h6 h7 J E O C
  replace al:=al.rn aM
  have fE:=al.len; have fF:=al.max
  refine .r 1<|.ss 0 (vS aR (0+d.files.length+1) cK) J fun gK b7 dE dF=>?_
  replace ⟨h1,h2,h3,h6,h7,E,O,al,C⟩:=(so [aR,ac,ab,aa] b7).g9 h1 h2 h3 h6 h7 E O al C
  refine .d<|.g<|.r 1<|.lb E<|RG.int (x.num+1) AA (by have q1:=CC d x.num; have q2:=p2.2.2.2; omega)<|.r 1<|.ss 3 (vI (x.num+1)) dE fun gL b8 dG dH=>?_
  replace ⟨h1,h2,h3,h6,h7,E,O,al,C⟩:=(so [aR,ac,ab,aa] b8).g9 h1 h2 h3 h6 h7 E O al C
  refine .d<|.ib 0<|.s<|.g<|.ln dG<|.sc [vS aR (0+d.files.length+1) cK,.slice a2 d.list.length c2,.slice a3 d.names.length c3,vI (x.num+1)] O fun eU b9 dI dJ=>?_
  replace ⟨h1,h2,h3,h6,h7,E,al,C⟩:=(so [aR,ac,ab,aa] b9).g8 h1 h2 h3 h6 h7 E al C
  refine .d ?_
  have eV:=al.sl (.inr dD)
  replace ⟨h1,h2,h3,h6,h7⟩:=(sd eU [aR,ac,ab,aa] aR).g5 h1 h2 h3 h6 h7
  exact .rb Tryz.func110 Tryz.results110 dI ⟨(VS.of (y:=(⟨(([]++d.files)++[(⟨x.num,(⟨x.part.ids,x.part.blocks⟩:Prt)⟩:Fil)]),d.list,d.names,x.num+1⟩:Dsk)) ⟨_,rfl,⟨_,_,_,_,_,_,_,_,_,rfl,eV.w1,h2.w1,h3.w1⟩⟩ (by (rw [F8 ‹_›]; simp; done))),C⟩
 refine .r 1<|.d<|.cf<|.s<|.g<|.eq x.kind 2 (fun dK=>?_) (fun dK=>?_)
 ·refine .r 1<|.d<|.ct<|.s<|.g<|.ns 0 3 [] fun bJ eW aD ce dL dM=>?_
  have dN:=AS aD J.lt
  have dO:=AS aD E.lt
  have dP:=AS aD O.lt
  have dQ:=Ad aD C.size
  have fG:=C.cn aD
  replace ⟨h1,h2,h3,h6,h7,J,E,O,C⟩:=(sn [ac,ab,aa] ce aD).g9 h1 h2 h3 h6 h7 J E O C
  have dR:Own (α:=Int) eW bJ 3 (nin (fo F w.heap.size) [bJ,ac,ab,aa]) 0 0 []:=Own.Ag dL
  refine .r 1<|.lb E<|RG.Ay (T:=24) (ty:=24) BF dR h6 AA AA (fun b h e=>h.2 (e▸AD)) (by have:=p2.1; have q1:=CC d x.num; omega) fun aI cL gM af ay cg=>?_
  have fH:=Ae ay dN J.lt
  have fI:=Ae ay dO E.lt
  have fJ:=Ae ay dP O.lt
  have dS:=Bt ay dQ C.size
  replace ⟨h1,h2,h3,h7,J,E,O,C⟩:=(sa [bJ,ac,ab,aa] cg ay).g8 h1 h2 h3 h7 J E O C
  replace af:=af.rn bJ
  have fK:=af.len; have fL:=af.max
  refine .r 1<|.ss 1 (vS aI (0+x.list.length) cL) J fun cM ci aS dT=>?_
  replace ⟨h1,h2,h3,h7,E,O,af,C⟩:=(so [aI,ac,ab,aa] ci).g8 h1 h2 h3 h7 E O af C
  refine .d<|.g<|.r 1<|.lb E<|.cl (Cf x.names h7.ta (by have:=p2.2.1; omega) (by intro n hn; have:=p2.2.2.1 n hn; omega) (w:=cM) (F:=all)) ?_
  rintro gN gO ⟨⟨aT,cN,cO,rfl,ai,aE⟩,cj⟩
  have ck:=al4 af.lt O.lt E.lt aS.lt
  have dU:Gb w.heap.size cM.heap.size:=C.size
  have fM:=Ab aE aS.lt
  have fN:=Ab aE E.lt
  have fO:=Ab aE O.lt
  have fP:=Ab aE af.lt
  have dV:=Bd aE C.size
  replace ⟨h1,h2,h3,aS,E,O,af,C⟩:=(sz [aI,ac,ab,aa] cj aE).g8 h1 h2 h3 aS E O af C
  replace ai:=Own.take (s0:=w.heap.size) (M:=[aI,ac,ab,aa]) ai ck dU
  replace ai:=ai.base (G':=fo F w.heap.size) (fun _ _ h=>.inr h)
  have fQ:=ai.len; have fR:=ai.max
  refine .r 1<|.ss 2 (vS aT cN cO) aS fun gP cm dW dX=>?_
  replace ⟨h1,h2,h3,E,O,af,ai,C⟩:=(so [aT,aI,ac,ab,aa] cm).g8 h1 h2 h3 E O af ai C
  refine .d<|.ib 0<|.s<|.g<|.ln dW<|.sc [.slice a1 d.files.length c1,vS aI (0+x.list.length) cL,vS aT cN cO,vI d.next] O fun cP co dY dZ=>?_
  replace ⟨h1,h2,h3,E,af,ai,C⟩:=(so [aT,aI,ac,ab,aa] co).g7 h1 h2 h3 E af ai C
  refine .d ?_
  have cp:=af.sl (.inr dS)
  replace ⟨h1,h2,h3,ai⟩:=(sd cP [aT,aI,ac,ab,aa] aI).g4 h1 h2 h3 ai
  have eX:=ai.sl (.inr dV)
  replace ⟨h1,h2,h3,cp⟩:=(sd cP [aT,ac,ab,aa] aT).g4 h1 h2 h3 cp
  exact .rb Tryz.func110 Tryz.results110 dY ⟨(VS.of (y:=(⟨d.files,([]++x.list),x.names,d.next⟩:Dsk)) ⟨_,rfl,⟨_,_,_,_,_,_,_,_,_,rfl,h1.w1,cp.w1,eX.w1⟩⟩ (by (rw [HE ‹_›]; simp; done))),C⟩
 refine .r 1<|.d<|.cf<|.s<|.g<|.eq x.kind 3 (fun d0=>?_) (fun d0=>?_)
 ·refine .r 1<|.d<|.ct<|.s<|.g<|.ln J<|.r 1<|.lb E<|.cl (DO d x.num h1.ta h2.ta h3.ta (w:=aO) (F:=all)) ?_
  rintro gQ eY ⟨rfl,cq⟩
  replace ⟨h1,h2,h3,J,E,O,C⟩:=(se [ac,ab,aa] cq).g7 h1 h2 h3 J E O C
  refine .r 1<|.d<|.s<|.g<|.r 1<|.bp (Ao d x.num≥0) (fun d3=>?_) (fun d3=>?_)
  ·refine .r 1<|.ln J<|.r 1<|.lb E<|.cl (Fh d x.num h1.ta h2.ta h3.ta (w:=eY) (F:=all)) ?_
   rintro gR aU ⟨rfl,cr⟩
   replace ⟨h1,h2,h3,J,E,O,C⟩:=(se [ac,ab,aa] cr).g7 h1 h2 h3 J E O C
   cases fS:(d.list.contains x.num)
   ·refine .r 2<|.d<|.ct ?_
    replace h1:=h1.Ah
    replace h2:=h2.Ah
    replace h3:=h3.Ah
    have cu:Gb (aa+1) aU.heap.size:=J.lt
    refine .gd (mtb [] aU.heap.size) 11 fun eZ bE=>?_
    replace ⟨h1,h2,h3,J,E,O,C⟩:=(se [ac,ab,aa] bE).g7 h1 h2 h3 J E O C
    have bF:Chg (mtb [] aU.heap.size) aU eZ:=Chg.Cc (Chg.refl (mtb [] aU.heap.size) aU) bE
    refine .r [1]<|.lb 2 J (Ax all_nil cu)<|.r [3]<|GA.sub (i:=4) (t:=23) (lo:=none) (hi:=some (vI (Ao d x.num))) AA h1 0 ((Ao d x.num).toNat) AA AA (.inl ⟨rfl,rfl⟩) (.inr ⟨_,_,rfl,by omega⟩) (by have q1:=CC d x.num; omega) (by have q1:=CC d x.num; omega) fun e7 e8 aJ=>?_
    have fT:=aJ.len; have fU:=aJ.max
    refine .r [6]<|.lb 7 J (Ax all_nil cu)<|.r [8]<|GA.int (i:=9) (Ao d x.num+1) AA (by have q1:=CC d x.num; have q2:=p2.2.2.2; omega)<|GA.sub (i:=10) (t:=23) (lo:=some (vI (Ao d x.num+1))) (hi:=none) AA h1 ((Ao d x.num+1).toNat) d.files.length AA AA (.inr ⟨_,_,rfl,by omega⟩) (.inl ⟨rfl,rfl⟩) (by have q1:=CC d x.num; omega) (by have q1:=CC d x.num; omega) fun gS gT am=>?_
    have fV:=am.len; have fW:=am.max
    refine .go 0<|.ns 0 66 [] fun gU cv=>?_
    replace ⟨h1,h2,h3,J,E,O,aJ,am,C,bF⟩:=(se [ac,ab,aa] cv).g10 h1 h2 h3 J E O aJ am C bF
    intro aV fa aw cw d4 d5
    have d6:=AS aw J.lt
    have d7:=AS aw E.lt
    have d8:=AS aw O.lt
    have d9:=Ad aw C.size
    have ec:=C.cn aw
    have ed:=bF.cn aw
    replace ⟨h1,h2,h3,J,E,O,aJ,am,C⟩:=(sn [ac,ab,aa] cw aw).g9 h1 h2 h3 J E O aJ am C
    have bG:Own (α:=Fil) fa aV 66 (nin (fo F w.heap.size) [aV,ac,ab,aa]) 0 0 []:=Own.Ag d4
    refine .go 5<|GE.append (T:=23) (ty:=23) (args:=[vS aV 0 0,.slice e7 ((Ao d x.num).toNat - 0) e8]) AA fun gV cx=>?_
    replace ⟨h1,h2,h3,J,E,O,aJ,am,bG,C⟩:=(se [aV,ac,ab,aa] cx).g10 h1 h2 h3 J E O aJ am bG C
    obtain ⟨cy,gW,gX,cz,aF,ar,bH,ee⟩:=bG.append (P:=Tryz.prog) (T:=23) (ty:=23) AA (aJ.base (fun _ _ h=>h.1)) (fun b _ h=>FQ AD h) (by have:=p2.1; have q1:=CC d x.num; omega)
    refine ⟨_,_,cz,Chg.toS bH (Cov.toS ed),?_⟩
    have ef:=Ae ar d6 J.lt
    have eg:=Ae ar d7 E.lt
    have eh:=Ae ar d8 O.lt
    have ej:=Bt ar d9 C.size
    have fX:=Am ar ec C.size
    replace ⟨h1,h2,h3,J,E,O,am,C⟩:=(sa [aV,ac,ab,aa] bH ar).g8 h1 h2 h3 J E O am C
    replace aF:=aF.rn aV
    have fY:=aF.len; have fZ:=aF.max
    refine .d fun gY cA=>?_
    replace ⟨h1,h2,h3,J,E,O,am,aF,C⟩:=(se [cy,ac,ab,aa] cA).g9 h1 h2 h3 J E O am aF C
    replace h1:=h1.AU
    replace h2:=h2.AU
    replace h3:=h3.AU
    replace am:=am.AU
    refine RG.Jj (T:=23) (ty:=23) aF am AA AA (fun b _ h=>FQ AD h) (by have:=p2.1; have q1:=CC d x.num; omega) fun aW cQ gZ au az cB=>?_
    have f0:=Ae az ef J.lt
    have f5:=Ae az eg E.lt
    have f6:=Ae az eh O.lt
    have ek:=Bt az ej C.size
    replace ⟨h1,h2,h3,J,O,C⟩:=(sa [cy,ac,ab,aa] cB az).g6 h1 h2 h3 J O C
    replace au:=au.rn cy
    have f7:=au.len; have f8:=au.max
    refine .r 1<|.ss 0 (vS aW (0+((Ao d x.num).toNat - 0)+(d.files.length - (Ao d x.num+1).toNat)) cQ) J fun g0 cC en et=>?_
    replace ⟨h1,h2,h3,O,au,C⟩:=(so [aW,ac,ab,aa] cC).g6 h1 h2 h3 O au C
    refine .d<|.ib 0<|.s<|.g<|.ln en<|.sc [vS aW (0+((Ao d x.num).toNat - 0)+(d.files.length - (Ao d x.num+1).toNat)) cQ,.slice a2 d.list.length c2,.slice a3 d.names.length c3,vI d.next] O fun fb cD ey ez=>?_
    replace ⟨h1,h2,h3,au,C⟩:=(so [aW,ac,ab,aa] cD).g5 h1 h2 h3 au C
    refine .d ?_
    have fc:=au.sl (.inr ek)
    replace ⟨h1,h2,h3⟩:=(sd fb [aW,ac,ab,aa] aW).g3 h1 h2 h3
    exact .rb Tryz.func110 Tryz.results110 ey ⟨(VS.of (y:=(⟨(([]++((d.files.take ((Ao d x.num).toNat)).drop 0))++((d.files.take d.files.length).drop ((Ao d x.num+1).toNat))),d.list,d.names,d.next⟩:Dsk)) ⟨_,rfl,⟨_,_,_,_,_,_,_,_,_,rfl,fc.w1,h2.w1,h3.w1⟩⟩ (by (rw [FG ‹_›,Na ‹_› ‹_›]; have e1:(Ao d x.num+1).toNat=(Ao d x.num).toNat+1:=AB; simp [e1]; done))),C⟩
   refine .r 2<|.d<|.cf<|.sk<|.ib 0<|.s<|.g<|.ln J<|.sc [.slice a1 d.files.length c1,.slice a2 d.list.length c2,.slice a3 d.names.length c3,vI d.next] O fun hC cE eA eB=>?_
   replace ⟨h1,h2,h3,J,C⟩:=(so [ac,ab,aa] cE).g5 h1 h2 h3 J C
   exact .d<|.rb Tryz.func110 Tryz.results110 eA ⟨(VS.of (y:=d) ⟨_,rfl,⟨_,_,_,_,_,_,_,_,_,rfl,h1.w1,h2.w1,h3.w1⟩⟩ (by (rw [FG ‹_›,Lu (.inr ‹_›)]))),C⟩
  refine .r 7<|.d<|.cf<|.sk<|.ib 0<|.s<|.g<|.ln J<|.sc [.slice a1 d.files.length c1,.slice a2 d.list.length c2,.slice a3 d.names.length c3,vI d.next] O fun hD cF eC eD=>?_
  replace ⟨h1,h2,h3,J,C⟩:=(so [ac,ab,aa] cF).g5 h1 h2 h3 J C
  exact .d<|.rb Tryz.func110 Tryz.results110 eC ⟨(VS.of (y:=d) ⟨_,rfl,⟨_,_,_,_,_,_,_,_,_,rfl,h1.w1,h2.w1,h3.w1⟩⟩ (by (rw [FG ‹_›,Lu (.inl ‹_›)]))),C⟩
 refine .r 1<|.d<|.cf<|.sk<|.ib 0<|.s<|.g<|.ln J<|.sc [.slice a1 d.files.length c1,.slice a2 d.list.length c2,.slice a3 d.names.length c3,vI d.next] O fun hE cG eE eF=>?_
 replace ⟨h1,h2,h3,C⟩:=(so [ac,ab,aa] cG).g4 h1 h2 h3 C
 exact .d<|.rb Tryz.func110 Tryz.results110 eE ⟨(VS.of (y:=d) ⟨_,rfl,⟨_,_,_,_,_,_,_,_,_,rfl,h1.w1,h2.w1,h3.w1⟩⟩ (by rw [Tp ‹_› ‹_› ‹_›])),C⟩
theorem Hr (d:Dsk) (steps:List Stp) (cut:Int) {w:World} {F:Nat→Prop} {a1:Option Addr} {n1 c1:Nat} (h1:RepS w F a1 n1 c1 d.files) {a2:Option Addr} {n2 c2:Nat} (h2:RepS w F a2 n2 c2 d.list) {a3:Option Addr} {n3 c3:Nat} (h3:RepS w F a3 n3 c3 d.names) {a4:Option Addr} {n4 c4:Nat} (h4:RepS w F a4 n4 c4 steps) (p0:d.files.length≤1000) (p1:steps.length≤1000) (p2:d.list.length≤1000) (p3:∀ x∈steps,JJ x):Calls Tryz.prog 62 [.agg #[.slice a1 n1 c1,.slice a2 n2 c2,.slice a3 n3 c3,.int .i64 d.next],.slice a4 n4 c4,.int .i64 cut].toArray w (As fun rv w'=>VS (fo F w.heap.size) w' (toD d steps cut:Dsk) rv∧Ext w w'):=by
 refine goT Tryz.func62 ?_
 obtain ⟨rfl,bB,h1⟩:=h1.tp
 obtain ⟨rfl,bC,h2⟩:=h2.tp
 obtain ⟨rfl,bD,h3⟩:=h3.tp
 obtain ⟨rfl,bE,h4⟩:=h4.tp
 refine .s<|.g<|.np 27 [.slice a1 d.files.length c1,.slice a2 d.list.length c2,.slice a3 d.names.length c3,vI d.next] fun aa b9 aw ax au bd=>?_
 have bF:Cov nil w aa:=Bc aw (Nat.le_refl _)
 replace ⟨h1,h2,h3,h4⟩:=(sn [] ax aw).g4 h1 h2 h3 h4
 have C:=ax
 refine .np 27 [.slice none 0 0,.slice none 0 0,.slice none 0 0,vI 0] fun ai aS av aH af bg=>?_
 have bG:=AS av au.lt
 have bH:=C.cn av
 replace ⟨h1,h2,h3,h4,au,C⟩:=(sn [aa] aH av).g6 h1 h2 h3 h4 au C
 refine .d<|.s<|.s<|.g<|.r 1<|.d<|.b 0<|T.loop (X:=Nat × (List Fil) × (Option Addr) × Nat × Nat × (List Int) × (Option Addr) × Nat × Nat × (List (List Tag)) × (Option Addr) × Nat × Nat × Int) (0,(d.files:List Fil),a1,d.files.length,c1,(d.list:List Int),a2,d.list.length,c2,(d.names:List (List Tag)),a3,d.names.length,c3,d.next) (fun (i,ab,a_d_0,n_d_0,c_d_0,ac,a_d_1,n_d_1,c_d_1,ae,a_d_2,n_d_2,c_d_2,W)=>[(1,.slice a4 steps.length c4),(2,vI cut),(3,.pointer (some ⟨aa,0,none⟩)),(6,.pointer (some ⟨ai,0,none⟩)),(7,vI (i:Int))]) (fun (i,ab,a_d_0,n_d_0,c_d_0,ac,a_d_1,n_d_1,c_d_1,ae,a_d_2,n_d_2,c_d_2,W) aq=>Chg (ins [aa]) aS aq∧RepS aq (nin (fo F w.heap.size) [ai,aa]) a_d_0 n_d_0 c_d_0 ab∧RepS aq (nin (fo F w.heap.size) [ai,aa]) a_d_1 n_d_1 c_d_1 ac∧RepS aq (nin (fo F w.heap.size) [ai,aa]) a_d_2 n_d_2 c_d_2 ae∧Box aq aa 27 [.slice a_d_0 n_d_0 c_d_0,.slice a_d_1 n_d_1 c_d_1,.slice a_d_2 n_d_2 c_d_2,vI W]∧(i≤steps.length)∧(ab.length≤d.files.length+i)∧(ac.length≤1000)∧(((steps.take cut.toNat).drop i).foldl doD ⟨ab,ac,ae,W⟩=toD d steps cut)) (fun (i,ab,a_d_0,n_d_0,c_d_0,ac,a_d_1,n_d_1,c_d_1,ae,a_d_2,n_d_2,c_d_2,W)=>steps.length - i) AA ⟨AA,AA,AA,AA,AA,trivial⟩ ⟨Chg.refl _ _,h1,h2,h3,au,AB,AB,AB,(by rfl)⟩ ?_
 rintro ⟨i,ab,a_d_0,n_d_0,c_d_0,ac,a_d_1,n_d_1,c_d_1,ae,a_d_2,n_d_2,c_d_2,W⟩ cd aq ⟨ah,E,J,O,ag,bI,bJ,bK,bL⟩ ay
 have bM:Cov (ins [aa]) aS aa:=⟨.inl AD⟩
 have aI:Mv [ai,aa] [ai,aa] aS aq:=Mv.inl ah (all_cons AE all_nil) (all_cons (.inl AD) (all_cons (.inl AE) all_nil))
 replace ⟨h4,af,C⟩:=(sp aI ah).g3 h4 af C
 have bN:=E.len; have bO:=E.max
 have bP:=J.len; have bQ:=J.max
 have bR:=O.len; have bS:=O.max
 refine .s<|.s<|.g<|.r 3<|.bp ((i:Int)< (steps.length:Int)) (fun bh=>?_) (fun bh=>?_)
 ·refine .r 3<|.bp ((i:Int)< cut) (fun bi=>?_) (fun bi=>?_)
  ·refine .r 1<|.d<|.ct<|.sk<|.s<|.b 1<|.gd nil 5 fun ce aJ=>?_
   replace ⟨h4,ag,af,E,J,O,C,ah⟩:=(se [ai,aa] aJ).g8 h4 ag af E J O C ah
   refine .ln 0 ag id<|.r [1,2] ?_
   have bj:i< steps.length:=AB
   refine .ix 3 i 6 h4 bj ?_
   obtain ⟨aj,az⟩:∃ y,steps[i]? = some y:=⟨_,AP AB⟩
   have bT:=AX az; have bt:=AQ az
   obtain ⟨_,⟨cg,ci,cj,ck,cm,co,cp,cq,cr,cu,cv,cw,rfl,aA,aB,aC,aD⟩,bk⟩:=h4.elem i aj az
   have bm:=aA.len
   subst bm
   have bU:=aA.max
   have bn:=aB.len
   subst bn
   have bV:=aB.max
   have bo:=aC.len
   subst bo
   have bW:=aC.max
   have bq:=aD.len
   subst bq
   have bX:=aD.max
   refine .lg 4 0 bk id<|.d fun br aK=>?_
   replace ⟨ag,af,E,J,O,aA,aB,aC,aD,C,ah⟩:=(se [ai,aa] aK).g11 ag af E J O aA aB aC aD C ah
   refine .cl (Lv (⟨ab,ac,ae,W⟩:Dsk) aj E J O aA aB aC aD (by simp only; omega) (by simp only; omega) (p3 _ ‹_›) (w:=br) (F:=nin (fo F w.heap.size) [ai,aa])) ?_
   rintro cx cy ⟨⟨_,rfl,⟨aL,bY,aM,aN,bZ,aO,aP,b0,aQ,rfl,ak,al,am⟩⟩,aR⟩
   have ao:=al2 af.lt ag.lt
   have ar:Gb w.heap.size br.heap.size:=C.size
   replace ⟨ag,af,E,J,O,C,ah⟩:=(se [ai,aa] aR).g7 ag af E J O C ah
   replace ak:=RepS.Aa (M:=[ai,aa]) ak ao ar
   have bu:=ak.max
   replace al:=RepS.Aa (M:=[ai,aa]) al ao ar
   have bv:=al.max
   replace am:=RepS.Aa (M:=[ai,aa]) am ao ar
   have bw:=am.max
   have aT:=ak.len
   subst aT
   have aU:=al.len
   subst aU
   have aV:=am.len
   subst aV
   refine .sc [.slice aL (((doD (⟨ab,ac,ae,W⟩:Dsk) aj).files).length) aM,.slice aN (((doD (⟨ab,ac,ae,W⟩:Dsk) aj).list).length) aO,.slice aP (((doD (⟨ab,ac,ae,W⟩:Dsk) aj).names).length) aQ,vI ((doD (⟨ab,ac,ae,W⟩:Dsk) aj).next)] ag fun b6 aE aW aX=>?_
   replace ⟨af,E,J,O,ak,al,am,C,ah⟩:=(so [ai,aa] aE).g9 af E J O ak al am C ah
   exact .d<|.ib 1<|.g<|.r 1<|.it ((i:Int)+1)<|.r 1<|.d<|ay (i+1,(doD (⟨ab,ac,ae,W⟩:Dsk) aj).files,aL,((doD (⟨ab,ac,ae,W⟩:Dsk) aj).files).length,aM,(doD (⟨ab,ac,ae,W⟩:Dsk) aj).list,aN,((doD (⟨ab,ac,ae,W⟩:Dsk) aj).list).length,aO,(doD (⟨ab,ac,ae,W⟩:Dsk) aj).names,aP,((doD (⟨ab,ac,ae,W⟩:Dsk) aj).names).length,aQ,(doD (⟨ab,ac,ae,W⟩:Dsk) aj).next) _ _ ⟨AA,AA,AA,AA,AA,trivial⟩ ⟨ah,ak,al,am,aW,AB,(by have q1:=p3 _ ‹_›; have q2:=OY (d:=⟨ab,ac,ae,W⟩) q1.1 ‹_›; dsimp only at q2; omega),(by have q1:=p3 _ ‹_›; have q2:=OY (d:=⟨ab,ac,ae,W⟩) q1.1 ‹_›; dsimp only at q2; omega),(by exact toStep ‹_› ‹_› AB)⟩ (by (simp only []; omega))
  refine .r 1<|.d<|.cf<|.x 0 rfl<|.s<|.g<|.ln ag<|.sc [.slice a_d_0 n_d_0 c_d_0,.slice a_d_1 n_d_1 c_d_1,.slice a_d_2 n_d_2 c_d_2,vI W] af fun b7 aF aY aZ=>?_
  replace ⟨ag,E,J,O,C⟩:=(so [ai,aa] aF).g5 ag E J O C
  exact .d<|.rb Tryz.func62 Tryz.results62 aY ⟨(VS.of (y:=(⟨ab,ac,ae,W⟩:Dsk)) ⟨_,rfl,⟨_,_,_,_,_,_,_,_,_,rfl,E.w1,J.w1,O.w1⟩⟩ (by exact toEnd ‹_› AB)),C⟩
 refine .r 5<|.d<|.cf<|.x 0 rfl<|.s<|.g<|.ln ag<|.sc [.slice a_d_0 n_d_0 c_d_0,.slice a_d_1 n_d_1 c_d_1,.slice a_d_2 n_d_2 c_d_2,vI W] af fun b8 aG ba bc=>?_
 replace ⟨E,J,O,C⟩:=(so [ai,aa] aG).g4 E J O C
 exact .d<|.rb Tryz.func62 Tryz.results62 ba ⟨(VS.of (y:=(⟨ab,ac,ae,W⟩:Dsk)) ⟨_,rfl,⟨_,_,_,_,_,_,_,_,_,rfl,E.w1,J.w1,O.w1⟩⟩ (by exact toEnd ‹_› AB)),C⟩
theorem F9 (d:Dsk) (at_:Int) {w:World} {F:Nat→Prop} {a1:Option Addr} {n1 c1:Nat} (h1:RepS w F a1 n1 c1 d.files) {a2:Option Addr} {n2 c2:Nat} (h2:RepS w F a2 n2 c2 d.list) {a3:Option Addr} {n3 c3:Nat} (h3:RepS w F a3 n3 c3 d.names) (p0:d.names.length≤1000) (p1:∀ n∈d.names,n.length≤1000) (p2:d.list.length≤1000) (p3:∀ n∈d.list,0≤Ao d n) (p4:∀ f∈d.files,Cw f.part):Calls Tryz.prog 75 [.agg #[.slice a1 n1 c1,.slice a2 n2 c2,.slice a3 n3 c3,.int .i64 d.next],.int .i64 at_].toArray w (As fun rv w'=>VL (ge w.heap.size) w' (Ba d at_:List Stp) rv∧Ext w w'):=by
 refine goT Tryz.func75 ?_
 obtain ⟨rfl,iQ,h1⟩:=h1.tp
 obtain ⟨rfl,iR,h2⟩:=h2.tp
 obtain ⟨rfl,iS,h3⟩:=h3.tp
 refine .s<|.g<|.np 27 [.slice a1 d.files.length c1,.slice a2 d.list.length c2,.slice a3 d.names.length c3,vI d.next] fun ag gV d7 cF C fC=>?_
 replace ⟨h1,h2,h3⟩:=(sn [] cF d7).g3 h1 h2 h3
 have E:=cF
 refine .r 1<|.d<|.s<|.s<|.g<|.r 2<|.lb C<|.r 1<|.it ((d.list.length:Int) - 2)<|.cl (CO at_ 0 ((d.list.length:Int) - 2) (w:=gV) (F:=all)) ?_
 rintro jW fD ⟨rfl,d8⟩
 replace ⟨h1,h2,h3,C,E⟩:=(se [ag] d8).g5 h1 h2 h3 C E
 cases d9:(inR at_ 0 ((d.list.length:Int) - 2))
 ·have iT:=Ex d9
  refine .r 12<|.d<|.ct<|.s<|.g<|.ns 0 44 [] fun cG fE ce ec fF fG=>?_
  have iU:=AS ce C.lt
  have fH:=Ad ce E.size
  replace ⟨h1,h2,h3,C,E⟩:=(sn [ag] ec ce).g5 h1 h2 h3 C E
  have fI:Own (α:=Stp) fE cG 44 (nin (ge w.heap.size) [cG,ag]) 0 0 []:=Own.Ag fF
  refine .r 1<|.d ?_
  have gW:=fI.sl fH
  replace ⟨h1,h2,h3⟩:=(sd fE [cG,ag] cG).g3 h1 h2 h3
  exact .rt Tryz.func75 Tryz.results75 (vS cG 0 0) ⟨(gW.vl (by rw [Hq (.inl ‹_›)]) (fun _ _ h=>h.1)),E⟩
 have iV:=CN d9
 refine .r 3<|.lb C<|.bp (d.next≥999) (fun fJ=>?_) (fun fJ=>?_)
 ·refine .r 7<|.d<|.ct<|.s<|.g<|.ns 0 44 [] fun cH fK cg ed fL fM=>?_
  have iW:=AS cg C.lt
  have fN:=Ad cg E.size
  replace ⟨h1,h2,h3,C,E⟩:=(sn [ag] ed cg).g5 h1 h2 h3 C E
  have fO:Own (α:=Stp) fK cH 44 (nin (ge w.heap.size) [cH,ag]) 0 0 []:=Own.Ag fL
  refine .r 1<|.d ?_
  have gX:=fO.sl fN
  replace ⟨h1,h2,h3⟩:=(sd fK [cH,ag] cH).g3 h1 h2 h3
  exact .rt Tryz.func75 Tryz.results75 (vS cH 0 0) ⟨(gX.vl (by rw [Hq (.inr (.inl ‹_›))]) (fun _ _ h=>h.1)),E⟩
 refine .r 3<|.lb C<|.r 1<|.bp ((d.files.length:Int)≥20) (fun fP=>?_) (fun fP=>?_)
 ·refine .r 1<|.d<|.ct<|.s<|.g<|.ns 0 44 [] fun cI fQ ci ee fR fS=>?_
  have iX:=AS ci C.lt
  have fT:=Ad ci E.size
  replace ⟨h1,h2,h3,C,E⟩:=(sn [ag] ee ci).g5 h1 h2 h3 C E
  have fU:Own (α:=Stp) fQ cI 44 (nin (ge w.heap.size) [cI,ag]) 0 0 []:=Own.Ag fR
  refine .r 1<|.d ?_
  have gY:=fU.sl fT
  replace ⟨h1,h2,h3⟩:=(sd fQ [cI,ag] cI).g3 h1 h2 h3
  exact .rt Tryz.func75 Tryz.results75 (vS cI 0 0) ⟨(gY.vl (by rw [Hq (.inr (.inr ‹_›))]) (fun _ _ h=>h.1)),E⟩
 refine .r 1<|.d<|.cf<|.sk<|.s<|.g<|.r 1<|.lb C<|.r 1 ?_
 have ef:(at_).toNat< d.list.length:=AB
 refine RG.idx ((at_).toNat) (len:=d.list.length) (i:=at_) (sz:=1) AA AB ef (h2.addr (Nat.zero_lt_of_lt ef)) ?_
 obtain ⟨aX,cJ⟩:∃ y,d.list[(at_).toNat]? = some y:=⟨_,AP AB⟩
 have iY:=AX cJ; have gt:=AQ cJ
 obtain ⟨_,rfl,fV⟩:=h2.elem ((at_).toNat) aX cJ
 refine .lh 0 fV<|.r 1<|.d<|.s<|.g<|.r 1<|.lb C<|.r 1<|.it (at_+1) ?_
 have eg:(at_+1).toNat< d.list.length:=AB
 refine RG.idx ((at_+1).toNat) (len:=d.list.length) (i:=at_+1) (sz:=1) AA AB eg (h2.addr (Nat.zero_lt_of_lt eg)) ?_
 obtain ⟨aY,cK⟩:∃ y,d.list[(at_+1).toNat]? = some y:=⟨_,AP AB⟩
 have iZ:=AX cK; have gu:=AQ cK
 obtain ⟨_,rfl,fW⟩:=h2.elem ((at_+1).toNat) aY cK
 refine .lh 0 fW<|.r 1<|.d<|.s<|T.Du (X:=Nat × (Option Addr) × Fil × Fil × Nat × (Option Addr) × Nat) nil 18 (fun (ae,bk,aM,av,bm,bn,bo)=>[(1,vI at_),(2,.pointer (some ⟨ag,0,none⟩)),(5,vI aX),(6,vI aY),(7,.pointer (some ⟨ae,0,none⟩)),(55,.agg #[.slice bk (((BT aM.part av.part).ids).length) bm,.slice bn (((BT aM.part av.part).blocks).length) bo])]) (fun (ae,bk,aM,av,bm,bn,bo) bG=>Ext fD bG∧fD.heap.size≤ae∧Box bG ae 42 [.slice none 0 0,.slice none 0 0]∧RepS bG (nin (ge w.heap.size) [ae,ag]) bk (((BT aM.part av.part).ids).length) bm ((BT aM.part av.part).ids:List Int)∧RepS bG (nin (ge w.heap.size) [ae,ag]) bn (((BT aM.part av.part).blocks).length) bo ((BT aM.part av.part).blocks:List (List Row))∧d.files[(Ao d aX).toNat]? = some aM∧d.files[(Ao d aY).toNat]? = some av) AA (fun ja bJ=>?_) ?_
 ·replace ⟨h1,h2,h3,C,E⟩:=(se [ag] bJ).g5 h1 h2 h3 C E
  have ah:=bJ
  refine .r [0]<|.lb 1 C id<|.ln 2 C id<|.r [3]<|GA.Bz (i:=4) AA (fun fX bK=>DO d aX (h1.ta.ext bK) (h2.ta.ext bK) (h3.ta.ext bK) (w:=fX) (F:=all)) ?_
  have cL:(Ao d aX).toNat< d.files.length:=(by exact Ig p3 ‹_›)
  refine GA.idx (i:=5) ((Ao d aX).toNat) (len:=d.files.length) (z:=Ao d aX) (sz:=3) AA (by exact Ih p3 ‹_›) cL (h1.addr (Nat.zero_lt_of_lt cL))<|.r [6] ?_
  obtain ⟨bH,aZ⟩:∃ y,d.files[(Ao d aX).toNat]? = some y:=⟨_,AP AB⟩
  have gZ:=AX aZ; have fY:=AQ aZ
  obtain ⟨_,⟨jb,jc,jd,je,jf,jg,rfl,ak,al⟩,en⟩:=h1.elem ((Ao d aX).toNat) bH aZ
  have et:=ak.len
  subst et
  have g0:=ak.max
  have ey:=al.len
  subst ey
  have hC:=al.max
  refine .lg 7 1 en id<|.r [8]<|.lb 9 C id<|.ln 10 C id<|.r [11]<|GA.Bz (i:=12) AA (fun fZ bL=>DO d aY (h1.ta.ext bL) (h2.ta.ext bL) (h3.ta.ext bL) (w:=fZ) (F:=all)) ?_
  have cM:(Ao d aY).toNat< d.files.length:=(by exact Ig p3 ‹_›)
  refine GA.idx (i:=13) ((Ao d aY).toNat) (len:=d.files.length) (z:=Ao d aY) (sz:=3) AA (by exact Ih p3 ‹_›) cM (h1.addr (Nat.zero_lt_of_lt cM))<|.r [14] ?_
  obtain ⟨bI,ba⟩:∃ y,d.files[(Ao d aY).toNat]? = some y:=⟨_,AP AB⟩
  have hD:=AX ba; have f0:=AQ ba
  obtain ⟨_,⟨jh,ji,jj,jk,jl,jm,rfl,am,ao⟩,ez⟩:=h1.elem ((Ao d aY).toNat) bI ba
  have eA:=am.len
  subst eA
  have hE:=am.max
  have eB:=ao.len
  subst eB
  have hH:=ao.max
  refine .lg 15 1 ez id<|.tw 16 17 ?_ ?_
  ·refine .cl (fun cN aS=>De bH.part bI.part (ak.ta.ext aS) (al.ta.ext aS) (am.ta.ext aS) (ao.ta.ext aS) (p4 _ ‹_›) (p4 _ ‹_›) (w:=cN) (F:=all)) ?_
   intro cN aS
   replace ⟨h2,h3,C,ak,al,am,ao,E,ah⟩:=(se [ag] aS).g9 h2 h3 C ak al am ao E ah
   rintro jn jo ⟨⟨_,rfl,⟨f5,jp,f6,f7,jq,f8,rfl,aD,aE⟩⟩,bM⟩
   have bN:=al1 C.lt
   have cO:Gb w.heap.size cN.heap.size:=E.size
   have hkeep_:=bM
   replace ⟨h2,h3,C,ak,al,am,ao,E,ah⟩:=(se [ag] bM).g9 h2 h3 C ak al am ao E ah
   refine ⟨Ext.chg hkeep_,?_⟩
   have aD:=aD.fr bN cO
   have hJ:=aD.max
   have aE:=aE.fr bN cO
   have hN:=aE.max
   have eC:=aD.len
   subst eC
   have eD:=aE.len
   subst eD
   refine .go 17<|.nw (fun b=>.pointer (some ⟨b,0,none⟩)) 42 [.slice none 0 0,.slice none 0 0] fun jr cP=>?_
   replace ⟨h2,h3,C,ak,al,am,ao,aD,aE,E,ah⟩:=(se [ag] cP).g11 h2 h3 C ak al am ao aD aE E ah
   intro eh js bO cQ bP eE
   have eF:=ah.cn bO
   replace ⟨h2,h3,C,ak,al,am,ao,aD,aE,E,ah⟩:=(sn [ag] cQ bO).g11 h2 h3 C ak al am ao aD aE E ah
   refine .d fun jt cR=>?_
   replace ⟨h2,h3,C,ak,al,am,ao,aD,aE,bP,E,ah⟩:=(se [eh,ag] cR).g12 h2 h3 C ak al am ao aD aE bP E ah
   exact ⟨(eh,f5,bH,bI,f6,f7,f8),⟨AA,AA,AA,AA,AA,AA,trivial⟩,⟨ah,(Ac eF),bP,aD,aE,aZ,ba⟩⟩
  refine .nw (fun b=>.pointer (some ⟨b,0,none⟩)) 42 [.slice none 0 0,.slice none 0 0] fun ju cS=>?_
  replace ⟨h2,h3,C,ak,al,am,ao,E,ah⟩:=(se [ag] cS).g9 h2 h3 C ak al am ao E ah
  intro cj jv bQ cT aF eG
  have eH:=ah.cn bQ
  replace ⟨h2,h3,C,ak,al,am,ao,E,ah⟩:=(sn [ag] cT bQ).g9 h2 h3 C ak al am ao E ah
  refine .go 16<|.cl (fun cU aT=>De bH.part bI.part (ak.ta.ext aT) (al.ta.ext aT) (am.ta.ext aT) (ao.ta.ext aT) (p4 _ ‹_›) (p4 _ ‹_›) (w:=cU) (F:=all)) ?_
  intro cU aT
  replace ⟨h2,h3,C,aF,E,ah⟩:=(se [cj,ag] aT).g6 h2 h3 C aF E ah
  rintro jw jx ⟨⟨_,rfl,⟨f9,jy,ga,gb,jz,gf,rfl,bc,bd⟩⟩,bR⟩
  have bS:=al2 aF.lt C.lt
  have cV:Gb w.heap.size cU.heap.size:=E.size
  have hkeep_:=bR
  replace ⟨h2,h3,C,aF,E,ah⟩:=(se [cj,ag] bR).g6 h2 h3 C aF E ah
  refine ⟨Ext.chg hkeep_,?_⟩
  have bc:=bc.fr bS cV
  have hO:=bc.max
  have bd:=bd.fr bS cV
  have hQ:=bd.max
  have eI:=bc.len
  subst eI
  have eJ:=bd.len
  subst eJ
  refine .d fun jA cW=>?_
  replace ⟨h2,h3,C,aF,bc,bd,E,ah⟩:=(se [cj,ag] cW).g8 h2 h3 C aF bc bd E ah
  exact ⟨(cj,f9,bH,bI,ga,gb,gf),⟨AA,AA,AA,AA,AA,AA,trivial⟩,⟨ah,(Ac eH),aF,bc,bd,aZ,ba⟩⟩
 rintro ⟨ae,bk,aM,av,bm,bn,bo⟩ jB bG ⟨cX,bu,gh,O,W,cY,cZ⟩
 have hV:=Ab bu C.lt
 have hW:Cov nil w ae:=BR bu E.size
 replace ⟨h2,h3,C,E⟩:=(sz [ag] cX bu).g4 h2 h3 C E
 have ia:=O.len; have ic:=O.max
 have ie:=W.len; have ig:=W.max
 have ii:=AX cY; have gi:=AQ cY
 have ij:=AX cZ; have gj:=AQ cZ
 refine .sc [.slice bk (((BT aM.part av.part).ids).length) bm,.slice bn (((BT aM.part av.part).blocks).length) bo] gh fun aV c7 J eK=>?_
 replace ⟨h2,h3,C,O,W,E⟩:=(so [ae,ag] c7).g6 h2 h3 C O W E
 refine .d<|.s<|T.Du (X:=Nat × Nat × (Option Addr) × Nat) (mtb [] aV.heap.size) 15 (fun (aL,ck,cm,co)=>[(2,.pointer (some ⟨ag,0,none⟩)),(5,vI aX),(6,vI aY),(7,.pointer (some ⟨ae,0,none⟩)),(65,vS aL (0+((at_).toNat - 0)+1) ck),(70,.slice cm (d.list.length - (at_+2).toNat) co)]) (fun (aL,ck,cm,co) cp=>Ext aV cp∧aV.heap.size≤aL∧Own cp aL 3 (nin (ge w.heap.size) [aL,ae,ag]) (0+((at_).toNat - 0)+1) ck ((([]++((d.list.take ((at_).toNat)).drop 0))++[d.next]):List Int)∧RepS cp (nin (fo F w.heap.size) [aL,ae,ag]) cm (d.list.length - (at_+2).toNat) co (((d.list.take d.list.length).drop ((at_+2).toNat)):List Int)) AA (fun gk bv=>?_) ?_
 ·replace h2:=h2.Ah
  replace h3:=h3.Ah
  replace O:=O.Ah
  replace W:=W.Ah
  have bT:Gb (ag+1) aV.heap.size:=C.lt
  replace ⟨h2,h3,C,J,O,W,E⟩:=(se [ae,ag] bv).g7 h2 h3 C J O W E
  have aa:=bv
  have ab:Chg (mtb [] aV.heap.size) aV gk:=Chg.Cc (Chg.refl (mtb [] aV.heap.size) aV) bv
  refine .r [1]<|.lb 2 C (Ax all_nil bT)<|.r [3]<|GA.sub (i:=4) (t:=24) (lo:=none) (hi:=some (vI at_)) AA h2 0 ((at_).toNat) AA AA (.inl ⟨rfl,rfl⟩) (.inr ⟨_,_,rfl,by omega⟩) AB AB fun c8 c9 af=>?_
  have ik:=af.len; have il:=af.max
  refine .r [6]<|.lb 7 C (Ax all_nil bT)<|.r [10]<|.lb 11 C (Ax all_nil bT)<|.r [12]<|GA.int (i:=13) (at_+2) AA AB<|GA.sub (i:=14) (t:=24) (lo:=some (vI (at_+2))) (hi:=none) AA h2 ((at_+2).toNat) d.list.length AA AA (.inr ⟨_,_,rfl,by omega⟩) (.inl ⟨rfl,rfl⟩) AB AB fun da db ac=>?_
  have im:=ac.len; have io:=ac.max
  refine .tw 0 8 ?_ ?_
  ·refine .ns 0 3 [] fun jC de=>?_
   replace ⟨h3,C,J,O,W,af,ac,E,aa,ab⟩:=(se [ae,ag] de).g10 h3 C J O W af ac E aa ab
   intro aC gl aN df eL eM
   have dg:=AS aN C.lt
   have dh:=AS aN J.lt
   have dj:=E.cn aN
   have dm:=aa.cn aN
   have bw:=ab.cn aN
   replace ⟨h3,C,J,O,W,af,ac,E,aa,ab⟩:=(sn [ae,ag] df aN).g10 h3 C J O W af ac E aa ab
   have aw:Own (α:=Int) gl aC 3 (nin (ge w.heap.size) [aC,ae,ag]) 0 0 []:=Own.Ag eL
   refine .tw 5 8 ?_ ?_
   ·refine GE.append (T:=24) (ty:=24) (args:=[vS aC 0 0,.slice c8 ((at_).toNat - 0) c9]) AA fun jD dp=>?_
    replace ⟨h3,C,J,O,W,af,ac,aw,E,aa,ab⟩:=(se [aC,ae,ag] dp).g11 h3 C J O W af ac aw E aa ab
    obtain ⟨aW,gm,jE,dq,au,ay,bU,eN⟩:=Own.Ay (P:=Tryz.prog) (T:=24) (ty:=24) BF aw AA af (fun b h e=>h.2 (e▸AD)) AB
    refine ⟨_,_,dq,Chg.toS bU (Cov.toS bw),?_⟩
    have ip:=Ae ay dg C.lt
    have iq:=Ae ay dh J.lt
    have ir:=Am ay dj E.size
    have eO:=Am ay dm aa.size
    have eP:=Am ay bw ab.size
    replace ⟨h3,C,J,O,W,af,ac,E,aa,ab⟩:=(sa [aC,ae,ag] bU ay).g10 h3 C J O W af ac E aa ab
    replace au:=au.rn aC
    have iu:=au.len; have iw:=au.max
    refine .go 8<|.ns 1 3 [vI d.next] fun jF dr=>?_
    replace ⟨h3,C,J,O,W,af,ac,au,E,aa,ab⟩:=(se [aW,ae,ag] dr).g11 h3 C J O W af ac au E aa ab
    intro dt jG bg du bV eQ
    have eR:=AS bg C.lt
    have eS:=AS bg J.lt
    have dv:=AS bg au.lt
    have eT:=Ad bg E.size
    replace ⟨h3,C,J,O,W,af,ac,au,E,aa,ab⟩:=(se [aW,ae,ag] du).g11 h3 C J O W af ac au E aa ab
    refine .go 9<|GE.append (T:=24) (ty:=24) (args:=[vS aW (0+((at_).toNat - 0)) gm,vS dt 1 1]) AA fun jH dw=>?_
    replace ⟨h3,C,J,O,W,af,ac,au,bV,E,aa,ab⟩:=(se [aW,ae,ag] dw).g12 h3 C J O W af ac au bV E aa ab
    have cB:nin (ge w.heap.size) [aW,ae,ag] dt∧dt≠aW:=BG eT (all_cons dv (all_cons eS (all_cons eR all_nil))) dv
    obtain ⟨ej,gn,jI,dx,aO,bz,bW,eU⟩:=au.Ap (P:=Tryz.prog) (T:=24) (ty:=24) (y:=d.next) AA bV rfl cB AB
    refine ⟨_,_,dx,Chg.toS bW (Cov.toS eP),?_⟩
    have eV:=Am bz eO aa.size
    replace ⟨h3,C,J,O,W,af,ac,E,aa,ab⟩:=(sa [aW,ae,ag] bW bz).g10 h3 C J O W af ac E aa ab
    replace aO:=aO.rn aW
    have iy:=aO.len; have iz:=aO.max
    refine .d fun jJ dy=>?_
    replace ⟨h3,C,J,O,W,af,ac,aO,E,aa,ab⟩:=(se [ej,ae,ag] dy).g11 h3 C J O W af ac aO E aa ab
    replace h3:=h3.AU
    replace O:=O.AU
    replace W:=W.AU
    replace af:=af.AU
    replace ac:=ac.AU
    exact ⟨(ej,gn,da,db),⟨AA,AA,AA,AA,AA,AA,trivial⟩,⟨aa,(Ac eV),aO,ac⟩⟩
   refine .ns 1 3 [vI d.next] fun jK dz=>?_
   replace ⟨h3,C,J,O,W,af,ac,aw,E,aa,ab⟩:=(se [aC,ae,ag] dz).g11 h3 C J O W af ac aw E aa ab
   intro dA jL bh dB aG eW
   have eX:=AS bh C.lt
   have eY:=AS bh J.lt
   have eZ:=AS bh aw.lt
   have e7:=Ad bh E.size
   replace ⟨h3,C,J,O,W,af,ac,aw,E,aa,ab⟩:=(se [aC,ae,ag] dB).g11 h3 C J O W af ac aw E aa ab
   refine .go 5<|GE.append (T:=24) (ty:=24) (args:=[vS aC 0 0,.slice c8 ((at_).toNat - 0) c9]) AA fun jM dC=>?_
   replace ⟨h3,C,J,O,W,af,ac,aw,aG,E,aa,ab⟩:=(se [aC,ae,ag] dC).g12 h3 C J O W af ac aw aG E aa ab
   obtain ⟨bq,gp,jN,dD,aP,ax,bX,e8⟩:=Own.Ay (P:=Tryz.prog) (T:=24) (ty:=24) BF aw AA af (fun b h e=>h.2 (e▸AD)) AB
   refine ⟨_,_,dD,Chg.toS bX (Cov.toS bw),?_⟩
   have iA:=Ae ax dg C.lt
   have iB:=Ae ax dh J.lt
   have dE:=Ae ax (Nb.symm eZ) aG.lt
   have iC:=Am ax dj E.size
   have fa:=Am ax dm aa.size
   have fb:=Am ax bw ab.size
   replace ⟨h3,C,J,O,W,af,ac,aG,E,aa,ab⟩:=(sa [aC,ae,ag] bX ax).g11 h3 C J O W af ac aG E aa ab
   replace aP:=aP.rn aC
   have iD:=aP.len; have iE:=aP.max
   refine .go 9<|GE.append (T:=24) (ty:=24) (args:=[vS bq (0+((at_).toNat - 0)) gp,vS dA 1 1]) AA fun jO dF=>?_
   replace ⟨h3,C,J,O,W,af,ac,aP,aG,E,aa,ab⟩:=(se [bq,ae,ag] dF).g12 h3 C J O W af ac aP aG E aa ab
   have cC:nin (ge w.heap.size) [bq,ae,ag] dA∧dA≠bq:=BG e7 (all_cons (Nb.symm dE) (all_cons eY (all_cons eX all_nil))) (Nb.symm dE)
   obtain ⟨ek,gq,jP,dG,aQ,bA,bY,fc⟩:=aP.Ap (P:=Tryz.prog) (T:=24) (ty:=24) (y:=d.next) AA aG rfl cC AB
   refine ⟨_,_,dG,Chg.toS bY (Cov.toS fb),?_⟩
   have fd:=Am bA fa aa.size
   replace ⟨h3,C,J,O,W,af,ac,E,aa,ab⟩:=(sa [bq,ae,ag] bY bA).g10 h3 C J O W af ac E aa ab
   replace aQ:=aQ.rn bq
   have iF:=aQ.len; have iG:=aQ.max
   refine .d fun jQ dH=>?_
   replace ⟨h3,C,J,O,W,af,ac,aQ,E,aa,ab⟩:=(se [ek,ae,ag] dH).g11 h3 C J O W af ac aQ E aa ab
   replace h3:=h3.AU
   replace O:=O.AU
   replace W:=W.AU
   replace af:=af.AU
   replace ac:=ac.AU
   exact ⟨(ek,gq,da,db),⟨AA,AA,AA,AA,AA,AA,trivial⟩,⟨aa,(Ac fd),aQ,ac⟩⟩
  refine .ns 1 3 [vI d.next] fun jR dI=>?_
  replace ⟨h3,C,J,O,W,af,ac,E,aa,ab⟩:=(se [ae,ag] dI).g10 h3 C J O W af ac E aa ab
  intro dJ jS bB dK aq fe
  have ff:=AS bB C.lt
  have fg:=AS bB J.lt
  have fh:=Ad bB E.size
  replace ⟨h3,C,J,O,W,af,ac,E,aa,ab⟩:=(se [ae,ag] dK).g10 h3 C J O W af ac E aa ab
  refine .go 0<|.ns 0 3 [] fun jT dL=>?_
  replace ⟨h3,C,J,O,W,af,ac,aq,E,aa,ab⟩:=(se [ae,ag] dL).g11 h3 C J O W af ac aq E aa ab
  intro br gr aH dM fi fj
  have fk:=AS aH C.lt
  have fm:=AS aH J.lt
  have fp:=AS aH aq.lt
  have fq:=E.cn aH
  have ft:=aa.cn aH
  have dN:=ab.cn aH
  replace ⟨h3,C,J,O,W,af,ac,aq,E,aa,ab⟩:=(sn [ae,ag] dM aH).g11 h3 C J O W af ac aq E aa ab
  have bZ:Own (α:=Int) gr br 3 (nin (ge w.heap.size) [br,ae,ag]) 0 0 []:=Own.Ag fi
  refine .go 5<|GE.append (T:=24) (ty:=24) (args:=[vS br 0 0,.slice c8 ((at_).toNat - 0) c9]) AA fun jU dO=>?_
  replace ⟨h3,C,J,O,W,af,ac,aq,bZ,E,aa,ab⟩:=(se [br,ae,ag] dO).g12 h3 C J O W af ac aq bZ E aa ab
  obtain ⟨bt,gs,jV,cD,aR,ar,bC,dQ⟩:=Own.Ay (P:=Tryz.prog) (T:=24) (ty:=24) BF bZ AA af (fun b h e=>h.2 (e▸AD)) AB
  refine ⟨_,_,cD,Chg.toS bC (Cov.toS dN),?_⟩
  have gv:=Ae ar fk C.lt
  have gw:=Ae ar fm J.lt
  have cq:=Ae ar fp aq.lt
  have gx:=Am ar fq E.size
  have dR:=Am ar ft aa.size
  have dS:=Am ar dN ab.size
  replace ⟨h3,C,J,O,W,ac,aq,E,aa⟩:=(sa [br,ae,ag] bC ar).g9 h3 C J O W ac aq E aa
  replace aR:=aR.rn br
  have gy:=aR.len; have gz:=aR.max
  refine .go 9<|GE.append (T:=24) (ty:=24) (args:=[vS bt (0+((at_).toNat - 0)) gs,vS dJ 1 1]) AA fun iH cr=>?_
  replace ⟨h3,C,J,O,W,ac,aq,aR,E,aa⟩:=(se [bt,ae,ag] cr).g10 h3 C J O W ac aq aR E aa
  have b0:nin (ge w.heap.size) [bt,ae,ag] dJ∧dJ≠bt:=BG fh (all_cons (Nb.symm cq) (all_cons fg (all_cons ff all_nil))) (Nb.symm cq)
  obtain ⟨dP,fu,iI,cE,az,bi,bD,dT⟩:=aR.Ap (P:=Tryz.prog) (T:=24) (ty:=24) (y:=d.next) AA aq rfl b0 AB
  refine ⟨_,_,cE,Chg.toS bD (Cov.toS dS),?_⟩
  have dU:=Am bi dR aa.size
  replace ⟨h3,C,J,O,W,ac,E,aa⟩:=(sa [bt,ae,ag] bD bi).g8 h3 C J O W ac E aa
  replace az:=az.rn bt
  have gA:=az.len; have gC:=az.max
  refine .d fun iJ cu=>?_
  replace ⟨h3,C,J,O,W,ac,az,E,aa⟩:=(se [dP,ae,ag] cu).g9 h3 C J O W ac az E aa
  replace h3:=h3.AU
  replace O:=O.AU
  replace W:=W.AU
  replace ac:=ac.AU
  exact ⟨(dP,fu,da,db),⟨AA,AA,AA,AA,AA,AA,trivial⟩,⟨aa,(Ac dU),az,ac⟩⟩
 rintro ⟨aL,ck,cm,co⟩ iK cp ⟨cv,aJ,b6,b7⟩
 have dV:=Ab aJ C.lt
 have dW:=Ab aJ J.lt
 have dX:=Bd aJ E.size
 have gD:Cov nil w aL:=BR aJ E.size
 replace ⟨h3,C,J,O,W,E⟩:=(sz [ae,ag] cv aJ).g6 h3 C J O W E
 have gE:=b6.len; have gF:=b6.max
 have gG:=b7.len; have gH:=b7.max
 refine RG.Ay (T:=24) (ty:=24) BF b6 b7 AA AA (fun b h e=>h.2 (e▸AD)) AB fun aA fv iL ai aI cw=>?_
 have gI:=Ae aI dV C.lt
 have gJ:=Ae aI dW J.lt
 have dY:=Bt aI dX E.size
 replace ⟨h3,C,J,O,W,E⟩:=(sa [aL,ae,ag] cw aI).g6 h3 C J O W E
 replace ai:=ai.rn aL
 have gK:=ai.len; have gL:=ai.max
 refine .r 1<|.d<|.s<|.gd nil 13 fun iM cx=>?_
 replace ⟨h3,C,J,O,W,ai,E⟩:=(se [aA,ae,ag] cx).g7 h3 C J O W ai E
 refine .r [0]<|.lb 1 C id<|.ln 2 J id<|.r [3,4,5]<|.lb 6 C id<|.r [9,10,11,12]<|.go 7<|.cl (fun b8 bE=>Cf d.names (h3.ta.ext bE) AB (by intro n hn; have:=p1 n hn; omega) (w:=b8) (F:=all)) ?_
 intro b8 bE
 replace ⟨C,J,O,W,ai,E⟩:=(se [aA,ae,ag] bE).g6 C J O W ai E
 rintro iN iO ⟨⟨aU,fw,fz,rfl,aj,aK⟩,bF⟩
 have cy:=al3 ai.lt J.lt C.lt
 have dZ:Gb w.heap.size b8.heap.size:=E.size
 have hkeep_:=bF
 have gM:=Ab aK C.lt
 have gN:=Ab aK J.lt
 have gO:=Ab aK ai.lt
 have d0:=Bd aK E.size
 replace ⟨C,J,O,W,ai,E⟩:=(sz [aA,ae,ag] bF aK).g6 C J O W ai E
 refine ⟨Ext.chg hkeep_,?_⟩
 replace aj:=Own.take (s0:=w.heap.size) (M:=[aA,ae,ag]) aj cy dZ
 have gP:=aj.len; have gQ:=aj.max
 refine .r [8]<|.d fun iP cz=>?_
 replace ⟨C,J,O,W,ai,aj,E⟩:=(se [aU,aA,ae,ag] cz).g7 C J O W ai aj E
 refine .ns 4 44 [vI 1,vI d.next,.slice bk (((BT aM.part av.part).ids).length) bm,.slice bn (((BT aM.part av.part).blocks).length) bo,.slice none 0 0,.slice none 0 0,vI 2,vI 0,.slice none 0 0,.slice none 0 0,vS aA (0+((at_).toNat - 0)+1+(d.list.length - (at_+2).toNat)) fv,vS aU fw fz,vI 3,vI aX,.slice none 0 0,.slice none 0 0,.slice none 0 0,.slice none 0 0,vI 3,vI aY,.slice none 0 0,.slice none 0 0,.slice none 0 0,.slice none 0 0] fun bj b9 aB cA d3 d4=>?_
 have gR:=AS aB C.lt
 have gS:=AS aB J.lt
 have gT:=AS aB ai.lt
 have gU:=AS aB aj.lt
 have d5:=Ad aB E.size
 replace ⟨O,W,ai,aj,E⟩:=(sn [aU,aA,ae,ag] cA aB).g5 O W ai aj E
 have cd:=ai.sl dY
 replace ⟨O,W,aj⟩:=(sd b9 [bj,aU,aA,ae,ag] aA).g3 O W aj
 have fA:=aj.sl d0
 replace ⟨O,W,cd⟩:=(sd b9 [bj,aU,ae,ag] aU).g3 O W cd
 have d6:Own (α:=Stp) b9 bj 44 (nin (ge w.heap.size) [bj,ae,ag]) 4 4 [(⟨1,d.next,(⟨(BT aM.part av.part).ids,(BT aM.part av.part).blocks⟩:Prt),([]:List Int),([]:List (List Tag))⟩:Stp),(⟨2,0,(⟨([]:List Int),([]:List (List Row))⟩:Prt),((([]++((d.list.take ((at_).toNat)).drop 0))++[d.next])++((d.list.take d.list.length).drop ((at_+2).toNat))),d.names⟩:Stp),(⟨3,aX,(⟨([]:List Int),([]:List (List Row))⟩:Prt),([]:List Int),([]:List (List Tag))⟩:Stp),(⟨3,aY,(⟨([]:List Int),([]:List (List Row))⟩:Prt),([]:List Int),([]:List (List Tag))⟩:Stp)]:=Own.lit d3 rfl (by decide) ⟨⟨_,_,_,_,_,_,_,_,_,_,_,_,rfl,O.oi,W.oi,(RepS.Ag _ _ none 0 (by decide)),(RepS.Ag _ _ none 0 (by decide))⟩,⟨_,_,_,_,_,_,_,_,_,_,_,_,rfl,(RepS.Ag _ _ none 0 (by decide)),(RepS.Ag _ _ none 0 (by decide)),cd.oi,fA.oi⟩,⟨_,_,_,_,_,_,_,_,_,_,_,_,rfl,(RepS.Ag _ _ none 0 (by decide)),(RepS.Ag _ _ none 0 (by decide)),(RepS.Ag _ _ none 0 (by decide)),(RepS.Ag _ _ none 0 (by decide))⟩,⟨_,_,_,_,_,_,_,_,_,_,_,_,rfl,(RepS.Ag _ _ none 0 (by decide)),(RepS.Ag _ _ none 0 (by decide)),(RepS.Ag _ _ none 0 (by decide)),(RepS.Ag _ _ none 0 (by decide))⟩,rfl⟩
 refine .r 1<|.d ?_
 have fB:=d6.sl d5
 exact .rt Tryz.func75 Tryz.results75 (vS bj 4 4) ⟨(fB.vl (by rw [K6 ‹_› ‹_› ‹_› ‹_› ‹_› ‹_› ‹_›]) (fun _ _ h=>h.1)),E⟩
end Go.Proofs.YtganlmloonielaaGreat
namespace Go.Proofs.YtganlmloonielaaGreat
def Blk (b:List Row):Prop:=CG none b=true
theorem Bi {o:Option Row} {r:Row} {rs:List Row}:CG o (r::rs)=true↔Bw r=true∧(∀ q,o=some q→q.t< r.t)∧CG (some r) rs=true:=by
 simp only [CG,AR]
 cases o <;> simp [and_assoc]
theorem MZ {o:Option Row} {b:List Row} (h:CG o b=true):Blk b:=by
 cases b with
 | nil=>rfl
 | cons r rs=>exact Bi.2 ⟨(Bi.1 h).1,by simp,(Bi.1 h).2.2⟩
theorem Jo {r:Row} (h:Bw r=true):0≤r.t∧r.t≤99:=by
 simp only [Bw,AR] at h
 exact CN h.1
theorem OZ {r:Row} (h:Bw r=true):-99≤r.v∧r.v≤99:=by
 simp only [Bw,AR] at h
 exact CN h.2
theorem Nc:∀ (b:List Row) (q:Row),CG (some q) b=true→q.t≤99→(b.length:Int)≤99 - q.t:=by
 intro b
 induction b with
 | nil=>intro q _ h; simp; omega
 | cons r rs ih =>
   intro q h hq
   obtain ⟨h1,h2,h3⟩:=Bi.1 h
   have h4:=h2 q rfl
   have h5:=Jo h1
   have h6:=ih r h3 AB
   simp only [List.length_cons]
   omega
theorem Blk.len {b:List Row} (h:Blk b):b.length≤100:=by
 cases b with
 | nil=>simp
 | cons r rs =>
   obtain ⟨h1,_,h3⟩:=Bi.1 h
   have h5:=Jo h1
   have h6:=Nc rs r h3 AB
   simp only [List.length_cons]
   omega
theorem Ma:∀ (b:List Row) (o:Option Row),CG o b=true→∀ r∈b,Bw r=true:=by
 intro b
 induction b with
 | nil=>intro o _ r hr; cases hr
 | cons x xs ih =>
   intro o h r hr
   obtain ⟨h1,_,h3⟩:=Bi.1 h
   rcases List.mem_cons.1 hr with rfl | hr
   ·exact h1
   ·exact ih _ h3 r hr
theorem Blk.rows {b:List Row} (h:Blk b):∀ r∈b,Bw r=true:=Ma b none h
theorem K7:∀ (b:List Row) (q:Row),CG (some q) b=true→∀ r∈b,q.t< r.t:=by
 intro b
 induction b with
 | nil=>intro q _ r hr; cases hr
 | cons x xs ih =>
   intro q h r hr
   obtain ⟨_,h2,h3⟩:=Bi.1 h
   have h4:=h2 q rfl
   rcases List.mem_cons.1 hr with rfl | hr
   ·exact h4
   ·have:=ih x h3 r hr; omega
def DA (r:Row):List Row→List Row
 | []=>[r]
 | x::xs=>if r.t< x.t then r::x::xs else if r.t=x.t then r::xs else x::DA r xs
theorem K8 (r:Row):∀ (b out:List Row),(∀ x∈b,r.t< x.t)→Cm out r true b=out++b:=by
 intro b
 induction b with
 | nil=>intro out _; simp [Cm]
 | cons x xs ih =>
   intro out h
   have h1:=h x (by simp)
   have h2:(x.t != r.t)=true:=by simp; omega
   unfold Cm
   simp only [Bool.not_true,Bool.false_and,if_neg,h2,if_true]
   rw [if_neg (by simp),ih _ (fun y hy=>h y (by simp [hy]))]
   simp
theorem QX (r:Row):∀ (b out:List Row) (o:Option Row),CG o b=true→Cm out r false b=out++DA r b:=by
 intro b
 induction b with
 | nil=>intro out o _; simp [Cm,DA]
 | cons x xs ih =>
   intro out o h
   obtain ⟨_,_,h3⟩:=Bi.1 h
   have hg:=K7 xs x h3
   unfold Cm DA
   by_cases h1:r.t< x.t
   ·have e1:(x.t != r.t)=true:=by simp; omega
    have e2:(!false&&decide (x.t≥r.t))=true:=by simp; omega
    rw [if_pos e2,if_pos e1,if_pos h1,K8 r xs _ (fun y hy=>by have:=hg y hy; omega)]
    simp
   ·by_cases h2:r.t=x.t
    ·have e1:¬ (x.t != r.t)=true:=by simp; omega
     have e2:(!false&&decide (x.t≥r.t))=true:=by simp; omega
     rw [if_pos e2,if_neg e1,if_neg h1,if_pos h2,K8 r xs _ (fun y hy=>by have:=hg y hy; omega)]
     simp
    ·have e1:(x.t != r.t)=true:=by simp; omega
     have e2:¬ (!false&&decide (x.t≥r.t))=true:=by simp; omega
     rw [if_neg e2,if_pos e1,if_neg h1,if_neg h2,ih _ _ h3]
     simp
theorem Fi {b:List Row} (h:Blk b) (r:Row):Di b r=DA r b:=by
 unfold Di
 rw [QX r b [] none h]
 rfl
theorem Sc {r:Row} (hr:Bw r=true):∀ (b:List Row) (o:Option Row),CG o b=true→(∀ q,o=some q→q.t< r.t)→CG o (DA r b)=true:=by
 intro b
 induction b with
 | nil=>intro o _ ho; exact Bi.2 ⟨hr,ho,rfl⟩
 | cons x xs ih =>
   intro o h ho
   obtain ⟨h1,h2,h3⟩:=Bi.1 h
   unfold DA
   split
   ·exact Bi.2 ⟨hr,ho,Bi.2 ⟨h1,fun q hq=>by cases hq; assumption,h3⟩⟩
   ·split
    ·rename_i _ he
     refine Bi.2 ⟨hr,ho,?_⟩
     cases xs with
     | nil=>rfl
     | cons y ys =>
       obtain ⟨g1,g2,g3⟩:=Bi.1 h3
       exact Bi.2 ⟨g1,fun q hq=>by cases hq; have:=g2 x rfl; omega,g3⟩
    ·exact Bi.2 ⟨h1,h2,ih _ h3 (fun q hq=>by cases hq; omega)⟩
theorem Blk.put {b:List Row} (h:Blk b) {r:Row} (hr:Bw r=true):Blk (Di b r):=by
 rw [Fi h]
 exact Sc hr b none h (by simp)
theorem Blk.nil:Blk []:=rfl
theorem Blk.foldl {b:List Row}:∀ {a:List Row},Blk a→(∀ r∈b,Bw r=true)→Blk (b.foldl Di a):=by
 induction b with
 | nil=>intro a h _; exact h
 | cons x xs ih=>intro a h hr; exact ih (h.put (hr x (by simp))) (fun r hr'=>hr r (by simp [hr']))
theorem Blk.merge {a b:List Row} (ha:Blk a) (hb:Blk b):Blk (Bk a b):=Blk.foldl ha hb.rows
structure PrtI (p:Prt):Prop where
 len:p.ids.length=p.blocks.length
 le:p.blocks.length≤6
 blk:∀ b∈p.blocks,Blk b
theorem PrtI.sz {p:Prt} (h:PrtI p):Cw p:=⟨h.len,by have:=h.le; omega,fun b hb=>by have:=(h.blk b hb).len; omega⟩
theorem PrtI.nil:PrtI ⟨[],[]⟩:=⟨rfl,by simp,by simp⟩
theorem PrtI.of {p:Prt} (h:PrtI p) (id:Int):Blk (partOf p id):=by
 rcases Ie id p.ids p.blocks with h1 | h1
 ·unfold partOf; rw [h1]; exact Blk.nil
 ·exact h.blk _ h1
theorem K9:∀ (bs:List (List Row)) (i:Nat),(BY i bs).1.length=(BY i bs).2.length∧(BY i bs).2.length≤bs.length∧∀ b∈(BY i bs).2,b∈bs:=by
 intro bs
 induction bs with
 | nil=>intro i; simp [BY]
 | cons b bs ih =>
   intro i
   obtain ⟨h1,h2,h3⟩:=ih (i+1)
   unfold BY
   split
   ·refine ⟨by simp [h1],by simp; omega,fun x hx=>?_⟩
    rcases List.mem_cons.1 hx with rfl | hx
    ·simp
    ·exact List.mem_cons_of_mem _ (h3 x hx)
   ·exact ⟨h1,by simp; omega,fun x hx=>List.mem_cons_of_mem _ (h3 x hx)⟩
theorem PrtI.make {bs:List (List Row)} (hl:bs.length≤6) (h:∀ b∈bs,Blk b):PrtI (DI bs):=by
 obtain ⟨h1,h2,h3⟩:=K9 bs 0
 exact ⟨h1,by unfold DI; dsimp only; omega,fun b hb=>h b (h3 b hb)⟩
theorem PrtI.merge {p q:Prt} (hp:PrtI p) (hq:PrtI q):PrtI (BT p q):=by
 refine PrtI.make (by rw [Dn]; omega) (fun b hb=>?_)
 simp only [Be,List.mem_map] at hb
 obtain ⟨i,_,rfl⟩:=hb
 exact (hp.of _).merge (hq.of _)
theorem QY:∀ (mem:List Smp) (bl:List (List Row)),bl.length=6→(∀ b∈bl,Blk b)→(∀ m∈mem,Bw m.row=true)→(mem.foldl GJ bl).length=6∧∀ b∈mem.foldl GJ bl,Blk b:=by
 intro mem
 induction mem with
 | nil=>intro bl h1 h2 _; exact ⟨h1,h2⟩
 | cons m ms ih =>
   intro bl h1 h2 h3
   refine ih (GJ bl m) (by rw [QP,h1]) (fun b hb=>?_) (fun x hx=>h3 x (by simp [hx]))
   unfold GJ at hb
   rcases List.mem_or_eq_of_mem_set hb with hb | rfl
   ·exact h2 b hb
   ·refine Blk.put ?_ (h3 m (by simp))
    rw [List.getD_eq_getElem?_getD]
    cases hx:bl[(m.id - 1).toNat]? with
    | none=>exact Blk.nil
    | some y=>exact h2 y (AQ hx)
theorem PrtI.mem {mem:List Smp} (h:∀ m∈mem,Bw m.row=true):PrtI (BK mem):=by
 obtain ⟨h1,h2⟩:=QY mem [[],[],[],[],[],[]] rfl (by simp [Blk.nil]) h
 exact PrtI.make AB h2
structure NmI (names:List (List Tag)):Prop where
 len:names.length≤6
 ok:∀ n∈names,BS n=true
 nodup:(names.map text).Nodup
theorem Dy {lo hi:Int} {s:Str} (h:J2 lo hi s=true):s.length=1:=by
 match s,h with
 | [x],_=>rfl
 | [],h=>simp [J2] at h
 | x::y::r,h=>simp [J2] at h
theorem EL:∀ (n:List Tag) (o:Option Tag),Dl o n=true→∀ t∈n,Bg t=true:=by
 intro n
 induction n with
 | nil=>intro o _ t ht; cases ht
 | cons x xs ih =>
   intro o h t ht
   simp only [Dl,AR] at h
   rcases List.mem_cons.1 ht with rfl | ht
   ·exact h.1.1
   ·exact ih _ h.2 t ht
theorem PL {n:List Tag} (h:BS n=true):n.length≤3∧Fg n:=by
 simp only [BS,AR] at h
 have h1:=CN h.2
 refine ⟨by omega,by omega,fun t ht=>?_⟩
 have h2:=EL n none h.1 t ht
 simp only [Bg,AR] at h2
 have h3:=Dy h2.1
 have h4:=Dy h2.2
 omega
theorem NmI.sz {names:List (List Tag)} (h:NmI names):∀ n∈names,Fg n:=fun n hn=>(PL (h.ok n hn)).2
theorem Mb (t:Str):∀ (ns:List (List Tag)) (i:Nat),(nmF t i ns=0∧t∉ns.map text)∨((i:Int)< nmF t i ns∧nmF t i ns≤i+ns.length∧t∈ns.map text):=by
 intro ns
 induction ns with
 | nil=>intro i; simp [nmF]
 | cons x xs ih =>
   intro i
   unfold nmF
   by_cases h:text x=t
   ·right
    simp [h]
    omega
   ·have h1:¬ (text x==t)=true:=by simpa using h
    rw [if_neg h1]
    rcases ih (i+1) with ⟨h2,h3⟩ | ⟨h2,h3,h4⟩
    ·left
     refine ⟨h2,?_⟩
     simp only [List.map_cons,List.mem_cons,not_or]
     exact ⟨fun e=>h e.symm,h3⟩
    ·right
     refine ⟨by omega,by simp only [List.length_cons]; omega,?_⟩
     simp only [List.map_cons,List.mem_cons]
     exact .inr h4
theorem NmI.add {names:List (List Tag)} {ps:List Pst} (h:NmI names) {n:List Tag} (hn:BS n=true) (h0:¬ GP ⟨names,ps⟩ n > 0) (hl:names.length< 6):NmI (names++[n]):=by
 refine ⟨by simp; omega,fun m hm=>?_,?_⟩
 ·rcases List.mem_append.1 hm with hm | hm
  ·exact h.ok m hm
  ·simp at hm; rw [hm]; exact hn
 ·rw [List.map_append]
  refine List.nodup_append.2 ⟨h.nodup,by simp,fun a ha b hb=>?_⟩
  simp at hb
  subst hb
  rintro rfl
  rcases Mb (text n) names 0 with ⟨h2,h3⟩ | ⟨h2,_,_⟩
  ·exact h3 ha
  ·exact h0 (by unfold GP; simpa using h2)
structure StoI (s:Sto):Prop where
 idx:s.idx=idxOf s.idx.names
 nm:NmI s.idx.names
 np:s.parts.length≤6
 part:∀ p∈s.parts,PrtI p
 nm2:s.mem.length≤20
 mem:∀ m∈s.mem,1≤m.id∧m.id≤s.idx.names.length∧Bw m.row=true
theorem StoI.sz {s:Sto} (h:StoI s):MX s:=⟨⟨by have:=h.nm.len; omega,h.nm.sz⟩,by have:=h.np; omega,fun p hp=>(h.part p hp).sz,by have:=h.nm2; omega⟩
theorem StoI.copy {s:Sto} (h:StoI s):BO s=s:=by
 have:=h.idx
 unfold BO
 rw [← this]
theorem StoI.Hs {s:Sto} (h:StoI s):∀ m∈s.mem,1≤m.id∧m.id≤6:=fun m hm=>by
 have h1:=h.mem m hm
 have h2:=h.nm.len
 omega
theorem StoI.new:StoI ⟨⟨[],[]⟩,[],[]⟩:=⟨by rfl,⟨by simp,by simp,by simp⟩,by simp,by simp,by simp,by simp⟩
theorem UO {ix:Idx} (h:ix=idxOf ix.names) (hn:NmI ix.names) (n:List Tag) :
 (CI ix n).1=idxOf (CI ix n).1.names∧NmI (CI ix n).1.names∧ix.names.length≤(CI ix n).1.names.length∧((CI ix n).2.2=true→1≤(CI ix n).2.1∧(CI ix n).2.1≤(CI ix n).1.names.length):=by
 by_cases h1:GP ix n > 0
 ·rw [Hn h1]
  refine ⟨h,hn,Nat.le_refl _,fun _=>?_⟩
  rcases Mb (text n) ix.names 0 with ⟨h2,_⟩ | ⟨h2,h3,_⟩
  ·unfold GP at h1; omega
  ·unfold GP at h1 ⊢; simp only; omega
 ·by_cases h2:BS n=false∨(ix.names.length:Int)≥6
  ·rw [Fx h1 h2]
   exact ⟨h,hn,Nat.le_refl _,by simp⟩
  ·have h3:BS n=true:=by
    cases h4:BS n
    ·exact absurd (.inl h4) h2
    ·rfl
   have h4:¬ (ix.names.length:Int)≥6:=fun h=>h2 (.inr h)
   rw [Ho h1 h3 h4]
   refine ⟨rfl,?_,by simp [idxOf],fun _=>by simp [idxOf]; omega⟩
   exact NmI.add (ps:=ix.AV) hn h3 h1 AB
theorem StoI.add {s:Sto} (h:StoI s) (n:List Tag) (r:Row):StoI (C3 s n r).1:=by
 unfold C3
 split
 ·exact h
 ·rename_i h1
  split
  ·exact h
  ·simp only [Bool.or_eq_true,not_or] at h1
   obtain ⟨⟨h1,h2⟩,h3⟩:=h1
   obtain ⟨g1,g2,g3,g4⟩:=UO h.idx h.nm n
   have h5:=g4 (by simpa using h1)
   refine ⟨g1,g2,h.np,h.part,?_,fun m hm=>?_⟩
   ·have:¬ s.mem.length≥20:=by simpa using h3
    simp only [PK,List.length_append,List.length_cons,List.length_nil]; omega
   ·rcases List.mem_append.1 hm with hm | hm
    ·have:=h.mem m hm
     refine ⟨this.1,?_,this.2.2⟩
     have h6:=this.2.1
     show m.id≤((CI s.idx n).1.names.length:Int)
     omega
    ·simp at hm
     subst hm
     exact ⟨h5.1,h5.2,by simpa using h2⟩
theorem StoI.flush {s:Sto} (h:StoI s):StoI (At s).1:=by
 unfold At
 split
 ·exact h
 ·rename_i h1
  refine ⟨h.idx,h.nm,by simp; omega,fun p hp=>?_,by simp,by simp⟩
  rcases List.mem_append.1 hp with hp | hp
  ·exact h.part p hp
  ·simp at hp; subst hp; exact PrtI.mem (fun m hm=>(h.mem m hm).2.2)
theorem StoI.merge {s:Sto} (h:StoI s) (a:Int):StoI (Av s a).1:=by
 unfold Av
 split
 ·rename_i h1
  have h2:=CN h1
  have h3:a.toNat+1< s.parts.length:=by omega
  refine ⟨h.idx,h.nm,?_,fun p hp=>?_,h.nm2,h.mem⟩
  ·show (HO s.parts a.toNat).length≤6
   rw [Gq (AP AB) (AP h3)]
   have:=h.np
   simp only [List.length_append,List.length_take,List.length_drop,List.length_cons,List.length_nil]
   omega
  ·change p∈HO s.parts a.toNat at hp
   rw [Gq (AP AB) (AP h3)] at hp
   rcases List.mem_append.1 hp with hp | hp
   ·rcases List.mem_append.1 hp with hp | hp
    ·exact h.part p (List.mem_of_mem_take hp)
    ·simp at hp; subst hp
     exact (h.part _ (List.getElem_mem _)).merge (h.part _ (List.getElem_mem _))
   ·exact h.part p (List.mem_of_mem_drop hp)
 ·exact h
structure DskI (d:Dsk):Prop where
 nm:NmI d.names
 nf:d.files.length≤20
 file:∀ f∈d.files,PrtI f.part
 nl:d.list.length≤6
 there:∀ n∈d.list,∃ f∈d.files,f.num=n
 num:∀ n∈d.list,0≤n∧n≤999
 next:1≤d.next∧d.next≤999
theorem PM (n:Int):∀ (fs:List Fil) (i:Nat),0≤DH n i fs↔∃ f∈fs,f.num=n:=by
 intro fs
 induction fs with
 | nil=>intro i; simp [DH]
 | cons f fs ih =>
   intro i
   unfold DH
   by_cases h:f.num=n
   ·simp [h]
   ·have h1:¬ (f.num==n)=true:=by simpa using h
    rw [if_neg h1,ih]
    simp [h]
theorem E3 (d:Dsk) (n:Int):0≤Ao d n↔∃ f∈d.files,f.num=n:=PM n d.files 0
theorem DskI.at {d:Dsk} (h:DskI d):∀ n∈d.list,0≤Ao d n:=fun n hn=>(E3 d n).2 (h.there n hn)
theorem DskI.new:DskI ⟨[],[],[],1⟩:=⟨⟨by simp,by simp,by simp⟩,by simp,by simp,by simp,by simp,by simp,by simp⟩
theorem DskI.part {d:Dsk} (h:DskI d) (n:Int):PrtI (BD d n):=by
 unfold BD
 rw [List.getD_eq_getElem?_getD]
 cases hx:d.files[(Ao d n).toNat]? with
 | none=>exact PrtI.nil
 | some f=>exact h.file f (AQ hx)
theorem DskI.copy {d:Dsk} (h:DskI d):DskI (Az d):=by
 refine ⟨h.nm,by simp [Az]; exact h.nf,fun f hf=>?_,h.nl,fun n hn=>?_,h.num,h.next⟩
 ·simp only [Az,List.mem_map] at hf
  obtain ⟨g,hg,rfl⟩:=hf
  exact (h.file g hg).merge PrtI.nil
 ·obtain ⟨f,hf,he⟩:=h.there n hn
  exact ⟨KA f,by simp only [Az,List.mem_map]; exact ⟨f,hf,rfl⟩,he⟩
theorem DskI.tidy {d:Dsk} (h:DskI d):DskI (BH d):=by
 refine ⟨h.nm,Nat.le_trans (List.length_filter_le _ _) h.nf,fun f hf=>h.file f (List.mem_filter.1 hf).1,h.nl,fun n hn=>?_,h.num,h.next⟩
 obtain ⟨f,hf,he⟩:=h.there n hn
 exact ⟨f,List.mem_filter.2 ⟨hf,by rw [he]; have h1:n∈d.list:=hn; simpa using h1⟩,he⟩
theorem DskI.open {d:Dsk} (h:DskI d):StoI (Ai d):=by
 refine ⟨rfl,h.nm,by simp [Ai]; exact h.nl,fun p hp=>?_,by simp [Ai],by simp [Ai]⟩
 simp only [Ai,List.mem_map] at hp
 obtain ⟨n,_,rfl⟩:=hp
 exact h.part n
theorem DskI.gone {d:Dsk} (h:DskI d) (n:Int):DskI ⟨C4 d n,d.list,d.names,d.next⟩:=by
 unfold C4
 split
 ·rename_i h1
  refine ⟨h.nm,?_,fun f hf=>?_,h.nl,fun k hk=>?_,h.num,h.next⟩
  ·have:=h.nf
   simp only [List.length_append,List.length_take,List.length_drop]; omega
  ·rcases List.mem_append.1 hf with hf | hf
   ·exact h.file f (List.mem_of_mem_take hf)
   ·exact h.file f (List.mem_of_mem_drop hf)
  ·obtain ⟨f,hf,he⟩:=h.there k hk
   obtain ⟨i,hi,hif⟩:=List.mem_iff_getElem.1 hf
   have hne:k≠n:=by rintro rfl; have:=h1.2; simp at this; exact this hk
   have hat:∀ (fs:List Fil) (j:Nat) (g:Fil),0≤DH n j fs→fs[(DH n j fs).toNat - j]? = some g→g.num=n:=by
    intro fs
    induction fs with
    | nil=>intro j g hj; simp [DH] at hj
    | cons y ys ih =>
      intro j g hj hg
      unfold DH at hj hg
      by_cases hy:(y.num==n)=true
      ·rw [if_pos hy] at hg
       simp at hg
       subst hg
       simpa using hy
      ·rw [if_neg hy] at hj hg
       have h3:=Jn n ys (j+1)
       have h4:(DH n (j+1) ys).toNat - j=((DH n (j+1) ys).toNat - (j+1))+1:=by omega
       rw [h4,List.getElem?_cons_succ] at hg
       exact ih _ _ hj hg
   have hin:i≠(Ao d n).toNat:=by
    rintro rfl
    have:=hat d.files 0 f h1.1 (by show d.files[(Ao d n).toNat - 0]? = _; rw [Nat.sub_zero,AP hi,hif])
    exact hne (he▸this)
   refine ⟨f,?_,he⟩
   rcases Nat.lt_or_gt_of_ne hin with hlt | hgt
   ·refine List.mem_append.2 (.inl (List.mem_iff_getElem.2 ⟨i,by simp; omega,?_⟩))
    rw [List.getElem_take]; exact hif
   ·refine List.mem_append.2 (.inr (List.mem_iff_getElem.2 ⟨i - ((Ao d n).toNat+1),by simp; omega,?_⟩))
    rw [List.getElem_drop]
    simp only [show (Ao d n).toNat+1+(i - ((Ao d n).toNat+1))=i by omega]
    exact hif
 ·exact h
theorem DskI.Tq {d:Dsk} (h:DskI d) {p:Prt} (hp:PrtI p) (hf:d.files.length< 20) (hn:d.next< 999):DskI ⟨d.files++[⟨d.next,p⟩],d.list,d.names,d.next+1⟩:=by
 refine ⟨h.nm,by simp; omega,fun f hf=>?_,h.nl,fun n hn=>?_,h.num,by have:=h.next; simp only; omega⟩
 ·rcases List.mem_append.1 hf with hf | hf
  ·exact h.file f hf
  ·simp at hf; subst hf; exact hp
 ·obtain ⟨f,hf,he⟩:=h.there n hn
  exact ⟨f,List.mem_append.2 (.inl hf),he⟩
structure WI (w:Wld):Prop where
 sto:StoI w.store
 dsk:DskI w.disk
theorem WI.new:WI ⟨⟨⟨[],[]⟩,[],[]⟩,⟨[],[],[],1⟩⟩:=⟨StoI.new,DskI.new⟩
theorem WI.SM {w:Wld} (h:DskI w.disk):WI (CH w):=by
 have h1:=h.tidy.copy
 refine ⟨?_,h1⟩
 show StoI (BO (Ai (Az (BH w.disk))))
 rw [h1.open.copy]
 exact h1.open
theorem WI.copy {w:Wld} (h:WI w):WI (Cx w):=⟨by show StoI (BO w.store); rw [h.sto.copy]; exact h.sto,h.dsk.copy⟩
structure StI (d:Dsk) (st:List Stp):Prop where
 len:st.length≤4
 sz:∀ x∈st,JJ x
 ok:∀ k:Nat,DskI ((st.take k).foldl doD d)
theorem StI.nil {d:Dsk} (h:DskI d):StI d []:=⟨by simp,by simp,by simpa using h⟩
theorem Ii {d:Dsk} {x:Stp} {xs:List Stp} (h0:DskI d) (h:∀ k:Nat,DskI ((xs.take k).foldl doD (doD d x))):∀ k:Nat,DskI (((x::xs).take k).foldl doD d):=by
 intro k
 cases k with
 | zero=>exact h0
 | succ k=>exact h k
theorem Oa {d:Dsk} (h0:DskI d):∀ k:Nat,DskI ((([]:List Stp).take k).foldl doD d):=by intro k; simpa using h0
theorem StI.flush {w:Wld} (h:WI w):StI w.disk (BZ w.disk w.store):=by
 unfold BZ
 split
 ·exact StI.nil h.dsk
 ·rename_i h1
  have hd:=h.dsk
  have hs:=h.sto
  have hp:PrtI (BK w.store.mem):=PrtI.mem (fun m hm=>(hs.mem m hm).2.2)
  have h2:=hd.Tq hp AB AB
  have hn:=hd.next
  refine ⟨by simp,fun x hx=>?_,?_⟩
  ·simp only [List.mem_cons,List.not_mem_nil,or_false] at hx
   rcases hx with rfl | rfl
   ·exact ⟨by simp,by simp,by simp,by simp only; omega,by simp only; omega⟩
   ·refine ⟨?_,?_,fun n hn=>?_,by simp,by simp⟩
    ·have:=hd.nl; simp; omega
    ·have:=hs.nm.len; simp only; omega
    ·have:=(hs.nm.sz n hn).1; omega
  ·refine Ii hd (Ii ?_ (Oa ?_))
   ·rw [F8 rfl]; exact h2
   ·rw [HE rfl,F8 rfl]
    refine ⟨hs.nm,h2.nf,h2.file,by simp only [List.length_append,List.length_cons,List.length_nil]; omega,fun n hn'=>?_,fun n hn'=>?_,h2.next⟩
    ·rcases List.mem_append.1 hn' with hn' | hn'
     ·exact h2.there n hn'
     ·simp at hn'; subst hn'
      exact ⟨⟨w.disk.next,BK w.store.mem⟩,by simp,rfl⟩
    ·rcases List.mem_append.1 hn' with hn' | hn'
     ·exact h2.num n hn'
     ·simp at hn'; omega
theorem StI.merge {d:Dsk} (hd:DskI d) (at_:Int):StI d (Ba d at_):=by
 unfold Ba
 split
 ·exact StI.nil hd
 ·rename_i h1
  simp only [Bool.or_eq_true,not_or,Bool.not_eq_true,Bool.not_eq_false',decide_eq_true_eq] at h1
  obtain ⟨⟨h1,h3⟩,h4⟩:=h1
  have h0:=CN (by simpa using h1)
  have hl:at_.toNat+1< d.list.length:=by omega
  have ha:d.list.getD at_.toNat 0∈d.list:=by rw [List.getD_eq_getElem?_getD,AP AB]; exact List.getElem_mem _
  have hb:d.list.getD (at_.toNat+1) 0∈d.list:=by rw [List.getD_eq_getElem?_getD,AP hl]; exact List.getElem_mem _
  have na:=hd.num _ ha
  have nb:=hd.num _ hb
  generalize d.list.getD at_.toNat 0=a at *
  generalize d.list.getD (at_.toNat+1) 0=b at *
  have hp:PrtI (BT (BD d a) (BD d b)):=(hd.part a).merge (hd.part b)
  have h2:=hd.Tq hp AB AB
  have hn:=hd.next
  have hlen:(d.list.take at_.toNat++[d.next]++d.list.drop (at_.toNat+2)).length≤6:=by
   have:=hd.nl
   simp only [List.length_append,List.length_take,List.length_drop,List.length_cons,List.length_nil]; omega
  have hm:∀ n∈d.list.take at_.toNat++[d.next]++d.list.drop (at_.toNat+2),n∈d.list∨n=d.next:=by
   intro n hn
   rcases List.mem_append.1 hn with hn | hn
   ·rcases List.mem_append.1 hn with hn | hn
    ·exact .inl (List.mem_of_mem_take hn)
    ·simp at hn; exact .inr hn
   ·exact .inl (List.mem_of_mem_drop hn)
  have h5:DskI ⟨d.files++[⟨d.next,BT (BD d a) (BD d b)⟩],d.list.take at_.toNat++[d.next]++d.list.drop (at_.toNat+2),d.names,d.next+1⟩:=by
   refine ⟨h2.nm,h2.nf,h2.file,hlen,fun n hn'=>?_,fun n hn'=>?_,h2.next⟩
   ·rcases hm n hn' with hn' | rfl
    ·exact h2.there n hn'
    ·exact ⟨⟨d.next,BT (BD d a) (BD d b)⟩,by simp,rfl⟩
   ·rcases hm n hn' with hn' | rfl
    ·exact h2.num n hn'
    ·omega
  refine ⟨by simp,fun x hx=>?_,?_⟩
  ·simp only [List.mem_cons,List.not_mem_nil,or_false] at hx
   rcases hx with rfl | rfl | rfl | rfl
   ·exact ⟨by simp,by simp,by simp,by simp only; omega,by simp only; omega⟩
   ·refine ⟨by simp only; omega,by have:=hd.nm.len; simp only; omega,fun n hn=>?_,by simp,by simp⟩
    have:=(hd.nm.sz n hn).1; omega
   ·exact ⟨by simp,by simp,by simp,by simp only; omega,by simp only; omega⟩
   ·exact ⟨by simp,by simp,by simp,by simp only; omega,by simp only; omega⟩
  ·refine Ii hd (Ii ?_ (Ii ?_ (Ii ?_ (Oa ?_))))
   ·rw [F8 rfl]; exact h2
   ·rw [HE rfl,F8 rfl]; exact h5
   ·rw [FG rfl,HE rfl,F8 rfl]; exact h5.gone a
   ·rw [FG rfl,FG rfl,HE rfl,F8 rfl]; exact (h5.gone a).gone b
theorem WI.steps {w:Wld} (h:WI w) {st:List Stp} (hs:StI w.disk st) (cut:Int) {s:Sto} (h2:StoI s):WI (Bb w st cut s):=by
 unfold Bb
 split
 ·exact h
 ·split
  ·exact WI.SM (hs.ok _)
  ·exact ⟨h2,hs.ok _⟩
theorem WI.do {w:Wld} (h:WI w) (e:Evt):WI (doW w e):=by
 unfold doW
 split
 ·split
  ·exact ⟨h.sto.add _ _,h.dsk⟩
  ·exact h
 ·split
  ·exact h.steps (StI.flush h) _ h.sto.flush
  ·split
   ·exact h.steps (StI.merge h.dsk _) _ (h.sto.merge _)
   ·split
    ·exact WI.SM h.dsk
    ·exact h
theorem Mc {w:Wld} {st:List Stp} {c:Int} {s:Sto} (h:(st.length:Int)=0∨c< 0):Bb w st c s=w:=by unfold Bb; rw [if_pos AB]
theorem QZ {w:Wld} {st:List Stp} {c:Int} {s:Sto} (h:(st.length:Int)≠0) (h2:¬ c< 0) (h3:c< st.length):Bb w st c s=CH ⟨w.store,toD w.disk st c⟩:=by unfold Bb; rw [if_neg AB,if_pos h3]
theorem Qa {w:Wld} {st:List Stp} {c:Int} {s:Sto} (h:(st.length:Int)≠0) (h2:¬ c< 0) (h3:¬ c< st.length):Bb w st c s=⟨s,toD w.disk st c⟩:=by unfold Bb; rw [if_neg AB,if_neg h3]
theorem VP {w:Wld} {e:Evt} (h:e.kind=1) (h2:BS e.name=true):doW w e=⟨(C3 w.store e.name e.row).1,w.disk⟩:=by unfold doW; rw [if_pos h,if_pos h2]
theorem UP {w:Wld} {e:Evt} (h:e.kind=1) (h2:BS e.name=false):doW w e=w:=by unfold doW; rw [if_pos h,if_neg (by simp [h2])]
theorem VQ {w:Wld} {e:Evt} (h:e.kind=2):doW w e=Bb w (BZ w.disk w.store) e.cut (At w.store).1:=by unfold doW; rw [if_neg AB,if_pos h]
theorem VR {w:Wld} {e:Evt} (h:e.kind=3):doW w e=Bb w (Ba w.disk e.at_) e.cut (Av w.store e.at_).1:=by unfold doW; rw [if_neg AB,if_neg AB,if_pos h]
theorem VT {w:Wld} {e:Evt} (h:e.kind=4):doW w e=CH w:=by unfold doW; rw [if_neg AB,if_neg AB,if_neg AB,if_pos h]
theorem VU {w:Wld} {e:Evt} (h:e.kind≠1) (h2:e.kind≠2) (h3:e.kind≠3) (h4:e.kind≠4):doW w e=w:=by unfold doW; rw [if_neg h,if_neg h2,if_neg h3,if_neg h4]
end Go.Proofs.YtganlmloonielaaGreat
namespace Go.Proofs.YtganlmloonielaaGreat
set_option maxRecDepth 100000
set_option maxHeartbeats 4000000
theorem KB (w_:Wld) {w:World} {F:Nat→Prop} {a1:Option Addr} {n1 c1:Nat} (h1:RepS w F a1 n1 c1 w_.store.idx.names) {a2:Option Addr} {n2 c2:Nat} (h2:RepS w F a2 n2 c2 w_.store.idx.AV) {a3:Option Addr} {n3 c3:Nat} (h3:RepS w F a3 n3 c3 w_.store.parts) {a4:Option Addr} {n4 c4:Nat} (h4:RepS w F a4 n4 c4 w_.store.mem) {a5:Option Addr} {n5 c5:Nat} (h5:RepS w F a5 n5 c5 w_.disk.files) {a6:Option Addr} {n6 c6:Nat} (h6:RepS w F a6 n6 c6 w_.disk.list) {a7:Option Addr} {n7 c7:Nat} (h7:RepS w F a7 n7 c7 w_.disk.names) (p0:WI w_):Calls Tryz.prog 90 [.agg #[.slice a1 n1 c1,.slice a2 n2 c2,.slice a3 n3 c3,.slice a4 n4 c4,.slice a5 n5 c5,.slice a6 n6 c6,.slice a7 n7 c7,.int .i64 w_.disk.next]].toArray w (As fun rv w'=>(∃ (a0:Option Addr) (n0 c0:Nat) (a1:Option Addr) (n1 c1:Nat) (a2:Option Addr) (n2 c2:Nat) (r3 n3 c3:Nat) (r4 n4 c4:Nat) (r5 n5 c5:Nat) (r6 n6 c6:Nat),rv=.agg #[.slice a0 n0 c0,.slice a1 n1 c1,.slice a2 n2 c2,.slice (some ⟨r3,0,none⟩) n3 c3,.slice (some ⟨r4,0,none⟩) n4 c4,.slice (some ⟨r5,0,none⟩) n5 c5,.slice (some ⟨r6,0,none⟩) n6 c6,.int .i64 ((((Cx w_)).disk).next)]∧RepS w' (nin (ge w.heap.size) [r3,r4,r5,r6]) a0 n0 c0 (((((Cx w_)).store).idx).names)∧RepS w' (nin (ge w.heap.size) [r3,r4,r5,r6]) a1 n1 c1 (((((Cx w_)).store).idx).AV)∧RepS w' (nin (ge w.heap.size) [r3,r4,r5,r6]) a2 n2 c2 ((((Cx w_)).store).parts)∧Own w' r3 107 (nin (ge w.heap.size) [r3,r4,r5,r6]) n3 c3 ((((Cx w_)).store).mem)∧w.heap.size≤r3∧Own w' r4 66 (nin (ge w.heap.size) [r3,r4,r5,r6]) n4 c4 ((((Cx w_)).disk).files)∧w.heap.size≤r4∧Nb r4 r3∧Own w' r5 3 (nin (ge w.heap.size) [r3,r4,r5,r6]) n5 c5 ((((Cx w_)).disk).list)∧w.heap.size≤r5∧Nb r5 r3∧Nb r5 r4∧Own w' r6 77 (nin (ge w.heap.size) [r3,r4,r5,r6]) n6 c6 ((((Cx w_)).disk).names)∧w.heap.size≤r6∧Nb r6 r3∧Nb r6 r4∧Nb r6 r5)∧Ext w w'):=by
 refine goT Tryz.func90 ?_
 obtain ⟨rfl,bJ,h1⟩:=h1.tp
 obtain ⟨rfl,bK,h2⟩:=h2.tp
 obtain ⟨rfl,bL,h3⟩:=h3.tp
 obtain ⟨rfl,bM,h4⟩:=h4.tp
 obtain ⟨rfl,bN,h5⟩:=h5.tp
 obtain ⟨rfl,bO,h6⟩:=h6.tp
 obtain ⟨rfl,bP,h7⟩:=h7.tp
 refine .s<|.g<|.np 70 [.slice a1 w_.store.idx.names.length c1,.slice a2 w_.store.idx.AV.length c2,.slice a3 w_.store.parts.length c3,.slice a4 w_.store.mem.length c4,.slice a5 w_.disk.files.length c5,.slice a6 w_.disk.list.length c6,.slice a7 w_.disk.names.length c7,vI w_.disk.next] fun O bY aH az W bd=>?_
 replace ⟨h1,h2,h3,h4,h5,h6,h7⟩:=(sn [] az aH).g7 h1 h2 h3 h4 h5 h6 h7
 have C:=az
 refine .np 70 [.slice none 0 0,.slice none 0 0,.slice none 0 0,.slice none 0 0,.slice none 0 0,.slice none 0 0,.slice none 0 0,vI 0] fun aa bZ aA aI E bg=>?_
 have bQ:=C.cn aA
 replace ⟨h1,h2,h3,h4,h5,h6,h7,W,C⟩:=(sn [O] aI aA).g9 h1 h2 h3 h4 h5 h6 h7 W C
 refine .d<|.s<|.gd nil 5 fun b0 aJ=>?_
 replace ⟨h1,h2,h3,h4,h5,h6,h7,W,E,C⟩:=(se [aa,O] aJ).g10 h1 h2 h3 h4 h5 h6 h7 W E C
 refine .r [0]<|.ln 1 W id<|.r [3]<|.ln 4 W id<|.go 2<|.cl (fun aP al=>E1 w_.store (h1.ta.ext al) (h2.ta.ext al) (h3.ta.ext al) (h4.ta.ext al) p0.sto.sz (w:=aP) (F:=all)) ?_
 intro aP al
 replace ⟨h5,h6,h7,W,E,C⟩:=(se [aa,O] al).g6 h5 h6 h7 W E C
 rintro b6 aF ⟨⟨bh,b7,bi,bj,b8,bk,bm,b9,bn,ab,bo,bq,rfl,af,ag,ah,J,ax⟩,aB⟩
 have ao:=al2 E.lt W.lt
 have ay:Gb w.heap.size aP.heap.size:=C.size
 have hkeep_:=aB
 have bR:=Ab ax E.lt
 have br:=Bd ax C.size
 replace ⟨h5,h6,h7,W,E,C⟩:=(sz [aa,O] aB ax).g6 h5 h6 h7 W E C
 refine ⟨Ext.chg hkeep_,?_⟩
 replace af:RepS aF (nin (ge w.heap.size) [ab,aa,O]) _ _ _ _:=RepS.BC (s0:=w.heap.size) (M:=[aa,O]) af ao ay
 have bS:=af.max
 replace ag:RepS aF (nin (ge w.heap.size) [ab,aa,O]) _ _ _ _:=RepS.BC (s0:=w.heap.size) (M:=[aa,O]) ag ao ay
 have bT:=ag.max
 replace ah:RepS aF (nin (ge w.heap.size) [ab,aa,O]) _ _ _ _:=RepS.BC (s0:=w.heap.size) (M:=[aa,O]) ah ao ay
 have bU:=ah.max
 replace J:Own aF ab 107 (nin (ge w.heap.size) [ab,aa,O]) _ _ _:=Own.BC (s0:=w.heap.size) (M:=[aa,O]) J ao ay
 have bV:=J.max
 have bW:=J.len
 have bt:=af.len
 subst bt
 have bu:=ag.len
 subst bu
 have bv:=ah.len
 subst bv
 refine .d fun aQ aK=>?_
 replace ⟨h5,h6,h7,W,E,af,ag,ah,J,C⟩:=(se [ab,aa,O] aK).g10 h5 h6 h7 W E af ag ah J C
 refine .cl (DL w_.disk h5.ta h6.ta h7.ta (by have:=p0.dsk.nm.len; omega) (fun n hn=>by have:=(p0.dsk.nm.sz n hn).1; omega) (by have:=p0.dsk.nl; omega) (by have:=p0.dsk.nf; omega) (fun f hf=>(p0.dsk.file f hf).sz) (w:=aQ) (F:=all)) ?_
 rintro cd aG ⟨⟨aq,bw,bz,ar,aL,aM,au,aN,aO,rfl,ai,av,ac,aj,aR,ae,ak,aS,aT⟩,aC⟩
 have am:=al3 J.lt E.lt W.lt
 have aw:Gb w.heap.size aQ.heap.size:=C.size
 have bA:=Ab av E.lt
 have aU:=Ab av J.lt
 have aV:=Bd av C.size
 have bB:=Ab aj E.lt
 have aW:=Ab aj J.lt
 have aX:=Bd aj C.size
 have bC:=Ab ak E.lt
 have aY:=Ab ak J.lt
 have aZ:=Bd ak C.size
 have aD:Mv [ab,aa,O] [aq,ar,au,ab,aa,O] aQ aG:=Mv.cons (Mv.cons (Mv.cons (Mv.ext aC) ak) aj) av
 replace ⟨E,af,ag,ah,J,C⟩:=(sp aD aC).g6 E af ag ah J C
 replace ai:Own aG aq 66 (nin (ge w.heap.size) [aq,ar,au,ab,aa,O]) _ _ _:=Own.BC (s0:=w.heap.size) (M:=[ab,aa,O]) ai am aw
 have bD:=ai.max
 have bE:=ai.len
 replace ac:Own aG ar 3 (nin (ge w.heap.size) [aq,ar,au,ab,aa,O]) _ _ _:=Own.BC (s0:=w.heap.size) (M:=[ab,aa,O]) ac am aw
 have bF:=ac.max
 have bG:=ac.len
 replace ae:Own aG au 77 (nin (ge w.heap.size) [aq,ar,au,ab,aa,O]) _ _ _:=Own.BC (s0:=w.heap.size) (M:=[ab,aa,O]) ae am aw
 have bH:=ae.max
 have bI:=ae.len
 refine .r 1<|.sc [.slice bh (((((BO w_.store)).idx).names).length) bi,.slice bj (((((BO w_.store)).idx).AV).length) bk,.slice bm ((((BO w_.store)).parts).length) bn,vS ab bo bq,vS aq bw bz,vS ar aL aM,vS au aN aO,vI (((Az w_.disk)).next)] E fun bX aE ba bc=>?_
 replace ⟨af,ag,ah,J,ai,ac,ae,C⟩:=(so [aq,ar,au,ab,aa,O] aE).g8 af ag ah J ai ac ae C
 exact .d<|.rb Tryz.func90 Tryz.results90 ba ⟨⟨bh,((((BO w_.store)).idx).names).length,bi,bj,((((BO w_.store)).idx).AV).length,bk,bm,(((BO w_.store)).parts).length,bn,ab,bo,bq,aq,bw,bz,ar,aL,aM,au,aN,aO,(by rw [show (((Az w_.disk)).next)=((((Cx w_)).disk).next) from by rfl]),((RepS.BI af (all_cons AG (all_cons AD (all_cons AE (all_cons AF all_nil))))).eqx (by rfl)),((RepS.BI ag (all_cons AG (all_cons AD (all_cons AE (all_cons AF all_nil))))).eqx (by rfl)),((RepS.BI ah (all_cons AG (all_cons AD (all_cons AE (all_cons AF all_nil))))).eqx (by rfl)),((Own.BI J (all_cons AG (all_cons AD (all_cons AE (all_cons AF all_nil))))).eqx (by rfl)),br,((Own.BI ai (all_cons AG (all_cons AD (all_cons AE (all_cons AF all_nil))))).eqx (by rfl)),aV,aU,((Own.BI ac (all_cons AG (all_cons AD (all_cons AE (all_cons AF all_nil))))).eqx (by rfl)),aX,aW,aR,((Own.BI ae (all_cons AG (all_cons AD (all_cons AE (all_cons AF all_nil))))).eqx (by rfl)),aZ,aY,aS,aT⟩,C⟩
theorem GX (w_:Wld) {w:World} {F:Nat→Prop} {a1:Option Addr} {n1 c1:Nat} (h1:RepS w F a1 n1 c1 w_.store.idx.names) {a2:Option Addr} {n2 c2:Nat} (h2:RepS w F a2 n2 c2 w_.store.idx.AV) {a3:Option Addr} {n3 c3:Nat} (h3:RepS w F a3 n3 c3 w_.store.parts) {a4:Option Addr} {n4 c4:Nat} (h4:RepS w F a4 n4 c4 w_.store.mem) {a5:Option Addr} {n5 c5:Nat} (h5:RepS w F a5 n5 c5 w_.disk.files) {a6:Option Addr} {n6 c6:Nat} (h6:RepS w F a6 n6 c6 w_.disk.list) {a7:Option Addr} {n7 c7:Nat} (h7:RepS w F a7 n7 c7 w_.disk.names) (p0:DskI w_.disk):Calls Tryz.prog 139 [.agg #[.slice a1 n1 c1,.slice a2 n2 c2,.slice a3 n3 c3,.slice a4 n4 c4,.slice a5 n5 c5,.slice a6 n6 c6,.slice a7 n7 c7,.int .i64 w_.disk.next]].toArray w (As fun rv w'=>VS (ge w.heap.size) w' (CH w_:Wld) rv∧Ext w w'):=by
 refine goT Tryz.func139 ?_
 obtain ⟨rfl,cu,h1⟩:=h1.tp
 obtain ⟨rfl,cv,h2⟩:=h2.tp
 obtain ⟨rfl,cw,h3⟩:=h3.tp
 obtain ⟨rfl,cx,h4⟩:=h4.tp
 obtain ⟨rfl,cy,h5⟩:=h5.tp
 obtain ⟨rfl,cz,h6⟩:=h6.tp
 obtain ⟨rfl,cA,h7⟩:=h7.tp
 refine .s<|.g<|.np 70 [.slice a1 w_.store.idx.names.length c1,.slice a2 w_.store.idx.AV.length c2,.slice a3 w_.store.parts.length c3,.slice a4 w_.store.mem.length c4,.slice a5 w_.disk.files.length c5,.slice a6 w_.disk.list.length c6,.slice a7 w_.disk.names.length c7,vI w_.disk.next] fun E dg aL aM aa bN=>?_
 have cB:Cov nil w E:=Bc aL (Nat.le_refl _)
 replace ⟨h5,h6,h7⟩:=(sn [] aM aL).g3 h5 h6 h7
 have C:=aM
 refine .np 70 [.slice none 0 0,.slice none 0 0,.slice none 0 0,.slice none 0 0,.slice none 0 0,.slice none 0 0,.slice none 0 0,vI 0] fun J bO aE bq O bP=>?_
 have cC:=AS aE aa.lt
 have cD:=C.cn aE
 replace ⟨h5,h6,h7,aa,C⟩:=(sn [E] bq aE).g5 h5 h6 h7 aa C
 refine .d<|.s<|.g<|.r 1<|.ln aa<|.cl (GV w_.disk h5 h6 h7 (by have:=p0.nf; omega) (w:=bO) (F:=nin (fo F w.heap.size) [J,E])) ?_
 rintro dh bQ ⟨⟨_,rfl,⟨dj,dm,dp,dq,dr,dt,du,dv,dw,rfl,aN,aO,aP⟩⟩,br⟩
 have aF:=al2 O.lt aa.lt
 have aQ:Gb w.heap.size bO.heap.size:=C.size
 replace ⟨aa,O,C⟩:=(se [] br).g3 aa O C
 replace aN:=RepS.Aa (M:=[J,E]) aN aF aQ
 have cE:=aN.max
 replace aO:=RepS.Aa (M:=[J,E]) aO aF aQ
 have cF:=aO.max
 replace aP:=RepS.Aa (M:=[J,E]) aP aF aQ
 have cG:=aP.max
 have bR:=aN.len
 subst bR
 have bS:=aO.len
 subst bS
 have bT:=aP.len
 subst bT
 refine .cl (DL (BH w_.disk) aN.ta aO.ta aP.ta (by have:=p0.tidy.nm.len; omega) (fun n hn=>by have:=(p0.tidy.nm.sz n hn).1; omega) (by have:=p0.tidy.nl; omega) (by have:=p0.tidy.nf; omega) (fun f hf=>(p0.tidy.file f hf).sz) (w:=bQ) (F:=all)) ?_
 rintro dx bv ⟨⟨aq,bi,bj,ao,bk,bm,am,bn,bo,rfl,ar,aG,al,aH,cH,ah,aI,cI,cJ⟩,bt⟩
 have aJ:=al2 O.lt aa.lt
 have aR:Gb w.heap.size bQ.heap.size:=C.size
 have cK:=Ab aG aa.lt
 have cL:=Ab aG O.lt
 have bU:=Bd aG C.size
 have cM:=Ab aH aa.lt
 have cN:=Ab aH O.lt
 have bw:=Bd aH C.size
 have bX:=Ab aI aa.lt
 have bY:=Ab aI O.lt
 have bz:=Bd aI C.size
 replace ⟨aa,O,C⟩:=(se [] bt).g3 aa O C
 replace ar:Own bv aq 66 (nin (ge w.heap.size) [aq,ao,am,J,E]) _ _ _:=Own.BC (s0:=w.heap.size) (M:=[J,E]) ar aJ aR
 have bZ:=ar.max
 have b0:=ar.len
 replace al:Own bv ao 3 (nin (ge w.heap.size) [aq,ao,am,J,E]) _ _ _:=Own.BC (s0:=w.heap.size) (M:=[J,E]) al aJ aR
 have b6:=al.max
 have b7:=al.len
 replace ah:Own bv am 77 (nin (ge w.heap.size) [aq,ao,am,J,E]) _ _ _:=Own.BC (s0:=w.heap.size) (M:=[J,E]) ah aJ aR
 have b8:=ah.max
 have b9:=ah.len
 refine .r 1<|.sb 4 (.agg #[vS aq bi bj,vS ao bk bm,vS am bn bo,vI (((Az (BH w_.disk))).next)]) [.slice a1 w_.store.idx.names.length c1,.slice a2 w_.store.idx.AV.length c2,.slice a3 w_.store.parts.length c3,.slice a4 w_.store.mem.length c4,vS aq bi bj,vS ao bk bm,vS am bn bo,vI (((Az (BH w_.disk))).next)] aa fun az aS ac bA=>?_
 replace ⟨O,ar,al,ah,C⟩:=(so [aq,ao,am,J,E] aS).g5 O ar al ah C
 refine .d<|.s<|.g<|.r 1<|.ln ac ?_
 have W:=ar.sl bU
 replace ⟨al,ah⟩:=(sd az [aq,ao,am,J,E] aq).g2 al ah
 have ab:=al.sl bw
 replace ⟨W,ah⟩:=(sd az [ao,am,J,E] ao).g2 W ah
 have af:=ah.sl bz
 replace ⟨W,ab⟩:=(sd az [am,J,E] am).g2 W ab
 refine .cl (E2 ((Az (BH w_.disk))) (W.base (fun _ _ h=>.inr h)) (ab.base (fun _ _ h=>.inr h)) (af.base (fun _ _ h=>.inr h)) (by have:=p0.tidy.copy.nm.len; omega) p0.tidy.copy.nm.sz (by have:=p0.tidy.copy.nl; omega) p0.tidy.copy.at (w:=az) (F:=nin (fo F w.heap.size) [J,E])) ?_
 rintro cO bu ⟨⟨_,rfl,⟨cP,cQ,cR,cS,cT,cU,cV,cW,cX,cY,cZ,c8,rfl,aA,aB,aC,aD⟩⟩,aT⟩
 have au:=al2 O.lt ac.lt
 have ax:Gb w.heap.size az.heap.size:=C.size
 replace ⟨ac,O,W,ab,af,C⟩:=(se [J,E] aT).g6 ac O W ab af C
 replace aA:=RepS.Aa (M:=[J,E]) aA au ax
 have cd:=aA.max
 replace aB:=RepS.Aa (M:=[J,E]) aB au ax
 have ce:=aB.max
 replace aC:=RepS.Aa (M:=[J,E]) aC au ax
 have cg:=aC.max
 replace aD:=RepS.Aa (M:=[J,E]) aD au ax
 have ci:=aD.max
 have bB:=aA.len
 subst bB
 have bC:=aB.len
 subst bC
 have bD:=aC.len
 subst bD
 have bE:=aD.len
 subst bE
 refine .cl (E1 (⟨(⟨((Ai ((Az (BH w_.disk)))).idx).names,((Ai ((Az (BH w_.disk)))).idx).AV⟩:Idx),(Ai ((Az (BH w_.disk)))).parts,(Ai ((Az (BH w_.disk)))).mem⟩:Sto) aA.ta aB.ta aC.ta aD.ta p0.tidy.copy.open.sz (w:=bu) (F:=all)) ?_
 rintro c9 aK ⟨⟨aU,da,aV,aW,db,aX,aY,de,aZ,ag,ba,bc,rfl,ai,aj,ak,ae,av⟩,bd⟩
 have aw:=al2 O.lt ac.lt
 have ay:Gb w.heap.size bu.heap.size:=C.size
 have cj:=Ab av ac.lt
 have ck:=Ab av O.lt
 have bF:=Bd av C.size
 replace ⟨ac,O,W,ab,af,C⟩:=(sz [J,E] bd av).g6 ac O W ab af C
 replace ai:RepS aK (nin (ge w.heap.size) [ag,J,E]) _ _ _ _:=RepS.BC (s0:=w.heap.size) (M:=[J,E]) ai aw ay
 have cm:=ai.max
 replace aj:RepS aK (nin (ge w.heap.size) [ag,J,E]) _ _ _ _:=RepS.BC (s0:=w.heap.size) (M:=[J,E]) aj aw ay
 have co:=aj.max
 replace ak:RepS aK (nin (ge w.heap.size) [ag,J,E]) _ _ _ _:=RepS.BC (s0:=w.heap.size) (M:=[J,E]) ak aw ay
 have cp:=ak.max
 replace ae:Own aK ag 107 (nin (ge w.heap.size) [ag,J,E]) _ _ _:=Own.BC (s0:=w.heap.size) (M:=[J,E]) ae aw ay
 have cq:=ae.max
 have cr:=ae.len
 have bG:=ai.len
 subst bG
 have bH:=aj.len
 subst bH
 have bI:=ak.len
 subst bI
 refine .r 1<|.sb 0 (.agg #[.slice aU (((((BO (⟨(⟨((Ai ((Az (BH w_.disk)))).idx).names,((Ai ((Az (BH w_.disk)))).idx).AV⟩:Idx),(Ai ((Az (BH w_.disk)))).parts,(Ai ((Az (BH w_.disk)))).mem⟩:Sto))).idx).names).length) aV,.slice aW (((((BO (⟨(⟨((Ai ((Az (BH w_.disk)))).idx).names,((Ai ((Az (BH w_.disk)))).idx).AV⟩:Idx),(Ai ((Az (BH w_.disk)))).parts,(Ai ((Az (BH w_.disk)))).mem⟩:Sto))).idx).AV).length) aX,.slice aY ((((BO (⟨(⟨((Ai ((Az (BH w_.disk)))).idx).names,((Ai ((Az (BH w_.disk)))).idx).AV⟩:Idx),(Ai ((Az (BH w_.disk)))).parts,(Ai ((Az (BH w_.disk)))).mem⟩:Sto))).parts).length) aZ,vS ag ba bc]) [.slice aU (((((BO (⟨(⟨((Ai ((Az (BH w_.disk)))).idx).names,((Ai ((Az (BH w_.disk)))).idx).AV⟩:Idx),(Ai ((Az (BH w_.disk)))).parts,(Ai ((Az (BH w_.disk)))).mem⟩:Sto))).idx).names).length) aV,.slice aW (((((BO (⟨(⟨((Ai ((Az (BH w_.disk)))).idx).names,((Ai ((Az (BH w_.disk)))).idx).AV⟩:Idx),(Ai ((Az (BH w_.disk)))).parts,(Ai ((Az (BH w_.disk)))).mem⟩:Sto))).idx).AV).length) aX,.slice aY ((((BO (⟨(⟨((Ai ((Az (BH w_.disk)))).idx).names,((Ai ((Az (BH w_.disk)))).idx).AV⟩:Idx),(Ai ((Az (BH w_.disk)))).parts,(Ai ((Az (BH w_.disk)))).mem⟩:Sto))).parts).length) aZ,vS ag ba bc,vS aq bi bj,vS ao bk bm,vS am bn bo,vI (((Az (BH w_.disk))).next)] ac fun df bg bJ bK=>?_
 replace ⟨O,W,ab,af,ai,aj,ak,ae,C⟩:=(so [ag,J,E] bg).g9 O W ab af ai aj ak ae C
 refine .d<|.s<|.g<|.ln bJ<|.sc [.slice aU (((((BO (⟨(⟨((Ai ((Az (BH w_.disk)))).idx).names,((Ai ((Az (BH w_.disk)))).idx).AV⟩:Idx),(Ai ((Az (BH w_.disk)))).parts,(Ai ((Az (BH w_.disk)))).mem⟩:Sto))).idx).names).length) aV,.slice aW (((((BO (⟨(⟨((Ai ((Az (BH w_.disk)))).idx).names,((Ai ((Az (BH w_.disk)))).idx).AV⟩:Idx),(Ai ((Az (BH w_.disk)))).parts,(Ai ((Az (BH w_.disk)))).mem⟩:Sto))).idx).AV).length) aX,.slice aY ((((BO (⟨(⟨((Ai ((Az (BH w_.disk)))).idx).names,((Ai ((Az (BH w_.disk)))).idx).AV⟩:Idx),(Ai ((Az (BH w_.disk)))).parts,(Ai ((Az (BH w_.disk)))).mem⟩:Sto))).parts).length) aZ,vS ag ba bc,vS aq bi bj,vS ao bk bm,vS am bn bo,vI (((Az (BH w_.disk))).next)] O fun bV bh bL bM=>?_
 replace ⟨W,ab,af,ai,aj,ak,ae,C⟩:=(so [ag,J,E] bh).g8 W ab af ai aj ak ae C
 refine .d ?_
 have bW:=ae.sl bF
 replace ⟨W,ab,af,ai,aj,ak⟩:=(sd bV [ag,J,E] ag).g6 W ab af ai aj ak
 exact .rb Tryz.func139 Tryz.results139 bL ⟨(VS.of (y:=(⟨(⟨(⟨(((BO (⟨(⟨((Ai ((Az (BH w_.disk)))).idx).names,((Ai ((Az (BH w_.disk)))).idx).AV⟩:Idx),(Ai ((Az (BH w_.disk)))).parts,(Ai ((Az (BH w_.disk)))).mem⟩:Sto))).idx).names,(((BO (⟨(⟨((Ai ((Az (BH w_.disk)))).idx).names,((Ai ((Az (BH w_.disk)))).idx).AV⟩:Idx),(Ai ((Az (BH w_.disk)))).parts,(Ai ((Az (BH w_.disk)))).mem⟩:Sto))).idx).AV⟩:Idx),((BO (⟨(⟨((Ai ((Az (BH w_.disk)))).idx).names,((Ai ((Az (BH w_.disk)))).idx).AV⟩:Idx),(Ai ((Az (BH w_.disk)))).parts,(Ai ((Az (BH w_.disk)))).mem⟩:Sto))).parts,((BO (⟨(⟨((Ai ((Az (BH w_.disk)))).idx).names,((Ai ((Az (BH w_.disk)))).idx).AV⟩:Idx),(Ai ((Az (BH w_.disk)))).parts,(Ai ((Az (BH w_.disk)))).mem⟩:Sto))).mem⟩:Sto),(⟨((Az (BH w_.disk))).files,((Az (BH w_.disk))).list,((Az (BH w_.disk))).names,((Az (BH w_.disk))).next⟩:Dsk)⟩:Wld)) ⟨_,rfl,⟨_,_,_,_,_,_,_,_,_,_,_,_,_,_,_,_,_,_,_,_,_,rfl,ai.w1,aj.w1,ak.w1,bW.w1,W.w1,ab.w1,af.w1⟩⟩ (by rfl)),C⟩
theorem GB (w_:Wld) (steps:List Stp) (cut:Int) (s:Sto) {w:World} {F:Nat→Prop} {a1:Option Addr} {n1 c1:Nat} (h1:RepS w F a1 n1 c1 w_.store.idx.names) {a2:Option Addr} {n2 c2:Nat} (h2:RepS w F a2 n2 c2 w_.store.idx.AV) {a3:Option Addr} {n3 c3:Nat} (h3:RepS w F a3 n3 c3 w_.store.parts) {a4:Option Addr} {n4 c4:Nat} (h4:RepS w F a4 n4 c4 w_.store.mem) {a5:Option Addr} {n5 c5:Nat} (h5:RepS w F a5 n5 c5 w_.disk.files) {a6:Option Addr} {n6 c6:Nat} (h6:RepS w F a6 n6 c6 w_.disk.list) {a7:Option Addr} {n7 c7:Nat} (h7:RepS w F a7 n7 c7 w_.disk.names) {a8:Option Addr} {n8 c8:Nat} (h8:RepS w F a8 n8 c8 steps) {a9:Option Addr} {n9 c9:Nat} (h9:RepS w F a9 n9 c9 s.idx.names) {a10:Option Addr} {n10 c10:Nat} (h10:RepS w F a10 n10 c10 s.idx.AV) {a11:Option Addr} {n11 c11:Nat} (h11:RepS w F a11 n11 c11 s.parts) {a12:Option Addr} {n12 c12:Nat} (h12:RepS w F a12 n12 c12 s.mem) (p0:WI w_) (p1:StI w_.disk steps) (p2:StoI s):Calls Tryz.prog 137 [.agg #[.slice a1 n1 c1,.slice a2 n2 c2,.slice a3 n3 c3,.slice a4 n4 c4,.slice a5 n5 c5,.slice a6 n6 c6,.slice a7 n7 c7,.int .i64 w_.disk.next],.slice a8 n8 c8,.int .i64 cut,.agg #[.slice a9 n9 c9,.slice a10 n10 c10,.slice a11 n11 c11,.slice a12 n12 c12]].toArray w (As fun rv w'=>VS (fo F w.heap.size) w' (Bb w_ steps cut s:Wld) rv∧Ext w w'):=by
 refine goT Tryz.func137 ?_
 obtain ⟨rfl,bW,h1⟩:=h1.tp
 obtain ⟨rfl,bX,h2⟩:=h2.tp
 obtain ⟨rfl,bY,h3⟩:=h3.tp
 obtain ⟨rfl,bZ,h4⟩:=h4.tp
 obtain ⟨rfl,b0,h5⟩:=h5.tp
 obtain ⟨rfl,b6,h6⟩:=h6.tp
 obtain ⟨rfl,b7,h7⟩:=h7.tp
 obtain ⟨rfl,b8,h8⟩:=h8.tp
 obtain ⟨rfl,b9,h9⟩:=h9.tp
 obtain ⟨rfl,cd,h10⟩:=h10.tp
 obtain ⟨rfl,ce,h11⟩:=h11.tp
 obtain ⟨rfl,cg,h12⟩:=h12.tp
 refine .s<|.g<|.np 70 [.slice a1 w_.store.idx.names.length c1,.slice a2 w_.store.idx.AV.length c2,.slice a3 w_.store.parts.length c3,.slice a4 w_.store.mem.length c4,.slice a5 w_.disk.files.length c5,.slice a6 w_.disk.list.length c6,.slice a7 w_.disk.names.length c7,vI w_.disk.next] fun W cG az aA J bn=>?_
 have ci:Cov nil w W:=Bc az (Nat.le_refl _)
 replace ⟨h1,h2,h3,h4,h5,h6,h7,h8,h9,h10,h11,h12⟩:=(sn [] aA az).g12 h1 h2 h3 h4 h5 h6 h7 h8 h9 h10 h11 h12
 have C:=aA
 refine .np 34 [.slice a9 s.idx.names.length c9,.slice a10 s.idx.AV.length c10,.slice a11 s.parts.length c11,.slice a12 s.mem.length c12] fun aa cH ax aB E bo=>?_
 have cj:=AS ax J.lt
 replace ⟨h1,h2,h3,h4,h5,h6,h7,h8,h9,h10,h11,h12⟩:=(sn [W] aB ax).g12 h1 h2 h3 h4 h5 h6 h7 h8 h9 h10 h11 h12
 replace ⟨J,C⟩:=(sn [W] aB ax).g2 J C
 refine .np 70 [.slice none 0 0,.slice none 0 0,.slice none 0 0,.slice none 0 0,.slice none 0 0,.slice none 0 0,.slice none 0 0,vI 0] fun ac bq au aC O br=>?_
 have ck:=AS au J.lt
 have cm:=AS au E.lt
 have co:=C.cn au
 replace ⟨h1,h2,h3,h4,h5,h6,h7,h8,h9,h10,h11,h12⟩:=(sn [aa,W] aC au).g12 h1 h2 h3 h4 h5 h6 h7 h8 h9 h10 h11 h12
 replace ⟨J,E,C⟩:=(sn [aa,W] aC au).g3 J E C
 refine .d<|.s<|.s<|.g<|.r 2<|.eq (steps.length:Int) 0 (fun bt=>?_) (fun bt=>?_)
 ·refine .r 4<|.d<|.ct<|.s<|.g<|.ln J<|.sc [.slice a1 w_.store.idx.names.length c1,.slice a2 w_.store.idx.AV.length c2,.slice a3 w_.store.parts.length c3,.slice a4 w_.store.mem.length c4,.slice a5 w_.disk.files.length c5,.slice a6 w_.disk.list.length c6,.slice a7 w_.disk.names.length c7,vI w_.disk.next] O fun cI aD bu bv=>?_
  replace ⟨h1,h2,h3,h4,h5,h6,h7,h8,h9,h10,h11,h12⟩:=(so [ac,aa,W] aD).g12 h1 h2 h3 h4 h5 h6 h7 h8 h9 h10 h11 h12
  replace ⟨J,E,C⟩:=(so [ac,aa,W] aD).g3 J E C
  exact .d<|.rb Tryz.func137 Tryz.results137 bu ⟨(VS.of (y:=w_) ⟨_,rfl,⟨_,_,_,_,_,_,_,_,_,_,_,_,_,_,_,_,_,_,_,_,_,rfl,h1.w1,h2.w1,h3.w1,h4.w1,h5.w1,h6.w1,h7.w1⟩⟩ (by rw [Mc AB])),C⟩
 refine .r 2<|.bp (cut< 0) (fun bw=>?_) (fun bw=>?_)
 ·refine .r 1<|.d<|.ct<|.s<|.g<|.ln J<|.sc [.slice a1 w_.store.idx.names.length c1,.slice a2 w_.store.idx.AV.length c2,.slice a3 w_.store.parts.length c3,.slice a4 w_.store.mem.length c4,.slice a5 w_.disk.files.length c5,.slice a6 w_.disk.list.length c6,.slice a7 w_.disk.names.length c7,vI w_.disk.next] O fun cJ aE bz bA=>?_
  replace ⟨h1,h2,h3,h4,h5,h6,h7,h8,h9,h10,h11,h12⟩:=(so [ac,aa,W] aE).g12 h1 h2 h3 h4 h5 h6 h7 h8 h9 h10 h11 h12
  replace ⟨J,E,C⟩:=(so [ac,aa,W] aE).g3 J E C
  exact .d<|.rb Tryz.func137 Tryz.results137 bz ⟨(VS.of (y:=w_) ⟨_,rfl,⟨_,_,_,_,_,_,_,_,_,_,_,_,_,_,_,_,_,_,_,_,_,rfl,h1.w1,h2.w1,h3.w1,h4.w1,h5.w1,h6.w1,h7.w1⟩⟩ (by rw [Mc AB])),C⟩
 refine .r 1<|.d<|.cf<|.sk<|.s<|.g<|.r 1<|.ln J<|.r 2<|.cl (Hr w_.disk steps cut h5 h6 h7 h8 (by have:=p0.dsk.nf; omega) (by have:=p1.len; omega) (by have:=p0.dsk.nl; omega) p1.sz (w:=bq) (F:=nin (fo F w.heap.size) [ac,aa,W])) ?_
 rintro cK cL ⟨⟨_,rfl,⟨aJ,cM,aK,aL,cN,aM,aN,cO,aO,rfl,ae,af,ag⟩⟩,aP⟩
 have ay:=al3 O.lt E.lt J.lt
 have aF:Gb w.heap.size bq.heap.size:=C.size
 replace ⟨h1,h2,h3,h4,h9,h10,h11,h12,J,E,O,C⟩:=(se [ac,aa,W] aP).g12 h1 h2 h3 h4 h9 h10 h11 h12 J E O C
 replace ae:=RepS.Aa (M:=[ac,aa,W]) ae ay aF
 have cp:=ae.max
 replace af:=RepS.Aa (M:=[ac,aa,W]) af ay aF
 have cq:=af.max
 replace ag:=RepS.Aa (M:=[ac,aa,W]) ag ay aF
 have cr:=ag.max
 have aR:=ae.len
 subst aR
 have aS:=af.len
 subst aS
 have aT:=ag.len
 subst aT
 refine .r 1<|.sb 4 (.agg #[.slice aJ (((toD w_.disk steps cut).files).length) aK,.slice aL (((toD w_.disk steps cut).list).length) aM,.slice aN (((toD w_.disk steps cut).names).length) aO,vI ((toD w_.disk steps cut).next)]) [.slice a1 w_.store.idx.names.length c1,.slice a2 w_.store.idx.AV.length c2,.slice a3 w_.store.parts.length c3,.slice a4 w_.store.mem.length c4,.slice aJ (((toD w_.disk steps cut).files).length) aK,.slice aL (((toD w_.disk steps cut).list).length) aM,.slice aN (((toD w_.disk steps cut).names).length) aO,vI ((toD w_.disk steps cut).next)] J fun aQ av ah aU=>?_
 replace ⟨h1,h2,h3,h4,h9,h10,h11,h12,E,O,ae,af⟩:=(so [ac,aa,W] av).g12 h1 h2 h3 h4 h9 h10 h11 h12 E O ae af
 replace ⟨ag,C⟩:=(so [ac,aa,W] av).g2 ag C
 refine .d<|.s<|.s<|.g<|.r 3<|.bp (cut< (steps.length:Int)) (fun aV=>?_) (fun aV=>?_)
 ·refine .d<|.ct<|.s<|.g<|.ln ah<|.cl (GX (⟨(⟨(⟨w_.store.idx.names,w_.store.idx.AV⟩:Idx),w_.store.parts,w_.store.mem⟩:Sto),(⟨(toD w_.disk steps cut).files,(toD w_.disk steps cut).list,(toD w_.disk steps cut).names,(toD w_.disk steps cut).next⟩:Dsk)⟩:Wld) h1.ta h2.ta h3.ta h4.ta ae.ta af.ta ag.ta (p1.ok _) (w:=aQ) (F:=all)) ?_
  rintro cu cv ⟨⟨_,rfl,⟨bB,cw,bC,bD,cx,bE,bF,cy,bG,bH,cz,bI,bJ,cA,bK,bL,cB,bM,bN,cC,bO,rfl,aj,ak,al,am,ao,aq,ar⟩⟩,aG⟩
  have ab:=al3 O.lt E.lt ah.lt
  have ai:Gb w.heap.size aQ.heap.size:=C.size
  replace ⟨h9,h10,h11,h12,ah,E,O,ae,af,ag,C⟩:=(se [ac,aa,W] aG).g11 h9 h10 h11 h12 ah E O ae af ag C
  have aj:=aj.fr ab ai
  replace aj:=aj.base (G':=fo F w.heap.size) (fun _ _ h=>.inr h)
  have bP:=aj.max
  have ak:=ak.fr ab ai
  replace ak:=ak.base (G':=fo F w.heap.size) (fun _ _ h=>.inr h)
  have bQ:=ak.max
  have al:=al.fr ab ai
  replace al:=al.base (G':=fo F w.heap.size) (fun _ _ h=>.inr h)
  have bR:=al.max
  have am:=am.fr ab ai
  replace am:=am.base (G':=fo F w.heap.size) (fun _ _ h=>.inr h)
  have bS:=am.max
  have ao:=ao.fr ab ai
  replace ao:=ao.base (G':=fo F w.heap.size) (fun _ _ h=>.inr h)
  have bT:=ao.max
  have aq:=aq.fr ab ai
  replace aq:=aq.base (G':=fo F w.heap.size) (fun _ _ h=>.inr h)
  have bU:=aq.max
  have ar:=ar.fr ab ai
  replace ar:=ar.base (G':=fo F w.heap.size) (fun _ _ h=>.inr h)
  have bV:=ar.max
  have aW:=aj.len
  subst aW
  have aX:=ak.len
  subst aX
  have aY:=al.len
  subst aY
  have aZ:=am.len
  subst aZ
  have ba:=ao.len
  subst ba
  have bc:=aq.len
  subst bc
  have bd:=ar.len
  subst bd
  refine .sc [.slice bB (((((CH (⟨(⟨(⟨w_.store.idx.names,w_.store.idx.AV⟩:Idx),w_.store.parts,w_.store.mem⟩:Sto),(⟨(toD w_.disk steps cut).files,(toD w_.disk steps cut).list,(toD w_.disk steps cut).names,(toD w_.disk steps cut).next⟩:Dsk)⟩:Wld)).store).idx).names).length) bC,.slice bD (((((CH (⟨(⟨(⟨w_.store.idx.names,w_.store.idx.AV⟩:Idx),w_.store.parts,w_.store.mem⟩:Sto),(⟨(toD w_.disk steps cut).files,(toD w_.disk steps cut).list,(toD w_.disk steps cut).names,(toD w_.disk steps cut).next⟩:Dsk)⟩:Wld)).store).idx).AV).length) bE,.slice bF ((((CH (⟨(⟨(⟨w_.store.idx.names,w_.store.idx.AV⟩:Idx),w_.store.parts,w_.store.mem⟩:Sto),(⟨(toD w_.disk steps cut).files,(toD w_.disk steps cut).list,(toD w_.disk steps cut).names,(toD w_.disk steps cut).next⟩:Dsk)⟩:Wld)).store).parts).length) bG,.slice bH ((((CH (⟨(⟨(⟨w_.store.idx.names,w_.store.idx.AV⟩:Idx),w_.store.parts,w_.store.mem⟩:Sto),(⟨(toD w_.disk steps cut).files,(toD w_.disk steps cut).list,(toD w_.disk steps cut).names,(toD w_.disk steps cut).next⟩:Dsk)⟩:Wld)).store).mem).length) bI,.slice bJ ((((CH (⟨(⟨(⟨w_.store.idx.names,w_.store.idx.AV⟩:Idx),w_.store.parts,w_.store.mem⟩:Sto),(⟨(toD w_.disk steps cut).files,(toD w_.disk steps cut).list,(toD w_.disk steps cut).names,(toD w_.disk steps cut).next⟩:Dsk)⟩:Wld)).disk).files).length) bK,.slice bL ((((CH (⟨(⟨(⟨w_.store.idx.names,w_.store.idx.AV⟩:Idx),w_.store.parts,w_.store.mem⟩:Sto),(⟨(toD w_.disk steps cut).files,(toD w_.disk steps cut).list,(toD w_.disk steps cut).names,(toD w_.disk steps cut).next⟩:Dsk)⟩:Wld)).disk).list).length) bM,.slice bN ((((CH (⟨(⟨(⟨w_.store.idx.names,w_.store.idx.AV⟩:Idx),w_.store.parts,w_.store.mem⟩:Sto),(⟨(toD w_.disk steps cut).files,(toD w_.disk steps cut).list,(toD w_.disk steps cut).names,(toD w_.disk steps cut).next⟩:Dsk)⟩:Wld)).disk).names).length) bO,vI (((CH (⟨(⟨(⟨w_.store.idx.names,w_.store.idx.AV⟩:Idx),w_.store.parts,w_.store.mem⟩:Sto),(⟨(toD w_.disk steps cut).files,(toD w_.disk steps cut).list,(toD w_.disk steps cut).names,(toD w_.disk steps cut).next⟩:Dsk)⟩:Wld)).disk).next)] O fun cD aw bg bh=>?_
  replace ⟨h9,h10,h11,h12,ah,E,ae,af,ag,aj,ak,al⟩:=(so [ac,aa,W] aw).g12 h9 h10 h11 h12 ah E ae af ag aj ak al
  replace ⟨am,ao,aq,ar,C⟩:=(so [ac,aa,W] aw).g5 am ao aq ar C
  exact .d<|.rb Tryz.func137 Tryz.results137 bg ⟨(VS.of (y:=(⟨(⟨(⟨(((CH (⟨(⟨(⟨w_.store.idx.names,w_.store.idx.AV⟩:Idx),w_.store.parts,w_.store.mem⟩:Sto),(⟨(toD w_.disk steps cut).files,(toD w_.disk steps cut).list,(toD w_.disk steps cut).names,(toD w_.disk steps cut).next⟩:Dsk)⟩:Wld)).store).idx).names,(((CH (⟨(⟨(⟨w_.store.idx.names,w_.store.idx.AV⟩:Idx),w_.store.parts,w_.store.mem⟩:Sto),(⟨(toD w_.disk steps cut).files,(toD w_.disk steps cut).list,(toD w_.disk steps cut).names,(toD w_.disk steps cut).next⟩:Dsk)⟩:Wld)).store).idx).AV⟩:Idx),((CH (⟨(⟨(⟨w_.store.idx.names,w_.store.idx.AV⟩:Idx),w_.store.parts,w_.store.mem⟩:Sto),(⟨(toD w_.disk steps cut).files,(toD w_.disk steps cut).list,(toD w_.disk steps cut).names,(toD w_.disk steps cut).next⟩:Dsk)⟩:Wld)).store).parts,((CH (⟨(⟨(⟨w_.store.idx.names,w_.store.idx.AV⟩:Idx),w_.store.parts,w_.store.mem⟩:Sto),(⟨(toD w_.disk steps cut).files,(toD w_.disk steps cut).list,(toD w_.disk steps cut).names,(toD w_.disk steps cut).next⟩:Dsk)⟩:Wld)).store).mem⟩:Sto),(⟨((CH (⟨(⟨(⟨w_.store.idx.names,w_.store.idx.AV⟩:Idx),w_.store.parts,w_.store.mem⟩:Sto),(⟨(toD w_.disk steps cut).files,(toD w_.disk steps cut).list,(toD w_.disk steps cut).names,(toD w_.disk steps cut).next⟩:Dsk)⟩:Wld)).disk).files,((CH (⟨(⟨(⟨w_.store.idx.names,w_.store.idx.AV⟩:Idx),w_.store.parts,w_.store.mem⟩:Sto),(⟨(toD w_.disk steps cut).files,(toD w_.disk steps cut).list,(toD w_.disk steps cut).names,(toD w_.disk steps cut).next⟩:Dsk)⟩:Wld)).disk).list,((CH (⟨(⟨(⟨w_.store.idx.names,w_.store.idx.AV⟩:Idx),w_.store.parts,w_.store.mem⟩:Sto),(⟨(toD w_.disk steps cut).files,(toD w_.disk steps cut).list,(toD w_.disk steps cut).names,(toD w_.disk steps cut).next⟩:Dsk)⟩:Wld)).disk).names,((CH (⟨(⟨(⟨w_.store.idx.names,w_.store.idx.AV⟩:Idx),w_.store.parts,w_.store.mem⟩:Sto),(⟨(toD w_.disk steps cut).files,(toD w_.disk steps cut).list,(toD w_.disk steps cut).names,(toD w_.disk steps cut).next⟩:Dsk)⟩:Wld)).disk).next⟩:Dsk)⟩:Wld)) ⟨_,rfl,⟨_,_,_,_,_,_,_,_,_,_,_,_,_,_,_,_,_,_,_,_,_,rfl,aj.w1,ak.w1,al.w1,am.w1,ao.w1,aq.w1,ar.w1⟩⟩ (by rw [QZ AB AB AB])),C⟩
 refine .d<|.cf<|.sk<|.s<|.g<|.ln E<|.r 1<|.sb 0 (.agg #[.slice a9 s.idx.names.length c9,.slice a10 s.idx.AV.length c10,.slice a11 s.parts.length c11,.slice a12 s.mem.length c12]) [.slice a9 s.idx.names.length c9,.slice a10 s.idx.AV.length c10,.slice a11 s.parts.length c11,.slice a12 s.mem.length c12,.slice aJ (((toD w_.disk steps cut).files).length) aK,.slice aL (((toD w_.disk steps cut).list).length) aM,.slice aN (((toD w_.disk steps cut).names).length) aO,vI ((toD w_.disk steps cut).next)] ah fun cE aH bi bj=>?_
 replace ⟨h9,h10,h11,h12,O,ae,af,ag,C⟩:=(so [ac,aa,W] aH).g9 h9 h10 h11 h12 O ae af ag C
 refine .d<|.s<|.g<|.ln bi<|.sc [.slice a9 s.idx.names.length c9,.slice a10 s.idx.AV.length c10,.slice a11 s.parts.length c11,.slice a12 s.mem.length c12,.slice aJ (((toD w_.disk steps cut).files).length) aK,.slice aL (((toD w_.disk steps cut).list).length) aM,.slice aN (((toD w_.disk steps cut).names).length) aO,vI ((toD w_.disk steps cut).next)] O fun cF aI bk bm=>?_
 replace ⟨h9,h10,h11,h12,ae,af,ag,C⟩:=(so [ac,aa,W] aI).g8 h9 h10 h11 h12 ae af ag C
 exact .d<|.rb Tryz.func137 Tryz.results137 bk ⟨(VS.of (y:=(⟨(⟨(⟨s.idx.names,s.idx.AV⟩:Idx),s.parts,s.mem⟩:Sto),(⟨(toD w_.disk steps cut).files,(toD w_.disk steps cut).list,(toD w_.disk steps cut).names,(toD w_.disk steps cut).next⟩:Dsk)⟩:Wld)) ⟨_,rfl,⟨_,_,_,_,_,_,_,_,_,_,_,_,_,_,_,_,_,_,_,_,_,rfl,h9.w1,h10.w1,h11.w1,h12.w1,ae.w1,af.w1,ag.w1⟩⟩ (by rw [Qa AB AB AB])),C⟩
theorem Lw (w_:Wld) (e:Evt) {w:World} {F:Nat→Prop} {a1:Option Addr} {n1 c1:Nat} (h1:RepS w F a1 n1 c1 w_.store.idx.names) {a2:Option Addr} {n2 c2:Nat} (h2:RepS w F a2 n2 c2 w_.store.idx.AV) {a3:Option Addr} {n3 c3:Nat} (h3:RepS w F a3 n3 c3 w_.store.parts) {a4:Option Addr} {n4 c4:Nat} (h4:RepS w F a4 n4 c4 w_.store.mem) {a5:Option Addr} {n5 c5:Nat} (h5:RepS w F a5 n5 c5 w_.disk.files) {a6:Option Addr} {n6 c6:Nat} (h6:RepS w F a6 n6 c6 w_.disk.list) {a7:Option Addr} {n7 c7:Nat} (h7:RepS w F a7 n7 c7 w_.disk.names) {a8:Option Addr} {n8 c8:Nat} (h8:RepS w F a8 n8 c8 e.name) (p0:WI w_) (p1:Fg e.name):Calls Tryz.prog 89 [.agg #[.slice a1 n1 c1,.slice a2 n2 c2,.slice a3 n3 c3,.slice a4 n4 c4,.slice a5 n5 c5,.slice a6 n6 c6,.slice a7 n7 c7,.int .i64 w_.disk.next],.agg #[.int .i64 e.kind,.int .i64 e.at_,.int .i64 e.cut,.slice a8 n8 c8,.int .i64 e.row.t,.int .i64 e.row.v]].toArray w (As fun rv w'=>VS (fo F w.heap.size) w' (doW w_ e:Wld) rv∧Ext w w'):=by
 refine goT Tryz.func89 ?_
 obtain ⟨rfl,fX,h1⟩:=h1.tp
 obtain ⟨rfl,fY,h2⟩:=h2.tp
 obtain ⟨rfl,fZ,h3⟩:=h3.tp
 obtain ⟨rfl,f0,h4⟩:=h4.tp
 obtain ⟨rfl,f5,h5⟩:=h5.tp
 obtain ⟨rfl,f6,h6⟩:=h6.tp
 obtain ⟨rfl,f7,h7⟩:=h7.tp
 obtain ⟨rfl,f8,h8⟩:=h8.tp
 refine .s<|.g<|.np 70 [.slice a1 w_.store.idx.names.length c1,.slice a2 w_.store.idx.AV.length c2,.slice a3 w_.store.parts.length c3,.slice a4 w_.store.mem.length c4,.slice a5 w_.disk.files.length c5,.slice a6 w_.disk.list.length c6,.slice a7 w_.disk.names.length c7,vI w_.disk.next] fun W iy bN bO C dF=>?_
 have f9:Cov nil w W:=Bc bN (Nat.le_refl _)
 replace ⟨h1,h2,h3,h4,h5,h6,h7,h8⟩:=(sn [] bO bN).g8 h1 h2 h3 h4 h5 h6 h7 h8
 have E:=bO
 refine .np 114 [vI e.kind,vI e.at_,vI e.cut,.slice a8 e.name.length c8,vI e.row.t,vI e.row.v] fun aa iz bP ci J dG=>?_
 have ga:=AS bP C.lt
 replace ⟨h1,h2,h3,h4,h5,h6,h7,h8,C,E⟩:=(sn [W] ci bP).g10 h1 h2 h3 h4 h5 h6 h7 h8 C E
 refine .np 70 [.slice none 0 0,.slice none 0 0,.slice none 0 0,.slice none 0 0,.slice none 0 0,.slice none 0 0,.slice none 0 0,vI 0] fun ab bu br cj O dH=>?_
 have gb:=AS br C.lt
 have gf:=AS br J.lt
 have gh:=E.cn br
 replace ⟨h1,h2,h3,h4,h5,h6,h7,h8,C,J,E⟩:=(sn [aa,W] cj br).g11 h1 h2 h3 h4 h5 h6 h7 h8 C J E
 refine .d<|.s<|.s<|.g<|.r 1<|.lb J<|.d<|.b 0<|.s<|.g<|.eq e.kind 1 (fun dI=>?_) (fun dI=>?_)
 ·refine .r 1<|.d<|.ct<|.s<|.g<|.r 1<|.lb J<|.cl (ET e.name h8.ta (w:=bu) (F:=all)) ?_
  rintro iA dJ ⟨rfl,ck⟩
  replace ⟨h1,h2,h3,h4,h5,h6,h7,h8,C,J,O,E⟩:=(se [ab,aa,W] ck).g12 h1 h2 h3 h4 h5 h6 h7 h8 C J O E
  cases gi:(BS e.name)
  ·refine .d<|.cf<|.sk<|.ib 0<|.s<|.g<|.ln C<|.sc [.slice a1 w_.store.idx.names.length c1,.slice a2 w_.store.idx.AV.length c2,.slice a3 w_.store.parts.length c3,.slice a4 w_.store.mem.length c4,.slice a5 w_.disk.files.length c5,.slice a6 w_.disk.list.length c6,.slice a7 w_.disk.names.length c7,vI w_.disk.next] O fun iB cm dK dL=>?_
   replace ⟨h1,h2,h3,h4,h5,h6,h7,h8,C,J,E⟩:=(so [ab,aa,W] cm).g11 h1 h2 h3 h4 h5 h6 h7 h8 C J E
   exact .d<|.rb Tryz.func89 Tryz.results89 dK ⟨(VS.of (y:=w_) ⟨_,rfl,⟨_,_,_,_,_,_,_,_,_,_,_,_,_,_,_,_,_,_,_,_,_,rfl,h1.w1,h2.w1,h3.w1,h4.w1,h5.w1,h6.w1,h7.w1⟩⟩ (by (rw [UP ‹_› ‹_›]))),E⟩
  refine .d<|.ct<|.s<|.g<|.r 1<|.ln C<|.r 1<|.lb J<|.r 1<|.ln J<|.cl (Kq w_.store e.name e.row h1 h2 h3 h4 h8 p0.sto.sz p1 (w:=dJ) (F:=nin (fo F w.heap.size) [ab,aa,W])) ?_
  rintro iC iD ⟨⟨iE,rfl,⟨_,rfl,⟨b0,iF,b6,b7,iG,b8,b9,iH,cd,ce,iI,cg,rfl,aK,aL,aM,aN⟩⟩⟩,co⟩
  have bt:=al3 O.lt J.lt C.lt
  have bM:Gb w.heap.size dJ.heap.size:=E.size
  replace ⟨h1,h2,h3,h4,h5,h6,h7,C,J,O,E⟩:=(se [ab,aa,W] co).g11 h1 h2 h3 h4 h5 h6 h7 C J O E
  replace aK:=RepS.Aa (M:=[ab,aa,W]) aK bt bM
  have gj:=aK.max
  replace aL:=RepS.Aa (M:=[ab,aa,W]) aL bt bM
  have gk:=aL.max
  replace aM:=RepS.Aa (M:=[ab,aa,W]) aM bt bM
  have gl:=aM.max
  replace aN:=RepS.Aa (M:=[ab,aa,W]) aN bt bM
  have gm:=aN.max
  have dM:=aK.len
  subst dM
  have dN:=aL.len
  subst dN
  have dO:=aM.len
  subst dO
  have cr:=aN.len
  subst cr
  refine .r 3<|.np 34 [.slice none 0 0,.slice none 0 0,.slice none 0 0,.slice none 0 0] fun bk gn ax bv cu cv=>?_
  have e8:=AS ax C.lt
  have fa:=AS ax J.lt
  have fb:=AS ax O.lt
  have fc:=E.cn ax
  replace ⟨h1,h2,h3,h4,h5,h6,h7,C,J,O,aK,aL⟩:=(sn [ab,aa,W] bv ax).g12 h1 h2 h3 h4 h5 h6 h7 C J O aK aL
  replace ⟨aM,aN,E⟩:=(sn [ab,aa,W] bv ax).g3 aM aN E
  refine .sc [.slice b0 (((((C3 w_.store e.name e.row).1).idx).names).length) b6,.slice b7 (((((C3 w_.store e.name e.row).1).idx).AV).length) b8,.slice b9 ((((C3 w_.store e.name e.row).1).parts).length) cd,.slice ce ((((C3 w_.store e.name e.row).1).mem).length) cg] cu fun gp bw cw cx=>?_
  replace ⟨h1,h2,h3,h4,h5,h6,h7,C,J,O,aK,aL⟩:=(so [bk,ab,aa,W] bw).g12 h1 h2 h3 h4 h5 h6 h7 C J O aK aL
  replace ⟨aM,aN,E⟩:=(so [bk,ab,aa,W] bw).g3 aM aN E
  refine .r 1<|.d<|.g<|.ln cw<|.r 1<|.sb 0 (.agg #[.slice b0 (((((C3 w_.store e.name e.row).1).idx).names).length) b6,.slice b7 (((((C3 w_.store e.name e.row).1).idx).AV).length) b8,.slice b9 ((((C3 w_.store e.name e.row).1).parts).length) cd,.slice ce ((((C3 w_.store e.name e.row).1).mem).length) cg]) [.slice b0 (((((C3 w_.store e.name e.row).1).idx).names).length) b6,.slice b7 (((((C3 w_.store e.name e.row).1).idx).AV).length) b8,.slice b9 ((((C3 w_.store e.name e.row).1).parts).length) cd,.slice ce ((((C3 w_.store e.name e.row).1).mem).length) cg,.slice a5 w_.disk.files.length c5,.slice a6 w_.disk.list.length c6,.slice a7 w_.disk.names.length c7,vI w_.disk.next] C fun gq bz cy cz=>?_
  replace ⟨h1,h2,h3,h4,h5,h6,h7,J,O,aK,aL,aM⟩:=(so [bk,ab,aa,W] bz).g12 h1 h2 h3 h4 h5 h6 h7 J O aK aL aM
  replace ⟨aN,E⟩:=(so [bk,ab,aa,W] bz).g2 aN E
  refine .d<|.ib 0<|.s<|.g<|.ln cy<|.sc [.slice b0 (((((C3 w_.store e.name e.row).1).idx).names).length) b6,.slice b7 (((((C3 w_.store e.name e.row).1).idx).AV).length) b8,.slice b9 ((((C3 w_.store e.name e.row).1).parts).length) cd,.slice ce ((((C3 w_.store e.name e.row).1).mem).length) cg,.slice a5 w_.disk.files.length c5,.slice a6 w_.disk.list.length c6,.slice a7 w_.disk.names.length c7,vI w_.disk.next] O fun gr bA cA cB=>?_
  replace ⟨h1,h2,h3,h4,h5,h6,h7,J,aK,aL,aM,aN⟩:=(so [bk,ab,aa,W] bA).g12 h1 h2 h3 h4 h5 h6 h7 J aK aL aM aN
  replace E:=(so [bk,ab,aa,W] bA).g1 E
  exact .d<|.rb Tryz.func89 Tryz.results89 cA ⟨(VS.of (y:=(⟨(⟨(⟨(((C3 w_.store e.name e.row).1).idx).names,(((C3 w_.store e.name e.row).1).idx).AV⟩:Idx),((C3 w_.store e.name e.row).1).parts,((C3 w_.store e.name e.row).1).mem⟩:Sto),(⟨w_.disk.files,w_.disk.list,w_.disk.names,w_.disk.next⟩:Dsk)⟩:Wld)) ⟨_,rfl,⟨_,_,_,_,_,_,_,_,_,_,_,_,_,_,_,_,_,_,_,_,_,rfl,aK.w1,aL.w1,aM.w1,aN.w1,h5.w1,h6.w1,h7.w1⟩⟩ (by (rw [VP ‹_› ‹_›]))),E⟩
 refine .r 1<|.d<|.cf<|.s<|.g<|.eq e.kind 2 (fun cC=>?_) (fun cC=>?_)
 ·refine .r 1<|.d<|.ct<|.s<|.g<|.r 1<|.ln C<|.cl (JU w_.store h1 h2 h3 h4 (by have:=p0.sto.nm2; omega) p0.sto.Hs (w:=bu) (F:=nin (fo F w.heap.size) [ab,aa,W])) ?_
  rintro gs gt ⟨⟨gu,rfl,⟨_,rfl,⟨dP,gv,dQ,dR,gw,dS,dT,gx,dU,dV,gy,dW,rfl,af,ag,ah,ai⟩⟩⟩,bQ⟩
  have aR:=al3 O.lt J.lt C.lt
  have bm:Gb w.heap.size bu.heap.size:=E.size
  replace ⟨h1,h2,h3,h4,h5,h6,h7,C,J,O,E⟩:=(se [ab,aa,W] bQ).g11 h1 h2 h3 h4 h5 h6 h7 C J O E
  replace af:=RepS.Aa (M:=[ab,aa,W]) af aR bm
  have fd:=af.max
  replace ag:=RepS.Aa (M:=[ab,aa,W]) ag aR bm
  have fe:=ag.max
  replace ah:=RepS.Aa (M:=[ab,aa,W]) ah aR bm
  have ff:=ah.max
  replace ai:=RepS.Aa (M:=[ab,aa,W]) ai aR bm
  have fg:=ai.max
  have cD:=af.len
  subst cD
  have cE:=ag.len
  subst cE
  have cF:=ah.len
  subst cF
  have cG:=ai.len
  subst cG
  refine .r 3<|.np 34 [.slice none 0 0,.slice none 0 0,.slice none 0 0,.slice none 0 0] fun ac gz ay bB cH cI=>?_
  have fh:=AS ay C.lt
  have fi:=AS ay J.lt
  have fj:=AS ay O.lt
  have fk:=E.cn ay
  replace ⟨h1,h2,h3,h4,h5,h6,h7,C,J,O,af,ag⟩:=(sn [ab,aa,W] bB ay).g12 h1 h2 h3 h4 h5 h6 h7 C J O af ag
  replace ⟨ah,ai,E⟩:=(sn [ab,aa,W] bB ay).g3 ah ai E
  refine .sc [.slice dP (((((At w_.store).1).idx).names).length) dQ,.slice dR (((((At w_.store).1).idx).AV).length) dS,.slice dT ((((At w_.store).1).parts).length) dU,.slice dV ((((At w_.store).1).mem).length) dW] cH fun gA bC ao cJ=>?_
  replace ⟨h1,h2,h3,h4,h5,h6,h7,C,J,O,af,ag⟩:=(so [ac,ab,aa,W] bC).g12 h1 h2 h3 h4 h5 h6 h7 C J O af ag
  replace ⟨ah,ai,E⟩:=(so [ac,ab,aa,W] bC).g3 ah ai E
  refine .r 1<|.d<|.s<|.gd nil 9 fun gC bD=>?_
  replace ⟨h1,h2,h3,h4,h5,h6,h7,C,J,O,af,ag⟩:=(se [ac,ab,aa,W] bD).g12 h1 h2 h3 h4 h5 h6 h7 C J O af ag
  replace ⟨ah,ai,ao,E⟩:=(se [ac,ab,aa,W] bD).g4 ah ai ao E
  refine .ln 0 C id<|.r [1]<|.ln 2 C id<|.r [3]<|.ln 4 C id<|.r [6]<|.lb 7 J id<|.ln 8 ao id<|.go 5<|.cl (fun bR ar=>F7 w_.disk w_.store (h5.ta.ext ar) (h6.ta.ext ar) (h7.ta.ext ar) (h1.ta.ext ar) (h2.ta.ext ar) (h3.ta.ext ar) (h4.ta.ext ar) (by have:=p0.sto.nm2; omega) p0.sto.Hs (by have:=p0.dsk.nl; omega) (by have:=p0.sto.nm.len; omega) (fun n hn=>(p0.sto.nm.sz n hn).1) (w:=bR) (F:=all)) ?_
  intro bR ar
  replace ⟨h1,h2,h3,h4,h5,h6,h7,C,J,O,af,ag⟩:=(se [ac,ab,aa,W] ar).g12 h1 h2 h3 h4 h5 h6 h7 C J O af ag
  replace ⟨ah,ai,ao,E⟩:=(se [ac,ab,aa,W] ar).g4 ah ai ao E
  rintro gD gE ⟨⟨gF,gG,rfl,aP⟩,bn⟩
  have bS:=al4 ao.lt O.lt J.lt C.lt
  have cK:Gb w.heap.size bR.heap.size:=E.size
  have hkeep_:=bn
  replace ⟨h1,h2,h3,h4,h5,h6,h7,C,J,O,af,ag⟩:=(se [ac,ab,aa,W] bn).g12 h1 h2 h3 h4 h5 h6 h7 C J O af ag
  replace ⟨ah,ai,ao,E⟩:=(se [ac,ab,aa,W] bn).g4 ah ai ao E
  refine ⟨Ext.chg hkeep_,?_⟩
  have aP:=aP.fr bS cK
  replace aP:=aP.base (G':=fo F w.heap.size) (fun _ _ h=>.inr h)
  have fm:=aP.max
  refine .d fun cp bE=>?_
  replace ⟨h1,h2,h3,h4,h5,h6,h7,C,J,O,af,ag⟩:=(se [ac,ab,aa,W] bE).g12 h1 h2 h3 h4 h5 h6 h7 C J O af ag
  replace ⟨ah,ai,ao,aP,E⟩:=(se [ac,ab,aa,W] bE).g5 ah ai ao aP E
  refine .cl (GB w_ (BZ w_.disk w_.store) e.cut (⟨(⟨(((At w_.store).1).idx).names,(((At w_.store).1).idx).AV⟩:Idx),((At w_.store).1).parts,((At w_.store).1).mem⟩:Sto) h1 h2 h3 h4 h5 h6 h7 aP af ag ah ai p0 (by exact StI.flush p0) (by exact p0.sto.flush) (w:=cp) (F:=nin (fo F w.heap.size) [ac,ab,aa,W])) ?_
  rintro gH gI ⟨⟨_,rfl,⟨dX,gJ,dY,dZ,gK,d0,d3,gL,d4,d5,gM,d6,d7,gN,d8,d9,gO,ec,ed,gP,ee,rfl,aS,aT,aU,aV,aW,aX,aY⟩⟩,bT⟩
  have au:=al4 ao.lt O.lt J.lt C.lt
  have az:Gb w.heap.size cp.heap.size:=E.size
  replace ⟨h1,h2,h3,h4,h5,h6,h7,C,J,O,E⟩:=(se [ac,ab,aa,W] bT).g11 h1 h2 h3 h4 h5 h6 h7 C J O E
  replace aS:=RepS.Aa (M:=[ac,ab,aa,W]) aS au az
  have fp:=aS.max
  replace aT:=RepS.Aa (M:=[ac,ab,aa,W]) aT au az
  have fq:=aT.max
  replace aU:=RepS.Aa (M:=[ac,ab,aa,W]) aU au az
  have ft:=aU.max
  replace aV:=RepS.Aa (M:=[ac,ab,aa,W]) aV au az
  have fu:=aV.max
  replace aW:=RepS.Aa (M:=[ac,ab,aa,W]) aW au az
  have fv:=aW.max
  replace aX:=RepS.Aa (M:=[ac,ab,aa,W]) aX au az
  have fw:=aX.max
  replace aY:=RepS.Aa (M:=[ac,ab,aa,W]) aY au az
  have fz:=aY.max
  have cL:=aS.len
  subst cL
  have cM:=aT.len
  subst cM
  have cN:=aU.len
  subst cN
  have cO:=aV.len
  subst cO
  have cP:=aW.len
  subst cP
  have cQ:=aX.len
  subst cQ
  have cR:=aY.len
  subst cR
  refine .sc [.slice dX (((((Bb w_ (BZ w_.disk w_.store) e.cut (⟨(⟨(((At w_.store).1).idx).names,(((At w_.store).1).idx).AV⟩:Idx),((At w_.store).1).parts,((At w_.store).1).mem⟩:Sto)).store).idx).names).length) dY,.slice dZ (((((Bb w_ (BZ w_.disk w_.store) e.cut (⟨(⟨(((At w_.store).1).idx).names,(((At w_.store).1).idx).AV⟩:Idx),((At w_.store).1).parts,((At w_.store).1).mem⟩:Sto)).store).idx).AV).length) d0,.slice d3 ((((Bb w_ (BZ w_.disk w_.store) e.cut (⟨(⟨(((At w_.store).1).idx).names,(((At w_.store).1).idx).AV⟩:Idx),((At w_.store).1).parts,((At w_.store).1).mem⟩:Sto)).store).parts).length) d4,.slice d5 ((((Bb w_ (BZ w_.disk w_.store) e.cut (⟨(⟨(((At w_.store).1).idx).names,(((At w_.store).1).idx).AV⟩:Idx),((At w_.store).1).parts,((At w_.store).1).mem⟩:Sto)).store).mem).length) d6,.slice d7 ((((Bb w_ (BZ w_.disk w_.store) e.cut (⟨(⟨(((At w_.store).1).idx).names,(((At w_.store).1).idx).AV⟩:Idx),((At w_.store).1).parts,((At w_.store).1).mem⟩:Sto)).disk).files).length) d8,.slice d9 ((((Bb w_ (BZ w_.disk w_.store) e.cut (⟨(⟨(((At w_.store).1).idx).names,(((At w_.store).1).idx).AV⟩:Idx),((At w_.store).1).parts,((At w_.store).1).mem⟩:Sto)).disk).list).length) ec,.slice ed ((((Bb w_ (BZ w_.disk w_.store) e.cut (⟨(⟨(((At w_.store).1).idx).names,(((At w_.store).1).idx).AV⟩:Idx),((At w_.store).1).parts,((At w_.store).1).mem⟩:Sto)).disk).names).length) ee,vI (((Bb w_ (BZ w_.disk w_.store) e.cut (⟨(⟨(((At w_.store).1).idx).names,(((At w_.store).1).idx).AV⟩:Idx),((At w_.store).1).parts,((At w_.store).1).mem⟩:Sto)).disk).next)] O fun gQ bF cS cT=>?_
  replace ⟨h1,h2,h3,h4,h5,h6,h7,C,J,aS,aT,aU⟩:=(so [ac,ab,aa,W] bF).g12 h1 h2 h3 h4 h5 h6 h7 C J aS aT aU
  replace ⟨aV,aW,aX,aY,E⟩:=(so [ac,ab,aa,W] bF).g5 aV aW aX aY E
  exact .d<|.rb Tryz.func89 Tryz.results89 cS ⟨(VS.of (y:=(⟨(⟨(⟨(((Bb w_ (BZ w_.disk w_.store) e.cut (⟨(⟨(((At w_.store).1).idx).names,(((At w_.store).1).idx).AV⟩:Idx),((At w_.store).1).parts,((At w_.store).1).mem⟩:Sto)).store).idx).names,(((Bb w_ (BZ w_.disk w_.store) e.cut (⟨(⟨(((At w_.store).1).idx).names,(((At w_.store).1).idx).AV⟩:Idx),((At w_.store).1).parts,((At w_.store).1).mem⟩:Sto)).store).idx).AV⟩:Idx),((Bb w_ (BZ w_.disk w_.store) e.cut (⟨(⟨(((At w_.store).1).idx).names,(((At w_.store).1).idx).AV⟩:Idx),((At w_.store).1).parts,((At w_.store).1).mem⟩:Sto)).store).parts,((Bb w_ (BZ w_.disk w_.store) e.cut (⟨(⟨(((At w_.store).1).idx).names,(((At w_.store).1).idx).AV⟩:Idx),((At w_.store).1).parts,((At w_.store).1).mem⟩:Sto)).store).mem⟩:Sto),(⟨((Bb w_ (BZ w_.disk w_.store) e.cut (⟨(⟨(((At w_.store).1).idx).names,(((At w_.store).1).idx).AV⟩:Idx),((At w_.store).1).parts,((At w_.store).1).mem⟩:Sto)).disk).files,((Bb w_ (BZ w_.disk w_.store) e.cut (⟨(⟨(((At w_.store).1).idx).names,(((At w_.store).1).idx).AV⟩:Idx),((At w_.store).1).parts,((At w_.store).1).mem⟩:Sto)).disk).list,((Bb w_ (BZ w_.disk w_.store) e.cut (⟨(⟨(((At w_.store).1).idx).names,(((At w_.store).1).idx).AV⟩:Idx),((At w_.store).1).parts,((At w_.store).1).mem⟩:Sto)).disk).names,((Bb w_ (BZ w_.disk w_.store) e.cut (⟨(⟨(((At w_.store).1).idx).names,(((At w_.store).1).idx).AV⟩:Idx),((At w_.store).1).parts,((At w_.store).1).mem⟩:Sto)).disk).next⟩:Dsk)⟩:Wld)) ⟨_,rfl,⟨_,_,_,_,_,_,_,_,_,_,_,_,_,_,_,_,_,_,_,_,_,rfl,aS.w1,aT.w1,aU.w1,aV.w1,aW.w1,aX.w1,aY.w1⟩⟩ (by (rw [VQ ‹_›]))),E⟩
 refine .r 1<|.d<|.cf<|.s<|.g<|.eq e.kind 3 (fun cU=>?_) (fun cU=>?_)
 ·refine .r 1<|.d<|.ct<|.s<|.g<|.r 1<|.ln C<|.r 1<|.lb J<|.cl (JV w_.store e.at_ h1 h2 h3 h4 (by have:=p0.sto.np; omega) (fun p hp=>(p0.sto.part p hp).sz) (w:=bu) (F:=nin (fo F w.heap.size) [ab,aa,W])) ?_
  rintro gR gS ⟨⟨gT,rfl,⟨_,rfl,⟨ef,gU,eg,eh,gV,ej,ek,gW,en,et,gX,ey,rfl,aj,ak,al,am⟩⟩⟩,bU⟩
  have aZ:=al3 O.lt J.lt C.lt
  have bo:Gb w.heap.size bu.heap.size:=E.size
  replace ⟨h1,h2,h3,h4,h5,h6,h7,C,J,O,E⟩:=(se [ab,aa,W] bU).g11 h1 h2 h3 h4 h5 h6 h7 C J O E
  replace aj:=RepS.Aa (M:=[ab,aa,W]) aj aZ bo
  have fA:=aj.max
  replace ak:=RepS.Aa (M:=[ab,aa,W]) ak aZ bo
  have fB:=ak.max
  replace al:=RepS.Aa (M:=[ab,aa,W]) al aZ bo
  have fC:=al.max
  replace am:=RepS.Aa (M:=[ab,aa,W]) am aZ bo
  have fD:=am.max
  have cV:=aj.len
  subst cV
  have cW:=ak.len
  subst cW
  have cX:=al.len
  subst cX
  have cY:=am.len
  subst cY
  refine .r 3<|.np 34 [.slice none 0 0,.slice none 0 0,.slice none 0 0,.slice none 0 0] fun ae gY aA bG cZ c9=>?_
  have fE:=AS aA C.lt
  have fF:=AS aA J.lt
  have fG:=AS aA O.lt
  have fH:=E.cn aA
  replace ⟨h1,h2,h3,h4,h5,h6,h7,C,J,O,aj,ak⟩:=(sn [ab,aa,W] bG aA).g12 h1 h2 h3 h4 h5 h6 h7 C J O aj ak
  replace ⟨al,am,E⟩:=(sn [ab,aa,W] bG aA).g3 al am E
  refine .sc [.slice ef (((((Av w_.store e.at_).1).idx).names).length) eg,.slice eh (((((Av w_.store e.at_).1).idx).AV).length) ej,.slice ek ((((Av w_.store e.at_).1).parts).length) en,.slice et ((((Av w_.store e.at_).1).mem).length) ey] cZ fun gZ bH aq da=>?_
  replace ⟨h1,h2,h3,h4,h5,h6,h7,C,J,O,aj,ak⟩:=(so [ae,ab,aa,W] bH).g12 h1 h2 h3 h4 h5 h6 h7 C J O aj ak
  replace ⟨al,am,E⟩:=(so [ae,ab,aa,W] bH).g3 al am E
  refine .r 1<|.d<|.s<|.gd nil 9 fun g0 bI=>?_
  replace ⟨h1,h2,h3,h4,h5,h6,h7,C,J,O,aj,ak⟩:=(se [ae,ab,aa,W] bI).g12 h1 h2 h3 h4 h5 h6 h7 C J O aj ak
  replace ⟨al,am,aq,E⟩:=(se [ae,ab,aa,W] bI).g4 al am aq E
  refine .ln 0 C id<|.r [1]<|.ln 2 C id<|.r [3]<|.lb 4 J id<|.r [6]<|.lb 7 J id<|.ln 8 aq id<|.go 5<|.cl (fun bV aO=>F9 w_.disk e.at_ (h5.ta.ext aO) (h6.ta.ext aO) (h7.ta.ext aO) (by have:=p0.dsk.nm.len; omega) (fun n hn=>(p0.dsk.nm.sz n hn).1) (by have:=p0.dsk.nl; omega) p0.dsk.at (fun f hf=>(p0.dsk.file f hf).sz) (w:=bV) (F:=all)) ?_
  intro bV aO
  replace ⟨h1,h2,h3,h4,h5,h6,h7,C,J,O,aj,ak⟩:=(se [ae,ab,aa,W] aO).g12 h1 h2 h3 h4 h5 h6 h7 C J O aj ak
  replace ⟨al,am,aq,E⟩:=(se [ae,ab,aa,W] aO).g4 al am aq E
  rintro hC hD ⟨⟨hE,hH,rfl,aQ⟩,bq⟩
  have bW:=al4 aq.lt O.lt J.lt C.lt
  have db:Gb w.heap.size bV.heap.size:=E.size
  have hkeep_:=bq
  replace ⟨h1,h2,h3,h4,h5,h6,h7,C,J,O,aj,ak⟩:=(se [ae,ab,aa,W] bq).g12 h1 h2 h3 h4 h5 h6 h7 C J O aj ak
  replace ⟨al,am,aq,E⟩:=(se [ae,ab,aa,W] bq).g4 al am aq E
  refine ⟨Ext.chg hkeep_,?_⟩
  have aQ:=aQ.fr bW db
  replace aQ:=aQ.base (G':=fo F w.heap.size) (fun _ _ h=>.inr h)
  have fI:=aQ.max
  refine .d fun cq bJ=>?_
  replace ⟨h1,h2,h3,h4,h5,h6,h7,C,J,O,aj,ak⟩:=(se [ae,ab,aa,W] bJ).g12 h1 h2 h3 h4 h5 h6 h7 C J O aj ak
  replace ⟨al,am,aq,aQ,E⟩:=(se [ae,ab,aa,W] bJ).g5 al am aq aQ E
  refine .cl (GB w_ (Ba w_.disk e.at_) e.cut (⟨(⟨(((Av w_.store e.at_).1).idx).names,(((Av w_.store e.at_).1).idx).AV⟩:Idx),((Av w_.store e.at_).1).parts,((Av w_.store e.at_).1).mem⟩:Sto) h1 h2 h3 h4 h5 h6 h7 aQ aj ak al am p0 (by exact StI.merge p0.dsk _) (by exact p0.sto.merge _) (w:=cq) (F:=nin (fo F w.heap.size) [ae,ab,aa,W])) ?_
  rintro hJ hN ⟨⟨_,rfl,⟨ez,hO,eA,eB,hQ,eC,eD,hV,eE,eF,hW,eG,eH,ia,eI,eJ,ic,eK,eL,ie,eM,rfl,ba,bc,bd,bg,bh,bi,bj⟩⟩,bX⟩
  have av:=al4 aq.lt O.lt J.lt C.lt
  have aB:Gb w.heap.size cq.heap.size:=E.size
  replace ⟨h1,h2,h3,h4,h5,h6,h7,C,J,O,E⟩:=(se [ae,ab,aa,W] bX).g11 h1 h2 h3 h4 h5 h6 h7 C J O E
  replace ba:=RepS.Aa (M:=[ae,ab,aa,W]) ba av aB
  have fJ:=ba.max
  replace bc:=RepS.Aa (M:=[ae,ab,aa,W]) bc av aB
  have fK:=bc.max
  replace bd:=RepS.Aa (M:=[ae,ab,aa,W]) bd av aB
  have fL:=bd.max
  replace bg:=RepS.Aa (M:=[ae,ab,aa,W]) bg av aB
  have fM:=bg.max
  replace bh:=RepS.Aa (M:=[ae,ab,aa,W]) bh av aB
  have fN:=bh.max
  replace bi:=RepS.Aa (M:=[ae,ab,aa,W]) bi av aB
  have fO:=bi.max
  replace bj:=RepS.Aa (M:=[ae,ab,aa,W]) bj av aB
  have fP:=bj.max
  have de:=ba.len
  subst de
  have df:=bc.len
  subst df
  have dg:=bd.len
  subst dg
  have dh:=bg.len
  subst dh
  have dj:=bh.len
  subst dj
  have dm:=bi.len
  subst dm
  have dp:=bj.len
  subst dp
  refine .sc [.slice ez (((((Bb w_ (Ba w_.disk e.at_) e.cut (⟨(⟨(((Av w_.store e.at_).1).idx).names,(((Av w_.store e.at_).1).idx).AV⟩:Idx),((Av w_.store e.at_).1).parts,((Av w_.store e.at_).1).mem⟩:Sto)).store).idx).names).length) eA,.slice eB (((((Bb w_ (Ba w_.disk e.at_) e.cut (⟨(⟨(((Av w_.store e.at_).1).idx).names,(((Av w_.store e.at_).1).idx).AV⟩:Idx),((Av w_.store e.at_).1).parts,((Av w_.store e.at_).1).mem⟩:Sto)).store).idx).AV).length) eC,.slice eD ((((Bb w_ (Ba w_.disk e.at_) e.cut (⟨(⟨(((Av w_.store e.at_).1).idx).names,(((Av w_.store e.at_).1).idx).AV⟩:Idx),((Av w_.store e.at_).1).parts,((Av w_.store e.at_).1).mem⟩:Sto)).store).parts).length) eE,.slice eF ((((Bb w_ (Ba w_.disk e.at_) e.cut (⟨(⟨(((Av w_.store e.at_).1).idx).names,(((Av w_.store e.at_).1).idx).AV⟩:Idx),((Av w_.store e.at_).1).parts,((Av w_.store e.at_).1).mem⟩:Sto)).store).mem).length) eG,.slice eH ((((Bb w_ (Ba w_.disk e.at_) e.cut (⟨(⟨(((Av w_.store e.at_).1).idx).names,(((Av w_.store e.at_).1).idx).AV⟩:Idx),((Av w_.store e.at_).1).parts,((Av w_.store e.at_).1).mem⟩:Sto)).disk).files).length) eI,.slice eJ ((((Bb w_ (Ba w_.disk e.at_) e.cut (⟨(⟨(((Av w_.store e.at_).1).idx).names,(((Av w_.store e.at_).1).idx).AV⟩:Idx),((Av w_.store e.at_).1).parts,((Av w_.store e.at_).1).mem⟩:Sto)).disk).list).length) eK,.slice eL ((((Bb w_ (Ba w_.disk e.at_) e.cut (⟨(⟨(((Av w_.store e.at_).1).idx).names,(((Av w_.store e.at_).1).idx).AV⟩:Idx),((Av w_.store e.at_).1).parts,((Av w_.store e.at_).1).mem⟩:Sto)).disk).names).length) eM,vI (((Bb w_ (Ba w_.disk e.at_) e.cut (⟨(⟨(((Av w_.store e.at_).1).idx).names,(((Av w_.store e.at_).1).idx).AV⟩:Idx),((Av w_.store e.at_).1).parts,((Av w_.store e.at_).1).mem⟩:Sto)).disk).next)] O fun ig bK dq dr=>?_
  replace ⟨h1,h2,h3,h4,h5,h6,h7,C,J,ba,bc,bd⟩:=(so [ae,ab,aa,W] bK).g12 h1 h2 h3 h4 h5 h6 h7 C J ba bc bd
  replace ⟨bg,bh,bi,bj,E⟩:=(so [ae,ab,aa,W] bK).g5 bg bh bi bj E
  exact .d<|.rb Tryz.func89 Tryz.results89 dq ⟨(VS.of (y:=(⟨(⟨(⟨(((Bb w_ (Ba w_.disk e.at_) e.cut (⟨(⟨(((Av w_.store e.at_).1).idx).names,(((Av w_.store e.at_).1).idx).AV⟩:Idx),((Av w_.store e.at_).1).parts,((Av w_.store e.at_).1).mem⟩:Sto)).store).idx).names,(((Bb w_ (Ba w_.disk e.at_) e.cut (⟨(⟨(((Av w_.store e.at_).1).idx).names,(((Av w_.store e.at_).1).idx).AV⟩:Idx),((Av w_.store e.at_).1).parts,((Av w_.store e.at_).1).mem⟩:Sto)).store).idx).AV⟩:Idx),((Bb w_ (Ba w_.disk e.at_) e.cut (⟨(⟨(((Av w_.store e.at_).1).idx).names,(((Av w_.store e.at_).1).idx).AV⟩:Idx),((Av w_.store e.at_).1).parts,((Av w_.store e.at_).1).mem⟩:Sto)).store).parts,((Bb w_ (Ba w_.disk e.at_) e.cut (⟨(⟨(((Av w_.store e.at_).1).idx).names,(((Av w_.store e.at_).1).idx).AV⟩:Idx),((Av w_.store e.at_).1).parts,((Av w_.store e.at_).1).mem⟩:Sto)).store).mem⟩:Sto),(⟨((Bb w_ (Ba w_.disk e.at_) e.cut (⟨(⟨(((Av w_.store e.at_).1).idx).names,(((Av w_.store e.at_).1).idx).AV⟩:Idx),((Av w_.store e.at_).1).parts,((Av w_.store e.at_).1).mem⟩:Sto)).disk).files,((Bb w_ (Ba w_.disk e.at_) e.cut (⟨(⟨(((Av w_.store e.at_).1).idx).names,(((Av w_.store e.at_).1).idx).AV⟩:Idx),((Av w_.store e.at_).1).parts,((Av w_.store e.at_).1).mem⟩:Sto)).disk).list,((Bb w_ (Ba w_.disk e.at_) e.cut (⟨(⟨(((Av w_.store e.at_).1).idx).names,(((Av w_.store e.at_).1).idx).AV⟩:Idx),((Av w_.store e.at_).1).parts,((Av w_.store e.at_).1).mem⟩:Sto)).disk).names,((Bb w_ (Ba w_.disk e.at_) e.cut (⟨(⟨(((Av w_.store e.at_).1).idx).names,(((Av w_.store e.at_).1).idx).AV⟩:Idx),((Av w_.store e.at_).1).parts,((Av w_.store e.at_).1).mem⟩:Sto)).disk).next⟩:Dsk)⟩:Wld)) ⟨_,rfl,⟨_,_,_,_,_,_,_,_,_,_,_,_,_,_,_,_,_,_,_,_,_,rfl,ba.w1,bc.w1,bd.w1,bg.w1,bh.w1,bi.w1,bj.w1⟩⟩ (by (rw [VR ‹_›]))),E⟩
 refine .r 1<|.d<|.cf<|.s<|.g<|.eq e.kind 4 (fun dt=>?_) (fun dt=>?_)
 ·refine .r 1<|.d<|.ct<|.s<|.g<|.ln C<|.cl (GX w_ h1.ta h2.ta h3.ta h4.ta h5.ta h6.ta h7.ta p0.dsk (w:=bu) (F:=all)) ?_
  rintro ii ij ⟨⟨_,rfl,⟨eN,ik,eO,eP,il,eQ,eR,im,eS,eT,io,eU,eV,ip,eW,eX,iq,eY,eZ,ir,e7,rfl,aD,aE,aF,aG,aH,aI,aJ⟩⟩,bY⟩
  have aw:=al3 O.lt J.lt C.lt
  have aC:Gb w.heap.size bu.heap.size:=E.size
  replace ⟨h1,h2,h3,h4,h5,h6,h7,C,O,E⟩:=(se [ab,aa,W] bY).g10 h1 h2 h3 h4 h5 h6 h7 C O E
  have aD:=aD.fr aw aC
  replace aD:=aD.base (G':=fo F w.heap.size) (fun _ _ h=>.inr h)
  have fQ:=aD.max
  have aE:=aE.fr aw aC
  replace aE:=aE.base (G':=fo F w.heap.size) (fun _ _ h=>.inr h)
  have fR:=aE.max
  have aF:=aF.fr aw aC
  replace aF:=aF.base (G':=fo F w.heap.size) (fun _ _ h=>.inr h)
  have fS:=aF.max
  have aG:=aG.fr aw aC
  replace aG:=aG.base (G':=fo F w.heap.size) (fun _ _ h=>.inr h)
  have fT:=aG.max
  have aH:=aH.fr aw aC
  replace aH:=aH.base (G':=fo F w.heap.size) (fun _ _ h=>.inr h)
  have fU:=aH.max
  have aI:=aI.fr aw aC
  replace aI:=aI.base (G':=fo F w.heap.size) (fun _ _ h=>.inr h)
  have fV:=aI.max
  have aJ:=aJ.fr aw aC
  replace aJ:=aJ.base (G':=fo F w.heap.size) (fun _ _ h=>.inr h)
  have fW:=aJ.max
  have du:=aD.len
  subst du
  have dv:=aE.len
  subst dv
  have dw:=aF.len
  subst dw
  have dx:=aG.len
  subst dx
  have dy:=aH.len
  subst dy
  have dz:=aI.len
  subst dz
  have dA:=aJ.len
  subst dA
  refine .sc [.slice eN (((((CH w_).store).idx).names).length) eO,.slice eP (((((CH w_).store).idx).AV).length) eQ,.slice eR ((((CH w_).store).parts).length) eS,.slice eT ((((CH w_).store).mem).length) eU,.slice eV ((((CH w_).disk).files).length) eW,.slice eX ((((CH w_).disk).list).length) eY,.slice eZ ((((CH w_).disk).names).length) e7,vI (((CH w_).disk).next)] O fun iu bL dB dC=>?_
  replace ⟨h1,h2,h3,h4,h5,h6,h7,C,aD,aE,aF,aG⟩:=(so [ab,aa,W] bL).g12 h1 h2 h3 h4 h5 h6 h7 C aD aE aF aG
  replace ⟨aH,aI,aJ,E⟩:=(so [ab,aa,W] bL).g4 aH aI aJ E
  exact .d<|.rb Tryz.func89 Tryz.results89 dB ⟨(VS.of (y:=(⟨(⟨(⟨(((CH w_).store).idx).names,(((CH w_).store).idx).AV⟩:Idx),((CH w_).store).parts,((CH w_).store).mem⟩:Sto),(⟨((CH w_).disk).files,((CH w_).disk).list,((CH w_).disk).names,((CH w_).disk).next⟩:Dsk)⟩:Wld)) ⟨_,rfl,⟨_,_,_,_,_,_,_,_,_,_,_,_,_,_,_,_,_,_,_,_,_,rfl,aD.w1,aE.w1,aF.w1,aG.w1,aH.w1,aI.w1,aJ.w1⟩⟩ (by (rw [VT ‹_›]))),E⟩
 refine .r 1<|.d<|.cf<|.sk<|.ib 0<|.s<|.g<|.ln C<|.sc [.slice a1 w_.store.idx.names.length c1,.slice a2 w_.store.idx.AV.length c2,.slice a3 w_.store.parts.length c3,.slice a4 w_.store.mem.length c4,.slice a5 w_.disk.files.length c5,.slice a6 w_.disk.list.length c6,.slice a7 w_.disk.names.length c7,vI w_.disk.next] O fun iw bZ dD dE=>?_
 replace ⟨h1,h2,h3,h4,h5,h6,h7,E⟩:=(so [ab,aa,W] bZ).g8 h1 h2 h3 h4 h5 h6 h7 E
 exact .d<|.rb Tryz.func89 Tryz.results89 dD ⟨(VS.of (y:=w_) ⟨_,rfl,⟨_,_,_,_,_,_,_,_,_,_,_,_,_,_,_,_,_,_,_,_,_,rfl,h1.w1,h2.w1,h3.w1,h4.w1,h5.w1,h6.w1,h7.w1⟩⟩ (by (rw [VU ‹_› ‹_› ‹_› ‹_›]))),E⟩
end Go.Proofs.YtganlmloonielaaGreat
namespace Go.Proofs.YtganlmloonielaaGreat
theorem Ob {a b:Int} (ha:0≤a∧a< 4611686018427387904) (hb:0≤b∧b< 4611686018427387904) :
 IntKind.i64.wrap ((BitVec.ofInt 64 a ^^^ BitVec.ofInt 64 b).toNat:Int)=((a.toNat ^^^ b.toNat:Nat):Int)∧a.toNat ^^^ b.toNat< 4611686018427387904:=by
 have h1:(BitVec.ofInt 64 a).toNat=a.toNat:=by rw [BitVec.toNat_ofInt]; omega
 have h2:(BitVec.ofInt 64 b).toNat=b.toNat:=by rw [BitVec.toNat_ofInt]; omega
 have h3:a.toNat ^^^ b.toNat< 2 ^ 62:=Nat.xor_lt_two_pow AB AB
 rw [BitVec.toNat_xor,h1,h2]
 exact ⟨IntWalk.i64_in _ AB,by omega⟩
theorem Sd {P:Program} {t:TypeId} {x y:Operand} {a b:Int} (ha:0≤a∧a< 4611686018427387904) (hb:0≤b∧b< 4611686018427387904) (w:World) :
 (do eqGuard .xor t x y (.int .i64 a) (.int .i64 b); binOp .xor t (.int .i64 a) (.int .i64 b)).run P w=.ok (.int .i64 ((a.toNat ^^^ b.toNat:Nat):Int)) w:=by
 have h1:(eqGuard .xor t x y (.int .i64 a) (.int .i64 b)).run P w=.ok () w:=rfl
 rw [AW h1,← (Ob ha hb).1]
 rfl
section
variable {P:Program} {n:Nat} {K:Env→World→Prop} {ops:Array Oper} {j:Nat} {e:Env} {w:World}
theorem RG.xor {t:TypeId} {a b:Int} (h:Eg n ops j e=some (.xor,t,.int .i64 a,.int .i64 b)) (ha:0≤a∧a< 4611686018427387904) (hb:0≤b∧b< 4611686018427387904)
 (H:RG P n K ops (j+1) (BL e (An ops j).dst (.int .i64 ((a.toNat ^^^ b.toNat:Nat):Int))) w):RG P n K ops j e w :=
 have h1:=Cy (P:=P) (w:=w) h (fun _ _=>Sd ha hb w)
 RG.val h1.1 h1.2 H
end
theorem GA.quo {P:Program} {S:Nat→Prop} {n m:Nat} {L:Env→World→Prop} {ops:Array Oper} {l:List Nat} {e:Env} {w:World} {i:Nat} {t:TypeId} {a b:Int} (hb:gB n m ops l i=true) (h:Eg n ops i e=some (.quo,t,.int .i64 a,.int .i64 b)) (hb0:b≠0) (hr:-9223372036854775808≤a.tdiv b∧a.tdiv b≤9223372036854775807)
 (H:GA P S n m L ops (i::l) (BL e (An ops i).dst (.int .i64 (a.tdiv b))) w):GA P S n m L ops l e w :=
 GA.JS hb (fun w=>Cy h (fun _ _=>OS hb0 hr w)) H
section
variable {α:Type} [Rep α] {w:World} {G F:Nat→Prop} {M:List Nat} {o:Option Addr} {n c r b s:Nat} {t:TypeId} {xs:List α}
theorem RepS.BB (h:RepS w (nin G M) o n c xs) (hb:b∈M):RepS w (nin all [b]) o n c xs:=h.CJ fun k _ hk=>⟨trivial,fun e=>hk.2 (by simp at e; exact e▸hb)⟩
theorem Own.BB (h:Own w r t (nin G M) n c xs) (hb:b∈M) (hr:Nb r b):RepS w (nin all [b]) (some ⟨r,0,none⟩) n c xs :=
 h.QF (fun k _ hk=>⟨trivial,fun e=>hk.2 (by simp at e; exact e▸hb)⟩) ⟨trivial,fun e=>hr.ne (by simpa using e)⟩
theorem RepS.VV (h:RepS w (nin G M) o n c xs) (hb:b∈M):RepS w (nin G [b]) o n c xs:=h.CJ fun k _ hk=>⟨hk.1,fun e=>hk.2 (by simp at e; exact e▸hb)⟩
theorem RepS.Md (h:RepS w (nin F [b]) o n c xs):RepS w (nin (fo F s) [b]) o n c xs:=h.CJ fun _ _ hF=>⟨.inl hF.1,hF.2⟩
end
theorem Cov.mk1 (w:World) (b:Nat):Cov (Go.Proofs.YtganlmloonielaaGreat.one b) w b:=⟨.inl rfl⟩
instance {w:World} {b:Nat}:Cov (Go.Proofs.YtganlmloonielaaGreat.one b) w b:=⟨.inl rfl⟩
theorem RepS.KC {α:Type} [Rep α] {w:World} {F:Nat→Prop} {M:List Nat} {b s s' n c:Nat} {o:Option Addr} {xs:List α} (h:RepS w (nin (fo (nin (fo F s') M) s) [b]) o n c xs) (hM:∀ k∈M,k< s) (hs:s'≤s):RepS w (nin (fo F s') (b::M)) o n c xs :=
 h.CJ fun k _ hF=>by
  have hb:k≠b:=fun e=>hF.2 (by simp [e])
  rcases hF.1 with h1 | h1
  ·exact ⟨h1.1,by simp [hb]; exact h1.2⟩
  ·exact ⟨.inr AB,by
    intro hm
    rcases List.mem_cons.1 hm with hm | hm
    ·exact hb hm
    ·have:=hM k hm; omega⟩
theorem Qb {a:Int} {n:Nat} (ha:0≤a) (hn:(n:Int)≠0):(Int.tmod a n).toNat< n:=by
 have h1:=Int.tmod_nonneg (n:Int) ha
 have h2:=Int.tmod_lt_of_pos a (show (0:Int)< n by omega)
 omega
theorem Qc {a:Int} {n:Nat} (ha:0≤a):Int.tmod a n=((Int.tmod a n).toNat:Int):=by
 have h1:=Int.tmod_nonneg (n:Int) ha
 omega
theorem Ts {a n:Int} (ha:0≤a) (hn:¬ n< 1):0≤Int.tmod a n∧(Int.tmod a n< n∨Int.tmod a n=0):=by
 have h1:=Int.tmod_nonneg n ha
 have h2:=Int.tmod_lt_of_pos a (show (0:Int)< n by omega)
 omega
theorem FH {a n:Int} (ha:0≤a) (hn:0≤n):0≤Int.tdiv a n∧Int.tdiv a n≤a:=by
 refine ⟨Int.tdiv_nonneg ha hn,?_⟩
 rw [Int.tdiv_eq_ediv_of_nonneg ha]
 exact Int.ediv_le_self n ha
section
variable {α:Type} [Rep α] {w:World} {G:Nat→Prop} {M rs:List Nat} {o:Option Addr} {n c r s:Nat} {t:TypeId} {xs:List α}
theorem Nd {k:Nat} (h:nin (fo (nin G M) s) rs k) (hM:∀ b∈M,b< s) (hG:∀ b,s≤b→G b):nin G (rs++M) k:=by
 refine ⟨?_,fun hm=>?_⟩
 ·rcases h.1 with h1 | h1
  ·exact h1.1
  ·exact hG _ h1
 ·rcases List.mem_append.1 hm with hm | hm
  ·exact h.2 hm
  ·rcases h.1 with h1 | h1
   ·exact h1.2 hm
   ·have h2:=hM k hm
    omega
theorem RepS.HP (h:RepS w (fo (nin G M) s) o n c xs) (hM:∀ b∈M,b< s) (hG:∀ b,s≤b→G b):RepS w (nin G M) o n c xs:=h.CJ fun k _ hk=>Nd (rs:=[]) ⟨hk,by simp⟩ hM hG
end
def G2 (t:Tag):Prop:=t.key∈[[97],[98],[99]]∧t.val∈[[112],[113],[122],[],[111],[112,112]]
def NmD (n:List Tag):Prop:=n.length≤5∧∀ t∈n,G2 t
def E4 (r:Row):Prop:=-1≤r.t∧r.t≤100 ∧ -100≤r.v∧r.v≤100
def Qd (n:List Tag):Nat:=(n.filter (fun t=>!Bg t)).length
def NmX (n:List Tag):Prop:=NmD n∧Qd n≤1
theorem Oc {n:List Tag} (h:∀ t∈n,Bg t=true):Qd n=0:=by
 unfold Qd
 rw [List.length_eq_zero_iff,List.filter_eq_nil_iff]
 intro t ht
 rw [h t ht]
 simp
theorem Jp {n:List Tag} (hl:n.length≤5) (hd:∀ t∈n,G2 t) (h:∀ t∈n,Bg t=true):NmX n:=⟨⟨hl,hd⟩,by rw [Oc h]; omega⟩
theorem Od {n:List Tag} {i:Nat} {u:Tag} (hl:n.length≤5) (hd:∀ t∈n.set i u,G2 t) (h:∀ t∈n,Bg t=true):NmX (n.set i u):=by
 refine ⟨⟨by rw [List.length_set]; exact hl,hd⟩,?_⟩
 by_cases hi:i< n.length
 ·rw [List.set_eq_take_append_cons_drop,if_pos hi]
  unfold Qd
  rw [List.filter_append,List.filter_cons]
  have h1:((n.take i).filter (fun t=>!Bg t))=[]:=List.filter_eq_nil_iff.2 (fun t ht=>by rw [h t (List.mem_of_mem_take ht)]; simp)
  have h2:((n.drop (i+1)).filter (fun t=>!Bg t))=[]:=List.filter_eq_nil_iff.2 (fun t ht=>by rw [h t (List.mem_of_mem_drop ht)]; simp)
  rw [h1,h2]
  split <;> simp
 ·rw [List.set_eq_of_length_le AB,Oc h]
  omega
theorem Se {k v:Str} (hk:k∈[[97],[98],[99]]) (hv:v∈[[112],[113],[122]]):Bg ⟨k,v⟩=true:=by
 simp only [List.mem_cons,List.not_mem_nil,or_false] at hk hv
 rcases hk with rfl | rfl | rfl <;> rcases hv with rfl | rfl | rfl <;> decide
theorem Qe {k v:Str} (hk:(⟨k⟩:Txt)∈([⟨[97]⟩,⟨[98]⟩,⟨[99]⟩]:List Txt)) (hv:(⟨v⟩:Txt)∈([⟨[112]⟩,⟨[113]⟩,⟨[122]⟩]:List Txt)):G2 ⟨k,v⟩∧Bg ⟨k,v⟩=true:=by
 simp only [List.mem_cons,List.not_mem_nil,or_false,Txt.mk.injEq] at hk hv
 refine ⟨⟨?_,?_⟩,Se (by simpa using hk) (by simpa using hv)⟩
 ·simpa using hk
 ·rcases hv with rfl | rfl | rfl <;> simp
theorem Qf {b:Txt} {v:Str} (hk:b=⟨[97]⟩∨b=⟨[98]⟩∨b=⟨[99]⟩) (hv:(⟨v⟩:Txt)∈([⟨[112]⟩,⟨[113]⟩,⟨[122]⟩]:List Txt)):G2 ⟨b.s,v⟩∧Bg ⟨b.s,v⟩=true:=Qe (by rcases hk with rfl | rfl | rfl <;> simp) hv
theorem Me {α:Type} {P:α→Prop} {l:List α} {x:α} (h:∀ t∈l,P t) (hx:P x):∀ t∈l++[x],P t:=fun t ht=>by
 rcases List.mem_append.1 ht with ht | ht
 ·exact h t ht
 ·simp at ht
  subst ht
  exact hx
end Go.Proofs.YtganlmloonielaaGreat
namespace Go.Proofs.YtganlmloonielaaGreat
set_option maxRecDepth 100000
set_option maxHeartbeats 4000000
theorem DX (code:List UInt8) {w:World} {F:Nat→Prop} {a1:Option Addr} {n1 c1:Nat} (h1:RepS w F a1 n1 c1 code)  : Calls Tryz.prog 48 [.slice a1 n1 c1].toArray w (As fun rv w'=>(∃ (D:List UInt8) (b:Nat) (a:Option Addr) (c:Nat),rv=.pointer (some ⟨b,0,none⟩)∧w.heap.size≤b∧Box w' b 122 [.slice a D.length c,.int .i64 ((0:Nat):Int)]∧RepS w' (nin (fo F w.heap.size) [b]) a D.length c D)∧Ext w w'):=by
 refine goT Tryz.func48 ?_
 obtain ⟨rfl,ar,h1⟩:=h1.tp
 refine .s<|.g<|.r 1<|.d<|.s<|.s<|.g<|.r 2<|.bp ((code.length:Int) > 2000) (fun ab=>?_) (fun ab=>?_)
 ·refine .d<|.ct<|.g<|.r 1<|RG.sub (t:=22) (lo:=none) (hi:=some (vI 2000)) h1 0 2000 AA AA (.inl ⟨rfl,rfl⟩) (.inr ⟨_,_,rfl,by omega⟩) AB AB fun al am C=>?_
  have au:=C.len; have av:=C.max
  refine .r 1<|.d<|.s<|.g<|.r 2<|.np 122 [.slice al (2000 - 0) am,vI 0] fun ao aw E J aa ac=>?_
  have ae:=Ad E (Nat.le_refl _)
  replace ⟨h1,C⟩:=(sn [] J E).g2 h1 C
  have af:=J
  refine .r 1<|.d ?_
  have ag:=C.len; rw [ag] at C aa
  exact .rt Tryz.func48 Tryz.results48 (.pointer (some ⟨ao,0,none⟩)) ⟨⟨_,_,_,_,rfl,ae,aa,(RepS.VV C AD)⟩,af⟩
 refine .d<|.cf<|.sk<|.s<|.g<|.r 2<|.np 122 [.slice a1 code.length c1,vI 0] fun aq ax O W ah ai=>?_
 have aj:=Ad O (Nat.le_refl _)
 replace h1:=(sn [] W O).g1 h1
 have ak:=W
 exact .r 1<|.d<|.rt Tryz.func48 Tryz.results48 (.pointer (some ⟨aq,0,none⟩)) ⟨⟨_,_,_,_,rfl,aj,ah,(RepS.VV h1 AD)⟩,ak⟩
theorem AZ (n:Int) {w:World} {F:Nat→Prop} {b:Nat} {ad:Option Addr} {cd p:Nat} {D:List UInt8} (hr:Box w b 122 [.slice ad D.length cd,.int .i64 (p:Int)]) (hD:RepS w (nin all [b]) ad D.length cd D) (hp:p+1≤1000000000)  : Calls Tryz.prog 50 [.pointer (some ⟨b,0,none⟩),.int .i64 n].toArray w (As fun rv w'=>(∃ (y:Int),rv=.int .i64 (y)∧(0≤y∧(y< n∨y=0)))∧∃ p':Nat,p'≤p+1∧Box w' b 122 [.slice ad D.length cd,.int .i64 (p':Int)]∧Chg (one b) w w'):=by
 refine goT Tryz.func50 ?_
 have aA:=hD.max
 refine .s<|.g<|.r 1<|.d<|.s<|.g<|.r 4<|.lb hr<|.it ((p:Int)+1)<|.r 2<|.ss 1 (vI ((p:Int)+1)) hr fun az aa C al=>?_
 replace hD:=(so [b] aa).g1 hD
 have O:Chg (one b) w az:=Chg.Ew (Chg.refl (one b) w) aa (Cov.mk1 w b)
 refine .d<|.s<|.s<|.g<|.r 1<|.bp (n< 1) (fun am=>.r 8<|.d<|.ct<|.s<|.g<|.r 1<|.d<|.rt Tryz.func50 Tryz.results50 (vI 0) ⟨⟨(0:Int),(congrArg (Value.int .i64) (by rfl)),AB⟩,p+1,by omega,C,O⟩) fun am=>.r 4<|.lb C<|.r 1<|.eq (D.length:Int) 0 (fun ao=>.r 1<|.d<|.ct<|.s<|.g<|.r 1<|.d<|.rt Tryz.func50 Tryz.results50 (vI 0) ⟨⟨(0:Int),(congrArg (Value.int .i64) (by rfl)),AB⟩,p+1,by omega,C,O⟩) fun ao=>.r 1<|.d<|.cf<|.sk<|.s<|.g<|.r 3<|.lb C<|.it (((p:Int)+1) - 1)<|.r 1<|.d<|.s<|.s<|.g<|.r 4<|.lb C<|.r 1<|.bp (((p:Int)+1) - 1< (D.length:Int)) (fun aq=>?_) (fun aq=>?_)
 ·refine .d<|.ct<|.s<|.g<|.r 3<|.lb C<|.r 1 ?_
  have af:(((p:Int)+1) - 1).toNat< D.length:=AB
  refine RG.idx ((((p:Int)+1) - 1).toNat) (len:=D.length) (i:=((p:Int)+1) - 1) (sz:=1) AA AB af (hD.addr (Nat.zero_lt_of_lt af)) ?_
  obtain ⟨W,ab⟩:∃ y,D[(((p:Int)+1) - 1).toNat]? = some y:=⟨_,AP AB⟩
  have aB:=AX ab; have aw:=AQ ab
  have aC:=UInt8.toNat_lt W
  obtain ⟨_,rfl,ar⟩:=hD.elem ((((p:Int)+1) - 1).toNat) W ab
  exact .lh 0 ar<|.it ((W.toNat:Int))<|.r 1<|RG.rem (t:=3) (k:=.i64) (a:=(W.toNat:Int)) (b:=n) AA AB<|.r 1<|.d<|.rt Tryz.func50 Tryz.results50 (vI (Int.tmod (W.toNat:Int) n)) ⟨⟨((Int.tmod (W.toNat:Int) n):Int),(congrArg (Value.int .i64) (by rfl)),(by exact Ts AB ‹_›)⟩,p+1,by omega,C,O⟩
 refine .d<|.cf<|.sk<|.s<|.gd nil 44 fun aK ag=>?_
 replace ⟨hD,C,O⟩:=(se [b] ag).g3 hD C O
 refine .r [0,1,2]<|.lb 3 C id<|.r [4,5,6,7]<|.lb 8 C id<|.r [9]<|GA.rem (i:=10) (t:=3) (k:=.i64) (a:=((p:Int)+1) - 1) (b:=(D.length:Int)) AA AA AB ?_
 have ah:((Int.tmod (((p:Int)+1) - 1) (D.length:Int))).toNat< D.length:=(by exact Qb AB AB)
 refine GA.idx (i:=11) (((Int.tmod (((p:Int)+1) - 1) (D.length:Int))).toNat) (len:=D.length) (z:=(Int.tmod (((p:Int)+1) - 1) (D.length:Int))) (sz:=1) AA (by exact Qc AB) ah (hD.addr (Nat.zero_lt_of_lt ah)) ?_
 obtain ⟨E,ac⟩:∃ y,D[((Int.tmod (((p:Int)+1) - 1) (D.length:Int))).toNat]? = some y:=⟨_,AP AB⟩
 have aD:=AX ac; have ax:=AQ ac
 have aE:=UInt8.toNat_lt E
 obtain ⟨_,rfl,au⟩:=hD.elem (((Int.tmod (((p:Int)+1) - 1) (D.length:Int))).toNat) E ac
 refine .lh 12 0 au id<|GA.int (i:=13) ((E.toNat:Int)) AA AB<|GA.int (i:=14) ((E.toNat:Int) * 131) AA AB<|.r [15,16,17]<|.lb 18 C id<|.r [19]<|GA.int (i:=20) ((((p:Int)+1) - 1) * 7) AA AB<|GA.int (i:=21) ((((p:Int)+1) - 1) * 7+3) AA AB<|.r [22,23,24]<|.lb 25 C id<|.r [26]<|GA.rem (i:=27) (t:=3) (k:=.i64) (a:=(((p:Int)+1) - 1) * 7+3) (b:=(D.length:Int)) AA AA AB ?_
 have ai:((Int.tmod ((((p:Int)+1) - 1) * 7+3) (D.length:Int))).toNat< D.length:=(by exact Qb AB AB)
 refine GA.idx (i:=28) (((Int.tmod ((((p:Int)+1) - 1) * 7+3) (D.length:Int))).toNat) (len:=D.length) (z:=(Int.tmod ((((p:Int)+1) - 1) * 7+3) (D.length:Int))) (sz:=1) AA (by exact Qc AB) ai (hD.addr (Nat.zero_lt_of_lt ai)) ?_
 obtain ⟨J,ae⟩:∃ y,D[((Int.tmod ((((p:Int)+1) - 1) * 7+3) (D.length:Int))).toNat]? = some y:=⟨_,AP AB⟩
 have aF:=AX ae; have ay:=AQ ae
 have aG:=UInt8.toNat_lt J
 obtain ⟨_,rfl,av⟩:=hD.elem (((Int.tmod ((((p:Int)+1) - 1) * 7+3) (D.length:Int))).toNat) J ae
 refine .lh 29 0 av id<|GA.int (i:=30) ((J.toNat:Int)) AA AB<|GA.int (i:=31) ((J.toNat:Int) * 1117) AA AB<|GA.int (i:=32) ((E.toNat:Int) * 131+((J.toNat:Int) * 1117)) AA AB<|.r [33]<|GA.int (i:=34) ((((p:Int)+1) - 1) * 29) AA AB<|GA.int (i:=35) ((E.toNat:Int) * 131+((J.toNat:Int) * 1117)+((((p:Int)+1) - 1) * 29)) AA AB<|.r [36,37,38,39]<|.lb 40 C id<|.r [41] ?_
 have aH:=FH (a:=((p:Int)+1) - 1) (n:=(D.length:Int)) AB AB
 refine GA.quo (i:=42) (t:=3) (a:=((p:Int)+1) - 1) (b:=(D.length:Int)) AA AA AB AB<|GA.int (i:=43) ((Int.tdiv (((p:Int)+1) - 1) (D.length:Int)) * 53) AA AB<|.d fun aL aj=>?_
 replace ⟨hD,C,O⟩:=(se [b] aj).g3 hD C O
 refine .it ((E.toNat:Int) * 131+((J.toNat:Int) * 1117)+((((p:Int)+1) - 1) * 29)+((Int.tdiv (((p:Int)+1) - 1) (D.length:Int)) * 53))<|.r 1<|.d<|.s<|.g<|.r 2 ?_
 have aI:=FH (a:=(E.toNat:Int) * 131+((J.toNat:Int) * 1117)+((((p:Int)+1) - 1) * 29)+((Int.tdiv (((p:Int)+1) - 1) (D.length:Int)) * 53)) (n:=64) AB AB
 refine RG.quo (t:=3) (a:=(E.toNat:Int) * 131+((J.toNat:Int) * 1117)+((((p:Int)+1) - 1) * 29)+((Int.tdiv (((p:Int)+1) - 1) (D.length:Int)) * 53)) (b:=64) AA AB AB<|RG.xor (t:=3) (a:=(E.toNat:Int) * 131+((J.toNat:Int) * 1117)+((((p:Int)+1) - 1) * 29)+((Int.tdiv (((p:Int)+1) - 1) (D.length:Int)) * 53)) (b:=(Int.tdiv ((E.toNat:Int) * 131+((J.toNat:Int) * 1117)+((((p:Int)+1) - 1) * 29)+((Int.tdiv (((p:Int)+1) - 1) (D.length:Int)) * 53)) 64)) AA AB AB ?_
 obtain ⟨ak,aJ,hz51e⟩:∃ z:Nat,z< 4611686018427387904∧((((E.toNat:Int) * 131+((J.toNat:Int) * 1117)+((((p:Int)+1) - 1) * 29)+((Int.tdiv (((p:Int)+1) - 1) (D.length:Int)) * 53)).toNat ^^^ ((Int.tdiv ((E.toNat:Int) * 131+((J.toNat:Int) * 1117)+((((p:Int)+1) - 1) * 29)+((Int.tdiv (((p:Int)+1) - 1) (D.length:Int)) * 53)) 64)).toNat:Nat):Int)=(z:Int):=⟨_,(Ob AB AB).2,rfl⟩
 rw [hz51e]
 exact .r 1<|.d<|.s<|.g<|.r 2<|RG.rem (t:=3) (k:=.i64) (a:=(ak:Int)) (b:=n) AA AB<|.r 1<|.d<|.rt Tryz.func50 Tryz.results50 (vI (Int.tmod (ak:Int) n)) ⟨⟨((Int.tmod (ak:Int) n):Int),(congrArg (Value.int .i64) (by rfl)),(by exact Ts AB ‹_›)⟩,p+1,by omega,C,O⟩
theorem Cp (list:List Txt) {w:World} {F:Nat→Prop} {b:Nat} {ad:Option Addr} {cd p:Nat} {D:List UInt8} (hr:Box w b 122 [.slice ad D.length cd,.int .i64 (p:Int)]) (hD:RepS w (nin all [b]) ad D.length cd D) (hp:p+1≤1000000000) {a1:Option Addr} {n1 c1:Nat} (h1:RepS w (nin F [b]) a1 n1 c1 list) (p0:0< list.length):Calls Tryz.prog 140 [.pointer (some ⟨b,0,none⟩),.slice a1 n1 c1].toArray w (As fun rv w'=>(∃ (y:Str),rv=.string (bs (y))∧((⟨y⟩:Txt)∈list))∧∃ p':Nat,p'≤p+1∧Box w' b 122 [.slice ad D.length cd,.int .i64 (p':Int)]∧Chg (one b) w w'):=by
 refine goT Tryz.func140 ?_
 have ah:=hD.max
 obtain rfl:=h1.len
 replace h1:=h1.Md (s:=w.heap.size)
 have ai:=h1.max
 refine .s<|.g<|.r 1<|.d<|.s<|.g<|.r 4<|.cl (AZ (list.length:Int) hr (hD.BB AD) AB (w:=w) (F:=all)) ?_
 rintro am af ⟨⟨C,rfl,aj⟩,ag,ak,aa,E⟩
 replace ⟨hD,h1⟩:=(so [b] E).g2 hD h1
 have ab:Chg (one b) w af:=Chg.Ew (Chg.refl (one b) w) E (Cov.mk1 w b)
 have O:(C).toNat< list.length:=AB
 refine RG.idx ((C).toNat) (len:=list.length) (i:=C) (sz:=1) AA AB O (h1.addr (Nat.zero_lt_of_lt O)) ?_
 obtain ⟨W,J⟩:∃ y,list[(C).toNat]? = some y:=⟨_,AP AB⟩
 have al:=AX J; have ae:=AQ J
 obtain ⟨_,rfl,ac⟩:=h1.elem ((C).toNat) W J
 exact .lh 0 ac<|.r 1<|.d<|.rt Tryz.func140 Tryz.results140 (vT W.s) ⟨⟨(W.s:Str),(congrArg (fun s=>Value.string (bs s)) (by rfl)),‹_›⟩,ag,by omega,aa,ab⟩
theorem EU  {w:World} {F:Nat→Prop} {b:Nat} {ad:Option Addr} {cd p:Nat} {D:List UInt8} (hr:Box w b 122 [.slice ad D.length cd,.int .i64 (p:Int)]) (hD:RepS w (nin all [b]) ad D.length cd D) (hp:p+4≤1000000000)  : Calls Tryz.prog 91 [.pointer (some ⟨b,0,none⟩)].toArray w (As fun rv w'=>(∃ (y:Row),VS (ge w.heap.size) w' (y:Row) rv∧(E4 y))∧∃ p':Nat,p'≤p+4∧Box w' b 122 [.slice ad D.length cd,.int .i64 (p':Int)]∧Chg (one b) w w'):=by
 refine goT Tryz.func91 ?_
 have bM:=hD.max
 refine .s<|.g<|.np 105 [vI 0,vI 0] fun O bi aq av E bj=>?_
 have bN:=AS aq hr.lt
 have bO:Cov (one b) w O:=Bc aq (Nat.le_refl _)
 replace ⟨hD,hr⟩:=(sn [b] av aq).g2 hD hr
 have C:Chg (one b) w bi:=Chg.Cc (Chg.refl (one b) w) av
 refine .d<|.s<|.g<|.r 1<|.cl (AZ 40 hr (hD.BB AE) AB (w:=bi) (F:=all)) ?_
 rintro ci bD ⟨⟨aw,rfl,bP⟩,cj,bQ,bk,aK⟩
 replace ⟨hD,E,C⟩:=(so [O,b] aK).g3 hD E C
 refine .r 1<|.cl (AZ 20 bk (hD.BB AE) AB (w:=bD) (F:=all)) ?_
 rintro ck cm ⟨⟨ar,rfl,bR⟩,co,bS,ae,aL⟩
 replace ⟨hD,E,C⟩:=(so [O,b] aL).g3 hD E C
 refine .it (ar - 6)<|.r 1<|.np 105 [vI 0,vI 0] fun aa cp ag aM bm bn=>?_
 have bT:=AS ag ae.lt
 have bU:=AS ag E.lt
 have bV:=C.cn ag
 replace ⟨hD,ae,E,C⟩:=(sn [O,b] aM ag).g4 hD ae E C
 refine .sc [vI aw,vI (ar - 6)] bm fun bE aN J bo=>?_
 replace ⟨hD,ae,E,C⟩:=(so [aa,O,b] aN).g4 hD ae E C
 refine .d<|.s<|.s<|.g<|.r 1<|.cl (AZ 40 ae (hD.BB AF) AB (w:=bE) (F:=all)) ?_
 rintro cq cr ⟨⟨bq,rfl,bW⟩,bF,bX,W,aO⟩
 replace ⟨hD,E,J,C⟩:=(so [aa,O,b] aO).g4 hD E J C
 refine .d<|.b 0<|.s<|.g<|.eq bq 0 (fun br=>?_) (fun br=>?_)
 ·refine .r 1<|.d<|.ct<|.g<|.ns 3 3 [vI (-1),vI 99,vI 100] fun aj bt ax aP bu bv=>?_
  have bY:=AS ax W.lt
  replace ⟨hD,W,E,J,C⟩:=(sn [aa,O,b] aP ax).g5 hD W E J C
  have ay:Own (α:=Int) bt aj 3 (nin (ge w.heap.size) [aj,aa,O,b]) 3 3 [(-1),99,100]:=Own.lit bu rfl (by decide) ⟨rfl,rfl,rfl,rfl⟩
  refine .r 1<|.cl (AZ 3 W (hD.BB AG) AB (w:=bt) (F:=all)) ?_
  rintro cu bG ⟨⟨au,rfl,bZ⟩,bH,b0,ah,aQ⟩
  replace ⟨hD,E,J,ay,C⟩:=(so [aj,aa,O,b] aQ).g5 hD E J ay C
  have bw:(au).toNat< 3:=AB
  refine RG.idx (b:=aj) (o:=0) ((au).toNat) (len:=3) (i:=au) (sz:=1) AA AB bw rfl ?_
  obtain ⟨az,aA⟩:∃ y,([(-1),99,100]:List Int)[(au).toNat]? = some y:=⟨_,AP AB⟩
  have b6:=AX aA; have aJ:=AQ aA
  simp only [List.mem_cons,List.not_mem_nil,or_false] at aJ
  obtain ⟨_,rfl,aB⟩:=ay.elem ((au).toNat) az aA
  replace aB:Has bG ⟨aj,0+((au).toNat) * Rep.sz Int,none⟩ [vI az]:=by rw [Nat.zero_add]; exact aB
  refine .lh 0 aB<|.r 1<|.ss 0 (vI az) J fun cv aR bz bA=>?_
  replace ⟨hD,ah,E,C⟩:=(so [aj,aa,O,b] aR).g4 hD ah E C
  refine .d<|.ib 0<|.s<|.g<|.ln bz<|.sc [vI az,vI (ar - 6)] E fun b7 aC aT aU=>?_
  replace ⟨hD,ah,C⟩:=(so [aj,aa,O,b] aC).g3 hD ah C
  exact .d<|.rb Tryz.func91 Tryz.results91 aT ⟨⟨((⟨az,ar - 6⟩:Row):Row),⟨_,rfl,rfl⟩,(by (unfold E4; dsimp only; omega))⟩,bH,by omega,ah,C⟩
 refine .r 1<|.d<|.cf<|.s<|.g<|.eq bq 1 (fun aV=>?_) (fun aV=>?_)
 ·refine .r 1<|.d<|.ct<|.g<|.ns 3 3 [vI (-99),vI 99,vI 100] fun ab aS ak aD aW aX=>?_
  have bI:=AS ak W.lt
  replace ⟨hD,W,E,J,C⟩:=(sn [aa,O,b] aD ak).g5 hD W E J C
  have al:Own (α:=Int) aS ab 3 (nin (ge w.heap.size) [ab,aa,O,b]) 3 3 [(-99),99,100]:=Own.lit aW rfl (by decide) ⟨rfl,rfl,rfl,rfl⟩
  refine .r 1<|.cl (AZ 3 W (hD.BB AG) AB (w:=aS) (F:=all)) ?_
  rintro b8 bB ⟨⟨af,rfl,bJ⟩,bC,bK,ac,aE⟩
  replace ⟨hD,E,J,al,C⟩:=(so [ab,aa,O,b] aE).g5 hD E J al C
  have aY:(af).toNat< 3:=AB
  refine RG.idx (b:=ab) (o:=0) ((af).toNat) (len:=3) (i:=af) (sz:=1) AA AB aY rfl ?_
  obtain ⟨ai,am⟩:∃ y,([(-99),99,100]:List Int)[(af).toNat]? = some y:=⟨_,AP AB⟩
  have bL:=AX am; have aF:=AQ am
  simp only [List.mem_cons,List.not_mem_nil,or_false] at aF
  obtain ⟨_,rfl,ao⟩:=al.elem ((af).toNat) ai am
  replace ao:Has bB ⟨ab,0+((af).toNat) * Rep.sz Int,none⟩ [vI ai]:=by rw [Nat.zero_add]; exact ao
  refine .lh 0 ao<|.r 1<|.ss 1 (vI ai) J fun b9 aG aZ ba=>?_
  replace ⟨hD,ac,E,C⟩:=(so [ab,aa,O,b] aG).g4 hD ac E C
  refine .d<|.ib 0<|.s<|.g<|.ln aZ<|.sc [vI aw,vI ai] E fun ce aH bc bd=>?_
  replace ⟨hD,ac,C⟩:=(so [ab,aa,O,b] aH).g3 hD ac C
  exact .d<|.rb Tryz.func91 Tryz.results91 bc ⟨⟨((⟨aw,ai⟩:Row):Row),⟨_,rfl,rfl⟩,(by (unfold E4; dsimp only; omega))⟩,bC,by omega,ac,C⟩
 refine .r 1<|.d<|.cf<|.sk<|.ib 0<|.s<|.g<|.ln J<|.sc [vI aw,vI (ar - 6)] E fun cg aI bg bh=>?_
 replace ⟨hD,W,C⟩:=(so [aa,O,b] aI).g3 hD W C
 exact .d<|.rb Tryz.func91 Tryz.results91 bg ⟨⟨((⟨aw,ar - 6⟩:Row):Row),⟨_,rfl,rfl⟩,(by (unfold E4; dsimp only; omega))⟩,bF,by omega,W,C⟩
theorem FX  {w:World} {F:Nat→Prop} {b:Nat} {ad:Option Addr} {cd p:Nat} {D:List UInt8} (hr:Box w b 122 [.slice ad D.length cd,.int .i64 (p:Int)]) (hD:RepS w (nin all [b]) ad D.length cd D) (hp:p+2≤1000000000)  : Calls Tryz.prog 141 [.pointer (some ⟨b,0,none⟩)].toArray w (As fun rv w'=>(∃ (y:Tag),VS (ge w.heap.size) w' (y:Tag) rv∧(G2 y∧Bg y=true))∧∃ p':Nat,p'≤p+2∧Box w' b 122 [.slice ad D.length cd,.int .i64 (p':Int)]∧Chg (one b) w w'):=by
 refine goT Tryz.func141 ?_
 have aH:=hD.max
 refine .s<|.g<|.np 120 [.string (bs []),.string (bs [])] fun J aF W ab E am=>?_
 have aI:=AS W hr.lt
 have aJ:Cov (one b) w J:=Bc W (Nat.le_refl _)
 replace ⟨hD,hr⟩:=(sn [b] ab W).g2 hD hr
 have C:Chg (one b) w aF:=Chg.Cc (Chg.refl (one b) w) ab
 refine .d<|.s<|.g<|.r 1<|.ns 3 9 [.string (bs [97]),.string (bs [98]),.string (bs [99])] fun O ao ac ah aq ar=>?_
 have au:=AS ac hr.lt
 replace ⟨hD,hr,E,C⟩:=(sn [J,b] ah ac).g4 hD hr E C
 have av:Own (α:=Txt) ao O 9 (nin (ge w.heap.size) [O,J,b]) 3 3 [(⟨[97]⟩:Txt),(⟨[98]⟩:Txt),(⟨[99]⟩:Txt)]:=Own.lit aq rfl (by decide) ⟨rfl,rfl,rfl,rfl⟩
 refine .cl (Cp ([(⟨[97]⟩:Txt),(⟨[98]⟩:Txt),(⟨[99]⟩:Txt)]:List Txt) hr (hD.BB AF) AB (av.BB AF au) (by simp) (w:=ao) (F:=all)) ?_
 rintro aO aP ⟨⟨aw,rfl,aK⟩,aQ,aL,aa,ai⟩
 replace ⟨hD,E,C⟩:=(so [O,J,b] ai).g3 hD E C
 refine .r 1<|.ns 3 9 [.string (bs [112]),.string (bs [113]),.string (bs [122])] fun ag ax ae aj ay az=>?_
 have aA:=AS ae aa.lt
 replace ⟨hD,aa,E,C⟩:=(sn [O,J,b] aj ae).g4 hD aa E C
 have aB:Own (α:=Txt) ax ag 9 (nin (ge w.heap.size) [ag,O,J,b]) 3 3 [(⟨[112]⟩:Txt),(⟨[113]⟩:Txt),(⟨[122]⟩:Txt)]:=Own.lit ay rfl (by decide) ⟨rfl,rfl,rfl,rfl⟩
 refine .cl (Cp ([(⟨[112]⟩:Txt),(⟨[113]⟩:Txt),(⟨[122]⟩:Txt)]:List Txt) aa (hD.BB AG) AB (aB.BB AG aA) (by simp) (w:=ax) (F:=all)) ?_
 rintro aR aS ⟨⟨aC,rfl,aM⟩,aG,aN,af,ak⟩
 replace ⟨hD,E,C⟩:=(so [ag,O,J,b] ak).g3 hD E C
 refine .r 1<|.sc [vT aw,vT aC] E fun aT al aD aE=>?_
 replace ⟨hD,af,C⟩:=(so [ag,O,J,b] al).g3 hD af C
 exact .d<|.rb Tryz.func141 Tryz.results141 aD ⟨⟨((⟨aw,aC⟩:Tag):Tag),⟨_,rfl,rfl⟩,(by exact Qe ‹_› ‹_›)⟩,aG,by omega,af,C⟩
theorem GY  {w:World} {F:Nat→Prop} {b:Nat} {ad:Option Addr} {cd p:Nat} {D:List UInt8} (hr:Box w b 122 [.slice ad D.length cd,.int .i64 (p:Int)]) (hD:RepS w (nin all [b]) ad D.length cd D) (hp:p+20≤1000000000)  : Calls Tryz.prog 92 [.pointer (some ⟨b,0,none⟩)].toArray w (As fun rv w'=>(∃ (y:List Tag),VL (ge w.heap.size) w' (y:List Tag) rv∧(NmX y))∧∃ p':Nat,p'≤p+20∧Box w' b 122 [.slice ad D.length cd,.int .i64 (p':Int)]∧Chg (one b) w w'):=by
 refine goT Tryz.func92 ?_
 have eX:=hD.max
 refine .s<|.g<|.r 1<|.d<|.s<|.g<|.ns 0 120 [] fun aq dr aI bh dt du=>?_
 have dv:=AS aI hr.lt
 have dw:=Ad aI (Nat.le_refl _)
 have dx:Cov (one b) w aq:=Bc aI (Nat.le_refl _)
 replace ⟨hD,hr⟩:=(sn [b] bh aI).g2 hD hr
 have C:Chg (one b) w dr:=Chg.Cc (Chg.refl (one b) w) bh
 have aT:Own (α:=Tag) dr aq 120 (nin (ge w.heap.size) [aq,b]) 0 0 []:=Own.Ag dt
 refine .r 1<|.d<|.s<|.s<|.g<|.ns 3 9 [.string (bs [97]),.string (bs [98]),.string (bs [99])] fun O aZ aU bV dy dz=>?_
 have eY:=AS aU hr.lt
 have dA:=AS aU aT.lt
 replace ⟨hD,hr,aT,C⟩:=(sn [aq,b] bV aU).g4 hD hr aT C
 have E:Own (α:=Txt) aZ O 9 (nin (ge w.heap.size) [O,aq,b]) 3 3 [(⟨[97]⟩:Txt),(⟨[98]⟩:Txt),(⟨[99]⟩:Txt)]:=Own.lit dy rfl (by decide) ⟨rfl,rfl,rfl,rfl⟩
 refine .r 2<|.d<|.b 0<|T.loop (X:=(List Tag) × Nat × Nat × Nat × Nat × Nat) (([]:List Tag),aq,0,0,0,p) (fun (out,r_out,n_out,c_out,k,p_)=>[(0,.pointer (some ⟨b,0,none⟩)),(3,vS r_out n_out c_out),(7,vS O 3 3),(8,vI 3),(9,vI (k:Int))]) (fun (out,r_out,n_out,c_out,k,p_) aC=>Chg (ins [aq,b]) aZ aC∧Own aC r_out 120 (nin (ge w.heap.size) [O,r_out,b]) n_out c_out out∧OrB r_out aq aZ.heap.size∧Box aC b 122 [.slice ad D.length cd,vI (p_:Int)]∧(k≤3)∧(out.length≤k)∧(∀ t∈out,G2 t)∧(∀ t∈out,Bg t=true)∧(p_≤p+2 * k)) (fun (out,r_out,n_out,c_out,k,p_)=>3 - k) AA ⟨AA,AA,AA,AA,AA,trivial⟩ ⟨Chg.refl _ _,aT,BJ,hr,(by simp),(by simp),(by simp),(by simp),(by simp)⟩ ?_
 rintro ⟨out,r_out,n_out,c_out,k,p_⟩ fG aC ⟨ab,J,ao,bi,eZ,e7,e8,fa,fb⟩ aJ
 have bW:=Aw ao dv hr.lt
 have bX:=Aw ao (Nb.symm dA) E.lt
 have aV:=Bv ao dw C.size
 have dB:=Ar ao dx C.size
 have dC:Cov (ins [aq,b]) aZ aq:=⟨.inl AD⟩
 have fc:Cov (ins [aq,b]) aZ b:=⟨.inl AE⟩
 have fd:=Ar ao dC (Nat.le_refl _)
 have bY:Mv [O,aq,b] [O,r_out,b] aZ aC:=Mv.inl ab (all_cons AE (all_cons AF all_nil)) (all_cons (.inl AD) (all_cons (BV ao AE) (all_cons (.inl AF) all_nil)))
 replace ⟨hD,E,C⟩:=(sp bY ab).g3 hD E C
 have fe:=J.len; have ff:=J.max
 refine .s<|.g<|.bp ((k:Int)< 3) (fun dD=>?_) (fun dD=>?_)
 ·refine .d<|.s<|.ct<|.sk<|.s<|.b 1<|.s<|.g ?_
  have dE:k< 3:=AB
  refine RG.idx (b:=O) (o:=0) k (len:=3) (i:=(k:Int)) (sz:=1) AA AB dE rfl ?_
  obtain ⟨bj,bk⟩:∃ y,([(⟨[97]⟩:Txt),(⟨[98]⟩:Txt),(⟨[99]⟩:Txt)]:List Txt)[k]? = some y:=⟨_,AP AB⟩
  have fg:=AX bk; have bU:=AQ bk
  simp only [List.mem_cons,List.not_mem_nil,or_false] at bU
  obtain ⟨_,rfl,bm⟩:=E.elem k bj bk
  replace bm:Has aC ⟨O,0+k * Rep.sz Txt,none⟩ [vT bj.s]:=by rw [Nat.zero_add]; exact bm
  refine .lh 0 bm<|.r 1<|.d<|.s<|.g<|.r 1<|.cl (AZ 2 bi (hD.BB AF) AB (w:=aC) (F:=all)) ?_
  rintro fH fI ⟨⟨ed,rfl,fh⟩,ee,fi,aK,bZ⟩
  replace ⟨hD,J,E,C,ab⟩:=(so [O,r_out,b] bZ).g5 hD J E C ab
  refine .eq ed 0 (fun dF=>?_) (fun dF=>.d<|.cf<|.sk<|.ib 1<|.g<|.it ((k:Int)+1)<|.r 1<|.d<|aJ (out,r_out,n_out,c_out,k+1,ee) _ _ ⟨AA,AA,AA,AA,AA,trivial⟩ ⟨ab,J,ao,aK,AB,AB,‹_›,‹_›,AB⟩ (by (simp only []; omega)))
  refine .d<|.ct<|.g<|.r 3<|.ns 3 9 [.string (bs [112]),.string (bs [113]),.string (bs [122])] fun aN dG bn b0 dH dI=>?_
  have dJ:=AS bn aK.lt
  replace ⟨hD,aK,J,E,C,ab⟩:=(sn [O,r_out,b] b0 bn).g6 hD aK J E C ab
  have aW:Own (α:=Txt) dG aN 9 (nin (ge w.heap.size) [aN,O,r_out,b]) 3 3 [(⟨[112]⟩:Txt),(⟨[113]⟩:Txt),(⟨[122]⟩:Txt)]:=Own.lit dH rfl (by decide) ⟨rfl,rfl,rfl,rfl⟩
  refine .cl (Cp ([(⟨[112]⟩:Txt),(⟨[113]⟩:Txt),(⟨[122]⟩:Txt)]:List Txt) aK (hD.BB AG) AB (aW.BB AG dJ) (by simp) (w:=dG) (F:=all)) ?_
  rintro fJ fK ⟨⟨cq,rfl,fj⟩,ef,fk,aB,b6⟩
  replace ⟨hD,J,E,aW,C,ab⟩:=(so [aN,O,r_out,b] b6).g6 hD J E aW C ab
  refine .r 1<|.ns 1 120 [vT bj.s,vT cq] fun dK fL ak bo cr cu=>?_
  have cv:=AS ak aB.lt
  have bq:=AS ak J.lt
  have cw:=AS ak E.lt
  have cx:=AS ak aW.lt
  have cy:=Ad ak C.size
  replace ⟨hD,aB,J,E,C,ab⟩:=(se [aN,O,r_out,b] bo).g6 hD aB J E C ab
  have ba:nin (ge w.heap.size) [aN,O,r_out,b] dK∧dK≠r_out:=BG cy (all_cons cx (all_cons cw (all_cons bq (all_cons cv all_nil)))) bq
  refine RG.Ap (T:=77) (ty:=77) (y:=(⟨bj.s,cq⟩:Tag)) J cr AA AA rfl ba AB fun br dL b7 ae aD bt=>?_
  have cz:=Bo aD ao ab.size
  replace ⟨hD,aB,E,C,ab⟩:=(sa [aN,O,r_out,b] bt aD).g5 hD aB E C ab
  replace ae:=ae.rn r_out
  have eg:=ae.len; have eh:=ae.max
  refine .r 1<|.d<|.ib 1<|.g<|.it ((k:Int)+1)<|.r 1<|.d ?_
  have cA:Mv [aN,O,br,b] [O,br,b] b7 b7:=Mv.less (all_cons AE (all_cons AF (all_cons AG all_nil)))
  replace ⟨hD,ae,E⟩:=(sp cA (Chg.refl nil _)).g3 hD ae E
  exact aJ ((out++[(⟨bj.s,cq⟩:Tag)]),br,n_out+1,dL,k+1,ef) _ _ ⟨AA,AA,AA,AA,AA,trivial⟩ ⟨ab,ae,cz,aB,AB,AB,(by exact Me ‹_› (Qf ‹_› ‹_›).1),(by exact Me ‹_› (Qf ‹_› ‹_›).2),AB⟩ (by (simp only []; omega))
 refine .d<|.s<|.cf<|.x 0 rfl<|.s<|.s<|.g<|.r 2<|.eq (n_out:Int) 0 (fun cB=>?_) (fun cB=>?_)
 ·refine .d<|.ct<|.g<|.r 2<|.cl (FX bi (hD.BB AF) AB (w:=aC) (F:=all)) ?_
  rintro fm fp ⟨⟨ar,⟨_,rfl,rfl⟩,ej⟩,fq,ek,af,bu⟩
  replace ⟨hD,J,E,C⟩:=(so [O,r_out,b] bu).g4 hD J E C
  refine .ns 1 120 [vT ar.key,vT ar.val] fun b8 ft au bv cC cD=>?_
  have cE:=AS au af.lt
  have bw:=AS au J.lt
  have cF:=AS au E.lt
  have cG:=Ad au C.size
  replace ⟨hD,af,J,E,C⟩:=(se [O,r_out,b] bv).g5 hD af J E C
  have bc:nin (ge w.heap.size) [O,r_out,b] b8∧b8≠r_out:=BG cG (all_cons cF (all_cons bw (all_cons cE all_nil))) bw
  refine RG.Ap (T:=77) (ty:=77) (y:=ar) J cC AA AA rfl bc AB fun aa b9 dM W ac bz=>?_
  have cH:=Ae ac bW af.lt
  have cI:=Ae ac bX E.lt
  have aO:=Bt ac aV C.size
  have en:=Am ac dB C.size
  replace ⟨hD,af,E,C⟩:=(sa [O,r_out,b] bz ac).g4 hD af E C
  replace W:=W.rn r_out
  have et:=W.len; have ey:=W.max
  refine .r 1<|.d<|.s<|.s<|.g<|.r 1<|.cl (AZ 40 af (hD.BB AF) AB (w:=dM) (F:=all)) ?_
  rintro fu ce ⟨⟨cg,rfl,ez⟩,dN,eA,al,bA⟩
  replace ⟨hD,W,E,C⟩:=(so [O,aa,b] bA).g4 hD W E C
  refine .d<|.b 2<|.s<|.g<|.eq cg 0 (fun cJ=>?_) (fun cJ=>?_)
  ·refine .r 1<|.d<|.ct<|.s<|.g<|.r 2<|.cl (FX al (hD.BB AF) AB (w:=ce) (F:=all)) ?_
   rintro fv fw ⟨⟨aX,⟨_,rfl,rfl⟩,eB⟩,dO,eC,ag,bB⟩
   replace ⟨hD,W,E,C⟩:=(so [O,aa,b] bB).g4 hD W E C
   refine .ns 1 120 [vT aX.key,vT aX.val] fun ci fz av bC cK cL=>?_
   have cM:=AS av ag.lt
   have bD:=AS av W.lt
   have cN:=AS av E.lt
   have cO:=Ad av C.size
   replace ⟨hD,ag,W,E,C⟩:=(se [O,aa,b] bC).g5 hD ag W E C
   have bd:nin (ge w.heap.size) [O,aa,b] ci∧ci≠aa:=BG cO (all_cons cN (all_cons bD (all_cons cM all_nil))) bD
   refine RG.Ap (T:=77) (ty:=77) (y:=aX) W cK AA AA rfl bd AB fun bE dP dQ aw ai bF=>?_
   have eD:=Ae ai cH ag.lt
   have eE:=Ae ai cI E.lt
   have cP:=Bt ai aO C.size
   replace ⟨hD,ag,E,C⟩:=(sa [O,aa,b] bF ai).g4 hD ag E C
   replace aw:=aw.rn aa
   have eF:=aw.len; have eG:=aw.max
   refine .r 1<|.d ?_
   have dR:=aw.sl cP
   replace ⟨hD,E⟩:=(sd dQ [O,bE,b] bE).g2 hD E
   exact .rt Tryz.func92 Tryz.results92 (vS bE (n_out+1+1) dP) ⟨⟨(((out++[ar])++[aX]):List Tag),(dR.vl (by rfl) (fun _ _ h=>h.1)),(by exact Jp AB (by grind [G2]) (by grind))⟩,dO,by omega,ag,C⟩
  refine .r 1<|.d<|.cf<|.s<|.g<|.eq cg 1 (fun cQ=>?_) (fun cQ=>?_)
  ·refine .r 1<|.d<|.ct<|.g<|.r 2<|.ns 3 9 [.string (bs []),.string (bs [111]),.string (bs [112,112])] fun aL cj aE bG cR cS=>?_
   have cT:=AS aE al.lt
   have eH:=AS aE W.lt
   replace ⟨hD,al,W,E,C⟩:=(sn [O,aa,b] bG aE).g5 hD al W E C
   have cU:Own (α:=Txt) cj aL 9 (nin (ge w.heap.size) [aL,O,aa,b]) 3 3 [(⟨[]⟩:Txt),(⟨[111]⟩:Txt),(⟨[112,112]⟩:Txt)]:=Own.lit cR rfl (by decide) ⟨rfl,rfl,rfl,rfl⟩
   refine .cl (Cp ([(⟨[]⟩:Txt),(⟨[111]⟩:Txt),(⟨[112,112]⟩:Txt)]:List Txt) al (hD.BB AG) AB (cU.BB AG cT) (by simp) (w:=cj) (F:=all)) ?_
   rintro fA dS ⟨⟨bH,rfl,eI⟩,dT,eJ,aP,bI⟩
   replace ⟨hD,W,E,C⟩:=(so [aL,O,aa,b] bI).g4 hD W E C
   have cV:0< n_out+1:=AB
   refine RG.idx (b:=aa) (o:=0) 0 (len:=n_out+1) (i:=0) (sz:=2) AA AB cV rfl<|.r 1 ?_
   obtain ⟨ax,aF⟩:∃ y,(out++[ar])[0]? = some y:=⟨_,AP AB⟩
   have eK:=AX aF; have dU:=AQ aF
   obtain ⟨_,rfl,aQ⟩:=W.elem 0 ax aF
   replace aQ:Has dS ⟨aa,0+0 * Rep.sz Tag,none⟩ [vT ax.key,vT ax.val]:=by rw [Nat.zero_add]; exact aQ
   refine RG.Ds (t':=9) (i:=0) (k:=1) (v:=vT bH) (cs:=[vT ax.key,vT ax.val]) (⟨ax.key,bH⟩:Tag) W aF aQ AA AA AA rfl fun dV cW bJ cX=>?_
   replace ⟨hD,aP,E,C⟩:=(so [aL,O,aa,b] bJ).g4 hD aP E C
   refine .d<|.ib 2<|.s<|.g<|.r 2<|.d ?_
   have dW:=cW.sl aO
   replace ⟨hD,E⟩:=(sd dV [aL,O,aa,b] aa).g2 hD E
   exact .rt Tryz.func92 Tryz.results92 (vS aa (n_out+1) b9) ⟨⟨(((out++[ar]).set 0 (⟨ax.key,bH⟩:Tag)):List Tag),(dW.vl (by rfl) (fun _ _ h=>h.1)),(by exact Od AB (by grind [G2]) (by grind))⟩,dT,by omega,aP,C⟩
  refine .r 1<|.d<|.cf<|.sk<|.ib 2<|.s<|.g<|.r 2<|.d ?_
  have dX:=W.sl aO
  replace ⟨hD,E⟩:=(sd ce [O,aa,b] aa).g2 hD E
  exact .rt Tryz.func92 Tryz.results92 (vS aa (n_out+1) b9) ⟨⟨((out++[ar]):List Tag),(dX.vl (by rfl) (fun _ _ h=>h.1)),(by exact Jp AB (by grind [G2]) (by grind))⟩,dN,by omega,al,C⟩
 refine .d<|.cf<|.sk<|.s<|.s<|.g<|.r 1<|.cl (AZ 40 bi (hD.BB AF) AB (w:=aC) (F:=all)) ?_
 rintro fB ck ⟨⟨cm,rfl,eL⟩,dY,eM,am,bK⟩
 replace ⟨hD,J,E,C⟩:=(so [O,r_out,b] bK).g4 hD J E C
 refine .d<|.b 2<|.s<|.g<|.eq cm 0 (fun cY=>?_) (fun cY=>?_)
 ·refine .r 1<|.d<|.ct<|.s<|.g<|.r 2<|.cl (FX am (hD.BB AF) AB (w:=ck) (F:=all)) ?_
  rintro fC fD ⟨⟨aY,⟨_,rfl,rfl⟩,eN⟩,dZ,eO,ah,bL⟩
  replace ⟨hD,J,E,C⟩:=(so [O,r_out,b] bL).g4 hD J E C
  refine .ns 1 120 [vT aY.key,vT aY.val] fun co fE ay bM cZ c7=>?_
  have c8:=AS ay ah.lt
  have bN:=AS ay J.lt
  have c9:=AS ay E.lt
  have da:=Ad ay C.size
  replace ⟨hD,ah,J,E,C⟩:=(se [O,r_out,b] bM).g5 hD ah J E C
  have bg:nin (ge w.heap.size) [O,r_out,b] co∧co≠r_out:=BG da (all_cons c9 (all_cons bN (all_cons c8 all_nil))) bN
  refine RG.Ap (T:=77) (ty:=77) (y:=aY) J cZ AA AA rfl bg AB fun bO d0 d3 az aj bP=>?_
  have eP:=Ae aj bW ah.lt
  have eQ:=Ae aj bX E.lt
  have db:=Bt aj aV C.size
  replace ⟨hD,ah,C⟩:=(sa [O,r_out,b] bP aj).g3 hD ah C
  replace az:=az.rn r_out
  have eR:=az.len; have eS:=az.max
  refine .r 1<|.d ?_
  have d4:=az.sl db
  replace hD:=(sd d3 [O,bO,b] bO).g1 hD
  exact .rt Tryz.func92 Tryz.results92 (vS bO (n_out+1) d0) ⟨⟨((out++[aY]):List Tag),(d4.vl (by rfl) (fun _ _ h=>h.1)),(by exact Jp AB (by grind [G2]) (by grind))⟩,dZ,by omega,ah,C⟩
 refine .r 1<|.d<|.cf<|.s<|.g<|.eq cm 1 (fun de=>?_) (fun de=>?_)
 ·refine .r 1<|.d<|.ct<|.g<|.r 2<|.ns 3 9 [.string (bs []),.string (bs [111]),.string (bs [112,112])] fun aM cp aG bQ df dg=>?_
  have dh:=AS aG am.lt
  have eT:=AS aG J.lt
  replace ⟨hD,am,J,C⟩:=(sn [O,r_out,b] bQ aG).g4 hD am J C
  have dj:Own (α:=Txt) cp aM 9 (nin (ge w.heap.size) [aM,O,r_out,b]) 3 3 [(⟨[]⟩:Txt),(⟨[111]⟩:Txt),(⟨[112,112]⟩:Txt)]:=Own.lit df rfl (by decide) ⟨rfl,rfl,rfl,rfl⟩
  refine .cl (Cp ([(⟨[]⟩:Txt),(⟨[111]⟩:Txt),(⟨[112,112]⟩:Txt)]:List Txt) am (hD.BB AG) AB (dj.BB AG dh) (by simp) (w:=cp) (F:=all)) ?_
  rintro fF d5 ⟨⟨bR,rfl,eU⟩,d6,eV,aR,bS⟩
  replace ⟨hD,J,C⟩:=(so [aM,O,r_out,b] bS).g3 hD J C
  have dm:0< n_out:=AB
  refine RG.idx (b:=r_out) (o:=0) 0 (len:=n_out) (i:=0) (sz:=2) AA AB dm rfl<|.r 1 ?_
  obtain ⟨aA,aH⟩:∃ y,out[0]? = some y:=⟨_,AP AB⟩
  have eW:=AX aH; have d7:=AQ aH
  obtain ⟨_,rfl,aS⟩:=J.elem 0 aA aH
  replace aS:Has d5 ⟨r_out,0+0 * Rep.sz Tag,none⟩ [vT aA.key,vT aA.val]:=by rw [Nat.zero_add]; exact aS
  refine RG.Ds (t':=9) (i:=0) (k:=1) (v:=vT bR) (cs:=[vT aA.key,vT aA.val]) (⟨aA.key,bR⟩:Tag) J aH aS AA AA AA rfl fun d8 dp bT dq=>?_
  replace ⟨hD,aR,C⟩:=(so [aM,O,r_out,b] bT).g3 hD aR C
  refine .d<|.ib 2<|.s<|.g<|.r 2<|.d ?_
  have d9:=dp.sl aV
  replace hD:=(sd d8 [aM,O,r_out,b] r_out).g1 hD
  exact .rt Tryz.func92 Tryz.results92 (vS r_out n_out c_out) ⟨⟨((out.set 0 (⟨aA.key,bR⟩:Tag)):List Tag),(d9.vl (by rfl) (fun _ _ h=>h.1)),(by exact Od AB (by grind [G2]) ‹_›)⟩,d6,by omega,aR,C⟩
 refine .r 1<|.d<|.cf<|.sk<|.ib 2<|.s<|.g<|.r 2<|.d ?_
 have ec:=J.sl aV
 replace hD:=(sd ck [O,r_out,b] r_out).g1 hD
 exact .rt Tryz.func92 Tryz.results92 (vS r_out n_out c_out) ⟨⟨(out:List Tag),(ec.vl (by rfl) (fun _ _ h=>h.1)),(by exact Jp AB ‹_› ‹_›)⟩,dY,by omega,am,C⟩
end Go.Proofs.YtganlmloonielaaGreat
namespace Go.Proofs.YtganlmloonielaaGreat
def Sf (P:Program) (s d:TypeId):Bool :=
 match P.underlying s,P.underlying d with
 | some (.slice e),some .string=>(match P.underlying e with | some (.int .u8)=>true | _=>false)
 | _,_=>false
theorem KD {P:Program} {w:World} {r:Nat} {src dst:TypeId} {y:UInt8} {c:Nat} (h:Has w ⟨r,0,none⟩ [.int .u8 (y.toNat:Int)]) (hb:Sf P src dst=true) :
 (convert src dst (.slice (some ⟨r,0,none⟩) 1 c)).run P w=.ok (.string (bs [y])) w:=by
 unfold Sf at hb
 split at hb
 ·rename_i e h1 h2
  split at hb
  ·rename_i h3
   have h4:=run_loadCellsFrom (P:=P) ⟨r,0,none⟩ [.int .u8 (y.toNat:Int)] 0 #[] _ rfl h
   have h5:(loadCells ⟨r,0,none⟩ 1).run P w=.ok #[.int .u8 (y.toNat:Int)] w:=h4
   have h6:(Conv.bytesToString (.slice (some ⟨r,0,none⟩) 1 c)).run P w=.ok (.string (bs [y])) w:=by
    unfold Conv.bytesToString
    simp only []
    rw [AW h5]
    simp [go_sem]
    rfl
   unfold convert
   rw [AW (run_underlying h1 w),AW (run_underlying h2 w)]
   simp only []
   rw [AW (run_underlying h3 w)]
   exact h6
  ·cases hb
 ·cases hb
def Qg (n:Nat) (ops:Array Oper) (j:Nat) (e:Env):Option (TypeId × TypeId × Value) :=
 bif Ca n ops j e then
  match (An ops j).op with
  | .convert s d x=>some (s,d,ev e x)
  | _=>none
 else none
theorem Ij {P:Program} {n:Nat} {ops:Array Oper} {j:Nat} {e:Env} {s d:TypeId} {a v:Value} {w:World} (h:Qg n ops j e=some (s,d,a))
 (hr:(convert s d a).run P w=.ok v w):Ca n ops j e=true∧(execOp (ev e) (An ops j)).run P w=.ok (.value v) w:=by
 obtain ⟨hg,h⟩:=CW h
 refine ⟨hg,?_⟩
 split at h
 ·rename_i s' d' x hop
  simp only [Option.some.injEq,Prod.mk.injEq] at h
  obtain ⟨rfl,rfl,rfl⟩:=h
  simp only [execOp,hop]
  exact AW hr
 ·cases h
theorem GA.b2s {P:Program} {n m:Nat} {L:Env→World→Prop} {ops:Array Oper} {l:List Nat} {e:Env} {w:World} {i:Nat} {s d:TypeId} {r c:Nat} {y:UInt8} {t:TypeId} {F:Nat→Prop}
 (hb:gB n m ops l i=true) (ho:Own w r t F 1 c [y]) (h:Qg n ops i e=some (s,d,.slice (some ⟨r,0,none⟩) 1 c)) (ht:Sf P s d=true)
 (H:GA P nil n m L ops (i::l) (BL e (An ops i).dst (.string (bs [y]))) w):GA P nil n m L ops l e w:=by
 obtain ⟨cs,h1,h2⟩:=ho.elem 0 y rfl
 cases h1
 have h3:Has w ⟨r,0,none⟩ [.int .u8 (y.toNat:Int)]:=by simpa using h2
 have h4:=Ij (P:=P) (w:=w) h (KD h3 ht)
 refine GA.det (by unfold gB at hb; rw [hb,h4.1]; rfl) (fun w1 hx=>?_) H
 exact (Ij (P:=P) (w:=w1) h (KD (h3.ext hx) ht)).2
def HQ (at_:UInt8) (out:List Txt):List UInt8→List Txt
 | []=>out
 | x::xs=>if x=at_ then HQ at_ (out++[⟨[]⟩]) xs else HQ at_ (out.set (out.length - 1) ⟨(out.getD (out.length - 1) ⟨[]⟩).s++[x]⟩) xs
def Ht (s:List UInt8) (at_:UInt8):List Txt:=HQ at_ [⟨[]⟩] s
theorem Qh {at_:UInt8} {s:List UInt8} {i:Nat} {out:List Txt} {x:UInt8} {Y:List Txt} (h:HQ at_ out (s.drop i)=Y) (hd:s.drop i=x::s.drop (i+1)) (he:(x.toNat:Int)=(at_.toNat:Int)):HQ at_ (out++[⟨[]⟩]) (s.drop (i+1))=Y:=by
 have:x=at_:=UInt8.toNat_inj.1 AB
 rw [hd] at h
 unfold HQ at h
 rw [if_pos this] at h
 exact h
theorem Qi {at_:UInt8} {s:List UInt8} {i:Nat} {out:List Txt} {x:UInt8} {Y:List Txt} {t:Txt} {k:Nat} (h:HQ at_ out (s.drop i)=Y) (hd:s.drop i=x::s.drop (i+1)) (he:(x.toNat:Int)≠(at_.toNat:Int)) (hk:k=out.length - 1) (ht:out[k]? = some t):HQ at_ (out.set k ⟨t.s++[x]⟩) (s.drop (i+1))=Y:=by
 have:x≠at_:=fun e=>he (by rw [e])
 rw [hd] at h
 unfold HQ at h
 rw [if_neg this,List.getD_eq_getElem?_getD,← hk,ht] at h
 exact h
theorem UQ {at_:UInt8} {s:List UInt8} {i:Nat} {out:List Txt} {Y:List Txt} (h:HQ at_ out (s.drop i)=Y) (hi:s.length≤i):out=Y:=by
 rw [AY hi] at h
 exact h
def Hu (s:Str):Bool:=decide (s.length=4)&&decide (s[1]? = some 33)
def FI (s:Str):Str:=if Hu s then s.take 1++s.drop 2 else s
def Cq (s:Str):Cnd × Bool :=
 if (FI s).length=3∧(FI s)[1]? = some 61 then (⟨⟨(FI s).take 1,(FI s).drop 2⟩,Hu s⟩,Bg ⟨(FI s).take 1,(FI s).drop 2⟩) else (⟨⟨[],[]⟩,Hu s⟩,false)
def GC:List Cnd→List Txt→List Cnd × Bool
 | out,[]=>(out,true)
 | out,t::ts=>if (Cq t.s).2=false∨out.length≥3 then ([],false) else GC (out++[(Cq t.s).1]) ts
def Bm (s:Str):List Cnd × Bool:=if s=[42] then ([],true) else GC [] (Ht s 44)
def Dq:List Tag→List Cnd→Option (List Tag)
 | out,[]=>some out
 | out,c::cs=>if c.no then none else Dq (out++[c.tag]) cs
def Fj (s:Str):List Tag:=match Dq [] (Bm s).1 with
 | some out=>if (Bm s).2=true∧BS out=true then out else []
 | none=>[]
theorem Ik {w:Str} (h:(w.length:Int)≠4):Hu w=false∧FI w=w:=by
 have:Hu w=false:=by unfold Hu; rw [decide_eq_false AB]; rfl
 exact ⟨this,by unfold FI; rw [this]; rfl⟩
theorem Il {w:Str} {y:UInt8} (h:(w.length:Int)=4) (hy:w[1]? = some y) (h2:(y.toNat:Int)≠33):Hu w=false∧FI w=w:=by
 have:Hu w=false:=by
  unfold Hu
  rw [hy,decide_eq_false (p:=some y=some 33),Bool.and_false]
  intro e
  cases e
  exact h2 rfl
 exact ⟨this,by unfold FI; rw [this]; rfl⟩
theorem Im {w:Str} {y:UInt8} (h:(w.length:Int)=4) (hy:w[1]? = some y) (h2:(y.toNat:Int)=33):Hu w=true∧FI w=((w.take 1).drop 0)++((w.take w.length).drop 2):=by
 have hy2:y=33:=UInt8.toNat_inj.1 (by show y.toNat=33; omega)
 have:Hu w=true:=by
  unfold Hu
  rw [hy,hy2,decide_eq_true AB]
  rfl
 exact ⟨this,by unfold FI; rw [this]; simp⟩
theorem C5 {w u:Str} {b:Bool} (h:Hu w=b∧FI w=u) (h2:(u.length:Int)≠3∨(∃ z,u[1]? = some z∧(z.toNat:Int)≠61)):Cq w=(⟨⟨[],[]⟩,b⟩,false):=by
 obtain ⟨rfl,rfl⟩:=h
 unfold Cq
 rw [if_neg]
 rintro ⟨h3,h4⟩
 rcases h2 with h2 | ⟨z,h2,h5⟩
 ·omega
 ·rw [h2] at h4
  cases h4
  exact h5 rfl
theorem Et {w u:Str} {b:Bool} {z:UInt8} (h:Hu w=b∧FI w=u) (h1:(u.length:Int)=3) (h2:u[1]? = some z) (h3:(z.toNat:Int)=61) :
 Cq w=(⟨⟨(u.take 1).drop 0,(u.take u.length).drop 2⟩,b⟩,Bg ⟨(u.take 1).drop 0,(u.take u.length).drop 2⟩):=by
 obtain ⟨rfl,rfl⟩:=h
 have hz:z=61:=UInt8.toNat_inj.1 (by show z.toNat=61; omega)
 unfold Cq
 rw [if_pos ⟨by omega,by rw [h2,hz]⟩]
 simp
theorem UR {out:List Txt} {i k:Nat} {t:Txt} {y:UInt8} (h:∀ t∈out,t.s.length≤i) (ht:out[k]? = some t):∀ t'∈out.set k ⟨t.s++[y]⟩,t'.s.length≤i+1:=by
 intro t' ht'
 rcases List.mem_or_eq_of_mem_set ht' with ht' | rfl
 ·have:=h t' ht'; omega
 ·have:=h t (AQ ht)
  simp only [List.length_append,List.length_cons,List.length_nil]; omega
theorem Oe {out:List Txt} {i:Nat} (h:∀ t∈out,t.s.length≤i):∀ t'∈out++[⟨[]⟩],t'.s.length≤i+1:=by
 intro t' ht'
 rcases List.mem_append.1 ht' with ht' | ht'
 ·have:=h t' ht'; omega
 ·simp at ht'; subst ht'; simp
theorem Qj (a:UInt8):∀ (s:List UInt8) (out:List Txt) (i:Nat),(∀ t∈out,t.s.length≤i)→(∀ t∈HQ a out s,t.s.length≤i+s.length)∧(HQ a out s).length≤out.length+s.length:=by
 intro s
 induction s with
 | nil=>intro out i h; exact ⟨fun t ht=>by have:=h t ht; simpa using this,by unfold HQ; simp⟩
 | cons x xs ih =>
   intro out i h
   unfold HQ
   split
   ·obtain ⟨h1,h2⟩:=ih (out++[⟨[]⟩]) (i+1) (Oe h)
    refine ⟨fun t ht=>?_,?_⟩
    ·have:=h1 t ht; simp only [List.length_cons]; omega
    ·simp only [List.length_append,List.length_cons,List.length_nil] at h2 ⊢; omega
   ·have h3:∀ t∈out.set (out.length - 1) ⟨(out.getD (out.length - 1) ⟨[]⟩).s++[x]⟩,t.s.length≤i+1:=by
     intro t ht
     rcases List.mem_or_eq_of_mem_set ht with ht | rfl
     ·have:=h t ht; omega
     ·rw [List.getD_eq_getElem?_getD]
      cases hq:out[out.length - 1]? with
      | none=>simp
      | some q=>have:=h q (AQ hq); simp; omega
    obtain ⟨h1,h2⟩:=ih _ (i+1) h3
    refine ⟨fun t ht=>?_,?_⟩
    ·have:=h1 t ht; simp only [List.length_cons]; omega
    ·simp only [List.length_set,List.length_cons] at h2 ⊢; omega
theorem Mf (s:List UInt8) (a:UInt8):(∀ t∈Ht s a,t.s.length≤s.length)∧(Ht s a).length≤s.length+1:=by
 obtain ⟨h1,h2⟩:=Qj a s [⟨[]⟩] 0 (by simp)
 refine ⟨fun t ht=>by have:=h1 t ht; omega,?_⟩
 unfold Ht
 simp only [List.length_cons,List.length_nil] at h2; omega
theorem Jq {out:List Cnd} {ts:List Txt} {i:Nat} {t:Txt} {Y:List Cnd × Bool} (h:GC out (ts.drop i)=Y) (hd:ts.drop i=t::ts.drop (i+1)) (h2:(Cq t.s).2=false∨(out.length:Int)≥3):Y=([],false):=by
 rw [hd] at h
 unfold GC at h
 rw [if_pos (by rcases h2 with h2 | h2; exact .inl h2; exact .inr AB)] at h
 exact h.symm
theorem Qk {out:List Cnd} {ts:List Txt} {i:Nat} {t:Txt} {Y:List Cnd × Bool} (h:GC out (ts.drop i)=Y) (hd:ts.drop i=t::ts.drop (i+1)) (h2:(Cq t.s).2=true) (h3:¬ (out.length:Int)≥3):GC (out++[(Cq t.s).1]) (ts.drop (i+1))=Y:=by
 rw [hd] at h
 unfold GC at h
 rw [if_neg (by rw [h2]; simp; omega)] at h
 exact h
theorem Og {out:List Cnd} {ts:List Txt} {i:Nat} {Y:List Cnd × Bool} (h:GC out (ts.drop i)=Y) (hi:ts.length≤i):Y=(out,true):=by
 rw [AY hi] at h
 exact h.symm
theorem PN:∀ (ts:List Txt) (out:List Cnd),out.length≤3→(GC out ts).1.length≤3:=by
 intro ts
 induction ts with
 | nil=>intro out h; exact h
 | cons t ts ih =>
   intro out h
   unfold GC
   split
   ·simp
   ·rename_i h2
    refine ih _ ?_
    simp only [not_or] at h2
    simp only [List.length_append,List.length_cons,List.length_nil]; omega
theorem Gr (s:Str):(Bm s).1.length≤3:=by
 unfold Bm
 split
 ·simp
 ·exact PN _ _ (by simp)
theorem KE {s:Str} (h:(s==[42])=true):Bm s=([],true):=by unfold Bm; rw [if_pos (by simpa using h)]
theorem Nf {s:Str} (h:(s==[42])=false):GC [] (Ht s 44)=Bm s:=by unfold Bm; rw [if_neg (by simpa using h)]
theorem Mg {out:List Tag} {cs:List Cnd} {i:Nat} {c:Cnd} {Y:Option (List Tag)} (h:Dq out (cs.drop i)=Y) (hd:cs.drop i=c::cs.drop (i+1)) (h2:c.no=true):Y=none:=by
 rw [hd] at h
 unfold Dq at h
 rw [if_pos h2] at h
 exact h.symm
theorem Mh {out:List Tag} {cs:List Cnd} {i:Nat} {c:Cnd} {Y:Option (List Tag)} (h:Dq out (cs.drop i)=Y) (hd:cs.drop i=c::cs.drop (i+1)) (h2:c.no=false):Dq (out++[c.tag]) (cs.drop (i+1))=Y:=by
 rw [hd] at h
 unfold Dq at h
 rw [if_neg (by rw [h2]; simp)] at h
 exact h
theorem Mi {s:Str} (h:Dq [] (Bm s).1=none):Fj s=[]:=by unfold Fj; rw [h]
theorem LA {s:Str} {out:List Tag} {i:Nat} (h:Dq out ((Bm s).1.drop i)=Dq [] (Bm s).1) (hi:(Bm s).1.length≤i):Fj s=if (Bm s).2=true∧BS out=true then out else []:=by
 rw [AY hi] at h
 unfold Fj
 rw [← h]
 rfl
theorem Mj {s:Str} {out:List Tag} {i:Nat} (h:Dq out ((Bm s).1.drop i)=Dq [] (Bm s).1) (hi:(Bm s).1.length≤i) (h2:(Bm s).2=false∨BS out=false):Fj s=[]:=by
 rw [LA h hi,if_neg]
 rintro ⟨h3,h4⟩
 rcases h2 with h2 | h2
 ·rw [h2] at h3; cases h3
 ·rw [h2] at h4; cases h4
theorem Ql {s:Str} {out:List Tag} {i:Nat} (h:Dq out ((Bm s).1.drop i)=Dq [] (Bm s).1) (hi:(Bm s).1.length≤i) (h2:(Bm s).2=true) (h3:BS out=true):Fj s=out:=by
 rw [LA h hi,if_pos ⟨h2,h3⟩]
end Go.Proofs.YtganlmloonielaaGreat
