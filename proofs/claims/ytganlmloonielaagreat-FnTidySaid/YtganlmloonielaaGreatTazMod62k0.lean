/- Files that do not count are taken out: plain laws. -/
import Derived.Test.YtganlmloonielaaGreatTazMod61k2
import Derived.Test.YtganlmloonielaaGreatTazMod65k7
set_option linter.unusedVariables false
set_option linter.unusedSimpArgs false
namespace Go.Proofs.YtganlmloonielaaGreat
theorem VD {l:List Int} {n x:Int} {i:Nat} (h:(l.drop i).contains n=l.contains n) (hd:l.drop i=x::l.drop (i+1)) (hx:x≠n):(l.drop (i+1)).contains n=l.contains n:=by
 rw [hd,List.contains_cons,beq_eq_false_iff_ne.2 (fun e=>hx e.symm),Bool.false_or] at h
 exact h
theorem Vu {l:List Int} {n x:Int} {i:Nat} (h:(l.drop i).contains n=l.contains n) (hd:l.drop i=x::l.drop (i+1)) (hx:x=n):true=l.contains n:=by
 rw [← h,hd,hx]
 simp
theorem Vv {l:List Int} {n:Int} {i:Nat} (h:(l.drop i).contains n=l.contains n) (hi:l.length≤i):false=l.contains n:=by
 rw [← h,AY hi]
 rfl
end Go.Proofs.YtganlmloonielaaGreat
namespace Go.Proofs.YtganlmloonielaaGreat
theorem P7 (d:Dsk):BH (BH d)=BH d:=by
 unfold BH
 congr 1
 rw [List.filter_filter]
 congr 1
 funext f
 simp
theorem DskV.SA {d:Dsk} (h:DskV d):(BH d).files.length=d.list.length:=by
 have h1:((BH d).files.map Fil.num).Nodup:=by
  unfold List.Nodup
  rw [List.pairwise_map]
  exact (h.asc.sublist List.filter_sublist).imp (fun hab=>by omega)
 have h2:∀ n∈(BH d).files.map Fil.num,n∈d.list:=fun n hn=>by
  obtain ⟨f,hf,rfl⟩:=List.mem_map.1 hn
  have:=(List.mem_filter.1 hf).2
  simpa using this
 have h3:∀ n∈d.list,n∈(BH d).files.map Fil.num:=fun n hn=>by
  obtain ⟨f,hf,rfl⟩:=h.at_ n hn
  exact List.mem_map.2 ⟨f,List.mem_filter.2 ⟨hf,by simpa using hn⟩,rfl⟩
 have a:=Gx _ _ h1 h2
 have b:=Gx _ _ h.nd h3
 rw [List.length_map] at a b
 omega
end Go.Proofs.YtganlmloonielaaGreat
namespace Go.Proofs.YtganlmloonielaaGreat
section
variable {d:Dsk}
theorem Te (h:Af d=true) {i:Nat} {f:Fil} (hf:(BN d).files[i]? = some f):(BN d).list.contains f.num=true:=by
 rw [Er h] at hf ⊢
 exact (List.mem_filter.1 (AQ hf)).2
theorem Tf (h:Af d=true):((BN d).files.length:Int)=(BN d).list.length:=by
 rw [Er h,(CV.1 h).SA]
 rfl
theorem Th (h:Af d=true):(BN (BN d)==BN d)=true:=by
 rw [Er (MC h),Er h,P7]
 exact beq_self_eq_true _
end
end Go.Proofs.YtganlmloonielaaGreat
namespace Go.Proofs.YtganlmloonielaaGreat
set_option maxRecDepth 100000
set_option maxHeartbeats 4000000
theorem Kg (list:List Int) (n:Int) {w:World} {F:Nat→Prop} {a1:Option Addr} {n1 c1:Nat} (h1:RepS w F a1 n1 c1 list)  : Calls Tryz.prog 36 [.slice a1 n1 c1,.int .i64 n].toArray w (As fun rv w'=>rv=.bool ((list.contains n))∧Ext w w'):=by
 refine goT Tryz.func36 ?_
 obtain ⟨rfl,ai,h1⟩:=h1.tp
 refine .s<|.g<|.r 1<|.d<|.s<|.s<|.g<|.r 1<|.d<|.b 0<|T.loop (X:=Nat) 0 (fun i=>[(0,.slice a1 list.length c1),(1,vI n),(5,vI (i:Int))]) (fun i O=>Chg (ins []) w O∧(i≤list.length)∧((list.drop i).contains n=list.contains n)) (fun i=>list.length - i) AA ⟨AA,AA,AA,trivial⟩ ⟨Chg.refl _ _,AB,(by rfl)⟩ ?_
 rintro i am O ⟨C,aj,ak⟩ E
 have W:Mv [] [] w O:=Mv.inl C all_nil all_nil
 replace h1:=(sp W C).g1 h1
 have aa:Chg nil w O:=Chg.CY (Chg.refl nil w) C all_nil
 refine .s<|.s<|.g<|.r 3<|.bp ((i:Int)< (list.length:Int)) (fun ab=>?_) (fun ab=>.d<|.cf<|.x 0 rfl<|.s<|.g<|.r 1<|.d<|.rt Tryz.func36 Tryz.results36 (.bool false) ⟨(congrArg Value.bool (by exact Vv ‹_› AB)),aa⟩)
 refine .d<|.ct<|.sk<|.s<|.b 1<|.s<|.g<|.r 2 ?_
 have ac:i< list.length:=AB
 refine .ix i 1 h1 ac ?_
 obtain ⟨ae,J⟩:∃ y,list[i]? = some y:=⟨_,AP AB⟩
 have al:=AX J; have ah:=AQ J
 obtain ⟨_,rfl,af⟩:=h1.elem i ae J
 exact .lh 0 af<|.r 1<|.eq ae n (fun ag=>.d<|.ct<|.s<|.g<|.r 1<|.d<|.rt Tryz.func36 Tryz.results36 (.bool true) ⟨(congrArg Value.bool (by exact Vu ‹_› ‹_› ‹_›)),aa⟩) fun ag=>.d<|.cf<|.sk<|.ib 1<|.g<|.r 1<|.it ((i:Int)+1)<|.r 1<|.d<|E (i+1) _ _ ⟨AA,AA,AA,trivial⟩ ⟨C,AB,(by exact VD ‹_› ‹_› ‹_›)⟩ AB
theorem Kw (code:List UInt8) {w:World} {F:Nat→Prop} {a1:Option Addr} {n1 c1:Nat} (h1:RepS w F a1 n1 c1 code)  : Calls Tryz.prog 7 [.slice a1 n1 c1].toArray w (As fun rv w'=>rv=.bool (true)∧Ext w w'):=by
 refine goT Tryz.func7 ?_
 obtain ⟨rfl,dE,h1⟩:=h1.tp
 refine .s<|.g<|.r 1<|.d<|.s<|.s<|.g<|.r 2<|.bp ((code.length:Int) > 1048576) (fun cB=>.d<|.ct<|.s<|.g<|.r 1<|.d<|.rt Tryz.func7 Tryz.results7 (.bool true) ⟨(congrArg Value.bool (by rfl)),(Chg.refl _ _)⟩) fun cB=>.d<|.cf<|.sk<|.s<|.g<|.r 1<|.cl (Ek code h1 (w:=w) (F:=nin (fo F w.heap.size) [])) ?_
 rintro fB fC ⟨⟨ab,⟨_,rfl,⟨cX,fD,cY,cZ,fE,c7,c8,fF,c9,rfl,ac,ae,af⟩⟩,dF⟩,bL⟩
 have bg:∀ q_∈([]:List Nat),q_< w.heap.size:=all_nil
 have bk:Gb w.heap.size w.heap.size:=(Nat.le_refl _)
 have C:=bL
 replace ac:=RepS.Aa (M:=[]) ac bg bk
 have dG:=ac.max
 replace ae:=RepS.Aa (M:=[]) ae bg bk
 have dH:=ae.max
 replace af:=RepS.Aa (M:=[]) af bg bk
 have dI:=af.max
 have cC:=ac.len
 subst cC
 have cD:=ae.len
 subst cD
 have cE:=af.len
 subst cE
 refine .np 27 [.slice none 0 0,.slice none 0 0,.slice none 0 0,vI 0] fun ag fG bm bM cF cG=>?_
 have dJ:=C.cn bm
 replace ⟨ac,ae,af,C⟩:=(sn [] bM bm).g4 ac ae af C
 refine .sc [.slice cX ab.files.length cY,.slice cZ ab.list.length c7,.slice c8 ab.names.length c9,vI ab.next] cF fun cH bN E cI=>?_
 replace ⟨ac,ae,af,C⟩:=(so [ag] bN).g4 ac ae af C
 refine .d<|.s<|.g<|.ln E<|.cl (Dg ab ac.ta ae.ta af.ta (by have q1:DD ab:=‹_›; with_reducible exact q1) (w:=cH) (F:=all)) ?_
 rintro fH fI ⟨⟨_,rfl,⟨da,fJ,db,de,fK,df,dg,fL,dh,rfl,O,W,aa⟩⟩,bO⟩
 have bh:=al1 E.lt
 have bn:Gb w.heap.size cH.heap.size:=C.size
 replace ⟨ac,ae,af,E,C⟩:=(se [ag] bO).g5 ac ae af E C
 have O:=O.fr bh bn
 replace O:=O.base (G':=fo F w.heap.size) (fun _ _ h=>.inr h)
 have dK:=O.max
 have W:=W.fr bh bn
 replace W:=W.base (G':=fo F w.heap.size) (fun _ _ h=>.inr h)
 have dL:=W.max
 have aa:=aa.fr bh bn
 replace aa:=aa.base (G':=fo F w.heap.size) (fun _ _ h=>.inr h)
 have dM:=aa.max
 have cJ:=O.len
 subst cJ
 have cK:=W.len
 subst cK
 have cL:=aa.len
 subst cL
 refine .np 27 [.slice none 0 0,.slice none 0 0,.slice none 0 0,vI 0] fun ah fM bi bP cM cN=>?_
 have dN:=AS bi E.lt
 have dO:=C.cn bi
 replace ⟨ac,ae,af,E,O,W,aa,C⟩:=(sn [ag] bP bi).g8 ac ae af E O W aa C
 refine .sc [.slice da (((BN ab).files).length) db,.slice de (((BN ab).list).length) df,.slice dg (((BN ab).names).length) dh,vI ((BN ab).next)] cM fun fN bQ J cO=>?_
 replace ⟨ac,ae,af,E,O,W,aa,C⟩:=(so [ah,ag] bQ).g8 ac ae af E O W aa C
 refine .d<|.s<|.s<|.gd nil 3 fun fO bR=>?_
 replace ⟨ac,ae,af,E,O,W,aa,J,C⟩:=(se [ah,ag] bR).g9 ac ae af E O W aa J C
 refine .ln 0 J id<|.ln 1 E id<|.go 2<|.cl (fun bV au=>Dh ab (ac.ext au) (ae.ext au) (af.ext au) (by have q1:DD ab:=‹_›; with_reducible exact q1) (w:=bV) (F:=nin (fo F w.heap.size) [ah,ag])) ?_
 intro bV au
 replace ⟨ac,ae,af,E,O,W,aa,J,C⟩:=(se [ah,ag] au).g9 ac ae af E O W aa J C
 rintro dP dQ ⟨⟨_,rfl,⟨dR,dS,dT,dU,dV,dW,dX,dY,dZ,rfl,aE,aF,aG⟩⟩,aT⟩
 have aK:=al2 J.lt E.lt
 have aU:Gb w.heap.size bV.heap.size:=C.size
 have hkeep_:=aT
 replace ⟨ac,ae,af,E,O,W,aa,J,C⟩:=(se [ah,ag] aT).g9 ac ae af E O W aa J C
 refine ⟨Ext.chg hkeep_,?_⟩
 replace aE:=RepS.Aa (M:=[ah,ag]) aE aK aU
 replace aF:=RepS.Aa (M:=[ah,ag]) aF aK aU
 replace aG:=RepS.Aa (M:=[ah,ag]) aG aK aU
 have bW:=aE.len
 subst bW
 have bX:=aF.len
 subst bX
 have bY:=aG.len
 subst bY
 refine .d fun cP bo=>?_
 replace ⟨ac,ae,af,E,O,W,aa,J,aE,aF,aG,C⟩:=(se [ah,ag] bo).g12 ac ae af E O W aa J aE aF aG C
 refine .cl (By (BN ab) (BN ab) O.ta W.ta aa.ta aE.ta aF.ta aG.ta (w:=cP) (F:=all)) ?_
 rintro d0 cQ ⟨rfl,bq⟩
 replace ⟨ac,ae,af,E,O,W,aa,J,C⟩:=(se [ah,ag] bq).g9 ac ae af E O W aa J C
 rw [show (((BN ab)==(BN ab)))=true from beq_self_eq_true _]
 refine .r 2<|.ln E<|.cl (CF ab ac.ta ae.ta af.ta (by have q1:DD ab:=‹_›; with_reducible exact q1) (w:=cQ) (F:=all)) ?_
 rintro d3 bS ⟨rfl,br⟩
 replace ⟨ac,ae,af,E,O,W,aa,J,C⟩:=(se [ah,ag] br).g9 ac ae af E O W aa J C
 cases dj:(Af ab)
 ·refine .r 2<|.d<|.ct<|.s<|.gd nil 3 fun d4 bt=>?_
  replace ⟨ac,ae,af,E,O,W,aa,J,C⟩:=(se [ah,ag] bt).g9 ac ae af E O W aa J C
  refine .ln 0 J id<|.ln 1 E id<|.go 2<|.cl (fun bu av=>Dh ab (ac.ext av) (ae.ext av) (af.ext av) (by have q1:DD ab:=‹_›; with_reducible exact q1) (w:=bu) (F:=nin (fo F w.heap.size) [ah,ag])) ?_
  intro bu av
  replace ⟨ac,ae,af,E,O,W,aa,J,C⟩:=(se [ah,ag] av).g9 ac ae af E O W aa J C
  rintro d5 d6 ⟨⟨_,rfl,⟨d7,d8,d9,ec,ed,ee,ef,eg,eh,rfl,aH,aI,aJ⟩⟩,aV⟩
  have aL:=al2 J.lt E.lt
  have aW:Gb w.heap.size bu.heap.size:=C.size
  have hkeep_:=aV
  replace ⟨ac,ae,af,E,O,W,aa,J,C⟩:=(se [ah,ag] aV).g9 ac ae af E O W aa J C
  refine ⟨Ext.chg hkeep_,?_⟩
  replace aH:=RepS.Aa (M:=[ah,ag]) aH aL aW
  replace aI:=RepS.Aa (M:=[ah,ag]) aI aL aW
  replace aJ:=RepS.Aa (M:=[ah,ag]) aJ aL aW
  have bZ:=aH.len
  subst bZ
  have b0:=aI.len
  subst b0
  have b6:=aJ.len
  subst b6
  refine .d fun cR bv=>?_
  replace ⟨ac,ae,af,E,O,W,aa,J,aH,aI,aJ,C⟩:=(se [ah,ag] bv).g12 ac ae af E O W aa J aH aI aJ C
  refine .cl (By (BN ab) (BN ab) O.ta W.ta aa.ta aH.ta aI.ta aJ.ta (w:=cR) (F:=all)) ?_
  rintro ej ek ⟨rfl,bw⟩
  replace ⟨ac,ae,af,E,O,W,aa,J,C⟩:=(se [ah,ag] bw).g9 ac ae af E O W aa J C
  rw [show (((BN ab)==(BN ab)))=true from beq_self_eq_true _]
  exact .r 1<|.d<|.rt Tryz.func7 Tryz.results7 (.bool true) ⟨(congrArg Value.bool (by rfl)),C⟩
 refine .r 2<|.d<|.cf<|.sk<|.s<|.s<|.g<|.r 1<|.d<|.b 0<|T.loop (X:=Nat) 0 (fun k=>[(3,.pointer (some ⟨ag,0,none⟩)),(4,.pointer (some ⟨ah,0,none⟩)),(5,vI (k:Int))]) (fun k bz=>Chg (ins []) bS bz∧(k≤(BN ab).files.length)) (fun k=>(BN ab).files.length - k) AA ⟨AA,AA,AA,trivial⟩ ⟨Chg.refl _ _,AB⟩ ?_
 rintro k en bz ⟨ai,dm⟩ bj
 have bA:Mv [ah,ag] [ah,ag] bS bz:=Mv.inl ai all_nil (all_cons (.inl AD) (all_cons (.inl AE) all_nil))
 replace ⟨ac,ae,af,E,O,W,aa,J,C⟩:=(sp bA ai).g9 ac ae af E O W aa J C
 refine .s<|.s<|.g<|.r 2<|.lb J<|.r 1<|.bp ((k:Int)< ((((BN ab).files).length):Int)) (fun b7=>?_) (fun b7=>?_)
 ·refine .d<|.ct<|.sk<|.s<|.b 1<|.s<|.gd nil 8 fun et bB=>?_
  replace ⟨ac,ae,af,E,O,W,aa,J,C,ai⟩:=(se [ah,ag] bB).g10 ac ae af E O W aa J C ai
  refine .r [0]<|.lb 1 J id<|.r [2]<|.lb 3 J id<|.r [4] ?_
  have b8:k< ((BN ab).files).length:=AB
  refine .ix 5 k 3 O b8<|.r [6] ?_
  obtain ⟨bC,aX⟩:∃ y,((BN ab).files)[k]? = some y:=⟨_,AP AB⟩
  have dp:=AX aX; have cS:=AQ aX
  obtain ⟨_,⟨ey,ez,eA,eB,eC,eD,rfl,bT,bU⟩,b9⟩:=O.elem k bC aX
  have cd:=bT.len
  subst cd
  have dq:=bT.max
  have ce:=bU.len
  subst ce
  have dr:=bU.max
  refine .lh 7 0 b9 id<|.d fun cT bD=>?_
  replace ⟨ac,ae,af,E,O,W,aa,J,C,ai⟩:=(se [ah,ag] bD).g10 ac ae af E O W aa J C ai
  refine .cl (Kg ((BN ab).list) bC.num W.ta (w:=cT) (F:=all)) ?_
  rintro eE eF ⟨rfl,bE⟩
  replace ⟨ac,ae,af,E,O,W,aa,J,C,ai⟩:=(se [ah,ag] bE).g10 ac ae af E O W aa J C ai
  have cg:(((BN ab).list).contains bC.num)=true:=(Te (by with_reducible assumption:Af ab=true) ‹_›)
  rw [cg]
  exact .r 1<|.d<|.cf<|.sk<|.ib 1<|.g<|.r 1<|.it ((k:Int)+1)<|.r 1<|.d<|bj (k+1) _ _ ⟨AA,AA,AA,trivial⟩ ⟨ai,AB⟩ AB
 refine .d<|.cf<|.x 0 rfl<|.s<|.gd nil 29 fun eG bF=>?_
 replace ⟨ac,ae,af,E,O,W,aa,J,C⟩:=(se [ah,ag] bF).g9 ac ae af E O W aa J C
 refine .r [0]<|.lb 1 J id<|.r [2,3]<|.lb 4 J id<|.r [5]<|GA.eqI (i:=6) (a:=((((BN ab).files).length):Int)) (b:=((((BN ab).list).length):Int)) AA (fun ci=>?_) (fun ci=>?_)
 ·refine .r [7]<|.ln 8 J id<|.ln 10 E id<|.go 9<|.cl (fun bG aw=>Bn (BN ab) (O.ext aw) (W.ext aw) (aa.ext aw) (by have q1:DD ab:=‹_›; with_reducible exact (G1 q1)) (w:=bG) (F:=nin (fo F w.heap.size) [ah,ag])) ?_
  intro bG aw
  replace ⟨ac,ae,af,E,O,W,aa,J,C⟩:=(se [ah,ag] aw).g9 ac ae af E O W aa J C
  rintro eH eI ⟨⟨_,rfl,⟨eJ,eK,eL,eM,eN,eO,eP,eQ,eR,eS,eT,eU,rfl,al,am,ao,aq⟩⟩,aY⟩
  have ax:=al2 J.lt E.lt
  have aM:Gb w.heap.size bG.heap.size:=C.size
  have hkeep_:=aY
  replace ⟨ac,ae,af,E,O,W,aa,J,C⟩:=(se [ah,ag] aY).g9 ac ae af E O W aa J C
  refine ⟨Ext.chg hkeep_,?_⟩
  replace al:=RepS.Aa (M:=[ah,ag]) al ax aM
  have dt:=al.max
  replace am:=RepS.Aa (M:=[ah,ag]) am ax aM
  have du:=am.max
  replace ao:=RepS.Aa (M:=[ah,ag]) ao ax aM
  have dv:=ao.max
  replace aq:=RepS.Aa (M:=[ah,ag]) aq ax aM
  have dw:=aq.max
  have cj:=al.len
  subst cj
  have ck:=am.len
  subst ck
  have cm:=ao.len
  subst cm
  have co:=aq.len
  subst co
  refine .go 11<|.cl (fun bH ay=>Bn ab (ac.ext ay) (ae.ext ay) (af.ext ay) (by have q1:DD ab:=‹_›; with_reducible exact q1) (w:=bH) (F:=nin (fo F w.heap.size) [ah,ag])) ?_
  intro bH ay
  replace ⟨E,O,W,aa,J,al,am,ao,aq,C⟩:=(se [ah,ag] ay).g10 E O W aa J al am ao aq C
  rintro eV eW ⟨⟨_,rfl,⟨eX,eY,eZ,e7,e8,fa,fb,fc,fd,fe,ff,fg,rfl,aP,aQ,aR,aS⟩⟩,aZ⟩
  have az:=al2 J.lt E.lt
  have aN:Gb w.heap.size bH.heap.size:=C.size
  have hkeep_:=aZ
  replace ⟨E,O,W,aa,J,al,am,ao,aq,C⟩:=(se [ah,ag] aZ).g10 E O W aa J al am ao aq C
  refine ⟨Ext.chg hkeep_,?_⟩
  replace aP:=RepS.Aa (M:=[ah,ag]) aP az aN
  have dx:=aP.max
  replace aQ:=RepS.Aa (M:=[ah,ag]) aQ az aN
  have dy:=aQ.max
  replace aR:=RepS.Aa (M:=[ah,ag]) aR az aN
  have dz:=aR.max
  replace aS:=RepS.Aa (M:=[ah,ag]) aS az aN
  have dA:=aS.max
  have cp:=aP.len
  subst cp
  have cq:=aQ.len
  subst cq
  have cr:=aR.len
  subst cr
  have cu:=aS.len
  subst cu
  refine GA.Bz (i:=12) AA (fun cU aj=>Co (Aq (BN ab)) (Aq ab) (al.ta.ext aj) (am.ta.ext aj) (ao.ta.ext aj) (aq.ta.ext aj) (aP.ta.ext aj) (aQ.ta.ext aj) (aR.ta.ext aj) (aS.ta.ext aj) (w:=cU) (F:=all)) ?_
  have cv:((Aq (BN ab))==(Aq ab))=true:=(PB (by with_reducible assumption:Af ab=true))
  rw [cv]
  refine .r [13,14]<|.ln 15 J id<|.ln 17 J id<|.go 16<|.cl (fun bI aA=>Dg (BN ab) (O.ta.ext aA) (W.ta.ext aA) (aa.ta.ext aA) (by have q1:DD ab:=‹_›; with_reducible exact (G1 q1)) (w:=bI) (F:=all)) ?_
  intro bI aA
  replace ⟨E,O,W,aa,J,C⟩:=(se [ah,ag] aA).g6 E O W aa J C
  rintro fh fi ⟨⟨_,rfl,⟨fj,fk,fm,fp,fq,ft,fu,fv,fw,rfl,aB,aC,aD⟩⟩,ba⟩
  have aO:=al2 J.lt E.lt
  have bc:Gb w.heap.size bI.heap.size:=C.size
  have hkeep_:=ba
  replace ⟨E,O,W,aa,J,C⟩:=(se [ah,ag] ba).g6 E O W aa J C
  refine ⟨Ext.chg hkeep_,?_⟩
  have aB:=aB.fr aO bc
  replace aB:=aB.base (G':=fo F w.heap.size) (fun _ _ h=>.inr h)
  have dB:=aB.max
  have aC:=aC.fr aO bc
  replace aC:=aC.base (G':=fo F w.heap.size) (fun _ _ h=>.inr h)
  have dC:=aC.max
  have aD:=aD.fr aO bc
  replace aD:=aD.base (G':=fo F w.heap.size) (fun _ _ h=>.inr h)
  have dD:=aD.max
  have cw:=aB.len
  subst cw
  have cx:=aC.len
  subst cx
  have cy:=aD.len
  subst cy
  refine GA.Bz (i:=18) AA (fun cV ar=>By (BN (BN ab)) (BN ab) (aB.ta.ext ar) (aC.ta.ext ar) (aD.ta.ext ar) (O.ta.ext ar) (W.ta.ext ar) (aa.ta.ext ar) (w:=cV) (F:=all)) ?_
  have cz:((BN (BN ab))==(BN ab))=true:=(Th (by with_reducible assumption:Af ab=true))
  rw [cz]
  refine .r [19,20]<|.ln 21 J id<|GA.Bz (i:=22) AA (fun cW bd=>Bs (BN ab) (O.ta.ext bd) (W.ta.ext bd) (aa.ta.ext bd) (by have q1:DD ab:=‹_›; with_reducible exact (G1 q1)) (w:=cW) (F:=all)) ?_
  have cA:(Af (BN ab))=true:=(MC (by with_reducible assumption:Af ab=true))
  rw [cA]
  refine .r [23,24,25]<|.lb 26 J id<|.r [27]<|.lb 28 E id<|.d fun fz bJ=>?_
  replace C:=(se [] bJ).g1 C
  exact .r 3<|.d<|.rt Tryz.func7 Tryz.results7 (.bool ((BN ab).next==ab.next)) ⟨(congrArg Value.bool (by rw [MD (by with_reducible assumption:Af ab=true)]; exact beq_self_eq_true _)),C⟩
 refine .r [7,8,9,10,11,12,13,14,15,16,17,18,19,20,21,22,23,24,25,26,27,28]<|.d fun fA bK=>?_
 replace C:=(se [] bK).g1 C
 exact .r 3<|.d<|.rt Tryz.func7 Tryz.results7 (.bool false) ⟨(congrArg Value.bool (by exfalso; (have q2:=Tf (by with_reducible assumption:Af ab=true); omega))),C⟩
end Go.Proofs.YtganlmloonielaaGreat
