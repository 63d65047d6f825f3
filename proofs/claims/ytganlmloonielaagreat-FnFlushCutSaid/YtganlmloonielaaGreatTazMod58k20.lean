/- Steps alike: plain laws. -/
import Derived.Test.YtganlmloonielaaGreatTazMod52k24
import Derived.Test.YtganlmloonielaaGreatTazMod57k25
import Derived.Test.YtganlmloonielaaGreatTazMod58k21
set_option linter.unusedVariables false
set_option linter.unusedSimpArgs false
namespace Go.Proofs.YtganlmloonielaaGreat
theorem Uy {a b:List Stp} (h:(a.length:Int)≠b.length):false=(a==b):=(beq_eq_false_iff_ne.2 (fun e=>h (by rw [e]))).symm
theorem Uz {a b:List Stp} {k:Nat} (h:a.drop k=b.drop k↔a=b) (ha:a.length≤k) (hl:(a.length:Int)=b.length):true=(a==b):=by
 symm
 rw [beq_iff_eq,← h,AY ha,AY AB]
theorem LS {a b:List Stp} {k:Nat} {x y:Stp} (h:a.drop k=b.drop k↔a=b) (ha:a.drop k=x::a.drop (k+1)) (hb:b.drop k=y::b.drop (k+1)) (e:x≠y):false=(a==b):=by
 symm
 rw [beq_eq_false_iff_ne]
 intro e2
 have:=h.2 e2
 rw [ha,hb,List.cons.injEq] at this
 exact e this.1
theorem Vp {a b:List Stp} {k k1:Nat} {x y:Stp} (h:a.drop k=b.drop k↔a=b) (ha:a.drop k=x::a.drop (k+1)) (hb:b.drop k=y::b.drop (k+1)) (h1:x.kind=y.kind) (h2:x.num=y.num) (h3:(x.part==y.part)=true) (h4:(x.list==y.list)=true) (h5:(x.names.length:Int)=y.names.length) (h6:x.names.drop k1=y.names.drop k1↔x.names=y.names) (hk:x.names.length≤k1):a.drop (k+1)=b.drop (k+1)↔a=b:=by
 have e:x=y:=by
  have e5:=h6.1 (by rw [AY hk,AY AB])
  have e3:=eq_of_beq h3
  have e4:=eq_of_beq h4
  cases x
  cases y
  simp_all
 rw [← h,ha,hb,e]
 simp
end Go.Proofs.YtganlmloonielaaGreat
namespace Go.Proofs.YtganlmloonielaaGreat
set_option maxRecDepth 100000
set_option maxHeartbeats 4000000
theorem Ct (a:List Stp) (b:List Stp) {w:World} {F:Nat→Prop} {a1:Option Addr} {n1 c1:Nat} (h1:RepS w F a1 n1 c1 a) {a2:Option Addr} {n2 c2:Nat} (h2:RepS w F a2 n2 c2 b)  : Calls Tryz.prog 17 [.slice a1 n1 c1,.slice a2 n2 c2].toArray w (As fun rv w'=>rv=.bool ((a==b))∧Ext w w'):=by
 refine goT Tryz.func17 ?_
 obtain ⟨rfl,cJ,h1⟩:=h1.tp
 obtain ⟨rfl,cK,h2⟩:=h2.tp
 refine .s<|.g<|.r 1<|.d<|.s<|.s<|.g<|.r 4<|.ne (a.length:Int) (b.length:Int) (fun bT=>.d<|.ct<|.s<|.g<|.r 1<|.d<|.rt Tryz.func17 Tryz.results17 (.bool false) ⟨(congrArg Value.bool (by exact Uy AB)),(Chg.refl _ _)⟩) fun bT=>.d<|.cf<|.sk<|.s<|.s<|.g<|.r 1<|.d<|.b 0<|T.loop (X:=Nat) 0 (fun k=>[(0,.slice a1 a.length c1),(1,.slice a2 b.length c2),(5,vI (k:Int))]) (fun k aM=>Chg (ins []) w aM∧(k≤a.length)∧(a.drop k=b.drop k↔a=b)) (fun k=>a.length - k) AA ⟨AA,AA,AA,trivial⟩ ⟨Chg.refl _ _,AB,(by exact Iff.rfl)⟩ ?_
 rintro k eg aM ⟨E,cL,cM⟩ aw
 have aN:Mv [] [] w aM:=Mv.inl E all_nil all_nil
 replace ⟨h1,h2⟩:=(sp aN E).g2 h1 h2
 have C:Chg nil w aM:=Chg.CY (Chg.refl nil w) E all_nil
 refine .s<|.s<|.g<|.r 3<|.bp ((k:Int)< (a.length:Int)) (fun bU=>?_) (fun bU=>.d<|.cf<|.x 0 rfl<|.s<|.g<|.r 1<|.d<|.rt Tryz.func17 Tryz.results17 (.bool true) ⟨(congrArg Value.bool (by exact Uz ‹_› AB AB)),C⟩)
 refine .d<|.ct<|.sk<|.s<|.b 1<|.s<|.s<|.gd nil 65 fun eh aO=>?_
 replace ⟨h1,h2,C,E⟩:=(se [] aO).g4 h1 h2 C E
 refine .r [0,1] ?_
 have bV:k< a.length:=AB
 refine .ix 2 k 6 h1 bV<|.r [3] ?_
 obtain ⟨W,al⟩:∃ y,a[k]? = some y:=⟨_,AP AB⟩
 have cN:=AX al; have co:=AQ al
 obtain ⟨_,⟨ej,ek,en,cO,cP,cQ,cR,cS,cT,cU,cV,cW,rfl,ac,ae,aa,aP⟩,am⟩:=h1.elem k W al
 have aS:=ac.len
 subst aS
 have cp:=ac.max
 have aT:=ae.len
 subst aT
 have cq:=ae.max
 have aU:=aa.len
 subst aU
 have cr:=aa.max
 have aV:=aP.len
 subst aV
 have cu:=aP.max
 refine .lh 4 0 am id<|.r [5,6] ?_
 have aW:k< b.length:=AB
 refine .ix 7 k 6 h2 aW<|.r [8] ?_
 obtain ⟨J,ai⟩:∃ y,b[k]? = some y:=⟨_,AP AB⟩
 have cv:=AX ai; have bW:=AQ ai
 obtain ⟨_,⟨cX,cY,cZ,c7,c8,c9,da,db,de,df,dg,dh,rfl,af,ag,ab,aQ⟩,ah⟩:=h2.elem k J ai
 have aX:=af.len
 subst aX
 have cw:=af.max
 have aY:=ag.len
 subst aY
 have cx:=ag.max
 have aZ:=ab.len
 subst aZ
 have cy:=ab.max
 have ba:=aQ.len
 subst ba
 have cz:=aQ.max
 refine .lh 9 0 ah id<|GA.neI (i:=10) (a:=W.kind) (b:=J.kind) AA (fun bc=>?_) (fun bc=>?_)
 ·refine .r [11,12,13,14,15,16,17,18,19,20,21,22,23,24,25,26,27,28,29,30,31,32,33,34,35,36,37,38,39,40,41,42,43,44,45,46,47,48,49,50,51,52]<|GA.skip AA fun dj ax=>?_
  replace ⟨h1,h2,ac,ae,aa,af,ag,ab,C,E⟩:=(se [] ax).g10 h1 h2 ac ae aa af ag ab C E
  exact .r 2<|.d<|.ct<|.s<|.g<|.r 1<|.d<|.rt Tryz.func17 Tryz.results17 (.bool false) ⟨(congrArg Value.bool (by exact LS ‹_› ‹_› ‹_› (by intro e; exact absurd (congrArg Stp.kind e) ‹_›))),C⟩
 refine .r [11,12,13] ?_
 have bd:k< a.length:=AB
 refine .ix 14 k 6 h1 bd<|.r [15]<|.lh 16 1 am id<|.r [17,18] ?_
 have bg:k< b.length:=AB
 refine .ix 19 k 6 h2 bg<|.r [20]<|.lh 21 1 ah id<|GA.neI (i:=22) (a:=W.num) (b:=J.num) AA (fun bh=>?_) (fun bh=>?_)
 ·refine .r [23,24,25,26,27,28,29,30,31,32,33,34,35,36,37,38,39,40,41,42,43,44,45,46,47,48,49,50,51,52]<|GA.skip AA fun dm ay=>?_
  replace ⟨h1,h2,ac,ae,aa,af,ag,ab,C,E⟩:=(se [] ay).g10 h1 h2 ac ae aa af ag ab C E
  exact .r 2<|.d<|.ct<|.s<|.g<|.r 1<|.d<|.rt Tryz.func17 Tryz.results17 (.bool false) ⟨(congrArg Value.bool (by exact LS ‹_› ‹_› ‹_› (by intro e; exact absurd (congrArg Stp.num e) ‹_›))),C⟩
 refine .r [23,24,25,26] ?_
 have bi:k< a.length:=AB
 refine .ix 27 k 6 h1 bi<|.r [28]<|.lg 29 2 am id<|.r [30,31] ?_
 have bj:k< b.length:=AB
 refine .ix 32 k 6 h2 bj<|.r [33]<|.lg 34 2 ah id<|GA.Bz (i:=35) AA (fun bX aj=>DW W.part J.part (ac.ta.ext aj) (ae.ta.ext aj) (af.ta.ext aj) (ag.ta.ext aj) (w:=bX) (F:=all)) ?_
 cases cA:(W.part==J.part)
 ·refine .r [36,37,38,39,40,41,42,43,44,45,46,47,48,49,50,51,52]<|GA.skip AA fun dp az=>?_
  replace ⟨h1,h2,aa,ab,C,E⟩:=(se [] az).g6 h1 h2 aa ab C E
  exact .r 2<|.d<|.ct<|.s<|.g<|.r 1<|.d<|.rt Tryz.func17 Tryz.results17 (.bool false) ⟨(congrArg Value.bool (by exact LS ‹_› ‹_› ‹_› (by intro e; exact absurd (congrArg Stp.part e) (beq_eq_false_iff_ne.1 ‹_›)))),C⟩
 refine .r [36,37,38,39,40] ?_
 have bk:k< a.length:=AB
 refine .ix 41 k 6 h1 bk<|.r [42]<|.lh 43 4 am id<|.r [44,45] ?_
 have bm:k< b.length:=AB
 refine .ix 46 k 6 h2 bm<|.r [47]<|.lh 48 4 ah id<|GA.Bz (i:=49) AA (fun bY aA=>C6 W.list J.list (aa.ta.ext aA) (ab.ta.ext aA) (w:=bY) (F:=all)) ?_
 cases cB:(W.list==J.list)
 ·refine .r [50,51,52]<|GA.skip AA fun dq aB=>?_
  replace ⟨h1,h2,C,E⟩:=(se [] aB).g4 h1 h2 C E
  exact .r 2<|.d<|.ct<|.s<|.g<|.r 1<|.d<|.rt Tryz.func17 Tryz.results17 (.bool false) ⟨(congrArg Value.bool (by exact LS ‹_› ‹_› ‹_› (by intro e; exact absurd (congrArg Stp.list e) (beq_eq_false_iff_ne.1 ‹_›)))),C⟩
 refine .r [50,51,52,53,54] ?_
 have bn:k< a.length:=AB
 refine .ix 55 k 6 h1 bn<|.r [56]<|.lh 57 5 am id<|.r [58,59,60] ?_
 have bo:k< b.length:=AB
 refine .ix 61 k 6 h2 bo<|.r [62]<|.lh 63 5 ah id<|.r [64]<|.d fun aR aC=>?_
 replace ⟨h1,h2,C,E⟩:=(se [] aC).g4 h1 h2 C E
 refine .ne (W.names.length:Int) (J.names.length:Int) (fun bq=>.r 1<|.d<|.ct<|.s<|.g<|.r 1<|.d<|.rt Tryz.func17 Tryz.results17 (.bool false) ⟨(congrArg Value.bool (by exact LS ‹_› ‹_› ‹_› (by intro e; exact absurd (congrArg (fun s=>(s.names.length:Int)) e) ‹_›))),C⟩) fun bq=>.r 1<|.d<|.cf<|.sk<|.s<|.g<|.r 1<|.d<|.b 2<|T.loop (X:=Nat) 0 (fun k1=>[(0,.slice a1 a.length c1),(1,.slice a2 b.length c2),(5,vI (k:Int)),(6,vI (k1:Int))]) (fun k1 aD=>Chg (ins []) aR aD∧(k1≤W.names.length)∧(W.names.drop k1=J.names.drop k1↔W.names=J.names)) (fun k1=>W.names.length - k1) AA ⟨AA,AA,AA,AA,trivial⟩ ⟨Chg.refl _ _,AB,(by exact Iff.rfl)⟩ ?_
 rintro k1 dr aD ⟨O,cC,cD⟩ av
 have aE:Mv [] [] aR aD:=Mv.inl O all_nil all_nil
 replace ⟨h1,h2,C,E⟩:=(sp aE O).g4 h1 h2 C E
 refine .s<|.s<|.g<|.r 3 ?_
 have br:k< a.length:=AB
 refine .ix k 6 h1 br<|.r 1 ?_
 obtain ⟨_,⟨dt,du,dv,dw,dx,dy,dz,dA,dB,dC,dD,dE,rfl,bZ,b0,b6,b7⟩,bt⟩:=h1.elem k W al
 have bu:=bZ.len
 subst bu
 have bv:=b0.len
 subst bv
 have bw:=b6.len
 subst bw
 have bz:=b7.len
 subst bz
 refine .lh 5 bt<|.r 1<|.bp ((k1:Int)< (W.names.length:Int)) (fun bA=>?_) (fun bA=>.d<|.cf<|.x 2 rfl<|.ib 1<|.g<|.r 1<|.it ((k:Int)+1)<|.r 1<|.d<|aw (k+1) _ _ ⟨AA,AA,AA,trivial⟩ ⟨E,AB,(by exact Vp ‹_› ‹_› ‹_› ‹_› ‹_› ‹_› ‹_› ‹_› ‹_› AB)⟩ AB)
 refine .d<|.ct<|.sk<|.s<|.b 3<|.s<|.gd nil 16 fun dF aF=>?_
 replace ⟨h1,h2,C,E,O⟩:=(se [] aF).g5 h1 h2 C E O
 refine .r [0,1] ?_
 have bB:k< a.length:=AB
 refine .ix 2 k 6 h1 bB<|.r [3] ?_
 obtain ⟨_,⟨dG,dH,dI,dJ,dK,dL,dM,dN,dO,dP,dQ,dR,rfl,b8,b9,cd,aG⟩,bC⟩:=h1.elem k W al
 have bD:=b8.len
 subst bD
 have bE:=b9.len
 subst bE
 have bF:=cd.len
 subst bF
 have bG:=aG.len
 subst bG
 refine .lh 4 5 bC id<|.r [5] ?_
 have bH:k1< W.names.length:=AB
 refine .ix 6 k1 1 aG bH ?_
 obtain ⟨aH,ar⟩:∃ y,W.names[k1]? = some y:=⟨_,AP AB⟩
 have cE:=AX ar; have ce:=AQ ar
 obtain ⟨_,⟨dS,dT,dU,rfl,ao⟩,bI⟩:=aG.elem k1 aH ar
 have bJ:=ao.len
 subst bJ
 have cF:=ao.max
 refine .lh 7 0 bI id<|.r [8,9] ?_
 have bK:k< b.length:=AB
 refine .ix 10 k 6 h2 bK<|.r [11] ?_
 obtain ⟨_,⟨dV,dW,dX,dY,dZ,d0,d3,d4,d5,d6,d7,d8,rfl,cg,ci,cj,aI⟩,bL⟩:=h2.elem k J ai
 have bM:=cg.len
 subst bM
 have bN:=ci.len
 subst bN
 have bO:=cj.len
 subst bO
 have bP:=aI.len
 subst bP
 refine .lh 12 5 bL id<|.r [13] ?_
 have bQ:k1< J.names.length:=AB
 refine .ix 14 k1 1 aI bQ ?_
 obtain ⟨aJ,au⟩:∃ y,J.names[k1]? = some y:=⟨_,AP AB⟩
 have cG:=AX au; have ck:=AQ au
 obtain ⟨_,⟨d9,ec,ed,rfl,aq⟩,bR⟩:=aI.elem k1 aJ au
 have bS:=aq.len
 subst bS
 have cH:=aq.max
 refine .lh 15 0 bR id<|.d fun cm aK=>?_
 replace ⟨ao,aq,C,E,O⟩:=(se [] aK).g5 ao aq C E O
 refine .cl (FU aH aJ ao.ta aq.ta (w:=cm) (F:=all)) ?_
 rintro ee ef ⟨rfl,aL⟩
 replace ⟨C,E,O⟩:=(se [] aL).g3 C E O
 cases cI:(aH==aJ)
 ·exact .r 1<|.d<|.ct<|.s<|.g<|.r 1<|.d<|.rt Tryz.func17 Tryz.results17 (.bool false) ⟨(congrArg Value.bool (by exact LS ‹_› ‹_› ‹_› (by intro e; exact T1 ‹_› ‹_› ‹_› ‹_› (congrArg Stp.names e)))),C⟩
 exact .r 1<|.d<|.cf<|.sk<|.ib 3<|.g<|.r 1<|.it ((k1:Int)+1)<|.r 1<|.d<|av (k1+1) _ _ ⟨AA,AA,AA,AA,trivial⟩ ⟨O,AB,(by exact T0 ‹_› ‹_› ‹_› ‹_›)⟩ AB
end Go.Proofs.YtganlmloonielaaGreat
