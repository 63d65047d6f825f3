/- Drawn disks: what it is to be well; plain laws. -/
import Derived.Test.YtganlmloonielaaGreatTazW40k10
import Derived.Test.YtganlmloonielaaGreatTazMod55k15
import Derived.Test.YtganlmloonielaaGreatTazMod65k7
import Derived.Test.YtganlmloonielaaGreatTazW63k16
set_option linter.unusedVariables false
set_option linter.unusedSimpArgs false
namespace Go.Proofs.YtganlmloonielaaGreat
theorem TN {d:Dsk} (h:DD d) (hk:Af d=true):BO (Ai d)=Aq d:=by rw [D7 hk,(h.sd hk).copy]
end Go.Proofs.YtganlmloonielaaGreat
namespace Go.Proofs.YtganlmloonielaaGreat
set_option maxRecDepth 100000
set_option maxHeartbeats 4000000
theorem GI (d:Dsk) {w:World} {F:Nat→Prop} {a1:Option Addr} {n1 c1:Nat} (h1:RepS w F a1 n1 c1 d.files) {a2:Option Addr} {n2 c2:Nat} (h2:RepS w F a2 n2 c2 d.list) {a3:Option Addr} {n3 c3:Nat} (h3:RepS w F a3 n3 c3 d.names) (p0:DD d):Calls Tryz.prog 39 [.agg #[.slice a1 n1 c1,.slice a2 n2 c2,.slice a3 n3 c3,.int .i64 d.next]].toArray w (As fun rv w'=>VS (fo F w.heap.size) w' (Aq d:Sto) rv∧Ext w w'):=by
 refine goT Tryz.func39 ?_
 obtain ⟨rfl,bq,h1⟩:=h1.tp
 obtain ⟨rfl,br,h2⟩:=h2.tp
 obtain ⟨rfl,bt,h3⟩:=h3.tp
 refine .s<|.g<|.np 27 [.slice a1 d.files.length c1,.slice a2 d.list.length c2,.slice a3 d.names.length c3,vI d.next] fun J bD ax am E aJ=>?_
 replace ⟨h1,h2,h3⟩:=(sn [] am ax).g3 h1 h2 h3
 have C:=am
 refine .np 34 [.slice none 0 0,.slice none 0 0,.slice none 0 0,.slice none 0 0] fun O aV aj ay W aK=>?_
 have bu:=AS aj E.lt
 have bv:=C.cn aj
 replace ⟨h1,h2,h3,E,C⟩:=(sn [J] ay aj).g5 h1 h2 h3 E C
 refine .d<|.s<|.s<|.g<|.ln E<|.cl (CF d h1.ta h2.ta h3.ta p0 (w:=aV) (F:=all)) ?_
 rintro bE aL ⟨rfl,az⟩
 replace ⟨h1,h2,h3,E,W,C⟩:=(se [O,J] az).g6 h1 h2 h3 E W C
 cases bw:(Af d)
 ·refine .r 1<|.d<|.ct<|.s<|.g<|.r 1<|.sc [.slice none 0 0,.slice none 0 0,.slice none 0 0,.slice none 0 0] W fun bF aA aM aN=>?_
  replace ⟨h1,h2,h3,E,C⟩:=(so [O,J] aA).g5 h1 h2 h3 E C
  exact .d<|.rb Tryz.func39 Tryz.results39 aM ⟨(VS.of (y:=(⟨(⟨([]:List (List Tag)),([]:List Pst)⟩:Idx),([]:List Prt),([]:List Smp)⟩:Sto)) ⟨_,rfl,⟨_,_,_,_,_,_,_,_,_,_,_,_,rfl,(RepS.Ag _ _ none 0 (by decide)),(RepS.Ag _ _ none 0 (by decide)),(RepS.Ag _ _ none 0 (by decide)),(RepS.Ag _ _ none 0 (by decide))⟩⟩ (by exact (O1 ‹_›).symm)),C⟩
 refine .r 1<|.d<|.cf<|.sk<|.s<|.g<|.ln E<|.cl (E2 d h1 h2 h3 (by have:=p0.g.len; omega) p0.g.sz (by have:=p0.nl; omega) (Cr (EO ‹_›).2.2) (w:=aL) (F:=nin (fo F w.heap.size) [O,J])) ?_
 rintro bG aO ⟨⟨_,rfl,⟨bH,bI,bJ,bK,bL,bM,bN,bO,bP,bQ,bR,bS,rfl,ao,aq,ar,au⟩⟩,aB⟩
 have ah:=al2 W.lt E.lt
 have ak:Gb w.heap.size aL.heap.size:=C.size
 replace ⟨E,W,C⟩:=(se [] aB).g3 E W C
 replace ao:=RepS.Aa (M:=[O,J]) ao ah ak
 have bz:=ao.max
 replace aq:=RepS.Aa (M:=[O,J]) aq ah ak
 have bA:=aq.max
 replace ar:=RepS.Aa (M:=[O,J]) ar ah ak
 have bB:=ar.max
 replace au:=RepS.Aa (M:=[O,J]) au ah ak
 have bC:=au.max
 have aP:=ao.len
 subst aP
 have aQ:=aq.len
 subst aQ
 have aR:=ar.len
 subst aR
 have aS:=au.len
 subst aS
 refine .cl (E1 (⟨(⟨((Ai d).idx).names,((Ai d).idx).AV⟩:Idx),(Ai d).parts,(Ai d).mem⟩:Sto) ao.ta aq.ta ar.ta au.ta (p0.sd ‹_›).sz (w:=aO) (F:=all)) ?_
 rintro bT aw ⟨⟨aW,bU,aX,aY,bV,aZ,ba,bW,bc,af,bd,bg,rfl,ab,ac,ae,aa,al⟩,aC⟩
 have ai:=al2 W.lt E.lt
 have ag:Gb w.heap.size aO.heap.size:=C.size
 have bh:=Ab al E.lt
 have bi:=Ab al W.lt
 have aD:=Bd al C.size
 replace ⟨W,C⟩:=(se [] aC).g2 W C
 replace ab:RepS aw (nin (ge w.heap.size) [af,O,J]) _ _ _ _:=RepS.BC (s0:=w.heap.size) (M:=[O,J]) ab ai ag
 replace ab:=ab.base (G':=fo F w.heap.size) (fun _ _ h=>.inr h)
 have bj:=ab.max
 replace ac:RepS aw (nin (ge w.heap.size) [af,O,J]) _ _ _ _:=RepS.BC (s0:=w.heap.size) (M:=[O,J]) ac ai ag
 replace ac:=ac.base (G':=fo F w.heap.size) (fun _ _ h=>.inr h)
 have bk:=ac.max
 replace ae:RepS aw (nin (ge w.heap.size) [af,O,J]) _ _ _ _:=RepS.BC (s0:=w.heap.size) (M:=[O,J]) ae ai ag
 replace ae:=ae.base (G':=fo F w.heap.size) (fun _ _ h=>.inr h)
 have bm:=ae.max
 replace aa:Own aw af 107 (nin (ge w.heap.size) [af,O,J]) _ _ _:=Own.BC (s0:=w.heap.size) (M:=[O,J]) aa ai ag
 replace aa:=aa.base (G':=fo F w.heap.size) (fun _ _ h=>.inr h)
 have bn:=aa.max
 have bo:=aa.len
 have aE:=ab.len
 subst aE
 have aF:=ac.len
 subst aF
 have aG:=ae.len
 subst aG
 refine .sc [.slice aW (((((BO (⟨(⟨((Ai d).idx).names,((Ai d).idx).AV⟩:Idx),(Ai d).parts,(Ai d).mem⟩:Sto))).idx).names).length) aX,.slice aY (((((BO (⟨(⟨((Ai d).idx).names,((Ai d).idx).AV⟩:Idx),(Ai d).parts,(Ai d).mem⟩:Sto))).idx).AV).length) aZ,.slice ba ((((BO (⟨(⟨((Ai d).idx).names,((Ai d).idx).AV⟩:Idx),(Ai d).parts,(Ai d).mem⟩:Sto))).parts).length) bc,vS af bd bg] W fun aT av aH aI=>?_
 replace ⟨ab,ac,ae,aa,C⟩:=(so [af,O,J] av).g5 ab ac ae aa C
 refine .d ?_
 have aU:=aa.sl (.inr aD)
 replace ⟨ab,ac,ae⟩:=(sd aT [af,O,J] af).g3 ab ac ae
 exact .rb Tryz.func39 Tryz.results39 aH ⟨(VS.of (y:=(⟨(⟨(((BO (⟨(⟨((Ai d).idx).names,((Ai d).idx).AV⟩:Idx),(Ai d).parts,(Ai d).mem⟩:Sto))).idx).names,(((BO (⟨(⟨((Ai d).idx).names,((Ai d).idx).AV⟩:Idx),(Ai d).parts,(Ai d).mem⟩:Sto))).idx).AV⟩:Idx),((BO (⟨(⟨((Ai d).idx).names,((Ai d).idx).AV⟩:Idx),(Ai d).parts,(Ai d).mem⟩:Sto))).parts,((BO (⟨(⟨((Ai d).idx).names,((Ai d).idx).AV⟩:Idx),(Ai d).parts,(Ai d).mem⟩:Sto))).mem⟩:Sto)) ⟨_,rfl,⟨_,_,_,_,_,_,_,_,_,_,_,_,rfl,ab.w1,ac.w1,ae.w1,aU.w1⟩⟩ (by exact TN p0 ‹_›)),C⟩
end Go.Proofs.YtganlmloonielaaGreat
namespace Go.Proofs.YtganlmloonielaaGreat
theorem P6 {d:Dsk} (h:Af d=true):(Aq d).mem=[]:=by rw [IP h]; rfl
theorem R8 {d:Dsk} (h:Af d=true):(Aq d).idx.names=d.names:=by rw [IP h]; rfl
theorem R9 {d:Dsk} (h:DD d) (hk:Af d=true):(nmB (Aq d).idx.names&&Ak (Aq d))=true:=by
 rw [IP hk]
 unfold Af at hk
 rw [AR] at hk
 exact hk.2
end Go.Proofs.YtganlmloonielaaGreat
namespace Go.Proofs.YtganlmloonielaaGreat
section
variable {d:Dsk}
theorem WR (h:Af d=true):BA d (Aq d)=[]:=by
 unfold BA
 split
 ·unfold BZ
  rw [if_pos (.inl (by rw [P6 h]; rfl))]
 ·rfl
theorem VE (hd:DD d) (h:Af d=true):CQ d (Aq d)=true:=by
 have e:(Aq d).idx.names=d.names:=R8 h
 refine (Kc h (R9 hd h) (by rw [D7 h]; rfl) ?_).symm
 rw [e,List.take_length]
end
end Go.Proofs.YtganlmloonielaaGreat
namespace Go.Proofs.YtganlmloonielaaGreat
set_option maxRecDepth 100000
set_option maxHeartbeats 4000000
theorem G4 (code:List UInt8) {w:World} {F:Nat→Prop} {a1:Option Addr} {n1 c1:Nat} (h1:RepS w F a1 n1 c1 code)  : Calls Tryz.prog 38 [.slice a1 n1 c1].toArray w (As fun rv w'=>(∃ (d:Dsk),VS (fo F w.heap.size) w' (d:Dsk) rv∧(DD d))∧Ext w w'):=by
 refine goT Tryz.func38 ?_
 obtain ⟨rfl,aI,h1⟩:=h1.tp
 refine .s<|.g<|.np 27 [.slice none 0 0,.slice none 0 0,.slice none 0 0,vI 0] fun ai ar ab ac E au=>?_
 have aJ:Cov nil w ai:=Bc ab (Nat.le_refl _)
 replace h1:=(sn [] ac ab).g1 h1
 have C:=ac
 refine .d<|.s<|.g<|.r 1<|.cl (DX code h1 (w:=ar) (F:=nin (fo F w.heap.size) [ai])) ?_
 rintro aS av ⟨⟨aT,aq,aU,aV,rfl,ae,aj,af⟩,ak⟩
 have al:=al1 E.lt
 have aw:Gb w.heap.size ar.heap.size:=C.size
 have aK:=Ab ae E.lt
 have aL:Cov nil w aq:=BR ae C.size
 replace ⟨E,C⟩:=(se [] ak).g2 E C
 replace af:=RepS.KC (b:=aq) (M:=[ai]) af al aw
 refine .cl (EC aj (af.BB AD) AB (w:=av) (F:=all)) ?_
 rintro aW aX ⟨⟨ag,⟨_,rfl,⟨aC,aY,aD,aE,aZ,aF,aG,ba,aH,rfl,J,O,W⟩⟩,aM⟩,bc,aN,aO,am⟩
 have aa:=al2 aj.lt E.lt
 have ah:Gb w.heap.size av.heap.size:=C.size
 replace ⟨E,C⟩:=(s1 am).g2 E C
 have J:=J.fr aa ah
 replace J:=J.base (G':=fo F w.heap.size) (fun _ _ h=>.inr h)
 have aP:=J.max
 have O:=O.fr aa ah
 replace O:=O.base (G':=fo F w.heap.size) (fun _ _ h=>.inr h)
 have aQ:=O.max
 have W:=W.fr aa ah
 replace W:=W.base (G':=fo F w.heap.size) (fun _ _ h=>.inr h)
 have aR:=W.max
 have ax:=J.len
 subst ax
 have ay:=O.len
 subst ay
 have az:=W.len
 subst az
 refine .sc [.slice aC ag.files.length aD,.slice aE ag.list.length aF,.slice aG ag.names.length aH,vI ag.next] E fun bd ao aA aB=>?_
 replace ⟨J,O,W,C⟩:=(so [aq,ai] ao).g4 J O W C
 exact .d<|.rb Tryz.func38 Tryz.results38 aA ⟨⟨(ag:Dsk),⟨_,rfl,⟨_,_,_,_,_,_,_,_,_,rfl,J.w1,O.w1,W.w1⟩⟩,‹_›⟩,C⟩
end Go.Proofs.YtganlmloonielaaGreat
namespace Go.Proofs.YtganlmloonielaaGreat
set_option maxRecDepth 100000
set_option maxHeartbeats 4000000
theorem Kh (w_:Wld) {w:World} {F:Nat→Prop} {a1:Option Addr} {n1 c1:Nat} (h1:RepS w F a1 n1 c1 w_.store.idx.names) {a2:Option Addr} {n2 c2:Nat} (h2:RepS w F a2 n2 c2 w_.store.idx.AV) {a3:Option Addr} {n3 c3:Nat} (h3:RepS w F a3 n3 c3 w_.store.parts) {a4:Option Addr} {n4 c4:Nat} (h4:RepS w F a4 n4 c4 w_.store.mem) {a5:Option Addr} {n5 c5:Nat} (h5:RepS w F a5 n5 c5 w_.disk.files) {a6:Option Addr} {n6 c6:Nat} (h6:RepS w F a6 n6 c6 w_.disk.list) {a7:Option Addr} {n7 c7:Nat} (h7:RepS w F a7 n7 c7 w_.disk.names) (p0:SG w_.store) (p1:DD w_.disk):Calls Tryz.prog 40 [.agg #[.slice a1 n1 c1,.slice a2 n2 c2,.slice a3 n3 c3,.slice a4 n4 c4,.slice a5 n5 c5,.slice a6 n6 c6,.slice a7 n7 c7,.int .i64 w_.disk.next]].toArray w (As fun rv w'=>rv=.bool (CQ w_.disk w_.store)∧Ext w w'):=by
 refine goT Tryz.func40 ?_
 obtain ⟨rfl,ac,h1⟩:=h1.tp
 obtain ⟨rfl,ae,h2⟩:=h2.tp
 obtain ⟨rfl,af,h3⟩:=h3.tp
 obtain ⟨rfl,ag,h4⟩:=h4.tp
 obtain ⟨rfl,ah,h5⟩:=h5.tp
 obtain ⟨rfl,ai,h6⟩:=h6.tp
 obtain ⟨rfl,aj,h7⟩:=h7.tp
 refine .s<|.g<|.np 70 [.slice a1 w_.store.idx.names.length c1,.slice a2 w_.store.idx.AV.length c2,.slice a3 w_.store.parts.length c3,.slice a4 w_.store.mem.length c4,.slice a5 w_.disk.files.length c5,.slice a6 w_.disk.list.length c6,.slice a7 w_.disk.names.length c7,vI w_.disk.next] fun ak ab J C O aa=>?_
 replace ⟨h1,h2,h3,h4,h5,h6,h7⟩:=(sn [] C J).g7 h1 h2 h3 h4 h5 h6 h7
 have E:=C
 refine .r 1<|.d<|.s<|.g<|.r 1<|.ln O<|.r 1<|.ln O<|.cl (Gh w_.store w_.disk h1.ta h2.ta h3.ta h4.ta h5.ta h6.ta h7.ta p0 p1 (w:=ab) (F:=all)) ?_
 rintro al am ⟨rfl,W⟩
 replace E:=(se [] W).g1 E
 exact .r 1<|.d<|.rt Tryz.func40 Tryz.results40 (.bool (CQ w_.disk w_.store)) ⟨(congrArg Value.bool (by rfl)),E⟩
theorem IT (code:List UInt8) {w:World} {F:Nat→Prop} {a1:Option Addr} {n1 c1:Nat} (h1:RepS w F a1 n1 c1 code)  : Calls Tryz.prog 9 [.slice a1 n1 c1].toArray w (As fun rv w'=>rv=.bool (true)∧Ext w w'):=by
 refine goT Tryz.func9 ?_
 obtain ⟨rfl,cW,h1⟩:=h1.tp
 refine .s<|.g<|.r 1<|.d<|.s<|.s<|.g<|.r 2<|.bp ((code.length:Int) > 1048576) (fun b7=>.d<|.ct<|.s<|.g<|.r 1<|.d<|.rt Tryz.func9 Tryz.results9 (.bool true) ⟨(congrArg Value.bool (by rfl)),(Chg.refl _ _)⟩) fun b7=>.d<|.cf<|.sk<|.s<|.g<|.r 1<|.cl (G4 code h1 (w:=w) (F:=nin (fo F w.heap.size) [])) ?_
 rintro eJ eK ⟨⟨J,⟨_,rfl,⟨cz,eL,cA,cB,eM,cC,cD,eN,cE,rfl,W,aa,ab⟩⟩,cX⟩,bC⟩
 have ba:∀ q_∈([]:List Nat),q_< w.heap.size:=all_nil
 have bg:Gb w.heap.size w.heap.size:=(Nat.le_refl _)
 have C:=bC
 replace W:=RepS.Aa (M:=[]) W ba bg
 have cY:=W.max
 replace aa:=RepS.Aa (M:=[]) aa ba bg
 have cZ:=aa.max
 replace ab:=RepS.Aa (M:=[]) ab ba bg
 have c7:=ab.max
 have b8:=W.len
 subst b8
 have b9:=aa.len
 subst b9
 have cd:=ab.len
 subst cd
 refine .np 27 [.slice none 0 0,.slice none 0 0,.slice none 0 0,vI 0] fun ah eO bh bD ce cg=>?_
 have c8:=C.cn bh
 replace ⟨W,aa,ab,C⟩:=(sn [] bD bh).g4 W aa ab C
 refine .sc [.slice cz J.files.length cA,.slice cB J.list.length cC,.slice cD J.names.length cE,vI J.next] ce fun ci bE E cj=>?_
 replace ⟨W,aa,ab,C⟩:=(so [ah] bE).g4 W aa ab C
 refine .d<|.s<|.g<|.ln E<|.cl (Bn J W aa ab (by have q1:DD J:=‹_›; with_reducible exact q1) (w:=ci) (F:=nin (fo F w.heap.size) [ah])) ?_
 rintro eP eQ ⟨⟨_,rfl,⟨cF,eR,cG,cH,eS,cI,cJ,eT,cK,cL,eU,cM,rfl,ac,ae,af,ag⟩⟩,bF⟩
 have aM:=al1 E.lt
 have bc:Gb w.heap.size ci.heap.size:=C.size
 replace ⟨W,aa,ab,E,C⟩:=(se [ah] bF).g5 W aa ab E C
 replace ac:=RepS.Aa (M:=[ah]) ac aM bc
 have c9:=ac.max
 replace ae:=RepS.Aa (M:=[ah]) ae aM bc
 have da:=ae.max
 replace af:=RepS.Aa (M:=[ah]) af aM bc
 have db:=af.max
 replace ag:=RepS.Aa (M:=[ah]) ag aM bc
 have de:=ag.max
 have ck:=ac.len
 subst ck
 have cm:=ae.len
 subst cm
 have co:=af.len
 subst co
 have cp:=ag.len
 subst cp
 refine .np 34 [.slice none 0 0,.slice none 0 0,.slice none 0 0,.slice none 0 0] fun ai eV bd bG cq cr=>?_
 have df:=AS bd E.lt
 have dg:=C.cn bd
 replace ⟨W,aa,ab,E,ac,ae,af,ag,C⟩:=(sn [ah] bG bd).g9 W aa ab E ac ae af ag C
 refine .sc [.slice cF ((((Aq J).idx).names).length) cG,.slice cH ((((Aq J).idx).AV).length) cI,.slice cJ (((Aq J).parts).length) cK,.slice cL (((Aq J).mem).length) cM] cq fun eW bH O bI=>?_
 replace ⟨W,aa,ab,E,ac,ae,af,ag,C⟩:=(so [ai,ah] bH).g9 W aa ab E ac ae af ag C
 refine .d<|.s<|.s<|.gd nil 3 fun dh bi=>?_
 replace ⟨W,aa,ab,E,ac,ae,af,ag,O,C⟩:=(se [ai,ah] bi).g10 W aa ab E ac ae af ag O C
 refine .ln 0 O id<|.ln 1 E id<|.go 2<|.cl (fun bj am=>GI J (W.ext am) (aa.ext am) (ab.ext am) (by have q1:DD J:=‹_›; with_reducible exact q1) (w:=bj) (F:=nin (fo F w.heap.size) [ai,ah])) ?_
 intro bj am
 replace ⟨W,aa,ab,E,ac,ae,af,ag,O,C⟩:=(se [ai,ah] am).g10 W aa ab E ac ae af ag O C
 rintro dj dm ⟨⟨_,rfl,⟨dp,dq,dr,dt,du,dv,dw,dx,dy,dz,dA,dB,rfl,aA,aB,aC,aD⟩⟩,aS⟩
 have ao:=al2 O.lt E.lt
 have aI:Gb w.heap.size bj.heap.size:=C.size
 have hkeep_:=aS
 replace ⟨W,aa,ab,E,ac,ae,af,ag,O,C⟩:=(se [ai,ah] aS).g10 W aa ab E ac ae af ag O C
 refine ⟨Ext.chg hkeep_,?_⟩
 replace aA:=RepS.Aa (M:=[ai,ah]) aA ao aI
 replace aB:=RepS.Aa (M:=[ai,ah]) aB ao aI
 replace aC:=RepS.Aa (M:=[ai,ah]) aC ao aI
 replace aD:=RepS.Aa (M:=[ai,ah]) aD ao aI
 have bJ:=aA.len
 subst bJ
 have bK:=aB.len
 subst bK
 have bL:=aC.len
 subst bL
 have bM:=aD.len
 subst bM
 refine .d fun cu aT=>?_
 replace ⟨W,aa,ab,E,ac,ae,af,ag,O,aA,aB,aC⟩:=(se [ai,ah] aT).g12 W aa ab E ac ae af ag O aA aB aC
 replace ⟨aD,C⟩:=(se [ai,ah] aT).g2 aD C
 refine .cl (Co (Aq J) (Aq J) ac.ta ae.ta af.ta ag.ta aA.ta aB.ta aC.ta aD.ta (w:=cu) (F:=all)) ?_
 rintro dC cv ⟨rfl,bk⟩
 replace ⟨W,aa,ab,E,ac,ae,af,ag,O,C⟩:=(se [ai,ah] bk).g10 W aa ab E ac ae af ag O C
 rw [show (((Aq J)==(Aq J)))=true from beq_self_eq_true _]
 refine .r 2<|.ln E<|.cl (CF J W.ta aa.ta ab.ta (by have q1:DD J:=‹_›; with_reducible exact q1) (w:=cv) (F:=all)) ?_
 rintro dD dE ⟨rfl,bm⟩
 replace ⟨W,aa,ab,E,ac,ae,af,ag,O,C⟩:=(se [ai,ah] bm).g10 W aa ab E ac ae af ag O C
 cases cN:(Af J)
 ·refine .r 2<|.d<|.ct<|.s<|.gd nil 3 fun dF bn=>?_
  replace ⟨W,aa,ab,E,ac,ae,af,ag,O,C⟩:=(se [ai,ah] bn).g10 W aa ab E ac ae af ag O C
  refine .ln 0 O id<|.ln 1 E id<|.go 2<|.cl (fun bo aq=>GI J (W.ext aq) (aa.ext aq) (ab.ext aq) (by have q1:DD J:=‹_›; with_reducible exact q1) (w:=bo) (F:=nin (fo F w.heap.size) [ai,ah])) ?_
  intro bo aq
  replace ⟨W,aa,ab,E,ac,ae,af,ag,O,C⟩:=(se [ai,ah] aq).g10 W aa ab E ac ae af ag O C
  rintro dG dH ⟨⟨_,rfl,⟨dI,dJ,dK,dL,dM,dN,dO,dP,dQ,dR,dS,dT,rfl,aE,aF,aG,aH⟩⟩,aU⟩
  have ar:=al2 O.lt E.lt
  have aJ:Gb w.heap.size bo.heap.size:=C.size
  have hkeep_:=aU
  replace ⟨W,aa,ab,E,ac,ae,af,ag,O,C⟩:=(se [ai,ah] aU).g10 W aa ab E ac ae af ag O C
  refine ⟨Ext.chg hkeep_,?_⟩
  replace aE:=RepS.Aa (M:=[ai,ah]) aE ar aJ
  replace aF:=RepS.Aa (M:=[ai,ah]) aF ar aJ
  replace aG:=RepS.Aa (M:=[ai,ah]) aG ar aJ
  replace aH:=RepS.Aa (M:=[ai,ah]) aH ar aJ
  have bN:=aE.len
  subst bN
  have bO:=aF.len
  subst bO
  have bP:=aG.len
  subst bP
  have bQ:=aH.len
  subst bQ
  refine .d fun cw aV=>?_
  replace ⟨W,aa,ab,E,ac,ae,af,ag,O,aE,aF,aG⟩:=(se [ai,ah] aV).g12 W aa ab E ac ae af ag O aE aF aG
  replace ⟨aH,C⟩:=(se [ai,ah] aV).g2 aH C
  refine .cl (Co (Aq J) (Aq J) ac.ta ae.ta af.ta ag.ta aE.ta aF.ta aG.ta aH.ta (w:=cw) (F:=all)) ?_
  rintro dU dV ⟨rfl,bq⟩
  replace ⟨W,aa,ab,E,ac,ae,af,ag,O,C⟩:=(se [ai,ah] bq).g10 W aa ab E ac ae af ag O C
  rw [show (((Aq J)==(Aq J)))=true from beq_self_eq_true _]
  exact .r 1<|.d<|.rt Tryz.func9 Tryz.results9 (.bool true) ⟨(congrArg Value.bool (by rfl)),C⟩
 refine .r 2<|.d<|.cf<|.sk<|.s<|.gd nil 15 fun dW br=>?_
 replace ⟨W,aa,ab,E,ac,ae,af,ag,O,C⟩:=(se [ai,ah] br).g10 W aa ab E ac ae af ag O C
 refine .ln 0 E id<|.ln 1 O id<|.go 2<|.cl (fun bt aj=>FO J (Aq J) (W.ta.ext aj) (aa.ta.ext aj) (ab.ta.ext aj) (ac.ta.ext aj) (ae.ta.ext aj) (af.ta.ext aj) (ag.ta.ext aj) (by have q1:DD J:=‹_›; with_reducible exact q1) (by have q1:DD J:=‹_›; exact SG.of (Eb q1 (by with_reducible assumption:Af J=true))) (w:=bt) (F:=all)) ?_
 intro bt aj
 replace ⟨W,aa,ab,E,ac,ae,af,ag,O,C⟩:=(se [ai,ah] aj).g10 W aa ab E ac ae af ag O C
 rintro dX dY ⟨⟨dZ,d0,rfl,aN⟩,aW⟩
 have bu:=al2 O.lt E.lt
 have bR:Gb w.heap.size bt.heap.size:=C.size
 have hkeep_:=aW
 replace ⟨W,aa,ab,E,ac,ae,af,ag,O,C⟩:=(se [ai,ah] aW).g10 W aa ab E ac ae af ag O C
 refine ⟨Ext.chg hkeep_,?_⟩
 have aN:=aN.fr bu bR
 replace aN:=aN.base (G':=fo F w.heap.size) (fun _ _ h=>.inr h)
 have cO:=aN.max
 refine .r [3]<|GA.eqI (i:=4) (a:=(((BA J (Aq J)).length):Int)) (b:=0) AA (fun bS=>?_) (fun bS=>?_)
 ·refine .r [5]<|.ln 6 E id<|.ln 9 O id<|.go 7<|.cl (fun bv au=>Dg J (W.ta.ext au) (aa.ta.ext au) (ab.ta.ext au) (by have q1:DD J:=‹_›; with_reducible exact q1) (w:=bv) (F:=all)) ?_
  intro bv au
  replace ⟨W,aa,ab,E,ac,ae,af,ag,O,C⟩:=(se [ai,ah] au).g10 W aa ab E ac ae af ag O C
  rintro d3 d4 ⟨⟨_,rfl,⟨d5,d6,d7,d8,d9,ec,ed,ee,ef,rfl,av,aw,ax⟩⟩,aX⟩
  have aK:=al2 O.lt E.lt
  have aY:Gb w.heap.size bv.heap.size:=C.size
  have hkeep_:=aX
  replace ⟨W,aa,ab,E,ac,ae,af,ag,O,C⟩:=(se [ai,ah] aX).g10 W aa ab E ac ae af ag O C
  refine ⟨Ext.chg hkeep_,?_⟩
  have av:=av.fr aK aY
  replace av:=av.base (G':=fo F w.heap.size) (fun _ _ h=>.inr h)
  have cP:=av.max
  have aw:=aw.fr aK aY
  replace aw:=aw.base (G':=fo F w.heap.size) (fun _ _ h=>.inr h)
  have cQ:=aw.max
  have ax:=ax.fr aK aY
  replace ax:=ax.base (G':=fo F w.heap.size) (fun _ _ h=>.inr h)
  have cR:=ax.max
  have bT:=av.len
  subst bT
  have bU:=aw.len
  subst bU
  have bV:=ax.len
  subst bV
  refine .go 8<|.cl (fun bw ay=>Bn (BN J) (av.ext ay) (aw.ext ay) (ax.ext ay) (by have q1:DD J:=‹_›; with_reducible exact (G1 q1)) (w:=bw) (F:=nin (fo F w.heap.size) [ai,ah])) ?_
  intro bw ay
  replace ⟨W,aa,ab,E,ac,ae,af,ag,O,C⟩:=(se [ai,ah] ay).g10 W aa ab E ac ae af ag O C
  rintro eg eh ⟨⟨_,rfl,⟨ej,ek,en,et,ey,ez,eA,eB,eC,eD,eE,eF,rfl,aO,aP,aQ,aR⟩⟩,aZ⟩
  have az:=al2 O.lt E.lt
  have aL:Gb w.heap.size bw.heap.size:=C.size
  have hkeep_:=aZ
  replace ⟨W,aa,ab,E,ac,ae,af,ag,O,C⟩:=(se [ai,ah] aZ).g10 W aa ab E ac ae af ag O C
  refine ⟨Ext.chg hkeep_,?_⟩
  replace aO:=RepS.Aa (M:=[ai,ah]) aO az aL
  have cS:=aO.max
  replace aP:=RepS.Aa (M:=[ai,ah]) aP az aL
  have cT:=aP.max
  replace aQ:=RepS.Aa (M:=[ai,ah]) aQ az aL
  have cU:=aQ.max
  replace aR:=RepS.Aa (M:=[ai,ah]) aR az aL
  have cV:=aR.max
  have bW:=aO.len
  subst bW
  have bX:=aP.len
  subst bX
  have bY:=aQ.len
  subst bY
  have bZ:=aR.len
  subst bZ
  refine GA.Bz (i:=10) AA (fun cx al=>Co (Aq (BN J)) (Aq J) (aO.ta.ext al) (aP.ta.ext al) (aQ.ta.ext al) (aR.ta.ext al) (ac.ta.ext al) (ae.ta.ext al) (af.ta.ext al) (ag.ta.ext al) (w:=cx) (F:=all)) ?_
  have b0:((Aq (BN J))==(Aq J))=true:=(PB (by with_reducible assumption:Af J=true))
  rw [b0]
  refine .r [11,12]<|.ln 13 O id<|.ln 14 E id<|.d fun cy bz=>?_
  replace ⟨W,aa,ab,ac,ae,af,ag,C⟩:=(se [ai,ah] bz).g8 W aa ab ac ae af ag C
  refine .r 1<|.cl (Kh (⟨(⟨(⟨((Aq J).idx).names,((Aq J).idx).AV⟩:Idx),(Aq J).parts,(Aq J).mem⟩:Sto),(⟨J.files,J.list,J.names,J.next⟩:Dsk)⟩:Wld) ac.ta ae.ta af.ta ag.ta W.ta aa.ta ab.ta (by have q1:DD J:=‹_›; exact SG.of (Eb q1 (by with_reducible assumption:Af J=true))) (by have q1:DD J:=‹_›; with_reducible exact q1) (w:=cy) (F:=all)) ?_
  rintro eG eH ⟨rfl,bA⟩
  replace C:=(se [] bA).g1 C
  have b6:(CQ (⟨(⟨(⟨((Aq J).idx).names,((Aq J).idx).AV⟩:Idx),(Aq J).parts,(Aq J).mem⟩:Sto),(⟨J.files,J.list,J.names,J.next⟩:Dsk)⟩:Wld).disk (⟨(⟨(⟨((Aq J).idx).names,((Aq J).idx).AV⟩:Idx),(Aq J).parts,(Aq J).mem⟩:Sto),(⟨J.files,J.list,J.names,J.next⟩:Dsk)⟩:Wld).store)=true:=(by have q1:DD J:=‹_›; exact VE q1 (by with_reducible assumption:Af J=true))
  rw [b6]
  exact .r 2<|.d<|.rt Tryz.func9 Tryz.results9 (.bool true) ⟨(congrArg Value.bool (by rfl)),C⟩
 refine .r [5,6,7,8,9,10,11,12,13,14]<|.d fun eI bB=>?_
 replace C:=(se [] bB).g1 C
 exact .r 4<|.d<|.rt Tryz.func9 Tryz.results9 (.bool false) ⟨(congrArg Value.bool (by exfalso; have q2:=WR (by with_reducible assumption:Af J=true); simp_all; done)),C⟩
end Go.Proofs.YtganlmloonielaaGreat
