/- walks; pruned haves; hints pruned; squeezed -/
import Derived.Test.YtggnnidleedpaaaGreatWmzW60
open Go.Proofs.Tryz
set_option linter.unusedVariables false
set_option linter.unusedSimpArgs false
namespace Go.Proofs.YtggnnidleedpaaaGreat
set_option maxRecDepth 100000
set_option maxHeartbeats 4000000
variable {w:World} {F:Nat→Prop} {a1 a2 a3 a4 a5 a6 a7 a8 a9 a10 a11 a12 a13 a14:Option Addr} {n1 c1 n2 c2 n3 c3 n4 c4 n5 c5 n6 c6 n7 c7 n8 c8 n9 c9 n10 c10 n11 c11 n12 c12 n13 c13 n14 c14:Nat}
theorem Jk  {F:Nat→Prop}   : Calls Tryz.prog 53 [].toArray w (BB fun rv w'=>VS (ge w.heap.size) w' ((⟨[],[],[],1⟩:Dsk):Dsk) rv∧Ext w w'):=by
 refine goT func53<|.s<|.g<|.np 36 [AH,AH,AH,vI 0] fun ab aT ak al E aw=>?_
 have aM:Cov nil w ab:=Bf ak (Nat.le_refl _)
 have C:=al
 refine .d<|.s<|.g<|.ns 0 50 [] fun ac aI ai am ax ay=>?_
 have aN:=AX ai E.lt
 have az:=Ae ai C.size
 replace ⟨E,C⟩:=(se [] am).g2 E C
 have J:Own (α:=Fil) aI ac 50 (nin (ge w.heap.size) [ac,ab]) 0 0 []:=Own.Aj ax
 refine .ns 0 3 [] fun af aJ ag ao aA aB=>?_
 have aO:=AX ag E.lt
 have aP:=AX ag J.lt
 have aC:=Ae ag C.size
 replace ⟨E,J,C⟩:=(sn [ac,ab] ao ag).g3 E J C
 have W:Own (α:=Int) aJ af 3 (nin (ge w.heap.size) [af,ac,ab]) 0 0 []:=Own.Aj aA
 refine .ns 0 43 [] fun ah aK ae aq aD aE=>?_
 have aQ:=AX ae E.lt
 have aR:=AX ae J.lt
 have aS:=AX ae W.lt
 have aF:=Ae ae C.size
 replace ⟨E,J,W,C⟩:=(sn [af,ac,ab] aq ae).g4 E J W C
 have aa:Own (α:=List Tag) aK ah 43 (nin (ge w.heap.size) [ah,af,ac,ab]) 0 0 []:=Own.Aj aD
 refine .r 1<|.sc [vS ac 0 0,vS af 0 0,vS ah 0 0,vI 1] E fun au ar aG aH=>?_
 replace ⟨J,W,aa,C⟩:=(so [ah,af,ac,ab] ar).g4 J W aa C
 refine .d ?_
 have aj:=J.sl az
 replace ⟨W,aa⟩:=(sd au [ah,af,ac,ab] ac).g2 W aa
 have av:=W.sl aC
 replace ⟨aj,aa⟩:=(sd au [ah,af,ab] af).g2 aj aa
 have aL:=aa.sl aF
 replace ⟨aj,av⟩:=(sd au [ah,ab] ah).g2 aj av
 exact .rb func53 results53 aG ⟨⟨_,rfl,⟨_,_,_,_,_,_,_,_,_,rfl,aj.w1,av.w1,aL.w1⟩⟩,C⟩
theorem Im  {F:Nat→Prop}   : Calls Tryz.prog 33 [].toArray w (BB fun rv w'=>VS (ge w.heap.size) w' (DA:Wld) rv∧Ext w w'):=by
 refine goT func33<|.s<|.g<|.np 38 [AH,AH,AH,AH,AH,AH,AH,vI 0] fun aa aA au av W aB=>?_
 have bc:Cov nil w aa:=Bf au (Nat.le_refl _)
 have E:=av
 refine .d<|.s<|.g<|.r 1<|.cl (DT (⟨(⟨([]:List (List Tag)),([]:List Pst)⟩:Idx),([]:List Prt),([]:List Smp)⟩:Sto) (RepS.Aj _ all none 0 AE) (RepS.Aj _ all none 0 AE) (RepS.Aj _ all none 0 AE) (RepS.Aj _ all none 0 AE) WV.new.wd.wi.sto.nm NsD.nil WV.new.sd.sz (w:=aA) (F:=all)) ?_
 rintro bu am ⟨⟨aM,bv,aN,aO,bw,aP,ai,aQ,aR,ae,aS,aT,rfl,ab,ac,J,ao,C,aq,bd⟩,aw⟩
 have aj:=al1 W.lt
 have ak:Gb w.heap.size aA.heap.size:=E.size
 have bg:=Ah ao W.lt
 have aC:=Bo ao E.size
 have bh:=Ah aq W.lt
 have aD:=Bo aq E.size
 replace ⟨W,E⟩:=(se [] aw).g2 W E
 replace ab:RepS am (nin (ge w.heap.size) [ai,ae,aa]) _ _ _ _:=RepS.Bc (s0:=w.heap.size) (M:=[aa]) ab aj ak
 have bi:=ab.max
 replace ac:RepS am (nin (ge w.heap.size) [ai,ae,aa]) _ _ _ _:=RepS.Bc (s0:=w.heap.size) (M:=[aa]) ac aj ak
 have bj:=ac.max
 replace J:Own am ai 48 (nin (ge w.heap.size) [ai,ae,aa]) _ _ _:=Own.Bc (s0:=w.heap.size) (M:=[aa]) J aj ak
 replace C:Own am ae 85 (nin (ge w.heap.size) [ai,ae,aa]) _ _ _:=Own.Bc (s0:=w.heap.size) (M:=[aa]) C aj ak
 have aE:=ab.len
 subst aE
 have aF:=ac.len
 subst aF
 refine .cl (Jk (w:=am) (F:=all)) ?_
 rintro bz bA ⟨⟨_,rfl,⟨aU,bB,aV,aW,bC,aX,aY,bD,aZ,rfl,af,ag,ah⟩⟩,ax⟩
 have al:=al3 J.lt C.lt W.lt
 have ar:Gb w.heap.size am.heap.size:=E.size
 replace ⟨W,ab,ac,J,C,E⟩:=(se [ai,ae,aa] ax).g6 W ab ac J C E
 have af:=af.fr al ar
 have bq:=af.max
 have ag:=ag.fr al ar
 have br:=ag.max
 have ah:=ah.fr al ar
 have bt:=ah.max
 have aG:=af.len
 subst aG
 have aH:=ag.len
 subst aH
 have aI:=ah.len
 subst aI
 refine .r 1<|.sc [.slice aM (((((Am (⟨(⟨([]:List (List Tag)),([]:List Pst)⟩:Idx),([]:List Prt),([]:List Smp)⟩:Sto))).idx).names).length) aN,.slice aO (((((Am (⟨(⟨([]:List (List Tag)),([]:List Pst)⟩:Idx),([]:List Prt),([]:List Smp)⟩:Sto))).idx).AY).length) aP,vS ai aQ aR,vS ae aS aT,.slice aU ((((⟨[],[],[],1⟩:Dsk)).files).length) aV,.slice aW ((((⟨[],[],[],1⟩:Dsk)).list).length) aX,.slice aY ((((⟨[],[],[],1⟩:Dsk)).names).length) aZ,vI (((⟨[],[],[],1⟩:Dsk)).next)] W fun aJ ay aK aL=>?_
 replace ⟨ab,ac,J,C,af,ag,ah,E⟩:=(so [ai,ae,aa] ay).g8 ab ac J C af ag ah E
 refine .d ?_
 have az:=J.sl aC
 replace ⟨ab,ac,C,af,ag,ah⟩:=(sd aJ [ai,ae,aa] ai).g6 ab ac C af ag ah
 have ba:=C.sl aD
 replace ⟨ab,ac,az,af,ag,ah⟩:=(sd aJ [ae,aa] ae).g6 ab ac az af ag ah
 exact .rb func33 results33 aK ⟨(VS.of (y:=(⟨(⟨(⟨(((Am (⟨(⟨([]:List (List Tag)),([]:List Pst)⟩:Idx),([]:List Prt),([]:List Smp)⟩:Sto))).idx).names,(((Am (⟨(⟨([]:List (List Tag)),([]:List Pst)⟩:Idx),([]:List Prt),([]:List Smp)⟩:Sto))).idx).AY⟩:Idx),((Am (⟨(⟨([]:List (List Tag)),([]:List Pst)⟩:Idx),([]:List Prt),([]:List Smp)⟩:Sto))).parts,((Am (⟨(⟨([]:List (List Tag)),([]:List Pst)⟩:Idx),([]:List Prt),([]:List Smp)⟩:Sto))).mem⟩:Sto),(⟨((⟨[],[],[],1⟩:Dsk)).files,((⟨[],[],[],1⟩:Dsk)).list,((⟨[],[],[],1⟩:Dsk)).names,((⟨[],[],[],1⟩:Dsk)).next⟩:Dsk)⟩:Wld)) ⟨_,rfl,⟨_,_,_,_,_,_,_,_,_,_,_,_,_,_,_,_,_,_,_,_,_,rfl,ab.w1,ac.w1,az.w1,ba.w1,af.w1,ag.w1,ah.w1⟩⟩ AF),E⟩
theorem Dq (w_:Wld){bx:Nat}{ab0:Option Addr}{nb0 cb0:Nat}(hrb0:RepS w (nin F [bx]) ab0 nb0 cb0 w_.store.idx.names){ab1:Option Addr}{nb1 cb1:Nat}(hrb1:RepS w (nin F [bx]) ab1 nb1 cb1 w_.store.idx.AY){ab2:Option Addr}{nb2 cb2:Nat}(hrb2:RepS w (nin F [bx]) ab2 nb2 cb2 w_.store.parts){ab3:Option Addr}{nb3 cb3:Nat}(hrb3:RepS w (nin F [bx]) ab3 nb3 cb3 w_.store.mem){ab4:Option Addr}{nb4 cb4:Nat}(hrb4:RepS w (nin F [bx]) ab4 nb4 cb4 w_.disk.files){ab5:Option Addr}{nb5 cb5:Nat}(hrb5:RepS w (nin F [bx]) ab5 nb5 cb5 w_.disk.list){ab6:Option Addr}{nb6 cb6:Nat}(hrb6:RepS w (nin F [bx]) ab6 nb6 cb6 w_.disk.names) (hbx:Box w bx 38 [.slice ab0 nb0 cb0,.slice ab1 nb1 cb1,.slice ab2 nb2 cb2,.slice ab3 nb3 cb3,.slice ab4 nb4 cb4,.slice ab5 nb5 cb5,.slice ab6 nb6 cb6,.int .i64 w_.disk.next]) (p0:DD w_.disk) (p1:BI w_.disk=true):Calls Tryz.prog 59 [.pointer (some ⟨bx,0,none⟩)].toArray w (BB fun rv w'=>(rv=.tuple #[]∧(∃ (ao0:Option Addr) (no0 co0:Nat) (ao1:Option Addr) (no1 co1:Nat) (ao2:Option Addr) (no2 co2:Nat) (ao3:Option Addr) (no3 co3:Nat) (ao4:Option Addr) (no4 co4:Nat) (ao5:Option Addr) (no5 co5:Nat) (ao6:Option Addr) (no6 co6:Nat),Box w' bx 38 [.slice ao0 no0 co0,.slice ao1 no1 co1,.slice ao2 no2 co2,.slice ao3 no3 co3,.slice ao4 no4 co4,.slice ao5 no5 co5,.slice ao6 no6 co6,.int .i64 ((((BE w_)).disk).next)]∧RepS w' (nin (fo F w.heap.size) [bx]) ao0 no0 co0 (((((BE w_)).store).idx).names)∧RepS w' (nin (fo F w.heap.size) [bx]) ao1 no1 co1 (((((BE w_)).store).idx).AY)∧RepS w' (nin (fo F w.heap.size) [bx]) ao2 no2 co2 ((((BE w_)).store).parts)∧RepS w' (nin (fo F w.heap.size) [bx]) ao3 no3 co3 ((((BE w_)).store).mem)∧RepS w' (nin (fo F w.heap.size) [bx]) ao4 no4 co4 ((((BE w_)).disk).files)∧RepS w' (nin (fo F w.heap.size) [bx]) ao5 no5 co5 ((((BE w_)).disk).list)∧RepS w' (nin (fo F w.heap.size) [bx]) ao6 no6 co6 ((((BE w_)).disk).names)))∧Chg (ins [bx]) w w'):=by
 refine goT func59 ?_
 have hcv_bx:Cov (ins [bx]) w bx:=Cov.mkI AI
 obtain rfl:=hrb0.len
 replace hrb0:=hrb0.Ex (s:=w.heap.size)
 obtain rfl:=hrb1.len
 replace hrb1:=hrb1.Ex (s:=w.heap.size)
 obtain rfl:=hrb2.len
 replace hrb2:=hrb2.Ex (s:=w.heap.size)
 obtain rfl:=hrb3.len
 replace hrb3:=hrb3.Ex (s:=w.heap.size)
 obtain rfl:=hrb4.len
 replace hrb4:=hrb4.Ex (s:=w.heap.size)
 obtain rfl:=hrb5.len
 replace hrb5:=hrb5.Ex (s:=w.heap.size)
 obtain rfl:=hrb6.len
 replace hrb6:=hrb6.Ex (s:=w.heap.size)
 refine .s<|.g<|.r 4<|.ln hbx<|.cl (Il w_.disk hrb4.ta hrb5.ta hrb6.ta p0 (w:=w) (F:=all)) ?_
 rintro bj aR ⟨⟨_,rfl,⟨al,bk,am,ao,bm,aq,ar,bn,au,rfl,C,E,J⟩⟩,aj⟩
 have ah:=al1 hbx.lt
 have ak:Gb w.heap.size w.heap.size:=(Nat.le_refl _)
 replace hbx:=(se [] aj).g1 hbx
 have W:Chg (ins [bx]) w aR:=Chg.Cb (Chg.refl (ins [bx]) w) aj
 have C:=C.fr ah ak
 replace C:=C.base (G':=fo F w.heap.size) (fun _ _ h=>.inr h)
 have aZ:=C.max
 have E:=E.fr ah ak
 replace E:=E.base (G':=fo F w.heap.size) (fun _ _ h=>.inr h)
 have ba:=E.max
 have J:=J.fr ah ak
 replace J:=J.base (G':=fo F w.heap.size) (fun _ _ h=>.inr h)
 have bc:=J.max
 have aG:=C.len
 subst aG
 have aH:=E.len
 subst aH
 have aI:=J.len
 subst aI
 refine .r 2<|.sb 4 (.agg #[.slice al ((Br w_.disk).files.length) am,.slice ao ((Br w_.disk).list.length) aq,.slice ar ((Br w_.disk).names.length) au,vI ((Br w_.disk).next)]) [.slice ab0 w_.store.idx.names.length cb0,.slice ab1 w_.store.idx.AY.length cb1,.slice ab2 w_.store.parts.length cb2,.slice ab3 w_.store.mem.length cb3,.slice al ((Br w_.disk).files.length) am,.slice ao ((Br w_.disk).list.length) aq,.slice ar ((Br w_.disk).names.length) au,vI ((Br w_.disk).next)] hbx fun aJ av aa aK=>?_
 replace ⟨C,E,J,W⟩:=(so [bx] av).g4 C E J W
 refine .d<|.g<|.r 4<|.ln aa<|.cl (Ij (Br w_.disk) C E J (Rx p0) (w:=aJ) (F:=nin (fo F w.heap.size) [bx])) ?_
 rintro bo bq ⟨⟨_,rfl,⟨ay,br,az,aA,bt,aB,aC,bu,aD,aE,bv,aF,rfl,ac,ae,af,ag⟩⟩,aw⟩
 have ab:=al1 aa.lt
 have ai:Gb w.heap.size aJ.heap.size:=W.size
 replace ⟨aa,C,E,J,W⟩:=(se [bx] aw).g5 aa C E J W
 replace ac:=RepS.Af (M:=[bx]) ac ab ai
 have bd:=ac.max
 replace ae:=RepS.Af (M:=[bx]) ae ab ai
 have bg:=ae.max
 replace af:=RepS.Af (M:=[bx]) af ab ai
 have bh:=af.max
 replace ag:=RepS.Af (M:=[bx]) ag ab ai
 have bi:=ag.max
 have aL:=ac.len
 subst aL
 have aM:=ae.len
 subst aM
 have aN:=af.len
 subst aN
 have aO:=ag.len
 subst aO
 refine .r 2<|.sb 0 (.agg #[.slice ay ((((CP (Br w_.disk)).idx).names).length) az,.slice aA ((((CP (Br w_.disk)).idx).AY).length) aB,.slice aC (((CP (Br w_.disk)).parts).length) aD,.slice aE (((CP (Br w_.disk)).mem).length) aF]) [.slice ay ((((CP (Br w_.disk)).idx).names).length) az,.slice aA ((((CP (Br w_.disk)).idx).AY).length) aB,.slice aC (((CP (Br w_.disk)).parts).length) aD,.slice aE (((CP (Br w_.disk)).mem).length) aF,.slice al ((Br w_.disk).files.length) am,.slice ao ((Br w_.disk).list.length) aq,.slice ar ((Br w_.disk).names.length) au,vI ((Br w_.disk).next)] aa fun bw ax aP aQ=>?_
 replace ⟨C,E,J,ac,ae,af,ag,W⟩:=(so [bx] ax).g8 C E J ac ae af ag W
 refine .d<|T.Ez func59 results59 ?_
 rw [show (BE w_)=(⟨(⟨(⟨((CP (Br w_.disk)).idx).names,((CP (Br w_.disk)).idx).AY⟩:Idx),(CP (Br w_.disk)).parts,(CP (Br w_.disk)).mem⟩:Sto),(⟨(Br w_.disk).files,(Br w_.disk).list,(Br w_.disk).names,(Br w_.disk).next⟩:Dsk)⟩:Wld) from by exact TT p0 p1]
 exact ⟨⟨rfl,ay,(((CP (Br w_.disk)).idx).names).length,az,aA,(((CP (Br w_.disk)).idx).AY).length,aB,aC,((CP (Br w_.disk)).parts).length,aD,aE,((CP (Br w_.disk)).mem).length,aF,al,(Br w_.disk).files.length,am,ao,(Br w_.disk).list.length,aq,ar,(Br w_.disk).names.length,au,aP,(RepS.Ap ac (all_cons AI all_nil)),(RepS.Ap ae (all_cons AI all_nil)),(RepS.Ap af (all_cons AI all_nil)),(RepS.Ap ag (all_cons AI all_nil)),(RepS.Ap C (all_cons AI all_nil)),(RepS.Ap E (all_cons AI all_nil)),(RepS.Ap J (all_cons AI all_nil))⟩,W⟩
theorem Io (w_:Wld) (e:Evt){bx:Nat}{ab0:Option Addr}{nb0 cb0:Nat}(hrb0:RepS w (nin F [bx]) ab0 nb0 cb0 w_.store.idx.names){ab1:Option Addr}{nb1 cb1:Nat}(hrb1:RepS w (nin F [bx]) ab1 nb1 cb1 w_.store.idx.AY){ab2:Option Addr}{nb2 cb2:Nat}(hrb2:RepS w (nin F [bx]) ab2 nb2 cb2 w_.store.parts){ab3:Option Addr}{nb3 cb3:Nat}(hrb3:RepS w (nin F [bx]) ab3 nb3 cb3 w_.store.mem){ab4:Option Addr}{nb4 cb4:Nat}(hrb4:RepS w (nin F [bx]) ab4 nb4 cb4 w_.disk.files){ab5:Option Addr}{nb5 cb5:Nat}(hrb5:RepS w (nin F [bx]) ab5 nb5 cb5 w_.disk.list){ab6:Option Addr}{nb6 cb6:Nat}(hrb6:RepS w (nin F [bx]) ab6 nb6 cb6 w_.disk.names) (hbx:Box w bx 38 [.slice ab0 nb0 cb0,.slice ab1 nb1 cb1,.slice ab2 nb2 cb2,.slice ab3 nb3 cb3,.slice ab4 nb4 cb4,.slice ab5 nb5 cb5,.slice ab6 nb6 cb6,.int .i64 w_.disk.next]) (h1:RepS w (nin F [bx]) a1 n1 c1 e.name) (p0:WV w_) (p1:NmD e.name):Calls Tryz.prog 34 [.pointer (some ⟨bx,0,none⟩),.agg #[.int .i64 e.kind,.int .i64 e.at_,.int .i64 e.cut,.slice a1 n1 c1,.int .i64 e.row.t,.int .i64 e.row.v]].toArray w (BB fun rv w'=>(rv=.tuple #[]∧(∃ (ao0:Option Addr) (no0 co0:Nat) (ao1:Option Addr) (no1 co1:Nat) (ao2:Option Addr) (no2 co2:Nat) (ao3:Option Addr) (no3 co3:Nat) (ao4:Option Addr) (no4 co4:Nat) (ao5:Option Addr) (no5 co5:Nat) (ao6:Option Addr) (no6 co6:Nat),Box w' bx 38 [.slice ao0 no0 co0,.slice ao1 no1 co1,.slice ao2 no2 co2,.slice ao3 no3 co3,.slice ao4 no4 co4,.slice ao5 no5 co5,.slice ao6 no6 co6,.int .i64 ((((doW w_ e)).disk).next)]∧RepS w' (nin (fo F w.heap.size) [bx]) ao0 no0 co0 (((((doW w_ e)).store).idx).names)∧RepS w' (nin (fo F w.heap.size) [bx]) ao1 no1 co1 (((((doW w_ e)).store).idx).AY)∧RepS w' (nin (fo F w.heap.size) [bx]) ao2 no2 co2 ((((doW w_ e)).store).parts)∧RepS w' (nin (fo F w.heap.size) [bx]) ao3 no3 co3 ((((doW w_ e)).store).mem)∧RepS w' (nin (fo F w.heap.size) [bx]) ao4 no4 co4 ((((doW w_ e)).disk).files)∧RepS w' (nin (fo F w.heap.size) [bx]) ao5 no5 co5 ((((doW w_ e)).disk).list)∧RepS w' (nin (fo F w.heap.size) [bx]) ao6 no6 co6 ((((doW w_ e)).disk).names)))∧Chg (ins [bx]) w w'):=by
 refine goT func34 ?_
 have hcv_bx:Cov (ins [bx]) w bx:=Cov.mkI AI
 obtain rfl:=hrb0.len
 replace hrb0:=hrb0.Ex (s:=w.heap.size)
 obtain rfl:=hrb1.len
 replace hrb1:=hrb1.Ex (s:=w.heap.size)
 obtain rfl:=hrb2.len
 replace hrb2:=hrb2.Ex (s:=w.heap.size)
 obtain rfl:=hrb3.len
 replace hrb3:=hrb3.Ex (s:=w.heap.size)
 obtain rfl:=hrb4.len
 replace hrb4:=hrb4.Ex (s:=w.heap.size)
 obtain rfl:=hrb5.len
 replace hrb5:=hrb5.Ex (s:=w.heap.size)
 obtain rfl:=hrb6.len
 replace hrb6:=hrb6.Ex (s:=w.heap.size)
 obtain rfl:=h1.len
 replace h1:=h1.Ex (s:=w.heap.size)
 refine .s<|.g<|.np 58 [vI e.kind,vI e.at_,vI e.cut,.slice a1 e.name.length c1,vI e.row.t,vI e.row.v] fun aa ij dW dX E gn=>?_
 have jI:=AX dW hbx.lt
 replace ⟨hrb0,hrb1,hrb2,hrb3,hrb4,hrb5,hrb6,hbx,h1⟩:=(sn [bx] dX dW).g9 hrb0 hrb1 hrb2 hrb3 hrb4 hrb5 hrb6 hbx h1
 have C:Chg (ins [bx]) w ij:=Chg.Cb (Chg.refl (ins [bx]) w) dX
 refine .d<|.s<|.g<|.ns 0 137 [] fun W ik dy ek gp gq=>?_
 have en:=AX dy hbx.lt
 have dY:=AX dy E.lt
 replace ⟨hrb0,hrb1,hrb2,hrb3,hrb4,hrb5,hrb6,hbx,h1,E,C⟩:=(sn [aa,bx] ek dy).g11 hrb0 hrb1 hrb2 hrb3 hrb4 hrb5 hrb6 hbx h1 E C
 have J:Own (α:=Stp) ik W 137 (nin (fo F w.heap.size) [W,aa,bx]) 0 0 []:=Own.Aj gp
 refine .r 1<|.d<|.s<|.g<|.r 3<|.ln hbx<|.np 32 [AH,AH,AH,AH] fun ab lD bv et gr gs=>?_
 have gt:=AX bv hbx.lt
 have gu:=AX bv E.lt
 have jJ:=AX bv J.lt
 have jK:=C.cn bv
 replace ⟨hrb0,hrb1,hrb2,hrb3,hrb4,hrb5,hrb6,hbx,h1,E,J,C⟩:=(sn [W,aa,bx] et bv).g12 hrb0 hrb1 hrb2 hrb3 hrb4 hrb5 hrb6 hbx h1 E J C
 refine .sc [.slice ab0 w_.store.idx.names.length cb0,.slice ab1 w_.store.idx.AY.length cb1,.slice ab2 w_.store.parts.length cb2,.slice ab3 w_.store.mem.length cb3] gr fun bu ey ac gv=>?_
 replace ⟨hrb0,hrb1,hrb2,hrb3,hrb4,hrb5,hrb6,hbx,h1,E,J,C⟩:=(so [ab,W,aa,bx] ey).g12 hrb0 hrb1 hrb2 hrb3 hrb4 hrb5 hrb6 hbx h1 E J C
 refine .d<|.s<|.s<|.g<|.r 1<|.lb E<|.d<|.b 0<|.s<|.g<|.eq e.kind 1 (fun gw=>?_) (fun gw=>?_)
 ·refine .r 1<|.d<|.ct<|.s ?_
  replace hrb0:=hrb0.BO
  replace hrb1:=hrb1.BO
  replace hrb2:=hrb2.BO
  replace hrb3:=hrb3.BO
  replace hrb4:=hrb4.BO
  replace hrb5:=hrb5.BO
  replace hrb6:=hrb6.BO
  replace h1:=h1.BO
  have gy:Gb (bx+1) bu.heap.size:=hbx.lt
  have ez:Gb (aa+1) bu.heap.size:=E.lt
  refine .gd (mtb [W] bu.heap.size) 14 fun il dz=>?_
  replace ⟨hrb0,hrb1,hrb2,hrb3,hrb4,hrb5,hrb6,hbx,h1,E,J,ac⟩:=(se [ab,W,aa,bx] dz).g12 hrb0 hrb1 hrb2 hrb3 hrb4 hrb5 hrb6 hbx h1 E J ac
  replace C:=(se [ab,W,aa,bx] dz).g1 C
  have ae:Chg (mtb [W] bu.heap.size) bu il:=Chg.Cb (Chg.refl (mtb [W] bu.heap.size) bu) dz
  refine .r [0,1,2]<|.ln 3 hbx (BL (all_cons (Nb.symm en) all_nil) gy)<|.r [4]<|.lb 5 E (BL (all_cons (Nb.symm dY) all_nil) ez)<|.r [6]<|.ln 7 E (BL (all_cons (Nb.symm dY) all_nil) ez)<|.tw 8 12 ?_ ?_
  ·refine .cl (fun eD aY=>Fb w_.store e.name e.row ((hrb0.base (fun _ _ h=>h.1)).ext aY) ((hrb1.base (fun _ _ h=>h.1)).ext aY) ((hrb2.base (fun _ _ h=>h.1)).ext aY) ((hrb3.base (fun _ _ h=>h.1)).ext aY) ((h1.base (fun _ _ h=>h.1)).ext aY) p0.sd p1 (w:=eD) (F:=nin (fo F w.heap.size) [ab,W,aa,bx])) ?_
   intro eD aY
   replace ⟨hrb0,hrb1,hrb2,hrb3,hrb4,hrb5,hrb6,hbx,h1,E,J,ac⟩:=(se [ab,W,aa,bx] aY).g12 hrb0 hrb1 hrb2 hrb3 hrb4 hrb5 hrb6 hbx h1 E J ac
   replace ⟨C,ae⟩:=(se [ab,W,aa,bx] aY).g2 C ae
   rintro lE lF ⟨⟨lG,rfl,⟨_,rfl,⟨cz,lH,cA,cB,lI,cC,cD,lJ,cE,cF,lK,cG,rfl,az,aA,aB,aC⟩⟩⟩,dA⟩
   have bP:=al4 ac.lt J.lt E.lt hbx.lt
   have dB:Gb w.heap.size eD.heap.size:=C.size
   have hkeep_:=dA
   replace ⟨hrb0,hrb1,hrb2,hrb3,hrb4,hrb5,hrb6,hbx,h1,E,J,ac⟩:=(se [ab,W,aa,bx] dA).g12 hrb0 hrb1 hrb2 hrb3 hrb4 hrb5 hrb6 hbx h1 E J ac
   replace ⟨C,ae⟩:=(se [ab,W,aa,bx] dA).g2 C ae
   refine ⟨Ext.chg hkeep_,?_⟩
   replace az:=RepS.Af (M:=[ab,W,aa,bx]) az bP dB
   have jL:=az.max
   replace aA:=RepS.Af (M:=[ab,W,aa,bx]) aA bP dB
   have jM:=aA.max
   replace aB:=RepS.Af (M:=[ab,W,aa,bx]) aB bP dB
   have jN:=aB.max
   replace aC:=RepS.Af (M:=[ab,W,aa,bx]) aC bP dB
   have im:=aC.max
   have eE:=az.len
   subst eE
   have eF:=aA.len
   subst eF
   have eG:=aB.len
   subst eG
   have eH:=aC.len
   subst eH
   refine .r [9,10] ?_
   cases io:(Bd w_.store e.name e.row).2
   ·refine .r [11]<|.go 12<|.nw (fun b=>.pointer (some ⟨b,0,none⟩)) 32 [AH,AH,AH,AH] fun jO cH=>?_
    replace ⟨hrb0,hrb1,hrb2,hrb3,hrb4,hrb5,hrb6,hbx,h1,E,J,ac⟩:=(se [ab,W,aa,bx] cH).g12 hrb0 hrb1 hrb2 hrb3 hrb4 hrb5 hrb6 hbx h1 E J ac
    replace ⟨az,aA,aB,aC,C,ae⟩:=(se [ab,W,aa,bx] cH).g6 az aA aB aC C ae
    intro bw jP aJ cI eI eJ
    have ip:=AX aJ hbx.lt
    have iq:=AX aJ E.lt
    have ir:=AX aJ J.lt
    have iu:=AX aJ ac.lt
    have iw:=C.cn aJ
    have eK:=ae.cn aJ
    replace ⟨hrb0,hrb1,hrb2,hrb3,hrb4,hrb5,hrb6,hbx,h1,E,J,ac⟩:=(sn [ab,W,aa,bx] cI aJ).g12 hrb0 hrb1 hrb2 hrb3 hrb4 hrb5 hrb6 hbx h1 E J ac
    replace ⟨az,aA,aB,aC,C,ae⟩:=(sn [ab,W,aa,bx] cI aJ).g6 az aA aB aC C ae
    refine .go 13<|GE.Dc (t':=32) (o:=0) (v:=.agg #[.slice cz ((Bd w_.store e.name e.row).1.idx.names.length) cA,.slice cB ((((Bd w_.store e.name e.row).1.idx).AY).length) cC,.slice cD ((Bd w_.store e.name e.row).1.parts.length) cE,.slice cF ((Bd w_.store e.name e.row).1.mem.length) cG]) [.slice cz ((Bd w_.store e.name e.row).1.idx.names.length) cA,.slice cB ((((Bd w_.store e.name e.row).1.idx).AY).length) cC,.slice cD ((Bd w_.store e.name e.row).1.parts.length) cE,.slice cF ((Bd w_.store e.name e.row).1.mem.length) cG] eI AA AA AA fun jQ cJ=>?_
    replace ⟨hrb0,hrb1,hrb2,hrb3,hrb4,hrb5,hrb6,hbx,h1,E,J,ac⟩:=(se [bw,ab,W,aa,bx] cJ).g12 hrb0 hrb1 hrb2 hrb3 hrb4 hrb5 hrb6 hbx h1 E J ac
    replace ⟨az,aA,aB,aC,C,ae⟩:=(se [bw,ab,W,aa,bx] cJ).g6 az aA aB aC C ae
    intro jR bz iy eL
    have hkeep_:=Chg.toS bz (Cov.toS eK)
    replace ⟨hrb0,hrb1,hrb2,hrb3,hrb4,hrb5,hrb6,hbx,h1,E,J,ac⟩:=(so [bw,ab,W,aa,bx] bz).g12 hrb0 hrb1 hrb2 hrb3 hrb4 hrb5 hrb6 hbx h1 E J ac
    replace ⟨az,aA,aB,aC,C,ae⟩:=(so [bw,ab,W,aa,bx] bz).g6 az aA aB aC C ae
    refine ⟨hkeep_,?_⟩
    refine .d fun jS cK=>?_
    replace ⟨hrb0,hrb1,hrb2,hrb3,hrb4,hrb5,hrb6,hbx,h1,E,J,ac⟩:=(se [bw,ab,W,aa,bx] cK).g12 hrb0 hrb1 hrb2 hrb3 hrb4 hrb5 hrb6 hbx h1 E J ac
    replace ⟨az,aA,aB,aC,C,ae⟩:=(se [bw,ab,W,aa,bx] cK).g6 az aA aB aC C ae
    replace hrb0:=hrb0.Aa
    replace hrb1:=hrb1.Aa
    replace hrb2:=hrb2.Aa
    replace hrb3:=hrb3.Aa
    replace hrb4:=hrb4.Aa
    replace hrb5:=hrb5.Aa
    replace hrb6:=hrb6.Aa
    replace h1:=h1.Aa
    refine .r 1<|.d<|.s<|.g<|.r 1<|.d<|.cf<|.sk<|.ib 0<|.s<|.s<|.g<|.r 8<|.d<|.ct<|T.I6 AA func34 results34 ?_
    rw [show (doW w_ e)=w_ from by exact SP p0 (by with_reducible assumption) (by with_reducible assumption)]
    exact ⟨⟨rfl,ab0,w_.store.idx.names.length,cb0,ab1,w_.store.idx.AY.length,cb1,ab2,w_.store.parts.length,cb2,ab3,w_.store.mem.length,cb3,ab4,w_.disk.files.length,cb4,ab5,w_.disk.list.length,cb5,ab6,w_.disk.names.length,cb6,hbx,(RepS.Ap hrb0 (all_cons AM all_nil)),(RepS.Ap hrb1 (all_cons AM all_nil)),(RepS.Ap hrb2 (all_cons AM all_nil)),(RepS.Ap hrb3 (all_cons AM all_nil)),(RepS.Ap hrb4 (all_cons AM all_nil)),(RepS.Ap hrb5 (all_cons AM all_nil)),(RepS.Ap hrb6 (all_cons AM all_nil))⟩,C⟩
   refine .r [11]<|.go 12<|.nw (fun b=>.pointer (some ⟨b,0,none⟩)) 32 [AH,AH,AH,AH] fun jT cL=>?_
   replace ⟨hrb0,hrb1,hrb2,hrb3,hrb4,hrb5,hrb6,hbx,h1,E,J,ac⟩:=(se [ab,W,aa,bx] cL).g12 hrb0 hrb1 hrb2 hrb3 hrb4 hrb5 hrb6 hbx h1 E J ac
   replace ⟨az,aA,aB,aC,C,ae⟩:=(se [ab,W,aa,bx] cL).g6 az aA aB aC C ae
   intro aZ jU aK cM eM eN
   have iz:=AX aK hbx.lt
   have iA:=AX aK E.lt
   have iB:=AX aK J.lt
   have iC:=AX aK ac.lt
   have iD:=C.cn aK
   have eO:=ae.cn aK
   replace ⟨hrb0,hrb1,hrb2,hrb3,hrb4,hrb5,hrb6,hbx,h1,E,J,ac⟩:=(sn [ab,W,aa,bx] cM aK).g12 hrb0 hrb1 hrb2 hrb3 hrb4 hrb5 hrb6 hbx h1 E J ac
   replace ⟨az,aA,aB,aC,C,ae⟩:=(sn [ab,W,aa,bx] cM aK).g6 az aA aB aC C ae
   refine .go 13<|GE.Dc (t':=32) (o:=0) (v:=.agg #[.slice cz ((Bd w_.store e.name e.row).1.idx.names.length) cA,.slice cB ((((Bd w_.store e.name e.row).1.idx).AY).length) cC,.slice cD ((Bd w_.store e.name e.row).1.parts.length) cE,.slice cF ((Bd w_.store e.name e.row).1.mem.length) cG]) [.slice cz ((Bd w_.store e.name e.row).1.idx.names.length) cA,.slice cB ((((Bd w_.store e.name e.row).1.idx).AY).length) cC,.slice cD ((Bd w_.store e.name e.row).1.parts.length) cE,.slice cF ((Bd w_.store e.name e.row).1.mem.length) cG] eM AA AA AA fun jV cN=>?_
   replace ⟨hrb0,hrb1,hrb2,hrb3,hrb4,hrb5,hrb6,hbx,h1,E,J,ac⟩:=(se [aZ,ab,W,aa,bx] cN).g12 hrb0 hrb1 hrb2 hrb3 hrb4 hrb5 hrb6 hbx h1 E J ac
   replace ⟨az,aA,aB,aC,C,ae⟩:=(se [aZ,ab,W,aa,bx] cN).g6 az aA aB aC C ae
   intro jW bA cO eP
   have hkeep_:=Chg.toS bA (Cov.toS eO)
   replace ⟨hrb0,hrb1,hrb2,hrb3,hrb4,hrb5,hrb6,hbx,h1,E,J,ac⟩:=(so [aZ,ab,W,aa,bx] bA).g12 hrb0 hrb1 hrb2 hrb3 hrb4 hrb5 hrb6 hbx h1 E J ac
   replace ⟨az,aA,aB,aC,C,ae⟩:=(so [aZ,ab,W,aa,bx] bA).g6 az aA aB aC C ae
   refine ⟨hkeep_,?_⟩
   refine .d fun jX cP=>?_
   replace ⟨hrb0,hrb1,hrb2,hrb3,hrb4,hrb5,hrb6,hbx,h1,E,J,ac⟩:=(se [aZ,ab,W,aa,bx] cP).g12 hrb0 hrb1 hrb2 hrb3 hrb4 hrb5 hrb6 hbx h1 E J ac
   replace ⟨az,aA,aB,aC,cO,C,ae⟩:=(se [aZ,ab,W,aa,bx] cP).g7 az aA aB aC cO C ae
   replace hrb0:=hrb0.Aa
   replace hrb1:=hrb1.Aa
   replace hrb2:=hrb2.Aa
   replace hrb3:=hrb3.Aa
   replace hrb4:=hrb4.Aa
   replace hrb5:=hrb5.Aa
   replace hrb6:=hrb6.Aa
   replace h1:=h1.Aa
   refine .r 1<|.d<|.s<|.g<|.r 1<|.d<|.ct<|.g<|.r 1<|.ln cO<|.r 2<|.sb 0 (.agg #[.slice cz ((Bd w_.store e.name e.row).1.idx.names.length) cA,.slice cB ((((Bd w_.store e.name e.row).1.idx).AY).length) cC,.slice cD ((Bd w_.store e.name e.row).1.parts.length) cE,.slice cF ((Bd w_.store e.name e.row).1.mem.length) cG]) [.slice cz ((Bd w_.store e.name e.row).1.idx.names.length) cA,.slice cB ((((Bd w_.store e.name e.row).1.idx).AY).length) cC,.slice cD ((Bd w_.store e.name e.row).1.parts.length) cE,.slice cF ((Bd w_.store e.name e.row).1.mem.length) cG,.slice ab4 w_.disk.files.length cb4,.slice ab5 w_.disk.list.length cb5,.slice ab6 w_.disk.names.length cb6,vI w_.disk.next] hbx fun jY cQ eQ eR=>?_
   replace ⟨hrb0,hrb1,hrb2,hrb3,hrb4,hrb5,hrb6,h1,E,J,ac,az⟩:=(so [aZ,ab,W,aa,bx] cQ).g12 hrb0 hrb1 hrb2 hrb3 hrb4 hrb5 hrb6 h1 E J ac az
   replace ⟨aA,aB,aC,C⟩:=(so [aZ,ab,W,aa,bx] cQ).g4 aA aB aC C
   refine .d<|.ib 0<|.s<|.s<|.g<|.r 8<|.d<|.ct<|T.I6 AA func34 results34 ?_
   rw [show (doW w_ e)=(⟨(⟨(⟨(Bd w_.store e.name e.row).1.idx.names,((Bd w_.store e.name e.row).1.idx).AY⟩:Idx),(Bd w_.store e.name e.row).1.parts,(Bd w_.store e.name e.row).1.mem⟩:Sto),(⟨w_.disk.files,w_.disk.list,w_.disk.names,w_.disk.next⟩:Dsk)⟩:Wld) from by exact do_1 p0 (by with_reducible assumption) (by with_reducible assumption)]
   exact ⟨⟨rfl,cz,(Bd w_.store e.name e.row).1.idx.names.length,cA,cB,(((Bd w_.store e.name e.row).1.idx).AY).length,cC,cD,(Bd w_.store e.name e.row).1.parts.length,cE,cF,(Bd w_.store e.name e.row).1.mem.length,cG,ab4,w_.disk.files.length,cb4,ab5,w_.disk.list.length,cb5,ab6,w_.disk.names.length,cb6,eQ,(RepS.Ap az (all_cons AM all_nil)),(RepS.Ap aA (all_cons AM all_nil)),(RepS.Ap aB (all_cons AM all_nil)),(RepS.Ap aC (all_cons AM all_nil)),(RepS.Ap hrb4 (all_cons AM all_nil)),(RepS.Ap hrb5 (all_cons AM all_nil)),(RepS.Ap hrb6 (all_cons AM all_nil))⟩,C⟩
  refine .nw (fun b=>.pointer (some ⟨b,0,none⟩)) 32 [AH,AH,AH,AH] fun jZ cR=>?_
  replace ⟨hrb0,hrb1,hrb2,hrb3,hrb4,hrb5,hrb6,hbx,h1,E,J,ac⟩:=(se [ab,W,aa,bx] cR).g12 hrb0 hrb1 hrb2 hrb3 hrb4 hrb5 hrb6 hbx h1 E J ac
  replace ⟨C,ae⟩:=(se [ab,W,aa,bx] cR).g2 C ae
  intro ak j0 aL cS aM eS
  have iE:=AX aL hbx.lt
  have iF:=AX aL E.lt
  have iG:=AX aL J.lt
  have iH:=AX aL ac.lt
  have iI:=C.cn aL
  have dZ:=ae.cn aL
  replace ⟨hrb0,hrb1,hrb2,hrb3,hrb4,hrb5,hrb6,hbx,h1,E,J,ac⟩:=(sn [ab,W,aa,bx] cS aL).g12 hrb0 hrb1 hrb2 hrb3 hrb4 hrb5 hrb6 hbx h1 E J ac
  replace C:=(sn [ab,W,aa,bx] cS aL).g1 C
  refine .go 8<|.cl (fun d0 aO=>Fb w_.store e.name e.row ((hrb0.base (fun _ _ h=>h.1)).ext aO) ((hrb1.base (fun _ _ h=>h.1)).ext aO) ((hrb2.base (fun _ _ h=>h.1)).ext aO) ((hrb3.base (fun _ _ h=>h.1)).ext aO) ((h1.base (fun _ _ h=>h.1)).ext aO) p0.sd p1 (w:=d0) (F:=nin (fo F w.heap.size) [ak,ab,W,aa,bx])) ?_
  intro d0 aO
  replace ⟨hrb0,hrb1,hrb2,hrb3,hrb4,hrb5,hrb6,hbx,E,J,ac,aM⟩:=(se [ak,ab,W,aa,bx] aO).g12 hrb0 hrb1 hrb2 hrb3 hrb4 hrb5 hrb6 hbx E J ac aM
  replace C:=(se [ak,ab,W,aa,bx] aO).g1 C
  rintro j1 j2 ⟨⟨j3,rfl,⟨_,rfl,⟨bg,j4,bh,bi,j5,bj,bk,j6,bm,bn,j7,bo,rfl,av,aw,ax,ay⟩⟩⟩,bB⟩
  have bq:=al5 aM.lt ac.lt J.lt E.lt hbx.lt
  have bC:Gb w.heap.size d0.heap.size:=C.size
  have hkeep_:=bB
  replace ⟨hrb0,hrb1,hrb2,hrb3,hrb4,hrb5,hrb6,hbx,E,J,ac,aM⟩:=(se [ak,ab,W,aa,bx] bB).g12 hrb0 hrb1 hrb2 hrb3 hrb4 hrb5 hrb6 hbx E J ac aM
  replace C:=(se [ak,ab,W,aa,bx] bB).g1 C
  refine ⟨Ext.chg hkeep_,?_⟩
  replace av:=RepS.Af (M:=[ak,ab,W,aa,bx]) av bq bC
  have iJ:=av.max
  replace aw:=RepS.Af (M:=[ak,ab,W,aa,bx]) aw bq bC
  have iK:=aw.max
  replace ax:=RepS.Af (M:=[ak,ab,W,aa,bx]) ax bq bC
  have iL:=ax.max
  replace ay:=RepS.Af (M:=[ak,ab,W,aa,bx]) ay bq bC
  have iM:=ay.max
  have eT:=av.len
  subst eT
  have eU:=aw.len
  subst eU
  have eV:=ax.len
  subst eV
  have eW:=ay.len
  subst eW
  refine .r [9,10] ?_
  cases iN:(Bd w_.store e.name e.row).2
  ·refine .r [11]<|.go 13<|GE.Dc (t':=32) (o:=0) (v:=.agg #[.slice bg ((Bd w_.store e.name e.row).1.idx.names.length) bh,.slice bi ((((Bd w_.store e.name e.row).1.idx).AY).length) bj,.slice bk ((Bd w_.store e.name e.row).1.parts.length) bm,.slice bn ((Bd w_.store e.name e.row).1.mem.length) bo]) [.slice bg ((Bd w_.store e.name e.row).1.idx.names.length) bh,.slice bi ((((Bd w_.store e.name e.row).1.idx).AY).length) bj,.slice bk ((Bd w_.store e.name e.row).1.parts.length) bm,.slice bn ((Bd w_.store e.name e.row).1.mem.length) bo] aM AA AA AA fun j8 cT=>?_
   replace ⟨hrb0,hrb1,hrb2,hrb3,hrb4,hrb5,hrb6,hbx,E,J,ac,aM⟩:=(se [ak,ab,W,aa,bx] cT).g12 hrb0 hrb1 hrb2 hrb3 hrb4 hrb5 hrb6 hbx E J ac aM
   replace ⟨av,aw,ax,ay,C⟩:=(se [ak,ab,W,aa,bx] cT).g5 av aw ax ay C
   intro j9 bD iO eX
   have hkeep_:=Chg.toS bD (Cov.toS dZ)
   replace ⟨hrb0,hrb1,hrb2,hrb3,hrb4,hrb5,hrb6,hbx,E,J,ac,av⟩:=(so [ak,ab,W,aa,bx] bD).g12 hrb0 hrb1 hrb2 hrb3 hrb4 hrb5 hrb6 hbx E J ac av
   replace ⟨aw,ax,ay,C⟩:=(so [ak,ab,W,aa,bx] bD).g4 aw ax ay C
   refine ⟨hkeep_,?_⟩
   refine .d fun ka cU=>?_
   replace ⟨hrb0,hrb1,hrb2,hrb3,hrb4,hrb5,hrb6,hbx,E,J,ac,av⟩:=(se [ak,ab,W,aa,bx] cU).g12 hrb0 hrb1 hrb2 hrb3 hrb4 hrb5 hrb6 hbx E J ac av
   replace ⟨aw,ax,ay,C⟩:=(se [ak,ab,W,aa,bx] cU).g4 aw ax ay C
   replace hrb0:=hrb0.Aa
   replace hrb1:=hrb1.Aa
   replace hrb2:=hrb2.Aa
   replace hrb3:=hrb3.Aa
   replace hrb4:=hrb4.Aa
   replace hrb5:=hrb5.Aa
   replace hrb6:=hrb6.Aa
   refine .r 1<|.d<|.s<|.g<|.r 1<|.d<|.cf<|.sk<|.ib 0<|.s<|.s<|.g<|.r 8<|.d<|.ct<|T.I6 AA func34 results34 ?_
   rw [show (doW w_ e)=w_ from by exact SP p0 (by with_reducible assumption) (by with_reducible assumption)]
   exact ⟨⟨rfl,ab0,w_.store.idx.names.length,cb0,ab1,w_.store.idx.AY.length,cb1,ab2,w_.store.parts.length,cb2,ab3,w_.store.mem.length,cb3,ab4,w_.disk.files.length,cb4,ab5,w_.disk.list.length,cb5,ab6,w_.disk.names.length,cb6,hbx,(RepS.Ap hrb0 (all_cons AM all_nil)),(RepS.Ap hrb1 (all_cons AM all_nil)),(RepS.Ap hrb2 (all_cons AM all_nil)),(RepS.Ap hrb3 (all_cons AM all_nil)),(RepS.Ap hrb4 (all_cons AM all_nil)),(RepS.Ap hrb5 (all_cons AM all_nil)),(RepS.Ap hrb6 (all_cons AM all_nil))⟩,C⟩
  refine .r [11]<|.go 13<|GE.Dc (t':=32) (o:=0) (v:=.agg #[.slice bg ((Bd w_.store e.name e.row).1.idx.names.length) bh,.slice bi ((((Bd w_.store e.name e.row).1.idx).AY).length) bj,.slice bk ((Bd w_.store e.name e.row).1.parts.length) bm,.slice bn ((Bd w_.store e.name e.row).1.mem.length) bo]) [.slice bg ((Bd w_.store e.name e.row).1.idx.names.length) bh,.slice bi ((((Bd w_.store e.name e.row).1.idx).AY).length) bj,.slice bk ((Bd w_.store e.name e.row).1.parts.length) bm,.slice bn ((Bd w_.store e.name e.row).1.mem.length) bo] aM AA AA AA fun kb cV=>?_
  replace ⟨hrb0,hrb1,hrb2,hrb3,hrb4,hrb5,hrb6,hbx,E,J,ac,av⟩:=(se [ak,ab,W,aa,bx] cV).g12 hrb0 hrb1 hrb2 hrb3 hrb4 hrb5 hrb6 hbx E J ac av
  replace ⟨aw,ax,ay,C⟩:=(se [ak,ab,W,aa,bx] cV).g4 aw ax ay C
  intro kd bE cW eY
  have hkeep_:=Chg.toS bE (Cov.toS dZ)
  replace ⟨hrb0,hrb1,hrb2,hrb3,hrb4,hrb5,hrb6,hbx,E,J,ac,av⟩:=(so [ak,ab,W,aa,bx] bE).g12 hrb0 hrb1 hrb2 hrb3 hrb4 hrb5 hrb6 hbx E J ac av
  replace ⟨aw,ax,ay,C⟩:=(so [ak,ab,W,aa,bx] bE).g4 aw ax ay C
  refine ⟨hkeep_,?_⟩
  refine .d fun ke cX=>?_
  replace ⟨hrb0,hrb1,hrb2,hrb3,hrb4,hrb5,hrb6,hbx,E,J,ac,cW⟩:=(se [ak,ab,W,aa,bx] cX).g12 hrb0 hrb1 hrb2 hrb3 hrb4 hrb5 hrb6 hbx E J ac cW
  replace ⟨av,aw,ax,ay,C⟩:=(se [ak,ab,W,aa,bx] cX).g5 av aw ax ay C
  replace hrb0:=hrb0.Aa
  replace hrb1:=hrb1.Aa
  replace hrb2:=hrb2.Aa
  replace hrb3:=hrb3.Aa
  replace hrb4:=hrb4.Aa
  replace hrb5:=hrb5.Aa
  replace hrb6:=hrb6.Aa
  refine .r 1<|.d<|.s<|.g<|.r 1<|.d<|.ct<|.g<|.r 1<|.ln cW<|.r 2<|.sb 0 (.agg #[.slice bg ((Bd w_.store e.name e.row).1.idx.names.length) bh,.slice bi ((((Bd w_.store e.name e.row).1.idx).AY).length) bj,.slice bk ((Bd w_.store e.name e.row).1.parts.length) bm,.slice bn ((Bd w_.store e.name e.row).1.mem.length) bo]) [.slice bg ((Bd w_.store e.name e.row).1.idx.names.length) bh,.slice bi ((((Bd w_.store e.name e.row).1.idx).AY).length) bj,.slice bk ((Bd w_.store e.name e.row).1.parts.length) bm,.slice bn ((Bd w_.store e.name e.row).1.mem.length) bo,.slice ab4 w_.disk.files.length cb4,.slice ab5 w_.disk.list.length cb5,.slice ab6 w_.disk.names.length cb6,vI w_.disk.next] hbx fun kf cY eZ e7=>?_
  replace ⟨hrb0,hrb1,hrb2,hrb3,hrb4,hrb5,hrb6,E,J,ac,av,aw⟩:=(so [ak,ab,W,aa,bx] cY).g12 hrb0 hrb1 hrb2 hrb3 hrb4 hrb5 hrb6 E J ac av aw
  replace ⟨ax,ay,C⟩:=(so [ak,ab,W,aa,bx] cY).g3 ax ay C
  refine .d<|.ib 0<|.s<|.s<|.g<|.r 8<|.d<|.ct<|T.I6 AA func34 results34 ?_
  rw [show (doW w_ e)=(⟨(⟨(⟨(Bd w_.store e.name e.row).1.idx.names,((Bd w_.store e.name e.row).1.idx).AY⟩:Idx),(Bd w_.store e.name e.row).1.parts,(Bd w_.store e.name e.row).1.mem⟩:Sto),(⟨w_.disk.files,w_.disk.list,w_.disk.names,w_.disk.next⟩:Dsk)⟩:Wld) from by exact do_1 p0 (by with_reducible assumption) (by with_reducible assumption)]
  exact ⟨⟨rfl,bg,(Bd w_.store e.name e.row).1.idx.names.length,bh,bi,(((Bd w_.store e.name e.row).1.idx).AY).length,bj,bk,(Bd w_.store e.name e.row).1.parts.length,bm,bn,(Bd w_.store e.name e.row).1.mem.length,bo,ab4,w_.disk.files.length,cb4,ab5,w_.disk.list.length,cb5,ab6,w_.disk.names.length,cb6,eZ,(RepS.Ap av (all_cons AM all_nil)),(RepS.Ap aw (all_cons AM all_nil)),(RepS.Ap ax (all_cons AM all_nil)),(RepS.Ap ay (all_cons AM all_nil)),(RepS.Ap hrb4 (all_cons AM all_nil)),(RepS.Ap hrb5 (all_cons AM all_nil)),(RepS.Ap hrb6 (all_cons AM all_nil))⟩,C⟩
 refine .r 1<|.d<|.cf<|.s<|.g<|.eq e.kind 2 (fun e8=>?_) (fun e8=>?_)
 ·refine .r 1<|.d<|.ct<|.s<|.gd nil 8 fun kg d3=>?_
  replace ⟨hrb0,hrb1,hrb2,hrb3,hrb4,hrb5,hrb6,hbx,E,J,ac,C⟩:=(se [ab,W,aa,bx] d3).g12 hrb0 hrb1 hrb2 hrb3 hrb4 hrb5 hrb6 hbx E J ac C
  refine .r [0,1,2]<|.ln 3 hbx id<|.r [4,5,6]<|.ln 7 hbx id<|.d fun eA d4=>?_
  replace ⟨hrb0,hrb1,hrb2,hrb3,hrb4,hrb5,hrb6,hbx,E,J,ac,C⟩:=(se [ab,W,aa,bx] d4).g12 hrb0 hrb1 hrb2 hrb3 hrb4 hrb5 hrb6 hbx E J ac C
  refine .cl (HU w_.disk w_.store hrb4.ta hrb5.ta hrb6.ta hrb0.ta hrb1.ta hrb2.ta hrb3.ta p0.dd (SG.of p0.sd) (w:=eA) (F:=all)) ?_
  rintro kh eB ⟨⟨ki,kj,rfl,aN⟩,d5⟩
  have d6:=al4 ac.lt J.lt E.lt hbx.lt
  have fa:Gb w.heap.size eA.heap.size:=C.size
  replace ⟨hrb0,hrb1,hrb2,hrb3,hrb4,hrb5,hrb6,hbx,E,J,ac,C⟩:=(se [ab,W,aa,bx] d5).g12 hrb0 hrb1 hrb2 hrb3 hrb4 hrb5 hrb6 hbx E J ac C
  have aN:=aN.fr d6 fa
  replace aN:=aN.base (G':=fo F w.heap.size) (fun _ _ h=>.inr h)
  refine .r 1<|.d<|.g<|.r 3<|.ln hbx<|.cl (HN w_.store hrb0 hrb1 hrb2 hrb3 p0.sd (w:=eB) (F:=nin (fo F w.heap.size) [ab,W,aa,bx])) ?_
  rintro kk kl ⟨⟨km,rfl,⟨_,rfl,⟨dC,ko,dD,dE,kr,dF,dG,ks,dH,dI,kt,dJ,rfl,am,ao,aq,ar⟩⟩⟩,cZ⟩
  have br:=al4 ac.lt J.lt E.lt hbx.lt
  have bF:Gb w.heap.size eB.heap.size:=C.size
  replace ⟨hrb0,hrb1,hrb2,hrb3,hrb4,hrb5,hrb6,hbx,E,J,ac,aN⟩:=(se [ab,W,aa,bx] cZ).g12 hrb0 hrb1 hrb2 hrb3 hrb4 hrb5 hrb6 hbx E J ac aN
  replace C:=(se [ab,W,aa,bx] cZ).g1 C
  replace am:=RepS.Af (M:=[ab,W,aa,bx]) am br bF
  have iQ:=am.max
  replace ao:=RepS.Af (M:=[ab,W,aa,bx]) ao br bF
  have iR:=ao.max
  replace aq:=RepS.Af (M:=[ab,W,aa,bx]) aq br bF
  have iS:=aq.max
  replace ar:=RepS.Af (M:=[ab,W,aa,bx]) ar br bF
  have iT:=ar.max
  have fb:=am.len
  subst fb
  have fc:=ao.len
  subst fc
  have fd:=aq.len
  subst fd
  have fe:=ar.len
  subst fe
  refine .r 3<|.sc [.slice dC ((Bv w_.store).1.idx.names.length) dD,.slice dE ((((Bv w_.store).1.idx).AY).length) dF,.slice dG ((Bv w_.store).1.parts.length) dH,.slice dI ((Bv w_.store).1.mem.length) dJ] ac fun ku c7 au ff=>?_
  replace ⟨hrb0,hrb1,hrb2,hrb3,hrb4,hrb5,hrb6,hbx,E,J,aN,am⟩:=(so [ab,W,aa,bx] c7).g12 hrb0 hrb1 hrb2 hrb3 hrb4 hrb5 hrb6 hbx E J aN am
  replace ⟨ao,aq,ar,C⟩:=(so [ab,W,aa,bx] c7).g4 ao aq ar C
  refine .d<|.ib 0<|.s<|.s<|.g<|.r 2<|.eq (((An w_.disk w_.store).length):Int) 0 (fun fg=>?_) (fun fg=>?_)
  ·refine .r 5<|.d<|.ct<|T.I6 AA func34 results34 ?_
   rw [show (doW w_ e)=w_ from by exact SQ p0 (by with_reducible assumption) (.inl (by with_reducible assumption))]
   exact ⟨⟨rfl,ab0,w_.store.idx.names.length,cb0,ab1,w_.store.idx.AY.length,cb1,ab2,w_.store.parts.length,cb2,ab3,w_.store.mem.length,cb3,ab4,w_.disk.files.length,cb4,ab5,w_.disk.list.length,cb5,ab6,w_.disk.names.length,cb6,hbx,(RepS.Ap hrb0 (all_cons AL all_nil)),(RepS.Ap hrb1 (all_cons AL all_nil)),(RepS.Ap hrb2 (all_cons AL all_nil)),(RepS.Ap hrb3 (all_cons AL all_nil)),(RepS.Ap hrb4 (all_cons AL all_nil)),(RepS.Ap hrb5 (all_cons AL all_nil)),(RepS.Ap hrb6 (all_cons AL all_nil))⟩,C⟩
  refine .r 2<|.lb E<|.bp (e.cut< 0) (fun fh=>?_) (fun fh=>?_)
  ·refine .r 1<|.d<|.ct<|T.I6 AA func34 results34 ?_
   rw [show (doW w_ e)=w_ from by exact SQ p0 (by with_reducible assumption) (.inr (by with_reducible assumption))]
   exact ⟨⟨rfl,ab0,w_.store.idx.names.length,cb0,ab1,w_.store.idx.AY.length,cb1,ab2,w_.store.parts.length,cb2,ab3,w_.store.mem.length,cb3,ab4,w_.disk.files.length,cb4,ab5,w_.disk.list.length,cb5,ab6,w_.disk.names.length,cb6,hbx,(RepS.Ap hrb0 (all_cons AL all_nil)),(RepS.Ap hrb1 (all_cons AL all_nil)),(RepS.Ap hrb2 (all_cons AL all_nil)),(RepS.Ap hrb3 (all_cons AL all_nil)),(RepS.Ap hrb4 (all_cons AL all_nil)),(RepS.Ap hrb5 (all_cons AL all_nil)),(RepS.Ap hrb6 (all_cons AL all_nil))⟩,C⟩
  refine .r 1<|.d<|.cf<|.sk<|.s<|.gd nil 9 fun kv c8=>?_
  replace ⟨hrb0,hrb1,hrb2,hrb3,hrb4,hrb5,hrb6,hbx,E,J,au,aN⟩:=(se [ab,W,aa,bx] c8).g12 hrb0 hrb1 hrb2 hrb3 hrb4 hrb5 hrb6 hbx E J au aN
  replace ⟨am,ao,aq,ar,C⟩:=(se [ab,W,aa,bx] c8).g5 am ao aq ar C
  refine .r [0,1,2,3]<|.ln 4 hbx id<|.r [5,6]<|.lb 7 E id<|.go 8<|.cl (fun d7 aS=>Gf w_.disk (An w_.disk w_.store) e.cut (hrb4.ext aS) (hrb5.ext aS) (hrb6.ext aS) (aN.ext aS) p0.dd (fun _=>by exact (H7 p0.dd p0.sd).1) (w:=d7) (F:=nin (fo F w.heap.size) [ab,W,aa,bx])) ?_
  intro d7 aS
  replace ⟨hrb0,hrb1,hrb2,hrb3,hrb4,hrb5,hrb6,hbx,E,J,au,am⟩:=(se [ab,W,aa,bx] aS).g12 hrb0 hrb1 hrb2 hrb3 hrb4 hrb5 hrb6 hbx E J au am
  replace ⟨ao,aq,ar,C⟩:=(se [ab,W,aa,bx] aS).g4 ao aq ar C
  rintro kw kx ⟨⟨_,rfl,⟨dK,ky,dL,dM,kz,dN,dO,kA,dP,rfl,aD,aE,aF⟩⟩,bG⟩
  have bH:=al4 au.lt J.lt E.lt hbx.lt
  have c9:Gb w.heap.size d7.heap.size:=C.size
  have hkeep_:=bG
  replace ⟨hrb0,hrb1,hrb2,hrb3,hrb4,hrb5,hrb6,hbx,E,J,au,am⟩:=(se [ab,W,aa,bx] bG).g12 hrb0 hrb1 hrb2 hrb3 hrb4 hrb5 hrb6 hbx E J au am
  replace ⟨ao,aq,ar,C⟩:=(se [ab,W,aa,bx] bG).g4 ao aq ar C
  refine ⟨Ext.chg hkeep_,?_⟩
  replace aD:=RepS.Af (M:=[ab,W,aa,bx]) aD bH c9
  have iU:=aD.max
  replace aE:=RepS.Af (M:=[ab,W,aa,bx]) aE bH c9
  have iV:=aE.max
  replace aF:=RepS.Af (M:=[ab,W,aa,bx]) aF bH c9
  have iW:=aF.max
  have fi:=aD.len
  subst fi
  have fj:=aE.len
  subst fj
  have fk:=aF.len
  subst fk
  refine .d fun kB da=>?_
  replace ⟨hrb0,hrb1,hrb2,hrb3,hrb4,hrb5,hrb6,hbx,E,J,au,am⟩:=(se [ab,W,aa,bx] da).g12 hrb0 hrb1 hrb2 hrb3 hrb4 hrb5 hrb6 hbx E J au am
  replace ⟨ao,aq,ar,aD,aE,aF,C⟩:=(se [ab,W,aa,bx] da).g7 ao aq ar aD aE aF C
  refine .r 2<|.sb 4 (.agg #[.slice dK (((Ar w_.disk (An w_.disk w_.store) e.cut).files).length) dL,.slice dM (((Ar w_.disk (An w_.disk w_.store) e.cut).list).length) dN,.slice dO (((Ar w_.disk (An w_.disk w_.store) e.cut).names).length) dP,vI ((Ar w_.disk (An w_.disk w_.store) e.cut).next)]) [.slice ab0 w_.store.idx.names.length cb0,.slice ab1 w_.store.idx.AY.length cb1,.slice ab2 w_.store.parts.length cb2,.slice ab3 w_.store.mem.length cb3,.slice dK (((Ar w_.disk (An w_.disk w_.store) e.cut).files).length) dL,.slice dM (((Ar w_.disk (An w_.disk w_.store) e.cut).list).length) dN,.slice dO (((Ar w_.disk (An w_.disk w_.store) e.cut).names).length) dP,vI ((Ar w_.disk (An w_.disk w_.store) e.cut).next)] hbx fun d8 db de fm=>?_
  replace ⟨hrb0,hrb1,hrb2,hrb3,hrb4,hrb5,hrb6,E,J,au,am,ao⟩:=(so [ab,W,aa,bx] db).g12 hrb0 hrb1 hrb2 hrb3 hrb4 hrb5 hrb6 E J au am ao
  replace ⟨aq,ar,aD,aE,aF,C⟩:=(so [ab,W,aa,bx] db).g6 aq ar aD aE aF C
  refine .d<|.s<|.g<|.r 1<|.lb E<|.r 2<|.bp (e.cut< (((An w_.disk w_.store).length):Int)) (fun fp=>?_) (fun fp=>?_)
  ·refine .d<|.ct<|.g<|.r 1<|.cl (Dq (⟨(⟨(⟨w_.store.idx.names,w_.store.idx.AY⟩:Idx),w_.store.parts,w_.store.mem⟩:Sto),(⟨(Ar w_.disk (An w_.disk w_.store) e.cut).files,(Ar w_.disk (An w_.disk w_.store) e.cut).list,(Ar w_.disk (An w_.disk w_.store) e.cut).names,(Ar w_.disk (An w_.disk w_.store) e.cut).next⟩:Dsk)⟩:Wld) (RepS.toM hrb0 (all_cons AL all_nil)) (RepS.toM hrb1 (all_cons AL all_nil)) (RepS.toM hrb2 (all_cons AL all_nil)) (RepS.toM hrb3 (all_cons AL all_nil)) (RepS.toM aD (all_cons AL all_nil)) (RepS.toM aE (all_cons AL all_nil)) (RepS.toM aF (all_cons AL all_nil)) de (by exact (LN (e:=e) p0 (by with_reducible assumption) (by with_reducible assumption)).2.1) (by exact (LN (e:=e) p0 (by with_reducible assumption) (by with_reducible assumption)).2.2) (w:=d8) (F:=nin (fo F w.heap.size) [ab,W,aa,bx])) ?_
   rintro kC ba ⟨⟨rfl,gz,kD,gA,gC,kE,gD,gE,kF,gF,gG,kG,gH,gI,kH,gJ,gK,kI,gL,gM,kJ,gN,fq,bQ,bR,bS,bT,bU,bV,bW⟩,bI⟩
   have aP:=al4 au.lt J.lt E.lt de.lt
   have aT:Gb w.heap.size d8.heap.size:=C.size
   have df:Mv [ab,W,aa,bx] [ab,W,aa,bx] d8 ba:=Mv.inl bI (all_cons AL all_nil) (all_cons (.inl AI) (all_cons (.inl AJ) (all_cons (.inl AK) (all_cons (.inl AL) all_nil))))
   replace ⟨hrb0,hrb1,hrb2,hrb3,hrb4,hrb5,hrb6,E,J,au,am,ao⟩:=(sp df bI).g12 hrb0 hrb1 hrb2 hrb3 hrb4 hrb5 hrb6 E J au am ao
   replace ⟨aq,ar,aD,aE,aF,C⟩:=(sp df bI).g6 aq ar aD aE aF C
   replace bQ:RepS ba (nin (fo F w.heap.size) [ab,W,aa,bx]) _ _ _ _:=RepS.bxM (M2:=[ab,W,aa,bx]) bQ aP (fun _ h=>.inr (Nat.le_trans aT h)) (all_cons (.inr AI) (all_cons (.inr AJ) (all_cons (.inr AK) (all_cons (.inl AI) all_nil))))
   replace bR:RepS ba (nin (fo F w.heap.size) [ab,W,aa,bx]) _ _ _ _:=RepS.bxM (M2:=[ab,W,aa,bx]) bR aP (fun _ h=>.inr (Nat.le_trans aT h)) (all_cons (.inr AI) (all_cons (.inr AJ) (all_cons (.inr AK) (all_cons (.inl AI) all_nil))))
   replace bS:RepS ba (nin (fo F w.heap.size) [ab,W,aa,bx]) _ _ _ _:=RepS.bxM (M2:=[ab,W,aa,bx]) bS aP (fun _ h=>.inr (Nat.le_trans aT h)) (all_cons (.inr AI) (all_cons (.inr AJ) (all_cons (.inr AK) (all_cons (.inl AI) all_nil))))
   replace bT:RepS ba (nin (fo F w.heap.size) [ab,W,aa,bx]) _ _ _ _:=RepS.bxM (M2:=[ab,W,aa,bx]) bT aP (fun _ h=>.inr (Nat.le_trans aT h)) (all_cons (.inr AI) (all_cons (.inr AJ) (all_cons (.inr AK) (all_cons (.inl AI) all_nil))))
   replace bU:RepS ba (nin (fo F w.heap.size) [ab,W,aa,bx]) _ _ _ _:=RepS.bxM (M2:=[ab,W,aa,bx]) bU aP (fun _ h=>.inr (Nat.le_trans aT h)) (all_cons (.inr AI) (all_cons (.inr AJ) (all_cons (.inr AK) (all_cons (.inl AI) all_nil))))
   replace bV:RepS ba (nin (fo F w.heap.size) [ab,W,aa,bx]) _ _ _ _:=RepS.bxM (M2:=[ab,W,aa,bx]) bV aP (fun _ h=>.inr (Nat.le_trans aT h)) (all_cons (.inr AI) (all_cons (.inr AJ) (all_cons (.inr AK) (all_cons (.inl AI) all_nil))))
   replace bW:RepS ba (nin (fo F w.heap.size) [ab,W,aa,bx]) _ _ _ _:=RepS.bxM (M2:=[ab,W,aa,bx]) bW aP (fun _ h=>.inr (Nat.le_trans aT h)) (all_cons (.inr AI) (all_cons (.inr AJ) (all_cons (.inr AK) (all_cons (.inl AI) all_nil))))
   have ft:=bQ.len
   subst ft
   have fu:=bR.len
   subst fu
   have fv:=bS.len
   subst fv
   have fw:=bT.len
   subst fw
   have fA:=bU.len
   subst fA
   have fB:=bV.len
   subst fB
   have fC:=bW.len
   subst fC
   refine .d<|T.Ez func34 results34 ?_
   rw [show (doW w_ e)=(⟨(⟨(⟨((((BE (⟨(⟨(⟨w_.store.idx.names,w_.store.idx.AY⟩:Idx),w_.store.parts,w_.store.mem⟩:Sto),(⟨(Ar w_.disk (An w_.disk w_.store) e.cut).files,(Ar w_.disk (An w_.disk w_.store) e.cut).list,(Ar w_.disk (An w_.disk w_.store) e.cut).names,(Ar w_.disk (An w_.disk w_.store) e.cut).next⟩:Dsk)⟩:Wld))).store).idx).names,((((BE (⟨(⟨(⟨w_.store.idx.names,w_.store.idx.AY⟩:Idx),w_.store.parts,w_.store.mem⟩:Sto),(⟨(Ar w_.disk (An w_.disk w_.store) e.cut).files,(Ar w_.disk (An w_.disk w_.store) e.cut).list,(Ar w_.disk (An w_.disk w_.store) e.cut).names,(Ar w_.disk (An w_.disk w_.store) e.cut).next⟩:Dsk)⟩:Wld))).store).idx).AY⟩:Idx),(((BE (⟨(⟨(⟨w_.store.idx.names,w_.store.idx.AY⟩:Idx),w_.store.parts,w_.store.mem⟩:Sto),(⟨(Ar w_.disk (An w_.disk w_.store) e.cut).files,(Ar w_.disk (An w_.disk w_.store) e.cut).list,(Ar w_.disk (An w_.disk w_.store) e.cut).names,(Ar w_.disk (An w_.disk w_.store) e.cut).next⟩:Dsk)⟩:Wld))).store).parts,(((BE (⟨(⟨(⟨w_.store.idx.names,w_.store.idx.AY⟩:Idx),w_.store.parts,w_.store.mem⟩:Sto),(⟨(Ar w_.disk (An w_.disk w_.store) e.cut).files,(Ar w_.disk (An w_.disk w_.store) e.cut).list,(Ar w_.disk (An w_.disk w_.store) e.cut).names,(Ar w_.disk (An w_.disk w_.store) e.cut).next⟩:Dsk)⟩:Wld))).store).mem⟩:Sto),(⟨(((BE (⟨(⟨(⟨w_.store.idx.names,w_.store.idx.AY⟩:Idx),w_.store.parts,w_.store.mem⟩:Sto),(⟨(Ar w_.disk (An w_.disk w_.store) e.cut).files,(Ar w_.disk (An w_.disk w_.store) e.cut).list,(Ar w_.disk (An w_.disk w_.store) e.cut).names,(Ar w_.disk (An w_.disk w_.store) e.cut).next⟩:Dsk)⟩:Wld))).disk).files,(((BE (⟨(⟨(⟨w_.store.idx.names,w_.store.idx.AY⟩:Idx),w_.store.parts,w_.store.mem⟩:Sto),(⟨(Ar w_.disk (An w_.disk w_.store) e.cut).files,(Ar w_.disk (An w_.disk w_.store) e.cut).list,(Ar w_.disk (An w_.disk w_.store) e.cut).names,(Ar w_.disk (An w_.disk w_.store) e.cut).next⟩:Dsk)⟩:Wld))).disk).list,(((BE (⟨(⟨(⟨w_.store.idx.names,w_.store.idx.AY⟩:Idx),w_.store.parts,w_.store.mem⟩:Sto),(⟨(Ar w_.disk (An w_.disk w_.store) e.cut).files,(Ar w_.disk (An w_.disk w_.store) e.cut).list,(Ar w_.disk (An w_.disk w_.store) e.cut).names,(Ar w_.disk (An w_.disk w_.store) e.cut).next⟩:Dsk)⟩:Wld))).disk).names,(((BE (⟨(⟨(⟨w_.store.idx.names,w_.store.idx.AY⟩:Idx),w_.store.parts,w_.store.mem⟩:Sto),(⟨(Ar w_.disk (An w_.disk w_.store) e.cut).files,(Ar w_.disk (An w_.disk w_.store) e.cut).list,(Ar w_.disk (An w_.disk w_.store) e.cut).names,(Ar w_.disk (An w_.disk w_.store) e.cut).next⟩:Dsk)⟩:Wld))).disk).next⟩:Dsk)⟩:Wld) from by exact UC p0 (by with_reducible assumption) (by with_reducible assumption) (by with_reducible assumption) (by with_reducible assumption)]
   exact ⟨⟨rfl,gz,(((((BE (⟨(⟨(⟨w_.store.idx.names,w_.store.idx.AY⟩:Idx),w_.store.parts,w_.store.mem⟩:Sto),(⟨(Ar w_.disk (An w_.disk w_.store) e.cut).files,(Ar w_.disk (An w_.disk w_.store) e.cut).list,(Ar w_.disk (An w_.disk w_.store) e.cut).names,(Ar w_.disk (An w_.disk w_.store) e.cut).next⟩:Dsk)⟩:Wld))).store).idx).names).length,gA,gC,(((((BE (⟨(⟨(⟨w_.store.idx.names,w_.store.idx.AY⟩:Idx),w_.store.parts,w_.store.mem⟩:Sto),(⟨(Ar w_.disk (An w_.disk w_.store) e.cut).files,(Ar w_.disk (An w_.disk w_.store) e.cut).list,(Ar w_.disk (An w_.disk w_.store) e.cut).names,(Ar w_.disk (An w_.disk w_.store) e.cut).next⟩:Dsk)⟩:Wld))).store).idx).AY).length,gD,gE,((((BE (⟨(⟨(⟨w_.store.idx.names,w_.store.idx.AY⟩:Idx),w_.store.parts,w_.store.mem⟩:Sto),(⟨(Ar w_.disk (An w_.disk w_.store) e.cut).files,(Ar w_.disk (An w_.disk w_.store) e.cut).list,(Ar w_.disk (An w_.disk w_.store) e.cut).names,(Ar w_.disk (An w_.disk w_.store) e.cut).next⟩:Dsk)⟩:Wld))).store).parts).length,gF,gG,((((BE (⟨(⟨(⟨w_.store.idx.names,w_.store.idx.AY⟩:Idx),w_.store.parts,w_.store.mem⟩:Sto),(⟨(Ar w_.disk (An w_.disk w_.store) e.cut).files,(Ar w_.disk (An w_.disk w_.store) e.cut).list,(Ar w_.disk (An w_.disk w_.store) e.cut).names,(Ar w_.disk (An w_.disk w_.store) e.cut).next⟩:Dsk)⟩:Wld))).store).mem).length,gH,gI,((((BE (⟨(⟨(⟨w_.store.idx.names,w_.store.idx.AY⟩:Idx),w_.store.parts,w_.store.mem⟩:Sto),(⟨(Ar w_.disk (An w_.disk w_.store) e.cut).files,(Ar w_.disk (An w_.disk w_.store) e.cut).list,(Ar w_.disk (An w_.disk w_.store) e.cut).names,(Ar w_.disk (An w_.disk w_.store) e.cut).next⟩:Dsk)⟩:Wld))).disk).files).length,gJ,gK,((((BE (⟨(⟨(⟨w_.store.idx.names,w_.store.idx.AY⟩:Idx),w_.store.parts,w_.store.mem⟩:Sto),(⟨(Ar w_.disk (An w_.disk w_.store) e.cut).files,(Ar w_.disk (An w_.disk w_.store) e.cut).list,(Ar w_.disk (An w_.disk w_.store) e.cut).names,(Ar w_.disk (An w_.disk w_.store) e.cut).next⟩:Dsk)⟩:Wld))).disk).list).length,gL,gM,((((BE (⟨(⟨(⟨w_.store.idx.names,w_.store.idx.AY⟩:Idx),w_.store.parts,w_.store.mem⟩:Sto),(⟨(Ar w_.disk (An w_.disk w_.store) e.cut).files,(Ar w_.disk (An w_.disk w_.store) e.cut).list,(Ar w_.disk (An w_.disk w_.store) e.cut).names,(Ar w_.disk (An w_.disk w_.store) e.cut).next⟩:Dsk)⟩:Wld))).disk).names).length,gN,fq,(RepS.Ap bQ (all_cons AL all_nil)),(RepS.Ap bR (all_cons AL all_nil)),(RepS.Ap bS (all_cons AL all_nil)),(RepS.Ap bT (all_cons AL all_nil)),(RepS.Ap bU (all_cons AL all_nil)),(RepS.Ap bV (all_cons AL all_nil)),(RepS.Ap bW (all_cons AL all_nil))⟩,C⟩
  refine .d<|.cf<|.g<|.r 1<|.ln au<|.r 2<|.sb 0 (.agg #[.slice dC ((Bv w_.store).1.idx.names.length) dD,.slice dE ((((Bv w_.store).1.idx).AY).length) dF,.slice dG ((Bv w_.store).1.parts.length) dH,.slice dI ((Bv w_.store).1.mem.length) dJ]) [.slice dC ((Bv w_.store).1.idx.names.length) dD,.slice dE ((((Bv w_.store).1.idx).AY).length) dF,.slice dG ((Bv w_.store).1.parts.length) dH,.slice dI ((Bv w_.store).1.mem.length) dJ,.slice dK (((Ar w_.disk (An w_.disk w_.store) e.cut).files).length) dL,.slice dM (((Ar w_.disk (An w_.disk w_.store) e.cut).list).length) dN,.slice dO (((Ar w_.disk (An w_.disk w_.store) e.cut).names).length) dP,vI ((Ar w_.disk (An w_.disk w_.store) e.cut).next)] de fun kK dg fD fE=>?_
  replace ⟨hrb0,hrb1,hrb2,hrb3,hrb4,hrb5,hrb6,E,J,am,ao,aq⟩:=(so [ab,W,aa,bx] dg).g12 hrb0 hrb1 hrb2 hrb3 hrb4 hrb5 hrb6 E J am ao aq
  replace ⟨ar,aD,aE,aF,C⟩:=(so [ab,W,aa,bx] dg).g5 ar aD aE aF C
  refine .d<|T.Ez func34 results34 ?_
  rw [show (doW w_ e)=(⟨(⟨(⟨(Bv w_.store).1.idx.names,((Bv w_.store).1.idx).AY⟩:Idx),(Bv w_.store).1.parts,(Bv w_.store).1.mem⟩:Sto),(⟨(Ar w_.disk (An w_.disk w_.store) e.cut).files,(Ar w_.disk (An w_.disk w_.store) e.cut).list,(Ar w_.disk (An w_.disk w_.store) e.cut).names,(Ar w_.disk (An w_.disk w_.store) e.cut).next⟩:Dsk)⟩:Wld) from by exact UD p0 (by with_reducible assumption) (by with_reducible assumption) (by with_reducible assumption) (by with_reducible assumption)]
  exact ⟨⟨rfl,dC,(Bv w_.store).1.idx.names.length,dD,dE,(((Bv w_.store).1.idx).AY).length,dF,dG,(Bv w_.store).1.parts.length,dH,dI,(Bv w_.store).1.mem.length,dJ,dK,((Ar w_.disk (An w_.disk w_.store) e.cut).files).length,dL,dM,((Ar w_.disk (An w_.disk w_.store) e.cut).list).length,dN,dO,((Ar w_.disk (An w_.disk w_.store) e.cut).names).length,dP,fD,(RepS.Ap am (all_cons AL all_nil)),(RepS.Ap ao (all_cons AL all_nil)),(RepS.Ap aq (all_cons AL all_nil)),(RepS.Ap ar (all_cons AL all_nil)),(RepS.Ap aD (all_cons AL all_nil)),(RepS.Ap aE (all_cons AL all_nil)),(RepS.Ap aF (all_cons AL all_nil))⟩,C⟩
 refine .r 1<|.d<|.cf<|.s<|.g<|.eq e.kind 3 (fun fF=>?_) (fun fF=>?_)
 ·refine .r 1<|.d<|.ct<|.s<|.gd nil 6 fun kL d9=>?_
  replace ⟨hrb0,hrb1,hrb2,hrb3,hrb4,hrb5,hrb6,hbx,E,J,ac,C⟩:=(se [ab,W,aa,bx] d9).g12 hrb0 hrb1 hrb2 hrb3 hrb4 hrb5 hrb6 hbx E J ac C
  refine .r [0,1,2]<|.ln 3 hbx id<|.r [4]<|.lb 5 E id<|.d fun eC ec=>?_
  replace ⟨hrb0,hrb1,hrb2,hrb3,hrb4,hrb5,hrb6,hbx,E,J,ac,C⟩:=(se [ab,W,aa,bx] ec).g12 hrb0 hrb1 hrb2 hrb3 hrb4 hrb5 hrb6 hbx E J ac C
  refine .cl (HX w_.disk e.at_ hrb4.ta hrb5.ta hrb6.ta p0.dd (w:=eC) (F:=all)) ?_
  rintro kM bX ⟨⟨kN,kO,rfl,aj⟩,ed⟩
  have ee:=al4 ac.lt J.lt E.lt hbx.lt
  have fG:Gb w.heap.size eC.heap.size:=C.size
  replace ⟨hrb0,hrb1,hrb2,hrb3,hrb4,hrb5,hrb6,hbx,E,J,ac,C⟩:=(se [ab,W,aa,bx] ed).g12 hrb0 hrb1 hrb2 hrb3 hrb4 hrb5 hrb6 hbx E J ac C
  have aj:=aj.fr ee fG
  replace aj:=aj.base (G':=fo F w.heap.size) (fun _ _ h=>.inr h)
  refine .r 1<|.d ?_
  replace hrb0:=hrb0.BO
  replace hrb1:=hrb1.BO
  replace hrb2:=hrb2.BO
  replace hrb3:=hrb3.BO
  replace hrb4:=hrb4.BO
  replace hrb5:=hrb5.BO
  replace hrb6:=hrb6.BO
  replace aj:=aj.BO
  have fH:Gb (bx+1) bX.heap.size:=hbx.lt
  have fI:Gb (aa+1) bX.heap.size:=E.lt
  have fJ:Cov (mtb [W,ab] bX.heap.size) bX ab:=⟨.inl (.inl AJ)⟩
  refine .gd (mtb [W,ab] bX.heap.size) 11 fun kP dh=>?_
  replace ⟨hrb0,hrb1,hrb2,hrb3,hrb4,hrb5,hrb6,hbx,E,J,ac,aj⟩:=(se [ab,W,aa,bx] dh).g12 hrb0 hrb1 hrb2 hrb3 hrb4 hrb5 hrb6 hbx E J ac aj
  replace C:=(se [ab,W,aa,bx] dh).g1 C
  refine .r [0,1,2]<|.ln 3 hbx (BL (all_cons (Nb.symm en) (all_cons (Nb.symm gt) all_nil)) fH)<|.r [4]<|.lb 5 E (BL (all_cons (Nb.symm dY) (all_cons (Nb.symm gu) all_nil)) fI)<|.go 6<|.cl (fun ef aU=>HP w_.store e.at_ ((hrb0.base (fun _ _ h=>h.1)).ext aU) ((hrb1.base (fun _ _ h=>h.1)).ext aU) ((hrb2.base (fun _ _ h=>h.1)).ext aU) ((hrb3.base (fun _ _ h=>h.1)).ext aU) p0.sd (w:=ef) (F:=nin (fo F w.heap.size) [ab,W,aa,bx])) ?_
  intro ef aU
  replace ⟨hrb0,hrb1,hrb2,hrb3,hrb4,hrb5,hrb6,hbx,E,J,ac,aj⟩:=(se [ab,W,aa,bx] aU).g12 hrb0 hrb1 hrb2 hrb3 hrb4 hrb5 hrb6 hbx E J ac aj
  replace C:=(se [ab,W,aa,bx] aU).g1 C
  rintro kQ kR ⟨⟨kS,rfl,⟨_,rfl,⟨bY,kT,bZ,b0,kU,b6,b7,kV,b8,b9,kW,cd,rfl,af,ag,ah,ai⟩⟩⟩,bJ⟩
  have bt:=al4 ac.lt J.lt E.lt hbx.lt
  have bK:Gb w.heap.size ef.heap.size:=C.size
  have hkeep_:=bJ
  replace ⟨hrb0,hrb1,hrb2,hrb3,hrb4,hrb5,hrb6,hbx,E,J,ac,aj⟩:=(se [ab,W,aa,bx] bJ).g12 hrb0 hrb1 hrb2 hrb3 hrb4 hrb5 hrb6 hbx E J ac aj
  replace C:=(se [ab,W,aa,bx] bJ).g1 C
  refine ⟨Ext.chg hkeep_,?_⟩
  replace af:=RepS.Af (M:=[ab,W,aa,bx]) af bt bK
  have jf:=af.max
  replace ag:=RepS.Af (M:=[ab,W,aa,bx]) ag bt bK
  have jg:=ag.max
  replace ah:=RepS.Af (M:=[ab,W,aa,bx]) ah bt bK
  have jh:=ah.max
  replace ai:=RepS.Af (M:=[ab,W,aa,bx]) ai bt bK
  have ji:=ai.max
  have fK:=af.len
  subst fK
  have fL:=ag.len
  subst fL
  have fM:=ah.len
  subst fM
  have fN:=ai.len
  subst fN
  refine .r [7,8,9]<|.go 10<|GE.Dc (t':=32) (o:=0) (v:=.agg #[.slice bY ((Ba w_.store e.at_).1.idx.names.length) bZ,.slice b0 ((((Ba w_.store e.at_).1.idx).AY).length) b6,.slice b7 ((Ba w_.store e.at_).1.parts.length) b8,.slice b9 ((Ba w_.store e.at_).1.mem.length) cd]) [.slice bY ((Ba w_.store e.at_).1.idx.names.length) bZ,.slice b0 ((((Ba w_.store e.at_).1.idx).AY).length) b6,.slice b7 ((Ba w_.store e.at_).1.parts.length) b8,.slice b9 ((Ba w_.store e.at_).1.mem.length) cd] ac AA AA AA fun kX dj=>?_
  replace ⟨hrb0,hrb1,hrb2,hrb3,hrb4,hrb5,hrb6,hbx,E,J,ac,aj⟩:=(se [ab,W,aa,bx] dj).g12 hrb0 hrb1 hrb2 hrb3 hrb4 hrb5 hrb6 hbx E J ac aj
  replace ⟨af,ag,ah,ai,C⟩:=(se [ab,W,aa,bx] dj).g5 af ag ah ai C
  intro kY bL al fO
  have hkeep_:=Chg.toS bL (Cov.toS fJ)
  replace ⟨hrb0,hrb1,hrb2,hrb3,hrb4,hrb5,hrb6,hbx,E,J,aj,af⟩:=(so [ab,W,aa,bx] bL).g12 hrb0 hrb1 hrb2 hrb3 hrb4 hrb5 hrb6 hbx E J aj af
  replace ⟨ag,ah,ai,C⟩:=(so [ab,W,aa,bx] bL).g4 ag ah ai C
  refine ⟨hkeep_,?_⟩
  refine .d fun kZ dm=>?_
  replace ⟨hrb0,hrb1,hrb2,hrb3,hrb4,hrb5,hrb6,hbx,E,J,al,aj⟩:=(se [ab,W,aa,bx] dm).g12 hrb0 hrb1 hrb2 hrb3 hrb4 hrb5 hrb6 hbx E J al aj
  replace ⟨af,ag,ah,ai,C⟩:=(se [ab,W,aa,bx] dm).g5 af ag ah ai C
  replace hrb0:=hrb0.Aa
  replace hrb1:=hrb1.Aa
  replace hrb2:=hrb2.Aa
  replace hrb3:=hrb3.Aa
  replace hrb4:=hrb4.Aa
  replace hrb5:=hrb5.Aa
  replace hrb6:=hrb6.Aa
  replace aj:=aj.Aa
  refine .d<|.ib 0<|.s<|.s<|.g<|.r 2<|.eq (((Ao w_.disk e.at_).length):Int) 0 (fun fP=>?_) (fun fP=>?_)
  ·refine .r 5<|.d<|.ct<|T.I6 AA func34 results34 ?_
   rw [show (doW w_ e)=w_ from by exact SR p0 (by with_reducible assumption) (.inl (by with_reducible assumption))]
   exact ⟨⟨rfl,ab0,w_.store.idx.names.length,cb0,ab1,w_.store.idx.AY.length,cb1,ab2,w_.store.parts.length,cb2,ab3,w_.store.mem.length,cb3,ab4,w_.disk.files.length,cb4,ab5,w_.disk.list.length,cb5,ab6,w_.disk.names.length,cb6,hbx,(RepS.Ap hrb0 (all_cons AL all_nil)),(RepS.Ap hrb1 (all_cons AL all_nil)),(RepS.Ap hrb2 (all_cons AL all_nil)),(RepS.Ap hrb3 (all_cons AL all_nil)),(RepS.Ap hrb4 (all_cons AL all_nil)),(RepS.Ap hrb5 (all_cons AL all_nil)),(RepS.Ap hrb6 (all_cons AL all_nil))⟩,C⟩
  refine .r 2<|.lb E<|.bp (e.cut< 0) (fun fQ=>?_) (fun fQ=>?_)
  ·refine .r 1<|.d<|.ct<|T.I6 AA func34 results34 ?_
   rw [show (doW w_ e)=w_ from by exact SR p0 (by with_reducible assumption) (.inr (by with_reducible assumption))]
   exact ⟨⟨rfl,ab0,w_.store.idx.names.length,cb0,ab1,w_.store.idx.AY.length,cb1,ab2,w_.store.parts.length,cb2,ab3,w_.store.mem.length,cb3,ab4,w_.disk.files.length,cb4,ab5,w_.disk.list.length,cb5,ab6,w_.disk.names.length,cb6,hbx,(RepS.Ap hrb0 (all_cons AL all_nil)),(RepS.Ap hrb1 (all_cons AL all_nil)),(RepS.Ap hrb2 (all_cons AL all_nil)),(RepS.Ap hrb3 (all_cons AL all_nil)),(RepS.Ap hrb4 (all_cons AL all_nil)),(RepS.Ap hrb5 (all_cons AL all_nil)),(RepS.Ap hrb6 (all_cons AL all_nil))⟩,C⟩
  refine .r 1<|.d<|.cf<|.sk<|.s<|.gd nil 9 fun k5 dp=>?_
  replace ⟨hrb0,hrb1,hrb2,hrb3,hrb4,hrb5,hrb6,hbx,E,J,al,aj⟩:=(se [ab,W,aa,bx] dp).g12 hrb0 hrb1 hrb2 hrb3 hrb4 hrb5 hrb6 hbx E J al aj
  replace ⟨af,ag,ah,ai,C⟩:=(se [ab,W,aa,bx] dp).g5 af ag ah ai C
  refine .r [0,1,2,3]<|.ln 4 hbx id<|.r [5,6]<|.lb 7 E id<|.go 8<|.cl (fun eg aV=>Gf w_.disk (Ao w_.disk e.at_) e.cut (hrb4.ext aV) (hrb5.ext aV) (hrb6.ext aV) (aj.ext aV) p0.dd (fun _=>by exact (H8 p0.dd _).1) (w:=eg) (F:=nin (fo F w.heap.size) [ab,W,aa,bx])) ?_
  intro eg aV
  replace ⟨hrb0,hrb1,hrb2,hrb3,hrb4,hrb5,hrb6,hbx,E,J,al,af⟩:=(se [ab,W,aa,bx] aV).g12 hrb0 hrb1 hrb2 hrb3 hrb4 hrb5 hrb6 hbx E J al af
  replace ⟨ag,ah,ai,C⟩:=(se [ab,W,aa,bx] aV).g4 ag ah ai C
  rintro k6 k7 ⟨⟨_,rfl,⟨dQ,k8,dR,dS,k9,dT,dU,lc,dV,rfl,aG,aH,aI⟩⟩,bM⟩
  have bN:=al4 al.lt J.lt E.lt hbx.lt
  have dq:Gb w.heap.size eg.heap.size:=C.size
  have hkeep_:=bM
  replace ⟨hrb0,hrb1,hrb2,hrb3,hrb4,hrb5,hrb6,hbx,E,J,al,af⟩:=(se [ab,W,aa,bx] bM).g12 hrb0 hrb1 hrb2 hrb3 hrb4 hrb5 hrb6 hbx E J al af
  replace ⟨ag,ah,ai,C⟩:=(se [ab,W,aa,bx] bM).g4 ag ah ai C
  refine ⟨Ext.chg hkeep_,?_⟩
  replace aG:=RepS.Af (M:=[ab,W,aa,bx]) aG bN dq
  have jj:=aG.max
  replace aH:=RepS.Af (M:=[ab,W,aa,bx]) aH bN dq
  have jk:=aH.max
  replace aI:=RepS.Af (M:=[ab,W,aa,bx]) aI bN dq
  have jl:=aI.max
  have fR:=aG.len
  subst fR
  have fS:=aH.len
  subst fS
  have fT:=aI.len
  subst fT
  refine .d fun ld dr=>?_
  replace ⟨hrb0,hrb1,hrb2,hrb3,hrb4,hrb5,hrb6,hbx,E,J,al,af⟩:=(se [ab,W,aa,bx] dr).g12 hrb0 hrb1 hrb2 hrb3 hrb4 hrb5 hrb6 hbx E J al af
  replace ⟨ag,ah,ai,aG,aH,aI,C⟩:=(se [ab,W,aa,bx] dr).g7 ag ah ai aG aH aI C
  refine .r 2<|.sb 4 (.agg #[.slice dQ (((Ar w_.disk (Ao w_.disk e.at_) e.cut).files).length) dR,.slice dS (((Ar w_.disk (Ao w_.disk e.at_) e.cut).list).length) dT,.slice dU (((Ar w_.disk (Ao w_.disk e.at_) e.cut).names).length) dV,vI ((Ar w_.disk (Ao w_.disk e.at_) e.cut).next)]) [.slice ab0 w_.store.idx.names.length cb0,.slice ab1 w_.store.idx.AY.length cb1,.slice ab2 w_.store.parts.length cb2,.slice ab3 w_.store.mem.length cb3,.slice dQ (((Ar w_.disk (Ao w_.disk e.at_) e.cut).files).length) dR,.slice dS (((Ar w_.disk (Ao w_.disk e.at_) e.cut).list).length) dT,.slice dU (((Ar w_.disk (Ao w_.disk e.at_) e.cut).names).length) dV,vI ((Ar w_.disk (Ao w_.disk e.at_) e.cut).next)] hbx fun eh dt du fU=>?_
  replace ⟨hrb0,hrb1,hrb2,hrb3,hrb4,hrb5,hrb6,E,J,al,af,ag⟩:=(so [ab,W,aa,bx] dt).g12 hrb0 hrb1 hrb2 hrb3 hrb4 hrb5 hrb6 E J al af ag
  replace ⟨ah,ai,aG,aH,aI,C⟩:=(so [ab,W,aa,bx] dt).g6 ah ai aG aH aI C
  refine .d<|.s<|.g<|.r 1<|.lb E<|.r 2<|.bp (e.cut< (((Ao w_.disk e.at_).length):Int)) (fun fV=>?_) (fun fV=>?_)
  ·refine .d<|.ct<|.g<|.r 1<|.cl (Dq (⟨(⟨(⟨w_.store.idx.names,w_.store.idx.AY⟩:Idx),w_.store.parts,w_.store.mem⟩:Sto),(⟨(Ar w_.disk (Ao w_.disk e.at_) e.cut).files,(Ar w_.disk (Ao w_.disk e.at_) e.cut).list,(Ar w_.disk (Ao w_.disk e.at_) e.cut).names,(Ar w_.disk (Ao w_.disk e.at_) e.cut).next⟩:Dsk)⟩:Wld) (RepS.toM hrb0 (all_cons AL all_nil)) (RepS.toM hrb1 (all_cons AL all_nil)) (RepS.toM hrb2 (all_cons AL all_nil)) (RepS.toM hrb3 (all_cons AL all_nil)) (RepS.toM aG (all_cons AL all_nil)) (RepS.toM aH (all_cons AL all_nil)) (RepS.toM aI (all_cons AL all_nil)) du (by exact (LO (e:=e) p0 (by with_reducible assumption) (by with_reducible assumption)).2.1) (by exact (LO (e:=e) p0 (by with_reducible assumption) (by with_reducible assumption)).2.2) (w:=eh) (F:=nin (fo F w.heap.size) [ab,W,aa,bx])) ?_
   rintro lf bc ⟨⟨rfl,gO,li,gP,gQ,lj,gR,gS,lk,gT,gU,ll,gV,gW,lm,gX,gY,lp,gZ,g0,lq,hC,fW,ce,cg,ci,cj,ck,cm,co⟩,bO⟩
   have aQ:=al4 al.lt J.lt E.lt du.lt
   have aW:Gb w.heap.size eh.heap.size:=C.size
   have dv:Mv [ab,W,aa,bx] [ab,W,aa,bx] eh bc:=Mv.inl bO (all_cons AL all_nil) (all_cons (.inl AI) (all_cons (.inl AJ) (all_cons (.inl AK) (all_cons (.inl AL) all_nil))))
   replace ⟨hrb0,hrb1,hrb2,hrb3,hrb4,hrb5,hrb6,E,J,al,af,ag⟩:=(sp dv bO).g12 hrb0 hrb1 hrb2 hrb3 hrb4 hrb5 hrb6 E J al af ag
   replace ⟨ah,ai,aG,aH,aI,C⟩:=(sp dv bO).g6 ah ai aG aH aI C
   replace ce:RepS bc (nin (fo F w.heap.size) [ab,W,aa,bx]) _ _ _ _:=RepS.bxM (M2:=[ab,W,aa,bx]) ce aQ (fun _ h=>.inr (Nat.le_trans aW h)) (all_cons (.inr AI) (all_cons (.inr AJ) (all_cons (.inr AK) (all_cons (.inl AI) all_nil))))
   replace cg:RepS bc (nin (fo F w.heap.size) [ab,W,aa,bx]) _ _ _ _:=RepS.bxM (M2:=[ab,W,aa,bx]) cg aQ (fun _ h=>.inr (Nat.le_trans aW h)) (all_cons (.inr AI) (all_cons (.inr AJ) (all_cons (.inr AK) (all_cons (.inl AI) all_nil))))
   replace ci:RepS bc (nin (fo F w.heap.size) [ab,W,aa,bx]) _ _ _ _:=RepS.bxM (M2:=[ab,W,aa,bx]) ci aQ (fun _ h=>.inr (Nat.le_trans aW h)) (all_cons (.inr AI) (all_cons (.inr AJ) (all_cons (.inr AK) (all_cons (.inl AI) all_nil))))
   replace cj:RepS bc (nin (fo F w.heap.size) [ab,W,aa,bx]) _ _ _ _:=RepS.bxM (M2:=[ab,W,aa,bx]) cj aQ (fun _ h=>.inr (Nat.le_trans aW h)) (all_cons (.inr AI) (all_cons (.inr AJ) (all_cons (.inr AK) (all_cons (.inl AI) all_nil))))
   replace ck:RepS bc (nin (fo F w.heap.size) [ab,W,aa,bx]) _ _ _ _:=RepS.bxM (M2:=[ab,W,aa,bx]) ck aQ (fun _ h=>.inr (Nat.le_trans aW h)) (all_cons (.inr AI) (all_cons (.inr AJ) (all_cons (.inr AK) (all_cons (.inl AI) all_nil))))
   replace cm:RepS bc (nin (fo F w.heap.size) [ab,W,aa,bx]) _ _ _ _:=RepS.bxM (M2:=[ab,W,aa,bx]) cm aQ (fun _ h=>.inr (Nat.le_trans aW h)) (all_cons (.inr AI) (all_cons (.inr AJ) (all_cons (.inr AK) (all_cons (.inl AI) all_nil))))
   replace co:RepS bc (nin (fo F w.heap.size) [ab,W,aa,bx]) _ _ _ _:=RepS.bxM (M2:=[ab,W,aa,bx]) co aQ (fun _ h=>.inr (Nat.le_trans aW h)) (all_cons (.inr AI) (all_cons (.inr AJ) (all_cons (.inr AK) (all_cons (.inl AI) all_nil))))
   have fX:=ce.len
   subst fX
   have fY:=cg.len
   subst fY
   have fZ:=ci.len
   subst fZ
   have f0:=cj.len
   subst f0
   have f5:=ck.len
   subst f5
   have f6:=cm.len
   subst f6
   have f7:=co.len
   subst f7
   refine .d<|T.Ez func34 results34 ?_
   rw [show (doW w_ e)=(⟨(⟨(⟨((((BE (⟨(⟨(⟨w_.store.idx.names,w_.store.idx.AY⟩:Idx),w_.store.parts,w_.store.mem⟩:Sto),(⟨(Ar w_.disk (Ao w_.disk e.at_) e.cut).files,(Ar w_.disk (Ao w_.disk e.at_) e.cut).list,(Ar w_.disk (Ao w_.disk e.at_) e.cut).names,(Ar w_.disk (Ao w_.disk e.at_) e.cut).next⟩:Dsk)⟩:Wld))).store).idx).names,((((BE (⟨(⟨(⟨w_.store.idx.names,w_.store.idx.AY⟩:Idx),w_.store.parts,w_.store.mem⟩:Sto),(⟨(Ar w_.disk (Ao w_.disk e.at_) e.cut).files,(Ar w_.disk (Ao w_.disk e.at_) e.cut).list,(Ar w_.disk (Ao w_.disk e.at_) e.cut).names,(Ar w_.disk (Ao w_.disk e.at_) e.cut).next⟩:Dsk)⟩:Wld))).store).idx).AY⟩:Idx),(((BE (⟨(⟨(⟨w_.store.idx.names,w_.store.idx.AY⟩:Idx),w_.store.parts,w_.store.mem⟩:Sto),(⟨(Ar w_.disk (Ao w_.disk e.at_) e.cut).files,(Ar w_.disk (Ao w_.disk e.at_) e.cut).list,(Ar w_.disk (Ao w_.disk e.at_) e.cut).names,(Ar w_.disk (Ao w_.disk e.at_) e.cut).next⟩:Dsk)⟩:Wld))).store).parts,(((BE (⟨(⟨(⟨w_.store.idx.names,w_.store.idx.AY⟩:Idx),w_.store.parts,w_.store.mem⟩:Sto),(⟨(Ar w_.disk (Ao w_.disk e.at_) e.cut).files,(Ar w_.disk (Ao w_.disk e.at_) e.cut).list,(Ar w_.disk (Ao w_.disk e.at_) e.cut).names,(Ar w_.disk (Ao w_.disk e.at_) e.cut).next⟩:Dsk)⟩:Wld))).store).mem⟩:Sto),(⟨(((BE (⟨(⟨(⟨w_.store.idx.names,w_.store.idx.AY⟩:Idx),w_.store.parts,w_.store.mem⟩:Sto),(⟨(Ar w_.disk (Ao w_.disk e.at_) e.cut).files,(Ar w_.disk (Ao w_.disk e.at_) e.cut).list,(Ar w_.disk (Ao w_.disk e.at_) e.cut).names,(Ar w_.disk (Ao w_.disk e.at_) e.cut).next⟩:Dsk)⟩:Wld))).disk).files,(((BE (⟨(⟨(⟨w_.store.idx.names,w_.store.idx.AY⟩:Idx),w_.store.parts,w_.store.mem⟩:Sto),(⟨(Ar w_.disk (Ao w_.disk e.at_) e.cut).files,(Ar w_.disk (Ao w_.disk e.at_) e.cut).list,(Ar w_.disk (Ao w_.disk e.at_) e.cut).names,(Ar w_.disk (Ao w_.disk e.at_) e.cut).next⟩:Dsk)⟩:Wld))).disk).list,(((BE (⟨(⟨(⟨w_.store.idx.names,w_.store.idx.AY⟩:Idx),w_.store.parts,w_.store.mem⟩:Sto),(⟨(Ar w_.disk (Ao w_.disk e.at_) e.cut).files,(Ar w_.disk (Ao w_.disk e.at_) e.cut).list,(Ar w_.disk (Ao w_.disk e.at_) e.cut).names,(Ar w_.disk (Ao w_.disk e.at_) e.cut).next⟩:Dsk)⟩:Wld))).disk).names,(((BE (⟨(⟨(⟨w_.store.idx.names,w_.store.idx.AY⟩:Idx),w_.store.parts,w_.store.mem⟩:Sto),(⟨(Ar w_.disk (Ao w_.disk e.at_) e.cut).files,(Ar w_.disk (Ao w_.disk e.at_) e.cut).list,(Ar w_.disk (Ao w_.disk e.at_) e.cut).names,(Ar w_.disk (Ao w_.disk e.at_) e.cut).next⟩:Dsk)⟩:Wld))).disk).next⟩:Dsk)⟩:Wld) from by exact UE p0 (by with_reducible assumption) (by with_reducible assumption) (by with_reducible assumption) (by with_reducible assumption)]
   exact ⟨⟨rfl,gO,(((((BE (⟨(⟨(⟨w_.store.idx.names,w_.store.idx.AY⟩:Idx),w_.store.parts,w_.store.mem⟩:Sto),(⟨(Ar w_.disk (Ao w_.disk e.at_) e.cut).files,(Ar w_.disk (Ao w_.disk e.at_) e.cut).list,(Ar w_.disk (Ao w_.disk e.at_) e.cut).names,(Ar w_.disk (Ao w_.disk e.at_) e.cut).next⟩:Dsk)⟩:Wld))).store).idx).names).length,gP,gQ,(((((BE (⟨(⟨(⟨w_.store.idx.names,w_.store.idx.AY⟩:Idx),w_.store.parts,w_.store.mem⟩:Sto),(⟨(Ar w_.disk (Ao w_.disk e.at_) e.cut).files,(Ar w_.disk (Ao w_.disk e.at_) e.cut).list,(Ar w_.disk (Ao w_.disk e.at_) e.cut).names,(Ar w_.disk (Ao w_.disk e.at_) e.cut).next⟩:Dsk)⟩:Wld))).store).idx).AY).length,gR,gS,((((BE (⟨(⟨(⟨w_.store.idx.names,w_.store.idx.AY⟩:Idx),w_.store.parts,w_.store.mem⟩:Sto),(⟨(Ar w_.disk (Ao w_.disk e.at_) e.cut).files,(Ar w_.disk (Ao w_.disk e.at_) e.cut).list,(Ar w_.disk (Ao w_.disk e.at_) e.cut).names,(Ar w_.disk (Ao w_.disk e.at_) e.cut).next⟩:Dsk)⟩:Wld))).store).parts).length,gT,gU,((((BE (⟨(⟨(⟨w_.store.idx.names,w_.store.idx.AY⟩:Idx),w_.store.parts,w_.store.mem⟩:Sto),(⟨(Ar w_.disk (Ao w_.disk e.at_) e.cut).files,(Ar w_.disk (Ao w_.disk e.at_) e.cut).list,(Ar w_.disk (Ao w_.disk e.at_) e.cut).names,(Ar w_.disk (Ao w_.disk e.at_) e.cut).next⟩:Dsk)⟩:Wld))).store).mem).length,gV,gW,((((BE (⟨(⟨(⟨w_.store.idx.names,w_.store.idx.AY⟩:Idx),w_.store.parts,w_.store.mem⟩:Sto),(⟨(Ar w_.disk (Ao w_.disk e.at_) e.cut).files,(Ar w_.disk (Ao w_.disk e.at_) e.cut).list,(Ar w_.disk (Ao w_.disk e.at_) e.cut).names,(Ar w_.disk (Ao w_.disk e.at_) e.cut).next⟩:Dsk)⟩:Wld))).disk).files).length,gX,gY,((((BE (⟨(⟨(⟨w_.store.idx.names,w_.store.idx.AY⟩:Idx),w_.store.parts,w_.store.mem⟩:Sto),(⟨(Ar w_.disk (Ao w_.disk e.at_) e.cut).files,(Ar w_.disk (Ao w_.disk e.at_) e.cut).list,(Ar w_.disk (Ao w_.disk e.at_) e.cut).names,(Ar w_.disk (Ao w_.disk e.at_) e.cut).next⟩:Dsk)⟩:Wld))).disk).list).length,gZ,g0,((((BE (⟨(⟨(⟨w_.store.idx.names,w_.store.idx.AY⟩:Idx),w_.store.parts,w_.store.mem⟩:Sto),(⟨(Ar w_.disk (Ao w_.disk e.at_) e.cut).files,(Ar w_.disk (Ao w_.disk e.at_) e.cut).list,(Ar w_.disk (Ao w_.disk e.at_) e.cut).names,(Ar w_.disk (Ao w_.disk e.at_) e.cut).next⟩:Dsk)⟩:Wld))).disk).names).length,hC,fW,(RepS.Ap ce (all_cons AL all_nil)),(RepS.Ap cg (all_cons AL all_nil)),(RepS.Ap ci (all_cons AL all_nil)),(RepS.Ap cj (all_cons AL all_nil)),(RepS.Ap ck (all_cons AL all_nil)),(RepS.Ap cm (all_cons AL all_nil)),(RepS.Ap co (all_cons AL all_nil))⟩,C⟩
  refine .d<|.cf<|.g<|.r 1<|.ln al<|.r 2<|.sb 0 (.agg #[.slice bY ((Ba w_.store e.at_).1.idx.names.length) bZ,.slice b0 ((((Ba w_.store e.at_).1.idx).AY).length) b6,.slice b7 ((Ba w_.store e.at_).1.parts.length) b8,.slice b9 ((Ba w_.store e.at_).1.mem.length) cd]) [.slice bY ((Ba w_.store e.at_).1.idx.names.length) bZ,.slice b0 ((((Ba w_.store e.at_).1.idx).AY).length) b6,.slice b7 ((Ba w_.store e.at_).1.parts.length) b8,.slice b9 ((Ba w_.store e.at_).1.mem.length) cd,.slice dQ (((Ar w_.disk (Ao w_.disk e.at_) e.cut).files).length) dR,.slice dS (((Ar w_.disk (Ao w_.disk e.at_) e.cut).list).length) dT,.slice dU (((Ar w_.disk (Ao w_.disk e.at_) e.cut).names).length) dV,vI ((Ar w_.disk (Ao w_.disk e.at_) e.cut).next)] du fun ls dw f8 f9=>?_
  replace ⟨hrb0,hrb1,hrb2,hrb3,hrb4,hrb5,hrb6,E,J,af,ag,ah⟩:=(so [ab,W,aa,bx] dw).g12 hrb0 hrb1 hrb2 hrb3 hrb4 hrb5 hrb6 E J af ag ah
  replace ⟨ai,aG,aH,aI,C⟩:=(so [ab,W,aa,bx] dw).g5 ai aG aH aI C
  refine .d<|T.Ez func34 results34 ?_
  rw [show (doW w_ e)=(⟨(⟨(⟨(Ba w_.store e.at_).1.idx.names,((Ba w_.store e.at_).1.idx).AY⟩:Idx),(Ba w_.store e.at_).1.parts,(Ba w_.store e.at_).1.mem⟩:Sto),(⟨(Ar w_.disk (Ao w_.disk e.at_) e.cut).files,(Ar w_.disk (Ao w_.disk e.at_) e.cut).list,(Ar w_.disk (Ao w_.disk e.at_) e.cut).names,(Ar w_.disk (Ao w_.disk e.at_) e.cut).next⟩:Dsk)⟩:Wld) from by exact UF p0 (by with_reducible assumption) (by with_reducible assumption) (by with_reducible assumption) (by with_reducible assumption)]
  exact ⟨⟨rfl,bY,(Ba w_.store e.at_).1.idx.names.length,bZ,b0,(((Ba w_.store e.at_).1.idx).AY).length,b6,b7,(Ba w_.store e.at_).1.parts.length,b8,b9,(Ba w_.store e.at_).1.mem.length,cd,dQ,((Ar w_.disk (Ao w_.disk e.at_) e.cut).files).length,dR,dS,((Ar w_.disk (Ao w_.disk e.at_) e.cut).list).length,dT,dU,((Ar w_.disk (Ao w_.disk e.at_) e.cut).names).length,dV,f8,(RepS.Ap af (all_cons AL all_nil)),(RepS.Ap ag (all_cons AL all_nil)),(RepS.Ap ah (all_cons AL all_nil)),(RepS.Ap ai (all_cons AL all_nil)),(RepS.Ap aG (all_cons AL all_nil)),(RepS.Ap aH (all_cons AL all_nil)),(RepS.Ap aI (all_cons AL all_nil))⟩,C⟩
 refine .r 1<|.d<|.cf<|.s<|.g<|.eq e.kind 4 (fun ga=>?_) (fun ga=>?_)
 ·refine .r 1<|.d<|.ct<|.g<|.r 1<|.cl (Dq w_ (RepS.toM hrb0 (all_cons AL all_nil)) (RepS.toM hrb1 (all_cons AL all_nil)) (RepS.toM hrb2 (all_cons AL all_nil)) (RepS.toM hrb3 (all_cons AL all_nil)) (RepS.toM hrb4 (all_cons AL all_nil)) (RepS.toM hrb5 (all_cons AL all_nil)) (RepS.toM hrb6 (all_cons AL all_nil)) hbx (by exact p0.dd) (by exact p0.dk) (w:=bu) (F:=nin (fo F w.heap.size) [ab,W,aa,bx])) ?_
  rintro lu bd ⟨⟨rfl,hD,lv,hE,hH,lw,hJ,hN,ly,hO,hQ,lz,hV,hW,lA,ia,ic,lB,ie,ig,lC,ii,gb,cp,cq,cr,cu,cw,cx,cy⟩,dx⟩
  have aR:=al4 ac.lt J.lt E.lt hbx.lt
  have aX:Gb w.heap.size bu.heap.size:=C.size
  have ej:Mv [ab,W,aa,bx] [ab,W,aa,bx] bu bd:=Mv.inl dx (all_cons AL all_nil) (all_cons (.inl AI) (all_cons (.inl AJ) (all_cons (.inl AK) (all_cons (.inl AL) all_nil))))
  replace ⟨hrb0,hrb1,hrb2,hrb3,hrb4,hrb5,hrb6,C⟩:=(sp ej dx).g8 hrb0 hrb1 hrb2 hrb3 hrb4 hrb5 hrb6 C
  replace cp:RepS bd (nin (fo F w.heap.size) [ab,W,aa,bx]) _ _ _ _:=RepS.bxM (M2:=[ab,W,aa,bx]) cp aR (fun _ h=>.inr (Nat.le_trans aX h)) (all_cons (.inr AI) (all_cons (.inr AJ) (all_cons (.inr AK) (all_cons (.inl AI) all_nil))))
  replace cq:RepS bd (nin (fo F w.heap.size) [ab,W,aa,bx]) _ _ _ _:=RepS.bxM (M2:=[ab,W,aa,bx]) cq aR (fun _ h=>.inr (Nat.le_trans aX h)) (all_cons (.inr AI) (all_cons (.inr AJ) (all_cons (.inr AK) (all_cons (.inl AI) all_nil))))
  replace cr:RepS bd (nin (fo F w.heap.size) [ab,W,aa,bx]) _ _ _ _:=RepS.bxM (M2:=[ab,W,aa,bx]) cr aR (fun _ h=>.inr (Nat.le_trans aX h)) (all_cons (.inr AI) (all_cons (.inr AJ) (all_cons (.inr AK) (all_cons (.inl AI) all_nil))))
  replace cu:RepS bd (nin (fo F w.heap.size) [ab,W,aa,bx]) _ _ _ _:=RepS.bxM (M2:=[ab,W,aa,bx]) cu aR (fun _ h=>.inr (Nat.le_trans aX h)) (all_cons (.inr AI) (all_cons (.inr AJ) (all_cons (.inr AK) (all_cons (.inl AI) all_nil))))
  replace cw:RepS bd (nin (fo F w.heap.size) [ab,W,aa,bx]) _ _ _ _:=RepS.bxM (M2:=[ab,W,aa,bx]) cw aR (fun _ h=>.inr (Nat.le_trans aX h)) (all_cons (.inr AI) (all_cons (.inr AJ) (all_cons (.inr AK) (all_cons (.inl AI) all_nil))))
  replace cx:RepS bd (nin (fo F w.heap.size) [ab,W,aa,bx]) _ _ _ _:=RepS.bxM (M2:=[ab,W,aa,bx]) cx aR (fun _ h=>.inr (Nat.le_trans aX h)) (all_cons (.inr AI) (all_cons (.inr AJ) (all_cons (.inr AK) (all_cons (.inl AI) all_nil))))
  replace cy:RepS bd (nin (fo F w.heap.size) [ab,W,aa,bx]) _ _ _ _:=RepS.bxM (M2:=[ab,W,aa,bx]) cy aR (fun _ h=>.inr (Nat.le_trans aX h)) (all_cons (.inr AI) (all_cons (.inr AJ) (all_cons (.inr AK) (all_cons (.inl AI) all_nil))))
  have gf:=cp.len
  subst gf
  have gh:=cq.len
  subst gh
  have gi:=cr.len
  subst gi
  have gj:=cu.len
  subst gj
  have gk:=cw.len
  subst gk
  have gl:=cx.len
  subst gl
  have gm:=cy.len
  subst gm
  refine .d<|.ib 0<|.s<|.s<|.g<|.r 8<|.d<|.ct<|T.I6 AA func34 results34 ?_
  rw [show (doW w_ e)=(⟨(⟨(⟨((((BE w_)).store).idx).names,((((BE w_)).store).idx).AY⟩:Idx),(((BE w_)).store).parts,(((BE w_)).store).mem⟩:Sto),(⟨(((BE w_)).disk).files,(((BE w_)).disk).list,(((BE w_)).disk).names,(((BE w_)).disk).next⟩:Dsk)⟩:Wld) from by exact UZ (by with_reducible assumption)]
  exact ⟨⟨rfl,hD,(((((BE w_)).store).idx).names).length,hE,hH,(((((BE w_)).store).idx).AY).length,hJ,hN,((((BE w_)).store).parts).length,hO,hQ,((((BE w_)).store).mem).length,hV,hW,((((BE w_)).disk).files).length,ia,ic,((((BE w_)).disk).list).length,ie,ig,((((BE w_)).disk).names).length,ii,gb,(RepS.Ap cp (all_cons AL all_nil)),(RepS.Ap cq (all_cons AL all_nil)),(RepS.Ap cr (all_cons AL all_nil)),(RepS.Ap cu (all_cons AL all_nil)),(RepS.Ap cw (all_cons AL all_nil)),(RepS.Ap cx (all_cons AL all_nil)),(RepS.Ap cy (all_cons AL all_nil))⟩,C⟩
 refine .r 1<|.d<|.cf<|.sk<|.ib 0<|.s<|.s<|.g<|.r 8<|.d<|.ct<|T.I6 AA func34 results34 ?_
 rw [show (doW w_ e)=w_ from by exact Nc (by with_reducible assumption) (by with_reducible assumption) (by with_reducible assumption) (by with_reducible assumption)]
 exact ⟨⟨rfl,ab0,w_.store.idx.names.length,cb0,ab1,w_.store.idx.AY.length,cb1,ab2,w_.store.parts.length,cb2,ab3,w_.store.mem.length,cb3,ab4,w_.disk.files.length,cb4,ab5,w_.disk.list.length,cb5,ab6,w_.disk.names.length,cb6,hbx,(RepS.Ap hrb0 (all_cons AL all_nil)),(RepS.Ap hrb1 (all_cons AL all_nil)),(RepS.Ap hrb2 (all_cons AL all_nil)),(RepS.Ap hrb3 (all_cons AL all_nil)),(RepS.Ap hrb4 (all_cons AL all_nil)),(RepS.Ap hrb5 (all_cons AL all_nil)),(RepS.Ap hrb6 (all_cons AL all_nil))⟩,C⟩
theorem DB (events:List Evt) (h1:RepS w F a1 n1 c1 events) (p0:EsD events):Calls Tryz.prog 16 [.slice a1 n1 c1].toArray w (BB fun rv w'=>(∃ v0,rv=.tuple #[v0,.bool ((Ac events).2)]∧VS (fo F w.heap.size) w' ((Ac events).1:Wld) v0)∧Ext w w'):=by
 refine goT func16 ?_
 obtain ⟨rfl,dt,h1⟩:=h1.tp
 refine .s<|.g<|.np 38 [AH,AH,AH,AH,AH,AH,AH,vI 0] fun C bM aY aZ aa bN=>?_
 have du:Cov nil w C:=Bf aY (Nat.le_refl _)
 replace h1:=(sn [] aZ aY).g1 h1
 have J:=aZ
 refine .r 1<|.d<|.s<|.s<|.g<|.r 2<|.bp ((events.length:Int) > 50) (fun bO=>?_) (fun bO=>?_)
 ·refine .d<|.ct<|.s<|.g<|.r 1<|.sc [AH,AH,AH,AH,AH,AH,AH,vI 0] aa fun dT bm bP bQ=>?_
  replace ⟨h1,J⟩:=(so [C] bm).g2 h1 J
  exact .r 1<|.d<|.r2 func16 results16 (.bx bP) (.t (.bool false)) ⟨⟨_,(CJ rfl (AG (by (rw [Jj ‹_›] <;> rfl)))),(VS.of (y:=(⟨(⟨(⟨([]:List (List Tag)),([]:List Pst)⟩:Idx),([]:List Prt),([]:List Smp)⟩:Sto),(⟨([]:List Fil),([]:List Int),([]:List (List Tag)),0⟩:Dsk)⟩:Wld)) ⟨_,rfl,⟨_,_,_,_,_,_,_,_,_,_,_,_,_,_,_,_,_,_,_,_,_,rfl,(RepS.Aj _ _ none 0 AE),(RepS.Aj _ _ none 0 AE),(RepS.Aj _ _ none 0 AE),(RepS.Aj _ _ none 0 AE),(RepS.Aj _ _ none 0 AE),(RepS.Aj _ _ none 0 AE),(RepS.Aj _ _ none 0 AE)⟩⟩ (by (rw [Jj ‹_›] <;> rfl)))⟩,J⟩
 refine .d<|.cf<|.sk<|.s<|.g<|.cl (Im (w:=bM) (F:=all)) ?_
 rintro dU dV ⟨⟨_,rfl,⟨bR,dW,bS,bT,dX,bU,bV,dY,bW,bX,dZ,bY,bZ,d0,b0,b6,d3,b7,b8,d4,b9,rfl,aD,aE,aF,aG,aH,aI,aJ⟩⟩,bn⟩
 have aC:=al1 aa.lt
 have aK:Gb w.heap.size bM.heap.size:=J.size
 replace ⟨h1,aa,J⟩:=(se [C] bn).g3 h1 aa J
 have aD:=aD.fr aC aK
 replace aD:=aD.base (G':=fo F w.heap.size) (fun _ _ h=>.inr h)
 have dv:=aD.max
 have aE:=aE.fr aC aK
 replace aE:=aE.base (G':=fo F w.heap.size) (fun _ _ h=>.inr h)
 have dw:=aE.max
 have aF:=aF.fr aC aK
 replace aF:=aF.base (G':=fo F w.heap.size) (fun _ _ h=>.inr h)
 have dx:=aF.max
 have aG:=aG.fr aC aK
 replace aG:=aG.base (G':=fo F w.heap.size) (fun _ _ h=>.inr h)
 have dy:=aG.max
 have aH:=aH.fr aC aK
 replace aH:=aH.base (G':=fo F w.heap.size) (fun _ _ h=>.inr h)
 have dz:=aH.max
 have aI:=aI.fr aC aK
 replace aI:=aI.base (G':=fo F w.heap.size) (fun _ _ h=>.inr h)
 have dA:=aI.max
 have aJ:=aJ.fr aC aK
 replace aJ:=aJ.base (G':=fo F w.heap.size) (fun _ _ h=>.inr h)
 have dB:=aJ.max
 have cd:=aD.len
 subst cd
 have ce:=aE.len
 subst ce
 have cg:=aF.len
 subst cg
 have ci:=aG.len
 subst ci
 have cj:=aH.len
 subst cj
 have ck:=aI.len
 subst ck
 have cm:=aJ.len
 subst cm
 refine .np 38 [AH,AH,AH,AH,AH,AH,AH,vI 0] fun E d5 aW bo co cp=>?_
 have dC:=AX aW aa.lt
 have dD:=J.cn aW
 replace ⟨h1,aa,aD,aE,aF,aG,aH,aI,aJ,J⟩:=(sn [C] bo aW).g10 h1 aa aD aE aF aG aH aI aJ J
 refine .sc [.slice bR DA.store.idx.names.length bS,.slice bT DA.store.idx.AY.length bU,.slice bV DA.store.parts.length bW,.slice bX DA.store.mem.length bY,.slice bZ DA.disk.files.length b0,.slice b6 DA.disk.list.length b7,.slice b8 DA.disk.names.length b9,vI DA.disk.next] co fun br bq cq cr=>?_
 replace ⟨h1,aa,aD,aE,aF,aG,aH,aI,aJ,J⟩:=(so [E,C] bq).g10 h1 aa aD aE aF aG aH aI aJ J
 refine .d<|.s<|.s<|.g<|.r 3<|.d<|.b 0<|T.loop (X:=Nat × (List (List Tag)) × (Option Addr) × Nat × Nat × (List Pst) × (Option Addr) × Nat × Nat × (List Prt) × (Option Addr) × Nat × Nat × (List Smp) × (Option Addr) × Nat × Nat × (List Fil) × (Option Addr) × Nat × Nat × (List Int) × (Option Addr) × Nat × Nat × (List (List Tag)) × (Option Addr) × Nat × Nat × Int) (0,(DA.store.idx.names:List (List Tag)),bR,DA.store.idx.names.length,bS,(DA.store.idx.AY:List Pst),bT,DA.store.idx.AY.length,bU,(DA.store.parts:List Prt),bV,DA.store.parts.length,bW,(DA.store.mem:List Smp),bX,DA.store.mem.length,bY,(DA.disk.files:List Fil),bZ,DA.disk.files.length,b0,(DA.disk.list:List Int),b6,DA.disk.list.length,b7,(DA.disk.names:List (List Tag)),b8,DA.disk.names.length,b9,DA.disk.next) (fun (k,aj,a_w_0,n_w_0,c_w_0,ak,a_w_1,n_w_1,c_w_1,al,a_w_2,n_w_2,c_w_2,am,a_w_3,n_w_3,c_w_3,ao,a_w_4,n_w_4,c_w_4,aq,a_w_5,n_w_5,c_w_5,ar,a_w_6,n_w_6,c_w_6,ai)=>[(2,.pointer (some ⟨C,0,none⟩)),(4,.pointer (some ⟨E,0,none⟩)),(12,.slice a1 events.length c1),(13,vI (events.length:Int)),(14,vI (k:Int))]) (fun (k,aj,a_w_0,n_w_0,c_w_0,ak,a_w_1,n_w_1,c_w_1,al,a_w_2,n_w_2,c_w_2,am,a_w_3,n_w_3,c_w_3,ao,a_w_4,n_w_4,c_w_4,aq,a_w_5,n_w_5,c_w_5,ar,a_w_6,n_w_6,c_w_6,ai) aL=>Chg (ins [E]) br aL∧RepS aL (nin (fo F w.heap.size) [E,C]) a_w_0 n_w_0 c_w_0 aj∧RepS aL (nin (fo F w.heap.size) [E,C]) a_w_1 n_w_1 c_w_1 ak∧RepS aL (nin (fo F w.heap.size) [E,C]) a_w_2 n_w_2 c_w_2 al∧RepS aL (nin (fo F w.heap.size) [E,C]) a_w_3 n_w_3 c_w_3 am∧RepS aL (nin (fo F w.heap.size) [E,C]) a_w_4 n_w_4 c_w_4 ao∧RepS aL (nin (fo F w.heap.size) [E,C]) a_w_5 n_w_5 c_w_5 aq∧RepS aL (nin (fo F w.heap.size) [E,C]) a_w_6 n_w_6 c_w_6 ar∧Box aL E 38 [.slice a_w_0 n_w_0 c_w_0,.slice a_w_1 n_w_1 c_w_1,.slice a_w_2 n_w_2 c_w_2,.slice a_w_3 n_w_3 c_w_3,.slice a_w_4 n_w_4 c_w_4,.slice a_w_5 n_w_5 c_w_5,.slice a_w_6 n_w_6 c_w_6,vI ai]∧(k≤events.length)∧((events.drop k).foldl doW ⟨⟨⟨aj,ak⟩,al,am⟩,⟨ao,aq,ar,ai⟩⟩=Gg events)∧(WV ⟨⟨⟨aj,ak⟩,al,am⟩,⟨ao,aq,ar,ai⟩⟩)) (fun (k,aj,a_w_0,n_w_0,c_w_0,ak,a_w_1,n_w_1,c_w_1,al,a_w_2,n_w_2,c_w_2,am,a_w_3,n_w_3,c_w_3,ao,a_w_4,n_w_4,c_w_4,aq,a_w_5,n_w_5,c_w_5,ar,a_w_6,n_w_6,c_w_6,ai)=>events.length - k) AA ⟨AA,AA,AA,AA,AA,trivial⟩ ⟨Chg.refl _ _,aD,aE,aF,aG,aH,aI,aJ,cq,AB,AF,(by exact WV.new)⟩ ?_
 rintro ⟨k,aj,a_w_0,n_w_0,c_w_0,ak,a_w_1,n_w_1,c_w_1,al,a_w_2,n_w_2,c_w_2,am,a_w_3,n_w_3,c_w_3,ao,a_w_4,n_w_4,c_w_4,aq,a_w_5,n_w_5,c_w_5,ar,a_w_6,n_w_6,c_w_6,ai⟩ dE aL ⟨ay,au,av,ab,ac,ae,af,ag,aw,dF,dG,dH⟩ aX
 have cM:Cov (ins [E]) br E:=⟨.inl AI⟩
 have ba:Mv [E,C] [E,C] br aL:=Mv.inl ay (all_cons AI all_nil) (all_cons (.inl AI) (all_cons (.inl AJ) all_nil))
 replace ⟨h1,aa,J⟩:=(sp ba ay).g3 h1 aa J
 refine .s<|.g<|.bp ((k:Int)< (events.length:Int)) (fun bt=>?_) (fun bt=>?_)
 ·refine .d<|.s<|.ct<|.sk<|.s<|.b 1<|.s<|.g ?_
  have bu:k< events.length:=AB
  refine .ix k 6 h1 bu ?_
  obtain ⟨W,aU⟩:∃ y,events[k]? = some y:=⟨_,AU AB⟩
  have c8:=Ai aU; have cu:=AV aU
  obtain ⟨_,⟨cw,dI,cx,rfl,aM⟩,bv⟩:=h1.elem k W aU
  have bw:=aM.len
  subst bw
  refine .lg 0 bv<|.np 58 [vI 0,vI 0,vI 0,AH,vI 0,vI 0] fun ah dJ aB bc bz bA=>?_
  have da:=AX aB aa.lt
  have db:=AX aB aw.lt
  have de:=J.cn aB
  have df:=ay.cn aB
  replace ⟨aa,aw,au,av,ab,ac,ae,af,ag,aM,J,ay⟩:=(sn [E,C] bc aB).g12 aa aw au av ab ac ae af ag aM J ay
  refine .sc [vI W.kind,vI W.at_,vI W.cut,.slice cw W.name.length cx,vI W.row.t,vI W.row.v] bz fun bd bg bh bB=>?_
  replace ⟨aa,aw,au,av,ab,ac,ae,af,ag,aM,J,ay⟩:=(so [ah,E,C] bg).g12 aa aw au av ab ac ae af ag aM J ay
  refine .d<|.g<|.ln bh<|.cl (Io (⟨(⟨(⟨aj,ak⟩:Idx),al,am⟩:Sto),(⟨ao,aq,ar,ai⟩:Dsk)⟩:Wld) W (RepS.toM au (all_cons AJ all_nil)) (RepS.toM av (all_cons AJ all_nil)) (RepS.toM ab (all_cons AJ all_nil)) (RepS.toM ac (all_cons AJ all_nil)) (RepS.toM ae (all_cons AJ all_nil)) (RepS.toM af (all_cons AJ all_nil)) (RepS.toM ag (all_cons AJ all_nil)) aw (RepS.toM aM (all_cons AJ all_nil)) (by assumption:WV ⟨⟨⟨aj,ak⟩,al,am⟩,⟨ao,aq,ar,ai⟩⟩) (p0 _ ‹_›).1 (w:=bd) (F:=nin (fo F w.heap.size) [ah,E,C])) ?_
  rintro dK az ⟨⟨rfl,cy,dL,cz,cA,dM,cB,cC,dN,cD,cE,dO,cF,cG,dP,cH,cI,dQ,cJ,cK,dR,cL,bC,aN,aO,aP,aQ,aR,aS,aT⟩,aV⟩
  have ax:=al3 bh.lt aw.lt aa.lt
  have aA:Gb w.heap.size bd.heap.size:=J.size
  have bi:Mv [ah,E,C] [ah,E,C] bd az:=Mv.inl aV (all_cons AJ all_nil) (all_cons (.inl AI) (all_cons (.inl AJ) (all_cons (.inl AK) all_nil)))
  replace ⟨aa,au,av,ab,ac,ae,af,ag,J,ay⟩:=(sp bi aV).g10 aa au av ab ac ae af ag J ay
  replace aN:RepS az (nin (fo F w.heap.size) [ah,E,C]) _ _ _ _:=RepS.bxM (M2:=[ah,E,C]) aN ax (fun _ h=>.inr (Nat.le_trans aA h)) (all_cons (.inr AI) (all_cons (.inl AI) (all_cons (.inr AK) all_nil)))
  replace aO:RepS az (nin (fo F w.heap.size) [ah,E,C]) _ _ _ _:=RepS.bxM (M2:=[ah,E,C]) aO ax (fun _ h=>.inr (Nat.le_trans aA h)) (all_cons (.inr AI) (all_cons (.inl AI) (all_cons (.inr AK) all_nil)))
  replace aP:RepS az (nin (fo F w.heap.size) [ah,E,C]) _ _ _ _:=RepS.bxM (M2:=[ah,E,C]) aP ax (fun _ h=>.inr (Nat.le_trans aA h)) (all_cons (.inr AI) (all_cons (.inl AI) (all_cons (.inr AK) all_nil)))
  replace aQ:RepS az (nin (fo F w.heap.size) [ah,E,C]) _ _ _ _:=RepS.bxM (M2:=[ah,E,C]) aQ ax (fun _ h=>.inr (Nat.le_trans aA h)) (all_cons (.inr AI) (all_cons (.inl AI) (all_cons (.inr AK) all_nil)))
  replace aR:RepS az (nin (fo F w.heap.size) [ah,E,C]) _ _ _ _:=RepS.bxM (M2:=[ah,E,C]) aR ax (fun _ h=>.inr (Nat.le_trans aA h)) (all_cons (.inr AI) (all_cons (.inl AI) (all_cons (.inr AK) all_nil)))
  replace aS:RepS az (nin (fo F w.heap.size) [ah,E,C]) _ _ _ _:=RepS.bxM (M2:=[ah,E,C]) aS ax (fun _ h=>.inr (Nat.le_trans aA h)) (all_cons (.inr AI) (all_cons (.inl AI) (all_cons (.inr AK) all_nil)))
  replace aT:RepS az (nin (fo F w.heap.size) [ah,E,C]) _ _ _ _:=RepS.bxM (M2:=[ah,E,C]) aT ax (fun _ h=>.inr (Nat.le_trans aA h)) (all_cons (.inr AI) (all_cons (.inl AI) (all_cons (.inr AK) all_nil)))
  have bD:=aN.len
  subst bD
  have bE:=aO.len
  subst bE
  have bF:=aP.len
  subst bF
  have bG:=aQ.len
  subst bG
  have bH:=aR.len
  subst bH
  have bI:=aS.len
  subst bI
  have bJ:=aT.len
  subst bJ
  refine .d<|.ib 1<|.g<|.it ((k:Int)+1)<|.r 1<|.d ?_
  have bj:Mv [ah,E,C] [E,C] az az:=Mv.less (all_cons AJ (all_cons AK all_nil))
  replace ⟨au,av,ab,ac,ae,af,ag,aN,aO,aP,aQ,aR⟩:=(sp bj (Chg.refl nil _)).g12 au av ab ac ae af ag aN aO aP aQ aR
  replace ⟨aS,aT⟩:=(sp bj (Chg.refl nil _)).g2 aS aT
  exact aX (k+1,((((doW (⟨(⟨(⟨aj,ak⟩:Idx),al,am⟩:Sto),(⟨ao,aq,ar,ai⟩:Dsk)⟩:Wld) W)).store).idx).names,cy,(((((doW (⟨(⟨(⟨aj,ak⟩:Idx),al,am⟩:Sto),(⟨ao,aq,ar,ai⟩:Dsk)⟩:Wld) W)).store).idx).names).length,cz,((((doW (⟨(⟨(⟨aj,ak⟩:Idx),al,am⟩:Sto),(⟨ao,aq,ar,ai⟩:Dsk)⟩:Wld) W)).store).idx).AY,cA,(((((doW (⟨(⟨(⟨aj,ak⟩:Idx),al,am⟩:Sto),(⟨ao,aq,ar,ai⟩:Dsk)⟩:Wld) W)).store).idx).AY).length,cB,(((doW (⟨(⟨(⟨aj,ak⟩:Idx),al,am⟩:Sto),(⟨ao,aq,ar,ai⟩:Dsk)⟩:Wld) W)).store).parts,cC,((((doW (⟨(⟨(⟨aj,ak⟩:Idx),al,am⟩:Sto),(⟨ao,aq,ar,ai⟩:Dsk)⟩:Wld) W)).store).parts).length,cD,(((doW (⟨(⟨(⟨aj,ak⟩:Idx),al,am⟩:Sto),(⟨ao,aq,ar,ai⟩:Dsk)⟩:Wld) W)).store).mem,cE,((((doW (⟨(⟨(⟨aj,ak⟩:Idx),al,am⟩:Sto),(⟨ao,aq,ar,ai⟩:Dsk)⟩:Wld) W)).store).mem).length,cF,(((doW (⟨(⟨(⟨aj,ak⟩:Idx),al,am⟩:Sto),(⟨ao,aq,ar,ai⟩:Dsk)⟩:Wld) W)).disk).files,cG,((((doW (⟨(⟨(⟨aj,ak⟩:Idx),al,am⟩:Sto),(⟨ao,aq,ar,ai⟩:Dsk)⟩:Wld) W)).disk).files).length,cH,(((doW (⟨(⟨(⟨aj,ak⟩:Idx),al,am⟩:Sto),(⟨ao,aq,ar,ai⟩:Dsk)⟩:Wld) W)).disk).list,cI,((((doW (⟨(⟨(⟨aj,ak⟩:Idx),al,am⟩:Sto),(⟨ao,aq,ar,ai⟩:Dsk)⟩:Wld) W)).disk).list).length,cJ,(((doW (⟨(⟨(⟨aj,ak⟩:Idx),al,am⟩:Sto),(⟨ao,aq,ar,ai⟩:Dsk)⟩:Wld) W)).disk).names,cK,((((doW (⟨(⟨(⟨aj,ak⟩:Idx),al,am⟩:Sto),(⟨ao,aq,ar,ai⟩:Dsk)⟩:Wld) W)).disk).names).length,cL,(((doW (⟨(⟨(⟨aj,ak⟩:Idx),al,am⟩:Sto),(⟨ao,aq,ar,ai⟩:Dsk)⟩:Wld) W)).disk).next) _ _ ⟨AA,AA,AA,AA,AA,trivial⟩ ⟨ay,aN,aO,aP,aQ,aR,aS,aT,bC,AB,(by exact MP ‹_› ‹_›),(by exact WV.do ‹_› (p0 _ ‹_›).1)⟩ (by (simp only []; omega))
 refine .d<|.s<|.cf<|.x 0 rfl<|.s<|.g<|.ln aw<|.sc [.slice a_w_0 n_w_0 c_w_0,.slice a_w_1 n_w_1 c_w_1,.slice a_w_2 n_w_2 c_w_2,.slice a_w_3 n_w_3 c_w_3,.slice a_w_4 n_w_4 c_w_4,.slice a_w_5 n_w_5 c_w_5,.slice a_w_6 n_w_6 c_w_6,vI ai] aa fun dS bk bK bL=>?_
 replace ⟨au,av,ab,ac,ae,af,ag,J⟩:=(so [E,C] bk).g8 au av ab ac ae af ag J
 exact .r 1<|.d<|.r2 func16 results16 (.bx bK) (.t (.bool true)) ⟨⟨_,(CJ rfl (AG (by (rw [ID ‹_›])))),(VS.of (y:=(⟨(⟨(⟨aj,ak⟩:Idx),al,am⟩:Sto),(⟨ao,aq,ar,ai⟩:Dsk)⟩:Wld)) ⟨_,rfl,⟨_,_,_,_,_,_,_,_,_,_,_,_,_,_,_,_,_,_,_,_,_,rfl,au.w1,av.w1,ab.w1,ac.w1,ae.w1,af.w1,ag.w1⟩⟩ (by (rw [ID ‹_›]; exact N7 ‹_› AB)))⟩,J⟩
theorem CU (events:List Evt) (h1:RepS w F a1 n1 c1 events) (p0:EsD events):Calls Tryz.prog 17 [.slice a1 n1 c1].toArray w (BB fun rv w'=>(∃ v0,rv=.tuple #[v0,.bool ((Ac events).2)]∧VS (fo F w.heap.size) w' ((Ac events).1:Wld) v0)∧Ext w w'):=by
 refine goT func17 ?_
 obtain ⟨rfl,eE,h1⟩:=h1.tp
 refine .s<|.g<|.np 38 [AH,AH,AH,AH,AH,AH,AH,vI 0] fun ag cC bw bz ai cD=>?_
 have eF:Cov nil w ag:=Bf bw (Nat.le_refl _)
 replace h1:=(sn [] bz bw).g1 h1
 have af:=bz
 refine .r 1<|.d<|.s<|.s<|.g<|.r 2<|.bp ((events.length:Int) > 50) (fun cE=>?_) (fun cE=>?_)
 ·refine .d<|.ct<|.s<|.g<|.r 1<|.sc [AH,AH,AH,AH,AH,AH,AH,vI 0] ai fun fj bH cF cG=>?_
  replace ⟨h1,af⟩:=(so [ag] bH).g2 h1 af
  exact .r 1<|.d<|.r2 func17 results17 (.bx cF) (.t (.bool false)) ⟨⟨_,(CJ rfl (AG (by (rw [Jj ‹_›] <;> rfl)))),(VS.of (y:=(⟨(⟨(⟨([]:List (List Tag)),([]:List Pst)⟩:Idx),([]:List Prt),([]:List Smp)⟩:Sto),(⟨([]:List Fil),([]:List Int),([]:List (List Tag)),0⟩:Dsk)⟩:Wld)) ⟨_,rfl,⟨_,_,_,_,_,_,_,_,_,_,_,_,_,_,_,_,_,_,_,_,_,rfl,(RepS.Aj _ _ none 0 AE),(RepS.Aj _ _ none 0 AE),(RepS.Aj _ _ none 0 AE),(RepS.Aj _ _ none 0 AE),(RepS.Aj _ _ none 0 AE),(RepS.Aj _ _ none 0 AE),(RepS.Aj _ _ none 0 AE)⟩⟩ (by (rw [Jj ‹_›] <;> rfl)))⟩,af⟩
 refine .d<|.cf<|.sk<|.s<|.g<|.cl (FU (w:=cC) (F:=all)) ?_
 rintro fk fm ⟨⟨_,rfl,⟨cH,fp,cI,cJ,fq,cK,cL,ft,cM,cN,fu,cO,cP,fv,cQ,cR,fw,cS,cT,fA,cU,rfl,aO,aP,aQ,aR,aS,aT,aU⟩⟩,bI⟩
 have aN:=al1 ai.lt
 have aV:Gb w.heap.size cC.heap.size:=af.size
 replace ⟨h1,ai,af⟩:=(se [ag] bI).g3 h1 ai af
 have aO:=aO.fr aN aV
 replace aO:=aO.base (G':=fo F w.heap.size) (fun _ _ h=>.inr h)
 have eG:=aO.max
 have aP:=aP.fr aN aV
 replace aP:=aP.base (G':=fo F w.heap.size) (fun _ _ h=>.inr h)
 have eH:=aP.max
 have aQ:=aQ.fr aN aV
 replace aQ:=aQ.base (G':=fo F w.heap.size) (fun _ _ h=>.inr h)
 have eI:=aQ.max
 have aR:=aR.fr aN aV
 replace aR:=aR.base (G':=fo F w.heap.size) (fun _ _ h=>.inr h)
 have eJ:=aR.max
 have aS:=aS.fr aN aV
 replace aS:=aS.base (G':=fo F w.heap.size) (fun _ _ h=>.inr h)
 have eK:=aS.max
 have aT:=aT.fr aN aV
 replace aT:=aT.base (G':=fo F w.heap.size) (fun _ _ h=>.inr h)
 have eL:=aT.max
 have aU:=aU.fr aN aV
 replace aU:=aU.base (G':=fo F w.heap.size) (fun _ _ h=>.inr h)
 have eM:=aU.max
 have cV:=aO.len
 subst cV
 have cW:=aP.len
 subst cW
 have cX:=aQ.len
 subst cX
 have cY:=aR.len
 subst cY
 have cZ:=aS.len
 subst cZ
 have c7:=aT.len
 subst c7
 have c8:=aU.len
 subst c8
 refine .np 38 [AH,AH,AH,AH,AH,AH,AH,vI 0] fun ah fB bt bJ c9 da=>?_
 have eN:=AX bt ai.lt
 have eO:=af.cn bt
 replace ⟨h1,ai,aO,aP,aQ,aR,aS,aT,aU,af⟩:=(sn [ag] bJ bt).g10 h1 ai aO aP aQ aR aS aT aU af
 refine .sc [.slice cH ((((((⟨⟨⟨[],[]⟩,[],[]⟩,⟨[],[],[],1⟩⟩:Wld)).store).idx).names).length) cI,.slice cJ ((((((⟨⟨⟨[],[]⟩,[],[]⟩,⟨[],[],[],1⟩⟩:Wld)).store).idx).AY).length) cK,.slice cL (((((⟨⟨⟨[],[]⟩,[],[]⟩,⟨[],[],[],1⟩⟩:Wld)).store).parts).length) cM,.slice cN (((((⟨⟨⟨[],[]⟩,[],[]⟩,⟨[],[],[],1⟩⟩:Wld)).store).mem).length) cO,.slice cP (((((⟨⟨⟨[],[]⟩,[],[]⟩,⟨[],[],[],1⟩⟩:Wld)).disk).files).length) cQ,.slice cR (((((⟨⟨⟨[],[]⟩,[],[]⟩,⟨[],[],[],1⟩⟩:Wld)).disk).list).length) cS,.slice cT (((((⟨⟨⟨[],[]⟩,[],[]⟩,⟨[],[],[],1⟩⟩:Wld)).disk).names).length) cU,vI ((((⟨⟨⟨[],[]⟩,[],[]⟩,⟨[],[],[],1⟩⟩:Wld)).disk).next)] c9 fun b0 bK db de=>?_
 replace ⟨h1,ai,aO,aP,aQ,aR,aS,aT,aU,af⟩:=(so [ah,ag] bK).g10 h1 ai aO aP aQ aR aS aT aU af
 refine .d<|.s<|.s<|.g<|.r 1<|.d<|.b 0<|T.loop (X:=Nat × (List (List Tag)) × (Option Addr) × Nat × Nat × (List Pst) × (Option Addr) × Nat × Nat × (List Prt) × (Option Addr) × Nat × Nat × (List Smp) × (Option Addr) × Nat × Nat × (List Fil) × (Option Addr) × Nat × Nat × (List Int) × (Option Addr) × Nat × Nat × (List (List Tag)) × (Option Addr) × Nat × Nat × Int) (0,(((((⟨⟨⟨[],[]⟩,[],[]⟩,⟨[],[],[],1⟩⟩:Wld)).store).idx).names:List (List Tag)),cH,(((((⟨⟨⟨[],[]⟩,[],[]⟩,⟨[],[],[],1⟩⟩:Wld)).store).idx).names).length,cI,(((((⟨⟨⟨[],[]⟩,[],[]⟩,⟨[],[],[],1⟩⟩:Wld)).store).idx).AY:List Pst),cJ,(((((⟨⟨⟨[],[]⟩,[],[]⟩,⟨[],[],[],1⟩⟩:Wld)).store).idx).AY).length,cK,((((⟨⟨⟨[],[]⟩,[],[]⟩,⟨[],[],[],1⟩⟩:Wld)).store).parts:List Prt),cL,((((⟨⟨⟨[],[]⟩,[],[]⟩,⟨[],[],[],1⟩⟩:Wld)).store).parts).length,cM,((((⟨⟨⟨[],[]⟩,[],[]⟩,⟨[],[],[],1⟩⟩:Wld)).store).mem:List Smp),cN,((((⟨⟨⟨[],[]⟩,[],[]⟩,⟨[],[],[],1⟩⟩:Wld)).store).mem).length,cO,((((⟨⟨⟨[],[]⟩,[],[]⟩,⟨[],[],[],1⟩⟩:Wld)).disk).files:List Fil),cP,((((⟨⟨⟨[],[]⟩,[],[]⟩,⟨[],[],[],1⟩⟩:Wld)).disk).files).length,cQ,((((⟨⟨⟨[],[]⟩,[],[]⟩,⟨[],[],[],1⟩⟩:Wld)).disk).list:List Int),cR,((((⟨⟨⟨[],[]⟩,[],[]⟩,⟨[],[],[],1⟩⟩:Wld)).disk).list).length,cS,((((⟨⟨⟨[],[]⟩,[],[]⟩,⟨[],[],[],1⟩⟩:Wld)).disk).names:List (List Tag)),cT,((((⟨⟨⟨[],[]⟩,[],[]⟩,⟨[],[],[],1⟩⟩:Wld)).disk).names).length,cU,(((⟨⟨⟨[],[]⟩,[],[]⟩,⟨[],[],[],1⟩⟩:Wld)).disk).next) (fun (i,C,a_w_0,n_w_0,c_w_0,E,a_w_1,n_w_1,c_w_1,J,a_w_2,n_w_2,c_w_2,W,a_w_3,n_w_3,c_w_3,aa,a_w_4,n_w_4,c_w_4,ab,a_w_5,n_w_5,c_w_5,ac,a_w_6,n_w_6,c_w_6,ae)=>[(0,.slice a1 events.length c1),(2,.pointer (some ⟨ag,0,none⟩)),(4,.pointer (some ⟨ah,0,none⟩)),(5,vI (i:Int))]) (fun (i,C,a_w_0,n_w_0,c_w_0,E,a_w_1,n_w_1,c_w_1,J,a_w_2,n_w_2,c_w_2,W,a_w_3,n_w_3,c_w_3,aa,a_w_4,n_w_4,c_w_4,ab,a_w_5,n_w_5,c_w_5,ac,a_w_6,n_w_6,c_w_6,ae) aM=>Chg (ins [ah]) b0 aM∧RepS aM (nin (fo F w.heap.size) [ah,ag]) a_w_0 n_w_0 c_w_0 C∧RepS aM (nin (fo F w.heap.size) [ah,ag]) a_w_1 n_w_1 c_w_1 E∧RepS aM (nin (fo F w.heap.size) [ah,ag]) a_w_2 n_w_2 c_w_2 J∧RepS aM (nin (fo F w.heap.size) [ah,ag]) a_w_3 n_w_3 c_w_3 W∧RepS aM (nin (fo F w.heap.size) [ah,ag]) a_w_4 n_w_4 c_w_4 aa∧RepS aM (nin (fo F w.heap.size) [ah,ag]) a_w_5 n_w_5 c_w_5 ab∧RepS aM (nin (fo F w.heap.size) [ah,ag]) a_w_6 n_w_6 c_w_6 ac∧Box aM ah 38 [.slice a_w_0 n_w_0 c_w_0,.slice a_w_1 n_w_1 c_w_1,.slice a_w_2 n_w_2 c_w_2,.slice a_w_3 n_w_3 c_w_3,.slice a_w_4 n_w_4 c_w_4,.slice a_w_5 n_w_5 c_w_5,.slice a_w_6 n_w_6 c_w_6,vI ae]∧(i≤events.length)∧((events.drop i).foldl doW ⟨⟨⟨C,E⟩,J,W⟩,⟨aa,ab,ac,ae⟩⟩=Gg events)∧(WV ⟨⟨⟨C,E⟩,J,W⟩,⟨aa,ab,ac,ae⟩⟩)) (fun (i,C,a_w_0,n_w_0,c_w_0,E,a_w_1,n_w_1,c_w_1,J,a_w_2,n_w_2,c_w_2,W,a_w_3,n_w_3,c_w_3,aa,a_w_4,n_w_4,c_w_4,ab,a_w_5,n_w_5,c_w_5,ac,a_w_6,n_w_6,c_w_6,ae)=>events.length - i) AA ⟨AA,AA,AA,AA,trivial⟩ ⟨Chg.refl _ _,aO,aP,aQ,aR,aS,aT,aU,db,AB,AF,(by exact WV.new)⟩ ?_
 rintro ⟨i,C,a_w_0,n_w_0,c_w_0,E,a_w_1,n_w_1,c_w_1,J,a_w_2,n_w_2,c_w_2,W,a_w_3,n_w_3,c_w_3,aa,a_w_4,n_w_4,c_w_4,ab,a_w_5,n_w_5,c_w_5,ac,a_w_6,n_w_6,c_w_6,ae⟩ eP aM ⟨aH,aE,aF,au,av,aw,ax,ay,ak,eQ,eR,eS⟩ bv
 have dB:Cov (ins [ah]) b0 ah:=⟨.inl AI⟩
 have bA:Mv [ah,ag] [ah,ag] b0 aM:=Mv.inl aH (all_cons AI all_nil) (all_cons (.inl AI) (all_cons (.inl AJ) all_nil))
 replace ⟨h1,ai,af⟩:=(sp bA aH).g3 h1 ai af
 refine .s<|.s<|.g<|.r 3<|.bp ((i:Int)< (events.length:Int)) (fun b6=>?_) (fun b6=>?_)
 ·refine .d<|.ct<|.sk<|.s<|.b 1<|.gd nil 5 fun eT bB=>?_
  replace ⟨h1,ai,ak,aE,aF,au,av,aw,ax,ay,af,aH⟩:=(se [ah,ag] bB).g12 h1 ai ak aE aF au av aw ax ay af aH
  refine .ln 0 ak id<|.r [1,2] ?_
  have b7:i< events.length:=AB
  refine .ix 3 i 6 h1 b7 ?_
  obtain ⟨aj,bq⟩:∃ y,events[i]? = some y:=⟨_,AU AB⟩
  have dQ:=Ai bq; have df:=AV bq
  obtain ⟨_,⟨eU,eV,eW,rfl,bn⟩,b8⟩:=h1.elem i aj bq
  have b9:=bn.len
  subst b9
  refine .lg 4 0 b8 id<|.d fun bL bC=>?_
  replace ⟨ai,ak,aE,aF,au,av,aw,ax,ay,bn,af,aH⟩:=(se [ah,ag] bC).g12 ai ak aE aF au av aw ax ay bn af aH
  refine .cl (G9 (⟨(⟨(⟨C,E⟩:Idx),J,W⟩:Sto),(⟨aa,ab,ac,ae⟩:Dsk)⟩:Wld) aj aE aF au av aw ax ay bn (by assumption:WV ⟨⟨⟨C,E⟩,J,W⟩,⟨aa,ab,ac,ae⟩⟩).wd.wi (NmD.sz (p0 _ ‹_›).1) (w:=bL) (F:=nin (fo F w.heap.size) [ah,ag])) ?_
  rintro eX eY ⟨⟨_,rfl,⟨bM,eZ,bN,bO,e7,bP,bQ,e8,bR,bS,fa,bT,bU,fb,bV,bW,fc,bX,bY,fd,bZ,rfl,aW,aX,aY,aZ,ba,bc,bd⟩⟩,bD⟩
  have aI:=al2 ak.lt ai.lt
  have aK:Gb w.heap.size bL.heap.size:=af.size
  replace ⟨ai,ak,aE,aF,au,av,aw,ax,ay,af,aH⟩:=(se [ah,ag] bD).g11 ai ak aE aF au av aw ax ay af aH
  replace aW:=RepS.Af (M:=[ah,ag]) aW aI aK
  have dS:=aW.max
  replace aX:=RepS.Af (M:=[ah,ag]) aX aI aK
  have dT:=aX.max
  replace aY:=RepS.Af (M:=[ah,ag]) aY aI aK
  have dU:=aY.max
  replace aZ:=RepS.Af (M:=[ah,ag]) aZ aI aK
  have dV:=aZ.max
  replace ba:=RepS.Af (M:=[ah,ag]) ba aI aK
  have dW:=ba.max
  replace bc:=RepS.Af (M:=[ah,ag]) bc aI aK
  have dX:=bc.max
  replace bd:=RepS.Af (M:=[ah,ag]) bd aI aK
  have dY:=bd.max
  have cd:=aW.len
  subst cd
  have ce:=aX.len
  subst ce
  have cg:=aY.len
  subst cg
  have ci:=aZ.len
  subst ci
  have cj:=ba.len
  subst cj
  have ck:=bc.len
  subst ck
  have cm:=bd.len
  subst cm
  refine .sc [.slice bM (((((doW (⟨(⟨(⟨C,E⟩:Idx),J,W⟩:Sto),(⟨aa,ab,ac,ae⟩:Dsk)⟩:Wld) aj).store).idx).names).length) bN,.slice bO (((((doW (⟨(⟨(⟨C,E⟩:Idx),J,W⟩:Sto),(⟨aa,ab,ac,ae⟩:Dsk)⟩:Wld) aj).store).idx).AY).length) bP,.slice bQ ((((doW (⟨(⟨(⟨C,E⟩:Idx),J,W⟩:Sto),(⟨aa,ab,ac,ae⟩:Dsk)⟩:Wld) aj).store).parts).length) bR,.slice bS ((((doW (⟨(⟨(⟨C,E⟩:Idx),J,W⟩:Sto),(⟨aa,ab,ac,ae⟩:Dsk)⟩:Wld) aj).store).mem).length) bT,.slice bU ((((doW (⟨(⟨(⟨C,E⟩:Idx),J,W⟩:Sto),(⟨aa,ab,ac,ae⟩:Dsk)⟩:Wld) aj).disk).files).length) bV,.slice bW ((((doW (⟨(⟨(⟨C,E⟩:Idx),J,W⟩:Sto),(⟨aa,ab,ac,ae⟩:Dsk)⟩:Wld) aj).disk).list).length) bX,.slice bY ((((doW (⟨(⟨(⟨C,E⟩:Idx),J,W⟩:Sto),(⟨aa,ab,ac,ae⟩:Dsk)⟩:Wld) aj).disk).names).length) bZ,vI (((doW (⟨(⟨(⟨C,E⟩:Idx),J,W⟩:Sto),(⟨aa,ab,ac,ae⟩:Dsk)⟩:Wld) aj).disk).next)] ak fun fe br co cp=>?_
  replace ⟨ai,aE,aF,au,av,aw,ax,ay,aW,aX,aY,aZ⟩:=(so [ah,ag] br).g12 ai aE aF au av aw ax ay aW aX aY aZ
  replace ⟨ba,bc,bd,af,aH⟩:=(so [ah,ag] br).g5 ba bc bd af aH
  exact .d<|.ib 1<|.g<|.r 1<|.it ((i:Int)+1)<|.r 1<|.d<|bv (i+1,(((doW (⟨(⟨(⟨C,E⟩:Idx),J,W⟩:Sto),(⟨aa,ab,ac,ae⟩:Dsk)⟩:Wld) aj).store).idx).names,bM,((((doW (⟨(⟨(⟨C,E⟩:Idx),J,W⟩:Sto),(⟨aa,ab,ac,ae⟩:Dsk)⟩:Wld) aj).store).idx).names).length,bN,(((doW (⟨(⟨(⟨C,E⟩:Idx),J,W⟩:Sto),(⟨aa,ab,ac,ae⟩:Dsk)⟩:Wld) aj).store).idx).AY,bO,((((doW (⟨(⟨(⟨C,E⟩:Idx),J,W⟩:Sto),(⟨aa,ab,ac,ae⟩:Dsk)⟩:Wld) aj).store).idx).AY).length,bP,((doW (⟨(⟨(⟨C,E⟩:Idx),J,W⟩:Sto),(⟨aa,ab,ac,ae⟩:Dsk)⟩:Wld) aj).store).parts,bQ,(((doW (⟨(⟨(⟨C,E⟩:Idx),J,W⟩:Sto),(⟨aa,ab,ac,ae⟩:Dsk)⟩:Wld) aj).store).parts).length,bR,((doW (⟨(⟨(⟨C,E⟩:Idx),J,W⟩:Sto),(⟨aa,ab,ac,ae⟩:Dsk)⟩:Wld) aj).store).mem,bS,(((doW (⟨(⟨(⟨C,E⟩:Idx),J,W⟩:Sto),(⟨aa,ab,ac,ae⟩:Dsk)⟩:Wld) aj).store).mem).length,bT,((doW (⟨(⟨(⟨C,E⟩:Idx),J,W⟩:Sto),(⟨aa,ab,ac,ae⟩:Dsk)⟩:Wld) aj).disk).files,bU,(((doW (⟨(⟨(⟨C,E⟩:Idx),J,W⟩:Sto),(⟨aa,ab,ac,ae⟩:Dsk)⟩:Wld) aj).disk).files).length,bV,((doW (⟨(⟨(⟨C,E⟩:Idx),J,W⟩:Sto),(⟨aa,ab,ac,ae⟩:Dsk)⟩:Wld) aj).disk).list,bW,(((doW (⟨(⟨(⟨C,E⟩:Idx),J,W⟩:Sto),(⟨aa,ab,ac,ae⟩:Dsk)⟩:Wld) aj).disk).list).length,bX,((doW (⟨(⟨(⟨C,E⟩:Idx),J,W⟩:Sto),(⟨aa,ab,ac,ae⟩:Dsk)⟩:Wld) aj).disk).names,bY,(((doW (⟨(⟨(⟨C,E⟩:Idx),J,W⟩:Sto),(⟨aa,ab,ac,ae⟩:Dsk)⟩:Wld) aj).disk).names).length,bZ,((doW (⟨(⟨(⟨C,E⟩:Idx),J,W⟩:Sto),(⟨aa,ab,ac,ae⟩:Dsk)⟩:Wld) aj).disk).next) _ _ ⟨AA,AA,AA,AA,trivial⟩ ⟨aH,aW,aX,aY,aZ,ba,bc,bd,co,AB,(by exact MP ‹_› ‹_›),(by exact WV.do ‹_› (p0 _ ‹_›).1)⟩ (by (simp only []; omega))
 refine .d<|.cf<|.x 0 rfl<|.s<|.g<|.ln ak<|.cl (Fu (⟨(⟨(⟨C,E⟩:Idx),J,W⟩:Sto),(⟨aa,ab,ac,ae⟩:Dsk)⟩:Wld) aE.ta aF.ta au.ta av.ta aw.ta ax.ta ay.ta (by assumption:WV ⟨⟨⟨C,E⟩,J,W⟩,⟨aa,ab,ac,ae⟩⟩).wd.wi (w:=aM) (F:=all)) ?_
 rintro ff bg ⟨⟨dg,fg,dh,dj,fh,dm,dp,fi,dq,aG,dr,dt,aC,du,dv,aB,dw,dx,az,dy,dz,rfl,ao,aq,ar,aD,bi,aA,bj,dZ,am,bk,d0,d3,al,bm,d4,d5,d6⟩,bE⟩
 have aJ:=al2 ak.lt ai.lt
 have aL:Gb w.heap.size aM.heap.size:=af.size
 have d7:=Ah bi ai.lt
 have d8:=Ah bi ak.lt
 have cq:=Bo bi af.size
 have d9:=Ah bj ai.lt
 have ec:=Ah bj ak.lt
 have cr:=Bo bj af.size
 have ed:=Ah bk ai.lt
 have ee:=Ah bk ak.lt
 have cu:=Bo bk af.size
 have ef:=Ah bm ai.lt
 have eg:=Ah bm ak.lt
 have cw:=Bo bm af.size
 replace ⟨ai,af⟩:=(se [] bE).g2 ai af
 replace ao:RepS bg (nin (ge w.heap.size) [aG,aC,aB,az,ah,ag]) _ _ _ _:=RepS.Bc (s0:=w.heap.size) (M:=[ah,ag]) ao aJ aL
 replace ao:=ao.base (G':=fo F w.heap.size) (fun _ _ h=>.inr h)
 have eh:=ao.max
 replace aq:RepS bg (nin (ge w.heap.size) [aG,aC,aB,az,ah,ag]) _ _ _ _:=RepS.Bc (s0:=w.heap.size) (M:=[ah,ag]) aq aJ aL
 replace aq:=aq.base (G':=fo F w.heap.size) (fun _ _ h=>.inr h)
 have ej:=aq.max
 replace ar:RepS bg (nin (ge w.heap.size) [aG,aC,aB,az,ah,ag]) _ _ _ _:=RepS.Bc (s0:=w.heap.size) (M:=[ah,ag]) ar aJ aL
 replace ar:=ar.base (G':=fo F w.heap.size) (fun _ _ h=>.inr h)
 have ek:=ar.max
 replace aD:Own bg aG 85 (nin (ge w.heap.size) [aG,aC,aB,az,ah,ag]) _ _ _:=Own.Bc (s0:=w.heap.size) (M:=[ah,ag]) aD aJ aL
 replace aD:=aD.base (G':=fo F w.heap.size) (fun _ _ h=>.inr h)
 replace aA:Own bg aC 50 (nin (ge w.heap.size) [aG,aC,aB,az,ah,ag]) _ _ _:=Own.Bc (s0:=w.heap.size) (M:=[ah,ag]) aA aJ aL
 replace aA:=aA.base (G':=fo F w.heap.size) (fun _ _ h=>.inr h)
 replace am:Own bg aB 3 (nin (ge w.heap.size) [aG,aC,aB,az,ah,ag]) _ _ _:=Own.Bc (s0:=w.heap.size) (M:=[ah,ag]) am aJ aL
 replace am:=am.base (G':=fo F w.heap.size) (fun _ _ h=>.inr h)
 replace al:Own bg az 43 (nin (ge w.heap.size) [aG,aC,aB,az,ah,ag]) _ _ _:=Own.Bc (s0:=w.heap.size) (M:=[ah,ag]) al aJ aL
 replace al:=al.base (G':=fo F w.heap.size) (fun _ _ h=>.inr h)
 have cx:=ao.len
 subst cx
 have cy:=aq.len
 subst cy
 have cz:=ar.len
 subst cz
 refine .sc [.slice dg ((((((Cd (⟨(⟨(⟨C,E⟩:Idx),J,W⟩:Sto),(⟨aa,ab,ac,ae⟩:Dsk)⟩:Wld))).store).idx).names).length) dh,.slice dj ((((((Cd (⟨(⟨(⟨C,E⟩:Idx),J,W⟩:Sto),(⟨aa,ab,ac,ae⟩:Dsk)⟩:Wld))).store).idx).AY).length) dm,.slice dp (((((Cd (⟨(⟨(⟨C,E⟩:Idx),J,W⟩:Sto),(⟨aa,ab,ac,ae⟩:Dsk)⟩:Wld))).store).parts).length) dq,vS aG dr dt,vS aC du dv,vS aB dw dx,vS az dy dz,vI ((((Cd (⟨(⟨(⟨C,E⟩:Idx),J,W⟩:Sto),(⟨aa,ab,ac,ae⟩:Dsk)⟩:Wld))).disk).next)] ai fun bu bF cA cB=>?_
 replace ⟨ao,aq,ar,aD,aA,am,al,af⟩:=(so [aG,aC,aB,az,ah,ag] bF).g8 ao aq ar aD aA am al af
 refine .r 1<|.d ?_
 have bh:=aD.sl (.inr cq)
 replace ⟨ao,aq,ar,aA,am,al⟩:=(sd bu [aG,aC,aB,az,ah,ag] aG).g6 ao aq ar aA am al
 have bo:=aA.sl (.inr cr)
 replace ⟨ao,aq,ar,bh,am,al⟩:=(sd bu [aC,aB,az,ah,ag] aC).g6 ao aq ar bh am al
 have bG:=am.sl (.inr cu)
 replace ⟨ao,aq,ar,bh,bo,al⟩:=(sd bu [aB,az,ah,ag] aB).g6 ao aq ar bh bo al
 have dA:=al.sl (.inr cw)
 replace ⟨ao,aq,ar,bh,bo,bG⟩:=(sd bu [az,ah,ag] az).g6 ao aq ar bh bo bG
 exact .r2 func17 results17 (.bx cA) (.t (.bool true)) ⟨⟨_,(CJ rfl (AG (by (rw [ID ‹_›])))),(VS.of (y:=(⟨(⟨(⟨((((Cd (⟨(⟨(⟨C,E⟩:Idx),J,W⟩:Sto),(⟨aa,ab,ac,ae⟩:Dsk)⟩:Wld))).store).idx).names,((((Cd (⟨(⟨(⟨C,E⟩:Idx),J,W⟩:Sto),(⟨aa,ab,ac,ae⟩:Dsk)⟩:Wld))).store).idx).AY⟩:Idx),(((Cd (⟨(⟨(⟨C,E⟩:Idx),J,W⟩:Sto),(⟨aa,ab,ac,ae⟩:Dsk)⟩:Wld))).store).parts,(((Cd (⟨(⟨(⟨C,E⟩:Idx),J,W⟩:Sto),(⟨aa,ab,ac,ae⟩:Dsk)⟩:Wld))).store).mem⟩:Sto),(⟨(((Cd (⟨(⟨(⟨C,E⟩:Idx),J,W⟩:Sto),(⟨aa,ab,ac,ae⟩:Dsk)⟩:Wld))).disk).files,(((Cd (⟨(⟨(⟨C,E⟩:Idx),J,W⟩:Sto),(⟨aa,ab,ac,ae⟩:Dsk)⟩:Wld))).disk).list,(((Cd (⟨(⟨(⟨C,E⟩:Idx),J,W⟩:Sto),(⟨aa,ab,ac,ae⟩:Dsk)⟩:Wld))).disk).names,(((Cd (⟨(⟨(⟨C,E⟩:Idx),J,W⟩:Sto),(⟨aa,ab,ac,ae⟩:Dsk)⟩:Wld))).disk).next⟩:Dsk)⟩:Wld)) ⟨_,rfl,⟨_,_,_,_,_,_,_,_,_,_,_,_,_,_,_,_,_,_,_,_,_,rfl,ao.w1,aq.w1,ar.w1,bh.w1,bo.w1,bG.w1,dA.w1⟩⟩ (by (rw [ID ‹_›]; exact (WV.copy (by assumption:WV ⟨⟨⟨C,E⟩,J,W⟩,⟨aa,ab,ac,ae⟩⟩)).trans (N7 ‹_› AB))))⟩,af⟩
theorem CH (a:Wld) (b:Wld) (h1:RepS w F a1 n1 c1 a.store.idx.names) (h2:RepS w F a2 n2 c2 a.store.idx.AY) (h3:RepS w F a3 n3 c3 a.store.parts) (h4:RepS w F a4 n4 c4 a.store.mem) (h5:RepS w F a5 n5 c5 a.disk.files) (h6:RepS w F a6 n6 c6 a.disk.list) (h7:RepS w F a7 n7 c7 a.disk.names) (h8:RepS w F a8 n8 c8 b.store.idx.names) (h9:RepS w F a9 n9 c9 b.store.idx.AY) (h10:RepS w F a10 n10 c10 b.store.parts) (h11:RepS w F a11 n11 c11 b.store.mem) (h12:RepS w F a12 n12 c12 b.disk.files) (h13:RepS w F a13 n13 c13 b.disk.list) (h14:RepS w F a14 n14 c14 b.disk.names)  : Calls Tryz.prog 18 [.agg #[.slice a1 n1 c1,.slice a2 n2 c2,.slice a3 n3 c3,.slice a4 n4 c4,.slice a5 n5 c5,.slice a6 n6 c6,.slice a7 n7 c7,.int .i64 a.disk.next],.agg #[.slice a8 n8 c8,.slice a9 n9 c9,.slice a10 n10 c10,.slice a11 n11 c11,.slice a12 n12 c12,.slice a13 n13 c13,.slice a14 n14 c14,.int .i64 b.disk.next]].toArray w (BB fun rv w'=>rv=.bool ((a==b))∧Ext w w'):=by
 refine goT func18 ?_
 obtain ⟨rfl,am,h1⟩:=h1.tp
 obtain ⟨rfl,ao,h2⟩:=h2.tp
 obtain ⟨rfl,aq,h3⟩:=h3.tp
 obtain ⟨rfl,ar,h4⟩:=h4.tp
 obtain ⟨rfl,au,h5⟩:=h5.tp
 obtain ⟨rfl,av,h6⟩:=h6.tp
 obtain ⟨rfl,aw,h7⟩:=h7.tp
 obtain ⟨rfl,ax,h8⟩:=h8.tp
 obtain ⟨rfl,ay,h9⟩:=h9.tp
 obtain ⟨rfl,az,h10⟩:=h10.tp
 obtain ⟨rfl,aA,h11⟩:=h11.tp
 obtain ⟨rfl,aB,h12⟩:=h12.tp
 obtain ⟨rfl,aC,h13⟩:=h13.tp
 obtain ⟨rfl,aD,h14⟩:=h14.tp
 refine .s<|.g<|.np 38 [.slice a1 a.store.idx.names.length c1,.slice a2 a.store.idx.AY.length c2,.slice a3 a.store.parts.length c3,.slice a4 a.store.mem.length c4,.slice a5 a.disk.files.length c5,.slice a6 a.disk.list.length c6,.slice a7 a.disk.names.length c7,vI a.disk.next] fun ag aF aa J E ah=>?_
 replace ⟨h1,h2,h3,h4,h5,h6,h7,h8,h9,h10,h11,h12⟩:=(sn [] J aa).g12 h1 h2 h3 h4 h5 h6 h7 h8 h9 h10 h11 h12
 replace ⟨h13,h14⟩:=(sn [] J aa).g2 h13 h14
 have C:=J
 refine .np 38 [.slice a8 b.store.idx.names.length c8,.slice a9 b.store.idx.AY.length c9,.slice a10 b.store.parts.length c10,.slice a11 b.store.mem.length c11,.slice a12 b.disk.files.length c12,.slice a13 b.disk.list.length c13,.slice a14 b.disk.names.length c14,vI b.disk.next] fun aj ak ab ac W ai=>?_
 replace ⟨h1,h2,h3,h4,h5,h6,h7,h8,h9,h10,h11,h12⟩:=(sn [ag] ac ab).g12 h1 h2 h3 h4 h5 h6 h7 h8 h9 h10 h11 h12
 replace ⟨h13,h14,E,C⟩:=(sn [ag] ac ab).g4 h13 h14 E C
 refine .r 1<|.d<|.s<|.g<|.r 1<|.ln E<|.r 1<|.ln W<|.cl (JI a.store b.store h1.ta h2.ta h3.ta h4.ta h8.ta h9.ta h10.ta h11.ta (w:=ak) (F:=all)) ?_
 rintro aG al ⟨rfl,ae⟩
 replace ⟨h5,h6,h7,h12,h13,h14,E,W,C⟩:=(se [aj,ag] ae).g9 h5 h6 h7 h12 h13 h14 E W C
 cases aE:(a.store==b.store)
 ·exact .r 8<|.d<|.rt func18 results18 (.bool false) ⟨(AG (by exact TR ‹_›)),C⟩
 refine .r 2<|.ln E<|.r 1<|.ln W<|.cl (J3 a.disk b.disk h5.ta h6.ta h7.ta h12.ta h13.ta h14.ta (w:=al) (F:=all)) ?_
 rintro aH aI ⟨rfl,af⟩
 replace C:=(se [] af).g1 C
 exact .r 2<|.d<|.rt func18 results18 (.bool (a.disk==b.disk)) ⟨(AG (by exact TS ‹_›)),C⟩
theorem Ip  {F:Nat→Prop}{b:Nat}{ad:Option Addr}{cd p:Nat}{D:List UInt8}(hr:Box w b 95 [.slice ad D.length cd,.int .i64 (p:Int)]) (hD:RepS w (nin all [b]) ad D.length cd D) (hp:p+3000≤1000000000)  : Calls Tryz.prog 31 [.pointer (some ⟨b,0,none⟩)].toArray w (BB fun rv w'=>(∃ (es:List Evt),(∃ v0 v1,rv=.tuple #[v0,v1]∧VO 58 w.heap.size w' (es:List Evt) v0∧(∃ (a0:Option Addr) (n0 c0:Nat) (a1:Option Addr) (n1 c1:Nat) (a2:Option Addr) (n2 c2:Nat) (a3:Option Addr) (n3 c3:Nat) (a4:Option Addr) (n4 c4:Nat) (a5:Option Addr) (n5 c5:Nat) (a6:Option Addr) (n6 c6:Nat) (z7:Int),v1=.agg #[.slice a0 n0 c0,.slice a1 n1 c1,.slice a2 n2 c2,.slice a3 n3 c3,.slice a4 n4 c4,.slice a5 n5 c5,.slice a6 n6 c6,.int .i64 z7]))∧(EsD es∧es.length≤46))∧∃ p':Nat,p'≤p+3000∧Box w' b 95 [.slice ad D.length cd,.int .i64 (p':Int)]∧Chg (one b) w w'):=by
 refine goT func31 ?_
 refine .s<|.g<|.r 1<|.np 38 [AH,AH,AH,AH,AH,AH,AH,vI 0] fun J cF bJ bP W dp=>?_
 have fQ:=AX bJ hr.lt
 have fR:Cov (one b) w J:=Bf bJ (Nat.le_refl _)
 replace ⟨hD,hr⟩:=(sn [b] bP bJ).g2 hD hr
 have C:Chg (one b) w cF:=Chg.Cb (Chg.refl (one b) w) bP
 refine .d<|.s<|.g<|.cl (FU (w:=cF) (F:=all)) ?_
 rintro gy gz ⟨⟨_,rfl,⟨dq,gA,dr,dt,gC,du,dv,gD,dw,dx,gE,dy,dz,gF,dA,dB,gG,dC,dD,gH,dE,rfl,aZ,ba,bc,bd,bg,bh,bi⟩⟩,b7⟩
 have bj:=al2 W.lt hr.lt
 have bm:Gb w.heap.size cF.heap.size:=C.size
 replace ⟨hD,hr,W,C⟩:=(se [J,b] b7).g4 hD hr W C
 have aZ:=aZ.fr bj bm
 have fS:=aZ.max
 have ba:=ba.fr bj bm
 have fT:=ba.max
 have bc:=bc.fr bj bm
 have fU:=bc.max
 have bd:=bd.fr bj bm
 have fV:=bd.max
 have bg:=bg.fr bj bm
 have fW:=bg.max
 have bh:=bh.fr bj bm
 have fX:=bh.max
 have bi:=bi.fr bj bm
 have fY:=bi.max
 have dF:=aZ.len
 subst dF
 have dG:=ba.len
 subst dG
 have dH:=bc.len
 subst dH
 have dI:=bd.len
 subst dI
 have dJ:=bg.len
 subst dJ
 have dK:=bh.len
 subst dK
 have dL:=bi.len
 subst dL
 refine .np 38 [AH,AH,AH,AH,AH,AH,AH,vI 0] fun E gI bz b8 dM dN=>?_
 have fZ:=AX bz hr.lt
 have f0:=AX bz W.lt
 have f5:=C.cn bz
 replace ⟨hD,hr,W,aZ,ba,bc,bd,bg,bh,bi,C⟩:=(sn [J,b] b8 bz).g11 hD hr W aZ ba bc bd bg bh bi C
 refine .sc [.slice dq ((((((⟨⟨⟨[],[]⟩,[],[]⟩,⟨[],[],[],1⟩⟩:Wld)).store).idx).names).length) dr,.slice dt ((((((⟨⟨⟨[],[]⟩,[],[]⟩,⟨[],[],[],1⟩⟩:Wld)).store).idx).AY).length) du,.slice dv (((((⟨⟨⟨[],[]⟩,[],[]⟩,⟨[],[],[],1⟩⟩:Wld)).store).parts).length) dw,.slice dx (((((⟨⟨⟨[],[]⟩,[],[]⟩,⟨[],[],[],1⟩⟩:Wld)).store).mem).length) dy,.slice dz (((((⟨⟨⟨[],[]⟩,[],[]⟩,⟨[],[],[],1⟩⟩:Wld)).disk).files).length) dA,.slice dB (((((⟨⟨⟨[],[]⟩,[],[]⟩,⟨[],[],[],1⟩⟩:Wld)).disk).list).length) dC,.slice dD (((((⟨⟨⟨[],[]⟩,[],[]⟩,⟨[],[],[],1⟩⟩:Wld)).disk).names).length) dE,vI ((((⟨⟨⟨[],[]⟩,[],[]⟩,⟨[],[],[],1⟩⟩:Wld)).disk).next)] dM fun gJ b9 bn dO=>?_
 replace ⟨hD,hr,W,aZ,ba,bc,bd,bg,bh,bi,C⟩:=(so [E,J,b] b9).g11 hD hr W aZ ba bc bd bg bh bi C
 refine .d<|.s<|.g<|.ns 0 58 [] fun bo dP bq ce dQ dR=>?_
 have dS:=AX bq hr.lt
 have dT:=AX bq W.lt
 have dU:=AX bq bn.lt
 have dV:=Ae bq C.size
 have dW:=C.cn bq
 replace ⟨hD,hr,W,aZ,ba,bc,bd,bg,bh,bi,bn,C⟩:=(sn [E,J,b] ce bq).g12 hD hr W aZ ba bc bd bg bh bi bn C
 have bA:Own (α:=Evt) dP bo 58 (nin (ge w.heap.size) [bo,E,J,b]) 0 0 []:=Own.Aj dQ
 refine .r 1<|.d<|.s<|.s<|.g<|.r 1<|.cl (BK 46 hr (hD.Bk AL) AB (w:=dP) (F:=all)) ?_
 rintro f6 br ⟨⟨dX,rfl,ek⟩,dY,en,bQ,bR⟩
 replace ⟨hD,W,aZ,ba,bc,bd,bg,bh,bi,bn,bA,C⟩:=(so [bo,E,J,b] bR).g12 hD W aZ ba bc bd bg bh bi bn bA C
 refine .r 1<|.d<|.b 0<|T.loop (X:=(List Evt) × Nat × Nat × Nat × Int × Nat × (List (List Tag)) × (Option Addr) × Nat × Nat × (List Pst) × (Option Addr) × Nat × Nat × (List Prt) × (Option Addr) × Nat × Nat × (List Smp) × (Option Addr) × Nat × Nat × (List Fil) × (Option Addr) × Nat × Nat × (List Int) × (Option Addr) × Nat × Nat × (List (List Tag)) × (Option Addr) × Nat × Nat × Int) (([]:List Evt),bo,0,0,dX,dY,(((((⟨⟨⟨[],[]⟩,[],[]⟩,⟨[],[],[],1⟩⟩:Wld)).store).idx).names:List (List Tag)),dq,(((((⟨⟨⟨[],[]⟩,[],[]⟩,⟨[],[],[],1⟩⟩:Wld)).store).idx).names).length,dr,(((((⟨⟨⟨[],[]⟩,[],[]⟩,⟨[],[],[],1⟩⟩:Wld)).store).idx).AY:List Pst),dt,(((((⟨⟨⟨[],[]⟩,[],[]⟩,⟨[],[],[],1⟩⟩:Wld)).store).idx).AY).length,du,((((⟨⟨⟨[],[]⟩,[],[]⟩,⟨[],[],[],1⟩⟩:Wld)).store).parts:List Prt),dv,((((⟨⟨⟨[],[]⟩,[],[]⟩,⟨[],[],[],1⟩⟩:Wld)).store).parts).length,dw,((((⟨⟨⟨[],[]⟩,[],[]⟩,⟨[],[],[],1⟩⟩:Wld)).store).mem:List Smp),dx,((((⟨⟨⟨[],[]⟩,[],[]⟩,⟨[],[],[],1⟩⟩:Wld)).store).mem).length,dy,((((⟨⟨⟨[],[]⟩,[],[]⟩,⟨[],[],[],1⟩⟩:Wld)).disk).files:List Fil),dz,((((⟨⟨⟨[],[]⟩,[],[]⟩,⟨[],[],[],1⟩⟩:Wld)).disk).files).length,dA,((((⟨⟨⟨[],[]⟩,[],[]⟩,⟨[],[],[],1⟩⟩:Wld)).disk).list:List Int),dB,((((⟨⟨⟨[],[]⟩,[],[]⟩,⟨[],[],[],1⟩⟩:Wld)).disk).list).length,dC,((((⟨⟨⟨[],[]⟩,[],[]⟩,⟨[],[],[],1⟩⟩:Wld)).disk).names:List (List Tag)),dD,((((⟨⟨⟨[],[]⟩,[],[]⟩,⟨[],[],[],1⟩⟩:Wld)).disk).names).length,dE,(((⟨⟨⟨[],[]⟩,[],[]⟩,⟨[],[],[],1⟩⟩:Wld)).disk).next) (fun (events,r_events,n_events,c_events,n,p_,am,a_w_0,n_w_0,c_w_0,ao,a_w_1,n_w_1,c_w_1,aq,a_w_2,n_w_2,c_w_2,ar,a_w_3,n_w_3,c_w_3,au,a_w_4,n_w_4,c_w_4,av,a_w_5,n_w_5,c_w_5,aw,a_w_6,n_w_6,c_w_6,ax)=>[(0,.pointer (some ⟨b,0,none⟩)),(3,.pointer (some ⟨J,0,none⟩)),(4,.pointer (some ⟨E,0,none⟩)),(5,vS r_events n_events c_events),(6,vI n)]) (fun (events,r_events,n_events,c_events,n,p_,am,a_w_0,n_w_0,c_w_0,ao,a_w_1,n_w_1,c_w_1,aq,a_w_2,n_w_2,c_w_2,ar,a_w_3,n_w_3,c_w_3,au,a_w_4,n_w_4,c_w_4,av,a_w_5,n_w_5,c_w_5,aw,a_w_6,n_w_6,c_w_6,ax) aA=>Chg (ins [bo,b,E]) br aA∧Own aA r_events 58 (nin (ge w.heap.size) [r_events,E,J,b]) n_events c_events events∧OrB r_events bo br.heap.size∧RepS aA (nin (ge w.heap.size) [r_events,E,J,b]) a_w_0 n_w_0 c_w_0 am∧RepS aA (nin (ge w.heap.size) [r_events,E,J,b]) a_w_1 n_w_1 c_w_1 ao∧RepS aA (nin (ge w.heap.size) [r_events,E,J,b]) a_w_2 n_w_2 c_w_2 aq∧RepS aA (nin (ge w.heap.size) [r_events,E,J,b]) a_w_3 n_w_3 c_w_3 ar∧RepS aA (nin (ge w.heap.size) [r_events,E,J,b]) a_w_4 n_w_4 c_w_4 au∧RepS aA (nin (ge w.heap.size) [r_events,E,J,b]) a_w_5 n_w_5 c_w_5 av∧RepS aA (nin (ge w.heap.size) [r_events,E,J,b]) a_w_6 n_w_6 c_w_6 aw∧Box aA b 95 [.slice ad D.length cd,vI (p_:Int)]∧Box aA E 38 [.slice a_w_0 n_w_0 c_w_0,.slice a_w_1 n_w_1 c_w_1,.slice a_w_2 n_w_2 c_w_2,.slice a_w_3 n_w_3 c_w_3,.slice a_w_4 n_w_4 c_w_4,.slice a_w_5 n_w_5 c_w_5,.slice a_w_6 n_w_6 c_w_6,vI ax]∧(n≤46)∧((events.length:Int)+n≤46∧0≤n∨n< 0∧events.length≤46)∧((p_:Int)+61 * n≤p+2900∨n< 0)∧(p_≤p+2900)∧(WD ⟨⟨⟨am,ao⟩,aq,ar⟩,⟨au,av,aw,ax⟩⟩)∧(EsD events)) (fun (events,r_events,n_events,c_events,n,p_,am,a_w_0,n_w_0,c_w_0,ao,a_w_1,n_w_1,c_w_1,aq,a_w_2,n_w_2,c_w_2,ar,a_w_3,n_w_3,c_w_3,au,a_w_4,n_w_4,c_w_4,av,a_w_5,n_w_5,c_w_5,aw,a_w_6,n_w_6,c_w_6,ax)=>n.toNat) AA ⟨AA,AA,AA,AA,AA,trivial⟩ ⟨Chg.refl _ _,bA,BU,aZ,ba,bc,bd,bg,bh,bi,bQ,bn,AB,(by (simp; omega)),AB,AB,(by exact WD.new),(by exact EsD.nil)⟩ ?_
 rintro ⟨events,r_events,n_events,c_events,n,p_,am,a_w_0,n_w_0,c_w_0,ao,a_w_1,n_w_1,c_w_1,aq,a_w_2,n_w_2,c_w_2,ar,a_w_3,n_w_3,c_w_3,au,a_w_4,n_w_4,c_w_4,av,a_w_5,n_w_5,c_w_5,aw,a_w_6,n_w_6,c_w_6,ax⟩ f7 aA ⟨al,ak,aF,ac,ae,af,ag,ah,ai,aj,aG,ab,et,ey,ez,eA,eB,eC⟩ bN
 have eD:=Ay aF dS bQ.lt
 have eE:=Ay aF dT W.lt
 have cG:=Ay aF dU bn.lt
 have cH:=Bz aF dV C.size
 have eF:=BA aF dW C.size
 have cI:Cov (ins [bo,b,E]) br bo:=⟨.inl AI⟩
 have eG:Cov (ins [bo,b,E]) br b:=⟨.inl AJ⟩
 have eH:Cov (ins [bo,b,E]) br E:=⟨.inl AK⟩
 have eI:=BA aF cI (Nat.le_refl _)
 have bS:Mv [bo,E,J,b] [r_events,E,J,b] br aA:=Mv.inl al (all_cons AI (all_cons AL (all_cons AJ all_nil))) (all_cons (Bb aF AI) (all_cons (.inl AJ) (all_cons (.inl AK) (all_cons (.inl AL) all_nil))))
 replace ⟨hD,W,C⟩:=(sp bS al).g3 hD W C
 have eJ:=ak.len; have eK:=ak.max
 have eV:=ai.len; have eW:=ai.max
 refine .s<|.s<|.g<|.r 1<|.bp (n > 0) (fun cJ=>?_) (fun cJ=>?_)
 ·refine .d<|.ct<|.sk<|.s<|.b 1<|.s<|.g<|.r 1<|.ln ab<|.cl (Ia (⟨(⟨(⟨am,ao⟩:Idx),aq,ar⟩:Sto),(⟨au,av,aw,ax⟩:Dsk)⟩:Wld) aG (hD.Bk AL) AB (ac.Bk AL) (ae.Bk AL) (af.Bk AL) (ag.Bk AL) (ah.Bk AL) (ai.Bk AL) (aj.Bk AL) (by have q1:WD ⟨⟨⟨am,ao⟩,aq,ar⟩,⟨au,av,aw,ax⟩⟩:=‹_›; have q2:=q1.wi.dsk.nl; dsimp only at q2 ⊢; omega) (w:=aA) (F:=all)) ?_
  rintro f8 f9 ⟨⟨aa,⟨_,rfl,⟨cg,ga,ci,rfl,aD⟩⟩,eZ⟩,dZ,e7,ay,bB⟩
  have bT:=al4 ak.lt ab.lt W.lt aG.lt
  have cK:Gb w.heap.size aA.heap.size:=C.size
  replace ⟨hD,W,ab,ak,ac,ae,af,ag,ah,ai,aj,C⟩:=(so [r_events,E,J,b] bB).g12 hD W ab ak ac ae af ag ah ai aj C
  replace al:=(so [r_events,E,J,b] bB).g1 al
  have aD:=aD.fr bT cK
  have e8:=aD.max
  have cL:=aD.len
  subst cL
  refine .np 58 [vI 0,vI 0,vI 0,AH,vI 0,vI 0] fun az gb aE bC cM cN=>?_
  have fa:=AX aE ay.lt
  have fb:=AX aE W.lt
  have fc:=AX aE ab.lt
  have fd:=AX aE ak.lt
  have fe:=C.cn aE
  have ff:=al.cn aE
  replace ⟨hD,ay,W,ab,ak,ac,ae,af,ag,ah,ai,aj⟩:=(sn [r_events,E,J,b] bC aE).g12 hD ay W ab ak ac ae af ag ah ai aj
  replace ⟨aD,C,al⟩:=(sn [r_events,E,J,b] bC aE).g3 aD C al
  refine .sc [vI aa.kind,vI aa.at_,vI aa.cut,.slice cg aa.name.length ci,vI aa.row.t,vI aa.row.v] cM fun gf bD aH cO=>?_
  replace ⟨hD,ay,W,ab,ak,ac,ae,af,ag,ah,ai,aj⟩:=(so [az,r_events,E,J,b] bD).g12 hD ay W ab ak ac ae af ag ah ai aj
  replace ⟨aD,C,al⟩:=(so [az,r_events,E,J,b] bD).g3 aD C al
  refine .d<|.s<|.g<|.r 1<|.ln aH<|.ns 1 58 [vI aa.kind,vI aa.at_,vI aa.cut,.slice cg aa.name.length ci,vI aa.row.t,vI aa.row.v] fun cj gh aO bE cP cQ=>?_
  have cR:=AX aO ay.lt
  have cS:=AX aO W.lt
  have cT:=AX aO ab.lt
  have bU:=AX aO ak.lt
  have cU:=AX aO aH.lt
  have cV:=Ae aO C.size
  replace ⟨hD,ay,W,ab,ak,ac,ae,af,ag,ah,ai,aj⟩:=(se [az,r_events,E,J,b] bE).g12 hD ay W ab ak ac ae af ag ah ai aj
  replace ⟨aD,aH,C,al⟩:=(se [az,r_events,E,J,b] bE).g4 aD aH C al
  have bO:nin (ge w.heap.size) [az,r_events,E,J,b] cj∧cj≠r_events:=BR cV (all_cons cU (all_cons bU (all_cons cT (all_cons cS (all_cons cR all_nil))))) bU
  refine RG.Ax (T:=23) (ty:=23) (y:=aa) ak cP AA AA ⟨_,_,_,rfl,aD.oi⟩ bO AB fun aC d0 ck aB aR bF=>?_
  have fg:=Ag aR cG ab.lt
  have cW:=CB aR aF al.size
  replace ⟨hD,ay,W,ab,ac,ae,af,ag,ah,ai,aj,aD⟩:=(sa [az,r_events,E,J,b] bF aR).g12 hD ay W ab ac ae af ag ah ai aj aD
  replace ⟨aH,C,al⟩:=(sa [az,r_events,E,J,b] bF aR).g3 aH C al
  replace aB:=aB.rn r_events
  have fh:=aB.len
  refine .r 1<|.d<|.g<|.ln ab<|.ln aH<|.cl (G9 (⟨(⟨(⟨am,ao⟩:Idx),aq,ar⟩:Sto),(⟨au,av,aw,ax⟩:Dsk)⟩:Wld) aa ac ae af ag ah ai aj aD (by assumption:WD _).wi (NmD.sz (by assumption:EvD _).1) (w:=ck) (F:=nin (ge w.heap.size) [az,aC,E,J,b])) ?_
  rintro gi gj ⟨⟨_,rfl,⟨cm,gk,co,cp,gl,cq,cr,gm,cu,cw,gn,cx,cy,gp,cz,cA,gq,cB,cC,gr,cD,rfl,aS,aT,aU,aV,aW,aX,aY⟩⟩,bG⟩
  have aI:=al5 aH.lt aB.lt ab.lt W.lt ay.lt
  have aP:Gb w.heap.size ck.heap.size:=C.size
  replace ⟨hD,ay,W,ab,aB,ac,ae,af,ag,ah,ai,aj⟩:=(se [az,aC,E,J,b] bG).g12 hD ay W ab aB ac ae af ag ah ai aj
  replace ⟨C,al⟩:=(se [az,aC,E,J,b] bG).g2 C al
  replace aS:=RepS.Gl (M:=[az,aC,E,J,b]) aS aI (fun _ h=>Nat.le_trans aP h)
  have fj:=aS.max
  replace aT:=RepS.Gl (M:=[az,aC,E,J,b]) aT aI (fun _ h=>Nat.le_trans aP h)
  have fk:=aT.max
  replace aU:=RepS.Gl (M:=[az,aC,E,J,b]) aU aI (fun _ h=>Nat.le_trans aP h)
  have fm:=aU.max
  replace aV:=RepS.Gl (M:=[az,aC,E,J,b]) aV aI (fun _ h=>Nat.le_trans aP h)
  have fp:=aV.max
  replace aW:=RepS.Gl (M:=[az,aC,E,J,b]) aW aI (fun _ h=>Nat.le_trans aP h)
  have fq:=aW.max
  replace aX:=RepS.Gl (M:=[az,aC,E,J,b]) aX aI (fun _ h=>Nat.le_trans aP h)
  have ft:=aX.max
  replace aY:=RepS.Gl (M:=[az,aC,E,J,b]) aY aI (fun _ h=>Nat.le_trans aP h)
  have fu:=aY.max
  have cX:=aS.len
  subst cX
  have cY:=aT.len
  subst cY
  have cZ:=aU.len
  subst cZ
  have c7:=aV.len
  subst c7
  have c8:=aW.len
  subst c8
  have c9:=aX.len
  subst c9
  have da:=aY.len
  subst da
  refine .sc [.slice cm (((((doW (⟨(⟨(⟨am,ao⟩:Idx),aq,ar⟩:Sto),(⟨au,av,aw,ax⟩:Dsk)⟩:Wld) aa).store).idx).names).length) co,.slice cp (((((doW (⟨(⟨(⟨am,ao⟩:Idx),aq,ar⟩:Sto),(⟨au,av,aw,ax⟩:Dsk)⟩:Wld) aa).store).idx).AY).length) cq,.slice cr ((((doW (⟨(⟨(⟨am,ao⟩:Idx),aq,ar⟩:Sto),(⟨au,av,aw,ax⟩:Dsk)⟩:Wld) aa).store).parts).length) cu,.slice cw ((((doW (⟨(⟨(⟨am,ao⟩:Idx),aq,ar⟩:Sto),(⟨au,av,aw,ax⟩:Dsk)⟩:Wld) aa).store).mem).length) cx,.slice cy ((((doW (⟨(⟨(⟨am,ao⟩:Idx),aq,ar⟩:Sto),(⟨au,av,aw,ax⟩:Dsk)⟩:Wld) aa).disk).files).length) cz,.slice cA ((((doW (⟨(⟨(⟨am,ao⟩:Idx),aq,ar⟩:Sto),(⟨au,av,aw,ax⟩:Dsk)⟩:Wld) aa).disk).list).length) cB,.slice cC ((((doW (⟨(⟨(⟨am,ao⟩:Idx),aq,ar⟩:Sto),(⟨au,av,aw,ax⟩:Dsk)⟩:Wld) aa).disk).names).length) cD,vI (((doW (⟨(⟨(⟨am,ao⟩:Idx),aq,ar⟩:Sto),(⟨au,av,aw,ax⟩:Dsk)⟩:Wld) aa).disk).next)] ab fun cE bH db de=>?_
  replace ⟨hD,ay,W,aB,ac,ae,af,ag,ah,ai,aj,aS⟩:=(so [az,aC,E,J,b] bH).g12 hD ay W aB ac ae af ag ah ai aj aS
  replace ⟨aT,aU,aV,aW,aX,aY,C,al⟩:=(so [az,aC,E,J,b] bH).g8 aT aU aV aW aX aY C al
  refine .d<|.ib 1<|.g<|.r 1<|.it (n - 1)<|.r 1<|.d ?_
  have bV:Mv [az,aC,E,J,b] [aC,E,J,b] cE cE:=Mv.less (all_cons AJ (all_cons AK (all_cons AL (all_cons AM all_nil))))
  replace ⟨hD,aB,ac,ae,af,ag,ah,ai,aj,aS,aT,aU⟩:=(sp bV (Chg.refl nil _)).g12 hD aB ac ae af ag ah ai aj aS aT aU
  replace ⟨aV,aW,aX,aY⟩:=(sp bV (Chg.refl nil _)).g4 aV aW aX aY
  exact bN ((events++[aa]),aC,n_events+1,d0,n - 1,dZ,(((doW (⟨(⟨(⟨am,ao⟩:Idx),aq,ar⟩:Sto),(⟨au,av,aw,ax⟩:Dsk)⟩:Wld) aa).store).idx).names,cm,((((doW (⟨(⟨(⟨am,ao⟩:Idx),aq,ar⟩:Sto),(⟨au,av,aw,ax⟩:Dsk)⟩:Wld) aa).store).idx).names).length,co,(((doW (⟨(⟨(⟨am,ao⟩:Idx),aq,ar⟩:Sto),(⟨au,av,aw,ax⟩:Dsk)⟩:Wld) aa).store).idx).AY,cp,((((doW (⟨(⟨(⟨am,ao⟩:Idx),aq,ar⟩:Sto),(⟨au,av,aw,ax⟩:Dsk)⟩:Wld) aa).store).idx).AY).length,cq,((doW (⟨(⟨(⟨am,ao⟩:Idx),aq,ar⟩:Sto),(⟨au,av,aw,ax⟩:Dsk)⟩:Wld) aa).store).parts,cr,(((doW (⟨(⟨(⟨am,ao⟩:Idx),aq,ar⟩:Sto),(⟨au,av,aw,ax⟩:Dsk)⟩:Wld) aa).store).parts).length,cu,((doW (⟨(⟨(⟨am,ao⟩:Idx),aq,ar⟩:Sto),(⟨au,av,aw,ax⟩:Dsk)⟩:Wld) aa).store).mem,cw,(((doW (⟨(⟨(⟨am,ao⟩:Idx),aq,ar⟩:Sto),(⟨au,av,aw,ax⟩:Dsk)⟩:Wld) aa).store).mem).length,cx,((doW (⟨(⟨(⟨am,ao⟩:Idx),aq,ar⟩:Sto),(⟨au,av,aw,ax⟩:Dsk)⟩:Wld) aa).disk).files,cy,(((doW (⟨(⟨(⟨am,ao⟩:Idx),aq,ar⟩:Sto),(⟨au,av,aw,ax⟩:Dsk)⟩:Wld) aa).disk).files).length,cz,((doW (⟨(⟨(⟨am,ao⟩:Idx),aq,ar⟩:Sto),(⟨au,av,aw,ax⟩:Dsk)⟩:Wld) aa).disk).list,cA,(((doW (⟨(⟨(⟨am,ao⟩:Idx),aq,ar⟩:Sto),(⟨au,av,aw,ax⟩:Dsk)⟩:Wld) aa).disk).list).length,cB,((doW (⟨(⟨(⟨am,ao⟩:Idx),aq,ar⟩:Sto),(⟨au,av,aw,ax⟩:Dsk)⟩:Wld) aa).disk).names,cC,(((doW (⟨(⟨(⟨am,ao⟩:Idx),aq,ar⟩:Sto),(⟨au,av,aw,ax⟩:Dsk)⟩:Wld) aa).disk).names).length,cD,((doW (⟨(⟨(⟨am,ao⟩:Idx),aq,ar⟩:Sto),(⟨au,av,aw,ax⟩:Dsk)⟩:Wld) aa).disk).next) _ _ ⟨AA,AA,AA,AA,AA,trivial⟩ ⟨al,aB,cW,aS,aT,aU,aV,aW,aX,aY,ay,db,AB,AB,AB,AB,(by exact WD.do ‹_› (by assumption:EvD _).1),(by exact EsD.snoc ‹_› ‹_›)⟩ (by (simp only []; omega))
 refine .d<|.cf<|.x 0 rfl<|.s<|.g<|.r 1<|.ln ab<|.cl (Fu (⟨(⟨(⟨am,ao⟩:Idx),aq,ar⟩:Sto),(⟨au,av,aw,ax⟩:Dsk)⟩:Wld) ac.ta ae.ta af.ta ag.ta ah.ta ai.ta aj.ta (by assumption:WD _).wi (w:=aA) (F:=all)) ?_
 rintro gs bk ⟨⟨d3,gt,d4,d5,gu,d6,d7,gv,d8,aJ,d9,ec,aK,ed,ee,aL,ef,eg,aM,eh,ej,rfl,bK,bL,bM,bt,bW,bu,bX,fv,bv,bY,fw,fA,bw,bZ,fB,fC,fD⟩,bI⟩
 have aN:=al4 ak.lt ab.lt W.lt aG.lt
 have aQ:Gb w.heap.size aA.heap.size:=C.size
 have b0:Mv [r_events,E,J,b] [aJ,aK,aL,aM,r_events,E,J,b] aA bk:=Mv.cons (Mv.cons (Mv.cons (Mv.cons (Mv.ext bI) bZ) bY) bX) bW
 replace ⟨hD,aG,W,ak,C⟩:=(sp b0 bI).g5 hD aG W ak C
 replace bK:RepS bk (nin (ge w.heap.size) [aJ,aK,aL,aM,r_events,E,J,b]) _ _ _ _:=RepS.Bc (s0:=w.heap.size) (M:=[r_events,E,J,b]) bK aN aQ
 have fE:=bK.max
 replace bL:RepS bk (nin (ge w.heap.size) [aJ,aK,aL,aM,r_events,E,J,b]) _ _ _ _:=RepS.Bc (s0:=w.heap.size) (M:=[r_events,E,J,b]) bL aN aQ
 have fF:=bL.max
 replace bM:RepS bk (nin (ge w.heap.size) [aJ,aK,aL,aM,r_events,E,J,b]) _ _ _ _:=RepS.Bc (s0:=w.heap.size) (M:=[r_events,E,J,b]) bM aN aQ
 have fG:=bM.max
 replace bt:Own bk aJ 85 (nin (ge w.heap.size) [aJ,aK,aL,aM,r_events,E,J,b]) _ _ _:=Own.Bc (s0:=w.heap.size) (M:=[r_events,E,J,b]) bt aN aQ
 replace bu:Own bk aK 50 (nin (ge w.heap.size) [aJ,aK,aL,aM,r_events,E,J,b]) _ _ _:=Own.Bc (s0:=w.heap.size) (M:=[r_events,E,J,b]) bu aN aQ
 replace bv:Own bk aL 3 (nin (ge w.heap.size) [aJ,aK,aL,aM,r_events,E,J,b]) _ _ _:=Own.Bc (s0:=w.heap.size) (M:=[r_events,E,J,b]) bv aN aQ
 replace bw:Own bk aM 43 (nin (ge w.heap.size) [aJ,aK,aL,aM,r_events,E,J,b]) _ _ _:=Own.Bc (s0:=w.heap.size) (M:=[r_events,E,J,b]) bw aN aQ
 have df:=bK.len
 subst df
 have dg:=bL.len
 subst dg
 have dh:=bM.len
 subst dh
 refine .r 1<|.sc [.slice d3 ((((((Cd (⟨(⟨(⟨am,ao⟩:Idx),aq,ar⟩:Sto),(⟨au,av,aw,ax⟩:Dsk)⟩:Wld))).store).idx).names).length) d4,.slice d5 ((((((Cd (⟨(⟨(⟨am,ao⟩:Idx),aq,ar⟩:Sto),(⟨au,av,aw,ax⟩:Dsk)⟩:Wld))).store).idx).AY).length) d6,.slice d7 (((((Cd (⟨(⟨(⟨am,ao⟩:Idx),aq,ar⟩:Sto),(⟨au,av,aw,ax⟩:Dsk)⟩:Wld))).store).parts).length) d8,vS aJ d9 ec,vS aK ed ee,vS aL ef eg,vS aM eh ej,vI ((((Cd (⟨(⟨(⟨am,ao⟩:Idx),aq,ar⟩:Sto),(⟨au,av,aw,ax⟩:Dsk)⟩:Wld))).disk).next)] W fun gw b6 dj dm=>?_
 replace ⟨hD,aG,ak,C⟩:=(so [aJ,aK,aL,aM,r_events,E,J,b] b6).g4 hD aG ak C
 exact .d<|.r2 func31 results31 (.t (vS r_events n_events c_events)) (.bx dj) ⟨⟨(events:List Evt),⟨_,_,(CJ rfl rfl),(VO.of ak AF cH),⟨_,_,_,_,_,_,_,_,_,_,_,_,_,_,_,_,_,_,_,_,_,_,rfl⟩⟩,(by exact ⟨by assumption,by omega⟩)⟩,p_,by omega,aG,C⟩
theorem C7 (code:List UInt8) (h1:RepS w F a1 n1 c1 code)  : Calls Tryz.prog 15 [.slice a1 n1 c1].toArray w (BB fun rv w'=>(∃ (es:List Evt),VL (fo F w.heap.size) w' (es:List Evt) rv∧(EsD es))∧Ext w w'):=by
 refine goT func15 ?_
 obtain ⟨rfl,b8,h1⟩:=h1.tp
 refine .s<|.g<|.r 1<|.d<|.s<|.g<|.r 1<|.cl (Jz code h1 (w:=w) (F:=nin (fo F w.heap.size) [])) ?_
 rintro cu aL ⟨⟨cw,ac,cx,cy,rfl,aA,ar,J⟩,aB⟩
 have aC:∀ q_∈([]:List Nat),q_< w.heap.size:=all_nil
 have aY:Gb w.heap.size w.heap.size:=(Nat.le_refl _)
 have b9:Cov nil w ac:=BT aA (Nat.le_refl _)
 have C:=aB
 replace J:=RepS.Sg (b:=ac) (M:=[]) J aC aY
 refine .r 1<|.d<|.s<|.g<|.r 1<|.cl (Ip ar (J.Bk AI) AB (w:=aL) (F:=all)) ?_
 rintro cz br ⟨⟨aD,⟨cA,cB,rfl,⟨ae,aZ,ba,rfl,E,aj⟩,⟨bt,bu,bv,bw,bz,bA,bB,bC,bD,bE,bF,bG,bH,bI,bJ,bK,bL,bM,bN,bO,bP,bQ,rfl⟩⟩,cd⟩,cC,ce,ah,au⟩
 have aE:=al1 ar.lt
 have bc:Gb w.heap.size aL.heap.size:=C.size
 have bd:=Ah aj ar.lt
 have aF:=Bo aj C.size
 have bg:Cov nil w ae:=BT aj C.size
 have aG:Mv [ac] [ae,ac] aL br:=Mv.cons (Mv.on au AI) aj
 replace ⟨J,C⟩:=(sp aG au).g2 J C
 replace E:=Own.take (s0:=w.heap.size) (M:=[ac]) E aE bc
 replace E:=E.base (G':=fo F w.heap.size) (fun _ _ h=>.inr h)
 have cg:=E.len
 refine .r 3<|.np 38 [AH,AH,AH,AH,AH,AH,AH,vI 0] fun av cD ak aH bh bi=>?_
 have cj:=AX ak ah.lt
 have bj:=AX ak E.lt
 have ck:=C.cn ak
 replace ⟨J,ah,E,C⟩:=(sn [ae,ac] aH ak).g4 J ah E C
 refine .r 1<|.sc [.slice bt bu bv,.slice bw bz bA,.slice bB bC bD,.slice bE bF bG,.slice bH bI bJ,.slice bK bL bM,.slice bN bO bP,vI bQ] bh fun bR aI ai bk=>?_
 replace ⟨J,ah,E,C⟩:=(so [av,ae,ac] aI).g4 J ah E C
 refine .d<|.s<|.s<|.g<|.r 1<|.cl (BK 40 ah (J.Bk AK) AB (w:=bR) (F:=all)) ?_
 rintro cE aM ⟨⟨bS,rfl,cm⟩,cF,co,al,aJ⟩
 replace ⟨E,ai,C⟩:=(so [av,ae,ac] aJ).g3 E ai C
 refine .eq bS 0 (fun aN=>?_) (fun aN=>?_)
 ·refine .d<|.ct<|.b 0<|T.loop (X:=(List Evt) × Nat × Nat × Nat) ((aD:List Evt),ae,aZ,ba) (fun (events,r_events,n_events,c_events)=>[(4,vS r_events n_events c_events)]) (fun (events,r_events,n_events,c_events) aw=>Chg (ins [ae]) aM aw∧Own aw r_events 58 (nin (fo F w.heap.size) [av,r_events,ac]) n_events c_events events∧OrB r_events ae aM.heap.size∧(EsD events)∧(events.length≤51)) (fun (events,r_events,n_events,c_events)=>52 - events.length) AA ⟨AA,trivial⟩ ⟨Chg.refl _ _,E,BU,(by (have q1:EsD _∧_:=‹_›; exact q1.1)),(by (have q1:EsD _∧_:=‹_›; omega))⟩ ?_
  rintro ⟨events,r_events,n_events,c_events⟩ cp aw ⟨W,aa,ab,bT,bU⟩ ao
  have bV:=Ay ab bd al.lt
  have bW:=Ay ab (Nb.symm bj) ai.lt
  have aO:=Bz ab aF C.size
  have bX:=BA ab bg C.size
  have aP:Cov (ins [ae]) aM ae:=⟨.inl AI⟩
  have bY:=BA ab aP (Nat.le_refl _)
  replace ⟨al,ai,C⟩:=(si W).g3 al ai C
  have bZ:=aa.len
  refine .s<|.s<|.g<|.r 2<|.bp ((n_events:Int)≤50) (fun aQ=>?_) (fun aQ=>?_)
  ·refine .d<|.ct<|.sk<|.b 1<|.g<|.r 2<|.ns 1 58 [vI 4,vI 0,vI 0,AH,vI 0,vI 0] fun aK cq af ax aR aS=>?_
   have aT:=AX af al.lt
   have ay:=AX af aa.lt
   have aU:=AX af ai.lt
   have aV:=Ae af C.size
   replace ⟨aa,C,W⟩:=(se [av,r_events,ac] ax).g3 aa C W
   have aq:nin (fo F w.heap.size) [av,r_events,ac] aK∧aK≠r_events:=BR (.inr aV) (all_cons aU (all_cons ay (all_cons aT all_nil))) ay
   refine RG.Ax (T:=23) (ty:=23) (y:=(⟨4,0,0,([]:List Tag),(⟨0,0⟩:Row)⟩:Evt)) aa aR AA AA ⟨_,_,_,rfl,(RepS.Aj _ _ none 0 AE)⟩ aq AB fun bm bn cr ag am az=>?_
   have aW:=CB am ab W.size
   replace ⟨C,W⟩:=(s1 az).g2 C W
   replace ag:=ag.rn r_events
   have b6:=ag.len
   exact .r 1<|.d<|.ib 1<|ao ((events++[(⟨4,0,0,([]:List Tag),(⟨0,0⟩:Row)⟩:Evt)]),bm,n_events+1,bn) _ _ ⟨AA,trivial⟩ ⟨W,ag,aW,(by exact EsD.snoc ‹_› ⟨NmD.nil,by simp [Ek]⟩),(by (simp; omega))⟩ (by (simp only []; omega))
  refine .d<|.cf<|.x 0 rfl<|.s<|.g<|.r 2<|.d ?_
  have bo:=aa.sl (.inr aO)
  exact .rt func15 results15 (vS r_events n_events c_events) ⟨⟨(events:List Evt),(bo.vl AF (fun _ _ h=>h.1)),‹_›⟩,C⟩
 refine .d<|.cf<|.sk<|.s<|.g<|.r 2<|.d ?_
 have bq:=E.sl (.inr aF)
 exact .rt func15 results15 (vS ae aZ ba) ⟨⟨(aD:List Evt),(bq.vl AF (fun _ _ h=>h.1)),(by (have q1:EsD _∧_:=‹_›; exact q1.1))⟩,C⟩
end Go.Proofs.YtggnnidleedpaaaGreat
namespace Go.Proofs.YtggnnidleedpaaaGreat
theorem pv {es:List Evt}(h:EsD es) (h2:(Ac es).2=true):WV (Ac es).1∧(Ac es).1=Gg es∧es.length≤50:=by
 by_cases hl:(es.length:Int) > 50
 ·rw [Jj hl] at h2; cases h2
 ·rw [ID hl]
  exact ⟨WV.UB h,rfl,by omega⟩
theorem EsD.take {es:List Evt}(h:EsD es) (k:Nat):EsD ((es.take k).drop 0):=fun e he=>h e (List.mem_of_mem_take (List.mem_of_mem_drop he))
end Go.Proofs.YtggnnidleedpaaaGreat
