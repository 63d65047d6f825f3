/- walks; pruned haves; hints pruned; squeezed -/
import Derived.Test.YtckdhcbbgmiccaaGreatWxzW60
open Go.Proofs.Tryz
set_option linter.unusedVariables false
set_option linter.unusedSimpArgs false
namespace Go.Proofs.YtckdhcbbgmiccaaGreat
set_option maxRecDepth 100000
set_option maxHeartbeats 4000000
variable {w:World} {F:Nat→Prop} {a1 a2 a3 a4 a5 a6 a7 a8 a9 a10 a11 a12 a13 a14:Option Addr} {n1 c1 n2 c2 n3 c3 n4 c4 n5 c5 n6 c6 n7 c7 n8 c8 n9 c9 n10 c10 n11 c11 n12 c12 n13 c13 n14 c14:Nat}
theorem EX (w_:Wld){bx:Nat}{ab0:Option Addr}{nb0 cb0:Nat}(hrb0:RepS w (nin F [bx]) ab0 nb0 cb0 w_.store.idx.names){ab1:Option Addr}{nb1 cb1:Nat}(hrb1:RepS w (nin F [bx]) ab1 nb1 cb1 w_.store.idx.AY){ab2:Option Addr}{nb2 cb2:Nat}(hrb2:RepS w (nin F [bx]) ab2 nb2 cb2 w_.store.parts){ab3:Option Addr}{nb3 cb3:Nat}(hrb3:RepS w (nin F [bx]) ab3 nb3 cb3 w_.store.mem){ab4:Option Addr}{nb4 cb4:Nat}(hrb4:RepS w (nin F [bx]) ab4 nb4 cb4 w_.disk.files){ab5:Option Addr}{nb5 cb5:Nat}(hrb5:RepS w (nin F [bx]) ab5 nb5 cb5 w_.disk.list){ab6:Option Addr}{nb6 cb6:Nat}(hrb6:RepS w (nin F [bx]) ab6 nb6 cb6 w_.disk.names) (hbx:Box w bx 38 [.slice ab0 nb0 cb0,.slice ab1 nb1 cb1,.slice ab2 nb2 cb2,.slice ab3 nb3 cb3,.slice ab4 nb4 cb4,.slice ab5 nb5 cb5,.slice ab6 nb6 cb6,.int .i64 w_.disk.next]) (p0:DD w_.disk) (p1:Az w_.disk=true):Calls Tryz.prog 69 [.pointer (some ⟨bx,0,none⟩)].toArray w (Aj fun rv w'=>(rv=.tuple #[]∧(∃ (ao0:Option Addr) (no0 co0:Nat) (ao1:Option Addr) (no1 co1:Nat) (ao2:Option Addr) (no2 co2:Nat) (ao3:Option Addr) (no3 co3:Nat) (ao4:Option Addr) (no4 co4:Nat) (ao5:Option Addr) (no5 co5:Nat) (ao6:Option Addr) (no6 co6:Nat),Box w' bx 38 [.slice ao0 no0 co0,.slice ao1 no1 co1,.slice ao2 no2 co2,.slice ao3 no3 co3,.slice ao4 no4 co4,.slice ao5 no5 co5,.slice ao6 no6 co6,.int .i64 ((((BE w_)).disk).next)]∧RepS w' (nin (fo F w.heap.size) [bx]) ao0 no0 co0 (((((BE w_)).store).idx).names)∧RepS w' (nin (fo F w.heap.size) [bx]) ao1 no1 co1 (((((BE w_)).store).idx).AY)∧RepS w' (nin (fo F w.heap.size) [bx]) ao2 no2 co2 ((((BE w_)).store).parts)∧RepS w' (nin (fo F w.heap.size) [bx]) ao3 no3 co3 ((((BE w_)).store).mem)∧RepS w' (nin (fo F w.heap.size) [bx]) ao4 no4 co4 ((((BE w_)).disk).files)∧RepS w' (nin (fo F w.heap.size) [bx]) ao5 no5 co5 ((((BE w_)).disk).list)∧RepS w' (nin (fo F w.heap.size) [bx]) ao6 no6 co6 ((((BE w_)).disk).names)))∧Chg (ins [bx]) w w'):=by
 cases hrb0.len
 cases hrb1.len
 cases hrb2.len
 cases hrb3.len
 cases hrb4.len
 cases hrb5.len
 cases hrb6.len
 refine goT func69 ?_
 have Z:=(((((((St.i2 F hbx).p1 hrb0).p1 hrb1).p1 hrb2).p1 hrb3).p1 hrb4).p1 hrb5).p1 hrb6
 refine .s<|.g<|.r 4<|RG.Ln 0 Z<|RG.CS (Kx w_.disk (Z.a 2) (Z.a 1) (Z.a 0) p0) Z fun E aa ab ac ae af w Z=>.r 2<|RG.Ss 0 Z fun w Z=>.d<|.g<|.r 4<|RG.Ln 0 Z<|RG.CS (HD (CY w_.disk) (Z.mg 1 0) (Z.mg 1 1) (Z.mg 1 2) (V0 p0)) Z fun ag ah ai aj ak al am ao w Z=>.r 2<|RG.Ss 0 Z fun w Z=>.d<|T.GL func69 results69 ?_
 rw [show (BE w_)=(⟨(⟨(⟨((CB (CY w_.disk)).idx).names,((CB (CY w_.disk)).idx).AY⟩:Idx),(CB (CY w_.disk)).parts,(CB (CY w_.disk)).mem⟩:Sto),(⟨(CY w_.disk).files,(CY w_.disk).list,(CY w_.disk).names,(CY w_.disk).next⟩:Dsk)⟩:Wld) from by exact Xk p0 p1]
 exact ⟨⟨rfl,ag,(((CB (CY w_.disk)).idx).names).length,ah,ai,(((CB (CY w_.disk)).idx).AY).length,aj,ak,((CB (CY w_.disk)).parts).length,al,am,((CB (CY w_.disk)).mem).length,ao,E,(CY w_.disk).files.length,aa,ab,(CY w_.disk).list.length,ac,ae,(CY w_.disk).names.length,af,Z.bc 0,Z.qr (g:=1) [0] 0 (((CB (CY w_.disk)).idx).names) rfl,Z.qr (g:=1) [0] 1 (((CB (CY w_.disk)).idx).AY) rfl,Z.qr (g:=1) [0] 2 ((CB (CY w_.disk)).parts) rfl,Z.qr (g:=1) [0] 3 ((CB (CY w_.disk)).mem) rfl,Z.qr (g:=1) [0] 4 ((CY w_.disk).files) rfl,Z.qr (g:=1) [0] 5 ((CY w_.disk).list) rfl,Z.qr (g:=1) [0] 6 ((CY w_.disk).names) rfl⟩,Z.ch⟩
theorem Cb (w_:Wld) (e:Evt){bx:Nat}{ab0:Option Addr}{nb0 cb0:Nat}(hrb0:RepS w (nin F [bx]) ab0 nb0 cb0 w_.store.idx.names){ab1:Option Addr}{nb1 cb1:Nat}(hrb1:RepS w (nin F [bx]) ab1 nb1 cb1 w_.store.idx.AY){ab2:Option Addr}{nb2 cb2:Nat}(hrb2:RepS w (nin F [bx]) ab2 nb2 cb2 w_.store.parts){ab3:Option Addr}{nb3 cb3:Nat}(hrb3:RepS w (nin F [bx]) ab3 nb3 cb3 w_.store.mem){ab4:Option Addr}{nb4 cb4:Nat}(hrb4:RepS w (nin F [bx]) ab4 nb4 cb4 w_.disk.files){ab5:Option Addr}{nb5 cb5:Nat}(hrb5:RepS w (nin F [bx]) ab5 nb5 cb5 w_.disk.list){ab6:Option Addr}{nb6 cb6:Nat}(hrb6:RepS w (nin F [bx]) ab6 nb6 cb6 w_.disk.names) (hbx:Box w bx 38 [.slice ab0 nb0 cb0,.slice ab1 nb1 cb1,.slice ab2 nb2 cb2,.slice ab3 nb3 cb3,.slice ab4 nb4 cb4,.slice ab5 nb5 cb5,.slice ab6 nb6 cb6,.int .i64 w_.disk.next]) (h1:RepS w (nin F [bx]) a1 n1 c1 e.name) (p0:WV w_) (p1:NmD e.name):Calls Tryz.prog 35 [.pointer (some ⟨bx,0,none⟩),.agg #[.int .i64 e.kind,.int .i64 e.at_,.int .i64 e.cut,.slice a1 n1 c1,.int .i64 e.row.t,.int .i64 e.row.v]].toArray w (Aj fun rv w'=>(rv=.tuple #[]∧(∃ (ao0:Option Addr) (no0 co0:Nat) (ao1:Option Addr) (no1 co1:Nat) (ao2:Option Addr) (no2 co2:Nat) (ao3:Option Addr) (no3 co3:Nat) (ao4:Option Addr) (no4 co4:Nat) (ao5:Option Addr) (no5 co5:Nat) (ao6:Option Addr) (no6 co6:Nat),Box w' bx 38 [.slice ao0 no0 co0,.slice ao1 no1 co1,.slice ao2 no2 co2,.slice ao3 no3 co3,.slice ao4 no4 co4,.slice ao5 no5 co5,.slice ao6 no6 co6,.int .i64 ((((doW w_ e)).disk).next)]∧RepS w' (nin (fo F w.heap.size) [bx]) ao0 no0 co0 (((((doW w_ e)).store).idx).names)∧RepS w' (nin (fo F w.heap.size) [bx]) ao1 no1 co1 (((((doW w_ e)).store).idx).AY)∧RepS w' (nin (fo F w.heap.size) [bx]) ao2 no2 co2 ((((doW w_ e)).store).parts)∧RepS w' (nin (fo F w.heap.size) [bx]) ao3 no3 co3 ((((doW w_ e)).store).mem)∧RepS w' (nin (fo F w.heap.size) [bx]) ao4 no4 co4 ((((doW w_ e)).disk).files)∧RepS w' (nin (fo F w.heap.size) [bx]) ao5 no5 co5 ((((doW w_ e)).disk).list)∧RepS w' (nin (fo F w.heap.size) [bx]) ao6 no6 co6 ((((doW w_ e)).disk).names)))∧Chg (ins [bx]) w w'):=by
 refine goT func35 ?_
 have hcv_bx:Cov (ins [bx]) w bx:=Cov.mkI AI
 obtain rfl:=hrb0.len
 replace hrb0:=hrb0.Jb (s:=w.heap.size)
 obtain rfl:=hrb1.len
 replace hrb1:=hrb1.Jb (s:=w.heap.size)
 obtain rfl:=hrb2.len
 replace hrb2:=hrb2.Jb (s:=w.heap.size)
 obtain rfl:=hrb3.len
 replace hrb3:=hrb3.Jb (s:=w.heap.size)
 obtain rfl:=hrb4.len
 replace hrb4:=hrb4.Jb (s:=w.heap.size)
 obtain rfl:=hrb5.len
 replace hrb5:=hrb5.Jb (s:=w.heap.size)
 obtain rfl:=hrb6.len
 replace hrb6:=hrb6.Jb (s:=w.heap.size)
 obtain rfl:=h1.len
 replace h1:=h1.Jb (s:=w.heap.size)
 refine .s<|.g<|.np 46 [vI e.kind,vI e.at_,vI e.cut,.slice a1 e.name.length c1,vI e.row.t,vI e.row.v] fun ae iK d8 d9 aa gK=>?_
 have j5:=Ab d8 hbx.lt
 replace ⟨hrb0,hrb1,hrb2,hrb3,hrb4,hrb5,hrb6,hbx,h1⟩:=(sn [bx] d9 d8).g9 hrb0 hrb1 hrb2 hrb3 hrb4 hrb5 hrb6 hbx h1
 have E:Chg (ins [bx]) w iK:=Chg.GP (Chg.refl (ins [bx]) w) d9
 refine .d<|.s<|.g<|.ns 0 115 [] fun ac iL dI eK gL gM=>?_
 have eL:=Ab dI hbx.lt
 have ec:=Ab dI aa.lt
 replace ⟨hrb0,hrb1,hrb2,hrb3,hrb4,hrb5,hrb6,hbx,h1,aa,E⟩:=(sn [ae,bx] eK dI).g11 hrb0 hrb1 hrb2 hrb3 hrb4 hrb5 hrb6 hbx h1 aa E
 have ab:Own (α:=Stp) iL ac 115 (nin (fo F w.heap.size) [ac,ae,bx]) 0 0 []:=Own.BO gL
 refine .r 1<|.d<|.s<|.g<|.r 3<|.ln hbx<|.np 32 [AH,AH,AH,AH] fun af l7 bE eM gN gO=>?_
 have gP:=Ab bE hbx.lt
 have gQ:=Ab bE aa.lt
 have j6:=Ab bE ab.lt
 have j7:=E.cn bE
 replace ⟨hrb0,hrb1,hrb2,hrb3,hrb4,hrb5,hrb6,hbx,h1,aa,ab,E⟩:=(sn [ac,ae,bx] eM bE).g12 hrb0 hrb1 hrb2 hrb3 hrb4 hrb5 hrb6 hbx h1 aa ab E
 refine .sc [.slice ab0 w_.store.idx.names.length cb0,.slice ab1 w_.store.idx.AY.length cb1,.slice ab2 w_.store.parts.length cb2,.slice ab3 w_.store.mem.length cb3] gN fun bD eN ag gR=>?_
 replace ⟨hrb0,hrb1,hrb2,hrb3,hrb4,hrb5,hrb6,hbx,h1,aa,ab,E⟩:=(so [af,ac,ae,bx] eN).g12 hrb0 hrb1 hrb2 hrb3 hrb4 hrb5 hrb6 hbx h1 aa ab E
 refine .d<|.s<|.s<|.g<|.r 1<|.lb aa<|.d<|.b 0<|.s<|.g<|.eq e.kind 1 (fun gS=>?_) (fun gS=>?_)
 ·refine .r 1<|.d<|.ct<|.s ?_
  replace hrb0:=hrb0.Bd
  replace hrb1:=hrb1.Bd
  replace hrb2:=hrb2.Bd
  replace hrb3:=hrb3.Bd
  replace hrb4:=hrb4.Bd
  replace hrb5:=hrb5.Bd
  replace hrb6:=hrb6.Bd
  replace h1:=h1.Bd
  have gT:Gb (bx+1) bD.heap.size:=hbx.lt
  have eO:Gb (ae+1) bD.heap.size:=aa.lt
  refine .gd (mtb [ac] bD.heap.size) 14 fun iM dJ=>?_
  replace ⟨hrb0,hrb1,hrb2,hrb3,hrb4,hrb5,hrb6,hbx,h1,aa,ab,ag⟩:=(se [af,ac,ae,bx] dJ).g12 hrb0 hrb1 hrb2 hrb3 hrb4 hrb5 hrb6 hbx h1 aa ab ag
  replace E:=(se [af,ac,ae,bx] dJ).g1 E
  have ah:Chg (mtb [ac] bD.heap.size) bD iM:=Chg.GP (Chg.refl (mtb [ac] bD.heap.size) bD) dJ
  refine .r [0,1,2]<|.ln 3 hbx (CP (all_cons (Nb.symm eL) all_nil) gT)<|.r [4]<|.lb 5 aa (CP (all_cons (Nb.symm ec) all_nil) eO)<|.r [6]<|.ln 7 aa (CP (all_cons (Nb.symm ec) all_nil) eO)<|.tw 8 12 ?_ ?_
  ·refine .cl (fun eS bi=>FC w_.store e.name e.row ((hrb0.base (fun _ _ h=>h.1)).ext bi) ((hrb1.base (fun _ _ h=>h.1)).ext bi) ((hrb2.base (fun _ _ h=>h.1)).ext bi) ((hrb3.base (fun _ _ h=>h.1)).ext bi) ((h1.base (fun _ _ h=>h.1)).ext bi) p0.sd p1 (w:=eS) (F:=nin (fo F w.heap.size) [af,ac,ae,bx])) ?_
   intro eS bi
   replace ⟨hrb0,hrb1,hrb2,hrb3,hrb4,hrb5,hrb6,hbx,h1,aa,ab,ag⟩:=(se [af,ac,ae,bx] bi).g12 hrb0 hrb1 hrb2 hrb3 hrb4 hrb5 hrb6 hbx h1 aa ab ag
   replace ⟨E,ah⟩:=(se [af,ac,ae,bx] bi).g2 E ah
   rintro l8 l9 ⟨⟨mh,rfl,⟨_,rfl,⟨cG,mj,cH,cI,ml,cJ,cK,mp,cL,cM,mq,cN,rfl,aF,aG,aH,aI⟩⟩⟩,dK⟩
   have bW:=al4 ag.lt ab.lt aa.lt hbx.lt
   have dL:Gb w.heap.size eS.heap.size:=E.size
   have hkeep_:=dK
   replace ⟨hrb0,hrb1,hrb2,hrb3,hrb4,hrb5,hrb6,hbx,h1,aa,ab,ag⟩:=(se [af,ac,ae,bx] dK).g12 hrb0 hrb1 hrb2 hrb3 hrb4 hrb5 hrb6 hbx h1 aa ab ag
   replace ⟨E,ah⟩:=(se [af,ac,ae,bx] dK).g2 E ah
   refine ⟨Ext.chg hkeep_,?_⟩
   replace aF:=RepS.CG (M:=[af,ac,ae,bx]) aF bW dL
   have j8:=aF.max
   replace aG:=RepS.CG (M:=[af,ac,ae,bx]) aG bW dL
   have j9:=aG.max
   replace aH:=RepS.CG (M:=[af,ac,ae,bx]) aH bW dL
   have ka:=aH.max
   replace aI:=RepS.CG (M:=[af,ac,ae,bx]) aI bW dL
   have iN:=aI.max
   have eT:=aF.len
   subst eT
   have eU:=aG.len
   subst eU
   have eV:=aH.len
   subst eV
   have eW:=aI.len
   subst eW
   refine .r [9,10] ?_
   cases iO:(BS w_.store e.name e.row).2
   ·refine .r [11]<|.go 12<|.nw (fun b=>.pointer (some ⟨b,0,none⟩)) 32 [AH,AH,AH,AH] fun kb cO=>?_
    replace ⟨hrb0,hrb1,hrb2,hrb3,hrb4,hrb5,hrb6,hbx,h1,aa,ab,ag⟩:=(se [af,ac,ae,bx] cO).g12 hrb0 hrb1 hrb2 hrb3 hrb4 hrb5 hrb6 hbx h1 aa ab ag
    replace ⟨aF,aG,aH,aI,E,ah⟩:=(se [af,ac,ae,bx] cO).g6 aF aG aH aI E ah
    intro bF kd aP cP eX eY
    have iP:=Ab aP hbx.lt
    have iQ:=Ab aP aa.lt
    have iR:=Ab aP ab.lt
    have iS:=Ab aP ag.lt
    have iT:=E.cn aP
    have eZ:=ah.cn aP
    replace ⟨hrb0,hrb1,hrb2,hrb3,hrb4,hrb5,hrb6,hbx,h1,aa,ab,ag⟩:=(sn [af,ac,ae,bx] cP aP).g12 hrb0 hrb1 hrb2 hrb3 hrb4 hrb5 hrb6 hbx h1 aa ab ag
    replace ⟨aF,aG,aH,aI,E,ah⟩:=(sn [af,ac,ae,bx] cP aP).g6 aF aG aH aI E ah
    refine .go 13<|GE.D4 (t':=32) (o:=0) (v:=.agg #[.slice cG ((BS w_.store e.name e.row).1.idx.names.length) cH,.slice cI ((((BS w_.store e.name e.row).1.idx).AY).length) cJ,.slice cK ((BS w_.store e.name e.row).1.parts.length) cL,.slice cM ((BS w_.store e.name e.row).1.mem.length) cN]) [.slice cG ((BS w_.store e.name e.row).1.idx.names.length) cH,.slice cI ((((BS w_.store e.name e.row).1.idx).AY).length) cJ,.slice cK ((BS w_.store e.name e.row).1.parts.length) cL,.slice cM ((BS w_.store e.name e.row).1.mem.length) cN] eX AA AA AA fun ke cQ=>?_
    replace ⟨hrb0,hrb1,hrb2,hrb3,hrb4,hrb5,hrb6,hbx,h1,aa,ab,ag⟩:=(se [bF,af,ac,ae,bx] cQ).g12 hrb0 hrb1 hrb2 hrb3 hrb4 hrb5 hrb6 hbx h1 aa ab ag
    replace ⟨aF,aG,aH,aI,E,ah⟩:=(se [bF,af,ac,ae,bx] cQ).g6 aF aG aH aI E ah
    intro kf bG iU e7
    have hkeep_:=Chg.toS bG (Cov.toS eZ)
    replace ⟨hrb0,hrb1,hrb2,hrb3,hrb4,hrb5,hrb6,hbx,h1,aa,ab,ag⟩:=(so [bF,af,ac,ae,bx] bG).g12 hrb0 hrb1 hrb2 hrb3 hrb4 hrb5 hrb6 hbx h1 aa ab ag
    replace ⟨aF,aG,aH,aI,E,ah⟩:=(so [bF,af,ac,ae,bx] bG).g6 aF aG aH aI E ah
    refine ⟨hkeep_,?_⟩
    refine .d fun kg cR=>?_
    replace ⟨hrb0,hrb1,hrb2,hrb3,hrb4,hrb5,hrb6,hbx,h1,aa,ab,ag⟩:=(se [bF,af,ac,ae,bx] cR).g12 hrb0 hrb1 hrb2 hrb3 hrb4 hrb5 hrb6 hbx h1 aa ab ag
    replace ⟨aF,aG,aH,aI,E,ah⟩:=(se [bF,af,ac,ae,bx] cR).g6 aF aG aH aI E ah
    replace hrb0:=hrb0.Ax
    replace hrb1:=hrb1.Ax
    replace hrb2:=hrb2.Ax
    replace hrb3:=hrb3.Ax
    replace hrb4:=hrb4.Ax
    replace hrb5:=hrb5.Ax
    replace hrb6:=hrb6.Ax
    replace h1:=h1.Ax
    refine .r 1<|.d<|.s<|.g<|.r 1<|.d<|.cf<|.sk<|.ib 0<|.s<|.s<|.g<|.r 8<|.d<|.ct<|T.LI AA func35 results35 ?_
    rw [show (doW w_ e)=w_ from by exact US p0 (by with_reducible assumption) (by with_reducible assumption)]
    exact ⟨⟨rfl,ab0,w_.store.idx.names.length,cb0,ab1,w_.store.idx.AY.length,cb1,ab2,w_.store.parts.length,cb2,ab3,w_.store.mem.length,cb3,ab4,w_.disk.files.length,cb4,ab5,w_.disk.list.length,cb5,ab6,w_.disk.names.length,cb6,hbx,(RepS.Ai hrb0 (all_cons AM all_nil)),(RepS.Ai hrb1 (all_cons AM all_nil)),(RepS.Ai hrb2 (all_cons AM all_nil)),(RepS.Ai hrb3 (all_cons AM all_nil)),(RepS.Ai hrb4 (all_cons AM all_nil)),(RepS.Ai hrb5 (all_cons AM all_nil)),(RepS.Ai hrb6 (all_cons AM all_nil))⟩,E⟩
   refine .r [11]<|.go 12<|.nw (fun b=>.pointer (some ⟨b,0,none⟩)) 32 [AH,AH,AH,AH] fun kh cS=>?_
   replace ⟨hrb0,hrb1,hrb2,hrb3,hrb4,hrb5,hrb6,hbx,h1,aa,ab,ag⟩:=(se [af,ac,ae,bx] cS).g12 hrb0 hrb1 hrb2 hrb3 hrb4 hrb5 hrb6 hbx h1 aa ab ag
   replace ⟨aF,aG,aH,aI,E,ah⟩:=(se [af,ac,ae,bx] cS).g6 aF aG aH aI E ah
   intro bj ki aQ cT e8 fa
   have iV:=Ab aQ hbx.lt
   have iW:=Ab aQ aa.lt
   have iX:=Ab aQ ab.lt
   have iY:=Ab aQ ag.lt
   have iZ:=E.cn aQ
   have fb:=ah.cn aQ
   replace ⟨hrb0,hrb1,hrb2,hrb3,hrb4,hrb5,hrb6,hbx,h1,aa,ab,ag⟩:=(sn [af,ac,ae,bx] cT aQ).g12 hrb0 hrb1 hrb2 hrb3 hrb4 hrb5 hrb6 hbx h1 aa ab ag
   replace ⟨aF,aG,aH,aI,E,ah⟩:=(sn [af,ac,ae,bx] cT aQ).g6 aF aG aH aI E ah
   refine .go 13<|GE.D4 (t':=32) (o:=0) (v:=.agg #[.slice cG ((BS w_.store e.name e.row).1.idx.names.length) cH,.slice cI ((((BS w_.store e.name e.row).1.idx).AY).length) cJ,.slice cK ((BS w_.store e.name e.row).1.parts.length) cL,.slice cM ((BS w_.store e.name e.row).1.mem.length) cN]) [.slice cG ((BS w_.store e.name e.row).1.idx.names.length) cH,.slice cI ((((BS w_.store e.name e.row).1.idx).AY).length) cJ,.slice cK ((BS w_.store e.name e.row).1.parts.length) cL,.slice cM ((BS w_.store e.name e.row).1.mem.length) cN] e8 AA AA AA fun kj cU=>?_
   replace ⟨hrb0,hrb1,hrb2,hrb3,hrb4,hrb5,hrb6,hbx,h1,aa,ab,ag⟩:=(se [bj,af,ac,ae,bx] cU).g12 hrb0 hrb1 hrb2 hrb3 hrb4 hrb5 hrb6 hbx h1 aa ab ag
   replace ⟨aF,aG,aH,aI,E,ah⟩:=(se [bj,af,ac,ae,bx] cU).g6 aF aG aH aI E ah
   intro kk bH cV fd
   have hkeep_:=Chg.toS bH (Cov.toS fb)
   replace ⟨hrb0,hrb1,hrb2,hrb3,hrb4,hrb5,hrb6,hbx,h1,aa,ab,ag⟩:=(so [bj,af,ac,ae,bx] bH).g12 hrb0 hrb1 hrb2 hrb3 hrb4 hrb5 hrb6 hbx h1 aa ab ag
   replace ⟨aF,aG,aH,aI,E,ah⟩:=(so [bj,af,ac,ae,bx] bH).g6 aF aG aH aI E ah
   refine ⟨hkeep_,?_⟩
   refine .d fun kl cW=>?_
   replace ⟨hrb0,hrb1,hrb2,hrb3,hrb4,hrb5,hrb6,hbx,h1,aa,ab,ag⟩:=(se [bj,af,ac,ae,bx] cW).g12 hrb0 hrb1 hrb2 hrb3 hrb4 hrb5 hrb6 hbx h1 aa ab ag
   replace ⟨aF,aG,aH,aI,cV,E,ah⟩:=(se [bj,af,ac,ae,bx] cW).g7 aF aG aH aI cV E ah
   replace hrb0:=hrb0.Ax
   replace hrb1:=hrb1.Ax
   replace hrb2:=hrb2.Ax
   replace hrb3:=hrb3.Ax
   replace hrb4:=hrb4.Ax
   replace hrb5:=hrb5.Ax
   replace hrb6:=hrb6.Ax
   replace h1:=h1.Ax
   refine .r 1<|.d<|.s<|.g<|.r 1<|.d<|.ct<|.g<|.r 1<|.ln cV<|.r 2<|.sb 0 (.agg #[.slice cG ((BS w_.store e.name e.row).1.idx.names.length) cH,.slice cI ((((BS w_.store e.name e.row).1.idx).AY).length) cJ,.slice cK ((BS w_.store e.name e.row).1.parts.length) cL,.slice cM ((BS w_.store e.name e.row).1.mem.length) cN]) [.slice cG ((BS w_.store e.name e.row).1.idx.names.length) cH,.slice cI ((((BS w_.store e.name e.row).1.idx).AY).length) cJ,.slice cK ((BS w_.store e.name e.row).1.parts.length) cL,.slice cM ((BS w_.store e.name e.row).1.mem.length) cN,.slice ab4 w_.disk.files.length cb4,.slice ab5 w_.disk.list.length cb5,.slice ab6 w_.disk.names.length cb6,vI w_.disk.next] hbx fun km cX fe ff=>?_
   replace ⟨hrb0,hrb1,hrb2,hrb3,hrb4,hrb5,hrb6,h1,aa,ab,ag,aF⟩:=(so [bj,af,ac,ae,bx] cX).g12 hrb0 hrb1 hrb2 hrb3 hrb4 hrb5 hrb6 h1 aa ab ag aF
   replace ⟨aG,aH,aI,E⟩:=(so [bj,af,ac,ae,bx] cX).g4 aG aH aI E
   refine .d<|.ib 0<|.s<|.s<|.g<|.r 8<|.d<|.ct<|T.LI AA func35 results35 ?_
   rw [show (doW w_ e)=(⟨(⟨(⟨(BS w_.store e.name e.row).1.idx.names,((BS w_.store e.name e.row).1.idx).AY⟩:Idx),(BS w_.store e.name e.row).1.parts,(BS w_.store e.name e.row).1.mem⟩:Sto),(⟨w_.disk.files,w_.disk.list,w_.disk.names,w_.disk.next⟩:Dsk)⟩:Wld) from by exact do_1 p0 (by with_reducible assumption) (by with_reducible assumption)]
   exact ⟨⟨rfl,cG,(BS w_.store e.name e.row).1.idx.names.length,cH,cI,(((BS w_.store e.name e.row).1.idx).AY).length,cJ,cK,(BS w_.store e.name e.row).1.parts.length,cL,cM,(BS w_.store e.name e.row).1.mem.length,cN,ab4,w_.disk.files.length,cb4,ab5,w_.disk.list.length,cb5,ab6,w_.disk.names.length,cb6,fe,(RepS.Ai aF (all_cons AM all_nil)),(RepS.Ai aG (all_cons AM all_nil)),(RepS.Ai aH (all_cons AM all_nil)),(RepS.Ai aI (all_cons AM all_nil)),(RepS.Ai hrb4 (all_cons AM all_nil)),(RepS.Ai hrb5 (all_cons AM all_nil)),(RepS.Ai hrb6 (all_cons AM all_nil))⟩,E⟩
  refine .nw (fun b=>.pointer (some ⟨b,0,none⟩)) 32 [AH,AH,AH,AH] fun ko cY=>?_
  replace ⟨hrb0,hrb1,hrb2,hrb3,hrb4,hrb5,hrb6,hbx,h1,aa,ab,ag⟩:=(se [af,ac,ae,bx] cY).g12 hrb0 hrb1 hrb2 hrb3 hrb4 hrb5 hrb6 hbx h1 aa ab ag
  replace ⟨E,ah⟩:=(se [af,ac,ae,bx] cY).g2 E ah
  intro ao kr aR cZ aS fg
  have ja:=Ab aR hbx.lt
  have jb:=Ab aR aa.lt
  have jc:=Ab aR ab.lt
  have jd:=Ab aR ag.lt
  have je:=E.cn aR
  have ee:=ah.cn aR
  replace ⟨hrb0,hrb1,hrb2,hrb3,hrb4,hrb5,hrb6,hbx,h1,aa,ab,ag⟩:=(sn [af,ac,ae,bx] cZ aR).g12 hrb0 hrb1 hrb2 hrb3 hrb4 hrb5 hrb6 hbx h1 aa ab ag
  replace E:=(sn [af,ac,ae,bx] cZ aR).g1 E
  refine .go 8<|.cl (fun eg aU=>FC w_.store e.name e.row ((hrb0.base (fun _ _ h=>h.1)).ext aU) ((hrb1.base (fun _ _ h=>h.1)).ext aU) ((hrb2.base (fun _ _ h=>h.1)).ext aU) ((hrb3.base (fun _ _ h=>h.1)).ext aU) ((h1.base (fun _ _ h=>h.1)).ext aU) p0.sd p1 (w:=eg) (F:=nin (fo F w.heap.size) [ao,af,ac,ae,bx])) ?_
  intro eg aU
  replace ⟨hrb0,hrb1,hrb2,hrb3,hrb4,hrb5,hrb6,hbx,aa,ab,ag,aS⟩:=(se [ao,af,ac,ae,bx] aU).g12 hrb0 hrb1 hrb2 hrb3 hrb4 hrb5 hrb6 hbx aa ab ag aS
  replace E:=(se [ao,af,ac,ae,bx] aU).g1 E
  rintro ku kv ⟨⟨kw,rfl,⟨_,rfl,⟨bo,kx,bq,br,ky,bt,bu,kz,bv,bw,kA,bz,rfl,aB,aC,aD,aE⟩⟩⟩,bI⟩
  have bA:=al5 aS.lt ag.lt ab.lt aa.lt hbx.lt
  have bJ:Gb w.heap.size eg.heap.size:=E.size
  have hkeep_:=bI
  replace ⟨hrb0,hrb1,hrb2,hrb3,hrb4,hrb5,hrb6,hbx,aa,ab,ag,aS⟩:=(se [ao,af,ac,ae,bx] bI).g12 hrb0 hrb1 hrb2 hrb3 hrb4 hrb5 hrb6 hbx aa ab ag aS
  replace E:=(se [ao,af,ac,ae,bx] bI).g1 E
  refine ⟨Ext.chg hkeep_,?_⟩
  replace aB:=RepS.CG (M:=[ao,af,ac,ae,bx]) aB bA bJ
  have jf:=aB.max
  replace aC:=RepS.CG (M:=[ao,af,ac,ae,bx]) aC bA bJ
  have jg:=aC.max
  replace aD:=RepS.CG (M:=[ao,af,ac,ae,bx]) aD bA bJ
  have jh:=aD.max
  replace aE:=RepS.CG (M:=[ao,af,ac,ae,bx]) aE bA bJ
  have ji:=aE.max
  have fi:=aB.len
  subst fi
  have fj:=aC.len
  subst fj
  have fm:=aD.len
  subst fm
  have fp:=aE.len
  subst fp
  refine .r [9,10] ?_
  cases jj:(BS w_.store e.name e.row).2
  ·refine .r [11]<|.go 13<|GE.D4 (t':=32) (o:=0) (v:=.agg #[.slice bo ((BS w_.store e.name e.row).1.idx.names.length) bq,.slice br ((((BS w_.store e.name e.row).1.idx).AY).length) bt,.slice bu ((BS w_.store e.name e.row).1.parts.length) bv,.slice bw ((BS w_.store e.name e.row).1.mem.length) bz]) [.slice bo ((BS w_.store e.name e.row).1.idx.names.length) bq,.slice br ((((BS w_.store e.name e.row).1.idx).AY).length) bt,.slice bu ((BS w_.store e.name e.row).1.parts.length) bv,.slice bw ((BS w_.store e.name e.row).1.mem.length) bz] aS AA AA AA fun kB c7=>?_
   replace ⟨hrb0,hrb1,hrb2,hrb3,hrb4,hrb5,hrb6,hbx,aa,ab,ag,aS⟩:=(se [ao,af,ac,ae,bx] c7).g12 hrb0 hrb1 hrb2 hrb3 hrb4 hrb5 hrb6 hbx aa ab ag aS
   replace ⟨aB,aC,aD,aE,E⟩:=(se [ao,af,ac,ae,bx] c7).g5 aB aC aD aE E
   intro kC bK jk fq
   have hkeep_:=Chg.toS bK (Cov.toS ee)
   replace ⟨hrb0,hrb1,hrb2,hrb3,hrb4,hrb5,hrb6,hbx,aa,ab,ag,aB⟩:=(so [ao,af,ac,ae,bx] bK).g12 hrb0 hrb1 hrb2 hrb3 hrb4 hrb5 hrb6 hbx aa ab ag aB
   replace ⟨aC,aD,aE,E⟩:=(so [ao,af,ac,ae,bx] bK).g4 aC aD aE E
   refine ⟨hkeep_,?_⟩
   refine .d fun kD c8=>?_
   replace ⟨hrb0,hrb1,hrb2,hrb3,hrb4,hrb5,hrb6,hbx,aa,ab,ag,aB⟩:=(se [ao,af,ac,ae,bx] c8).g12 hrb0 hrb1 hrb2 hrb3 hrb4 hrb5 hrb6 hbx aa ab ag aB
   replace ⟨aC,aD,aE,E⟩:=(se [ao,af,ac,ae,bx] c8).g4 aC aD aE E
   replace hrb0:=hrb0.Ax
   replace hrb1:=hrb1.Ax
   replace hrb2:=hrb2.Ax
   replace hrb3:=hrb3.Ax
   replace hrb4:=hrb4.Ax
   replace hrb5:=hrb5.Ax
   replace hrb6:=hrb6.Ax
   refine .r 1<|.d<|.s<|.g<|.r 1<|.d<|.cf<|.sk<|.ib 0<|.s<|.s<|.g<|.r 8<|.d<|.ct<|T.LI AA func35 results35 ?_
   rw [show (doW w_ e)=w_ from by exact US p0 (by with_reducible assumption) (by with_reducible assumption)]
   exact ⟨⟨rfl,ab0,w_.store.idx.names.length,cb0,ab1,w_.store.idx.AY.length,cb1,ab2,w_.store.parts.length,cb2,ab3,w_.store.mem.length,cb3,ab4,w_.disk.files.length,cb4,ab5,w_.disk.list.length,cb5,ab6,w_.disk.names.length,cb6,hbx,(RepS.Ai hrb0 (all_cons AM all_nil)),(RepS.Ai hrb1 (all_cons AM all_nil)),(RepS.Ai hrb2 (all_cons AM all_nil)),(RepS.Ai hrb3 (all_cons AM all_nil)),(RepS.Ai hrb4 (all_cons AM all_nil)),(RepS.Ai hrb5 (all_cons AM all_nil)),(RepS.Ai hrb6 (all_cons AM all_nil))⟩,E⟩
  refine .r [11]<|.go 13<|GE.D4 (t':=32) (o:=0) (v:=.agg #[.slice bo ((BS w_.store e.name e.row).1.idx.names.length) bq,.slice br ((((BS w_.store e.name e.row).1.idx).AY).length) bt,.slice bu ((BS w_.store e.name e.row).1.parts.length) bv,.slice bw ((BS w_.store e.name e.row).1.mem.length) bz]) [.slice bo ((BS w_.store e.name e.row).1.idx.names.length) bq,.slice br ((((BS w_.store e.name e.row).1.idx).AY).length) bt,.slice bu ((BS w_.store e.name e.row).1.parts.length) bv,.slice bw ((BS w_.store e.name e.row).1.mem.length) bz] aS AA AA AA fun kE da=>?_
  replace ⟨hrb0,hrb1,hrb2,hrb3,hrb4,hrb5,hrb6,hbx,aa,ab,ag,aB⟩:=(se [ao,af,ac,ae,bx] da).g12 hrb0 hrb1 hrb2 hrb3 hrb4 hrb5 hrb6 hbx aa ab ag aB
  replace ⟨aC,aD,aE,E⟩:=(se [ao,af,ac,ae,bx] da).g4 aC aD aE E
  intro kF bL db fu
  have hkeep_:=Chg.toS bL (Cov.toS ee)
  replace ⟨hrb0,hrb1,hrb2,hrb3,hrb4,hrb5,hrb6,hbx,aa,ab,ag,aB⟩:=(so [ao,af,ac,ae,bx] bL).g12 hrb0 hrb1 hrb2 hrb3 hrb4 hrb5 hrb6 hbx aa ab ag aB
  replace ⟨aC,aD,aE,E⟩:=(so [ao,af,ac,ae,bx] bL).g4 aC aD aE E
  refine ⟨hkeep_,?_⟩
  refine .d fun kG de=>?_
  replace ⟨hrb0,hrb1,hrb2,hrb3,hrb4,hrb5,hrb6,hbx,aa,ab,ag,db⟩:=(se [ao,af,ac,ae,bx] de).g12 hrb0 hrb1 hrb2 hrb3 hrb4 hrb5 hrb6 hbx aa ab ag db
  replace ⟨aB,aC,aD,aE,E⟩:=(se [ao,af,ac,ae,bx] de).g5 aB aC aD aE E
  replace hrb0:=hrb0.Ax
  replace hrb1:=hrb1.Ax
  replace hrb2:=hrb2.Ax
  replace hrb3:=hrb3.Ax
  replace hrb4:=hrb4.Ax
  replace hrb5:=hrb5.Ax
  replace hrb6:=hrb6.Ax
  refine .r 1<|.d<|.s<|.g<|.r 1<|.d<|.ct<|.g<|.r 1<|.ln db<|.r 2<|.sb 0 (.agg #[.slice bo ((BS w_.store e.name e.row).1.idx.names.length) bq,.slice br ((((BS w_.store e.name e.row).1.idx).AY).length) bt,.slice bu ((BS w_.store e.name e.row).1.parts.length) bv,.slice bw ((BS w_.store e.name e.row).1.mem.length) bz]) [.slice bo ((BS w_.store e.name e.row).1.idx.names.length) bq,.slice br ((((BS w_.store e.name e.row).1.idx).AY).length) bt,.slice bu ((BS w_.store e.name e.row).1.parts.length) bv,.slice bw ((BS w_.store e.name e.row).1.mem.length) bz,.slice ab4 w_.disk.files.length cb4,.slice ab5 w_.disk.list.length cb5,.slice ab6 w_.disk.names.length cb6,vI w_.disk.next] hbx fun kH df fv fw=>?_
  replace ⟨hrb0,hrb1,hrb2,hrb3,hrb4,hrb5,hrb6,aa,ab,ag,aB,aC⟩:=(so [ao,af,ac,ae,bx] df).g12 hrb0 hrb1 hrb2 hrb3 hrb4 hrb5 hrb6 aa ab ag aB aC
  replace ⟨aD,aE,E⟩:=(so [ao,af,ac,ae,bx] df).g3 aD aE E
  refine .d<|.ib 0<|.s<|.s<|.g<|.r 8<|.d<|.ct<|T.LI AA func35 results35 ?_
  rw [show (doW w_ e)=(⟨(⟨(⟨(BS w_.store e.name e.row).1.idx.names,((BS w_.store e.name e.row).1.idx).AY⟩:Idx),(BS w_.store e.name e.row).1.parts,(BS w_.store e.name e.row).1.mem⟩:Sto),(⟨w_.disk.files,w_.disk.list,w_.disk.names,w_.disk.next⟩:Dsk)⟩:Wld) from by exact do_1 p0 (by with_reducible assumption) (by with_reducible assumption)]
  exact ⟨⟨rfl,bo,(BS w_.store e.name e.row).1.idx.names.length,bq,br,(((BS w_.store e.name e.row).1.idx).AY).length,bt,bu,(BS w_.store e.name e.row).1.parts.length,bv,bw,(BS w_.store e.name e.row).1.mem.length,bz,ab4,w_.disk.files.length,cb4,ab5,w_.disk.list.length,cb5,ab6,w_.disk.names.length,cb6,fv,(RepS.Ai aB (all_cons AM all_nil)),(RepS.Ai aC (all_cons AM all_nil)),(RepS.Ai aD (all_cons AM all_nil)),(RepS.Ai aE (all_cons AM all_nil)),(RepS.Ai hrb4 (all_cons AM all_nil)),(RepS.Ai hrb5 (all_cons AM all_nil)),(RepS.Ai hrb6 (all_cons AM all_nil))⟩,E⟩
 refine .r 1<|.d<|.cf<|.s<|.g<|.eq e.kind 2 (fun fA=>?_) (fun fA=>?_)
 ·refine .r 1<|.d<|.ct<|.s<|.gd nil 8 fun kI eh=>?_
  replace ⟨hrb0,hrb1,hrb2,hrb3,hrb4,hrb5,hrb6,hbx,aa,ab,ag,E⟩:=(se [af,ac,ae,bx] eh).g12 hrb0 hrb1 hrb2 hrb3 hrb4 hrb5 hrb6 hbx aa ab ag E
  refine .r [0,1,2]<|.ln 3 hbx id<|.r [4,5,6]<|.ln 7 hbx id<|.d fun eP ej=>?_
  replace ⟨hrb0,hrb1,hrb2,hrb3,hrb4,hrb5,hrb6,hbx,aa,ab,ag,E⟩:=(se [af,ac,ae,bx] ej).g12 hrb0 hrb1 hrb2 hrb3 hrb4 hrb5 hrb6 hbx aa ab ag E
  refine .cl (F6 w_.disk w_.store hrb4.ta hrb5.ta hrb6.ta hrb0.ta hrb1.ta hrb2.ta hrb3.ta p0.dd (SG.of p0.sd) (w:=eP) (F:=all)) ?_
  rintro kJ eQ ⟨⟨kK,kL,rfl,aT⟩,ek⟩
  have en:=al4 ag.lt ab.lt aa.lt hbx.lt
  have fB:Gb w.heap.size eP.heap.size:=E.size
  replace ⟨hrb0,hrb1,hrb2,hrb3,hrb4,hrb5,hrb6,hbx,aa,ab,ag,E⟩:=(se [af,ac,ae,bx] ek).g12 hrb0 hrb1 hrb2 hrb3 hrb4 hrb5 hrb6 hbx aa ab ag E
  have aT:=aT.fr en fB
  replace aT:=aT.base (G':=fo F w.heap.size) (fun _ _ h=>.inr h)
  refine .r 1<|.d<|.g<|.r 3<|.ln hbx<|.cl (F1 w_.store hrb0 hrb1 hrb2 hrb3 p0.sd (w:=eQ) (F:=nin (fo F w.heap.size) [af,ac,ae,bx])) ?_
  rintro kM kN ⟨⟨kO,rfl,⟨_,rfl,⟨dM,kP,dN,dO,kQ,dP,dQ,kR,dR,dS,kS,dT,rfl,ar,ax,ay,az⟩⟩⟩,dh⟩
  have bB:=al4 ag.lt ab.lt aa.lt hbx.lt
  have bM:Gb w.heap.size eQ.heap.size:=E.size
  replace ⟨hrb0,hrb1,hrb2,hrb3,hrb4,hrb5,hrb6,hbx,aa,ab,ag,aT⟩:=(se [af,ac,ae,bx] dh).g12 hrb0 hrb1 hrb2 hrb3 hrb4 hrb5 hrb6 hbx aa ab ag aT
  replace E:=(se [af,ac,ae,bx] dh).g1 E
  replace ar:=RepS.CG (M:=[af,ac,ae,bx]) ar bB bM
  have jm:=ar.max
  replace ax:=RepS.CG (M:=[af,ac,ae,bx]) ax bB bM
  have jn:=ax.max
  replace ay:=RepS.CG (M:=[af,ac,ae,bx]) ay bB bM
  have jo:=ay.max
  replace az:=RepS.CG (M:=[af,ac,ae,bx]) az bB bM
  have jp:=az.max
  have fC:=ar.len
  subst fC
  have fD:=ax.len
  subst fD
  have fE:=ay.len
  subst fE
  have fF:=az.len
  subst fF
  refine .r 3<|.sc [.slice dM ((Bg w_.store).1.idx.names.length) dN,.slice dO ((((Bg w_.store).1.idx).AY).length) dP,.slice dQ ((Bg w_.store).1.parts.length) dR,.slice dS ((Bg w_.store).1.mem.length) dT] ag fun kT dj aA fG=>?_
  replace ⟨hrb0,hrb1,hrb2,hrb3,hrb4,hrb5,hrb6,hbx,aa,ab,aT,ar⟩:=(so [af,ac,ae,bx] dj).g12 hrb0 hrb1 hrb2 hrb3 hrb4 hrb5 hrb6 hbx aa ab aT ar
  replace ⟨ax,ay,az,E⟩:=(so [af,ac,ae,bx] dj).g4 ax ay az E
  refine .d<|.ib 0<|.s<|.s<|.g<|.r 2<|.eq (((Ag w_.disk w_.store).length):Int) 0 (fun fH=>?_) (fun fH=>?_)
  ·refine .r 5<|.d<|.ct<|T.LI AA func35 results35 ?_
   rw [show (doW w_ e)=w_ from by exact UT p0 (by with_reducible assumption) (.inl (by with_reducible assumption))]
   exact ⟨⟨rfl,ab0,w_.store.idx.names.length,cb0,ab1,w_.store.idx.AY.length,cb1,ab2,w_.store.parts.length,cb2,ab3,w_.store.mem.length,cb3,ab4,w_.disk.files.length,cb4,ab5,w_.disk.list.length,cb5,ab6,w_.disk.names.length,cb6,hbx,(RepS.Ai hrb0 (all_cons AL all_nil)),(RepS.Ai hrb1 (all_cons AL all_nil)),(RepS.Ai hrb2 (all_cons AL all_nil)),(RepS.Ai hrb3 (all_cons AL all_nil)),(RepS.Ai hrb4 (all_cons AL all_nil)),(RepS.Ai hrb5 (all_cons AL all_nil)),(RepS.Ai hrb6 (all_cons AL all_nil))⟩,E⟩
  refine .r 2<|.lb aa<|.bp (e.cut< 0) (fun fI=>?_) (fun fI=>?_)
  ·refine .r 1<|.d<|.ct<|T.LI AA func35 results35 ?_
   rw [show (doW w_ e)=w_ from by exact UT p0 (by with_reducible assumption) (.inr (by with_reducible assumption))]
   exact ⟨⟨rfl,ab0,w_.store.idx.names.length,cb0,ab1,w_.store.idx.AY.length,cb1,ab2,w_.store.parts.length,cb2,ab3,w_.store.mem.length,cb3,ab4,w_.disk.files.length,cb4,ab5,w_.disk.list.length,cb5,ab6,w_.disk.names.length,cb6,hbx,(RepS.Ai hrb0 (all_cons AL all_nil)),(RepS.Ai hrb1 (all_cons AL all_nil)),(RepS.Ai hrb2 (all_cons AL all_nil)),(RepS.Ai hrb3 (all_cons AL all_nil)),(RepS.Ai hrb4 (all_cons AL all_nil)),(RepS.Ai hrb5 (all_cons AL all_nil)),(RepS.Ai hrb6 (all_cons AL all_nil))⟩,E⟩
  refine .r 1<|.d<|.cf<|.sk<|.s<|.gd nil 9 fun kU dm=>?_
  replace ⟨hrb0,hrb1,hrb2,hrb3,hrb4,hrb5,hrb6,hbx,aa,ab,aA,aT⟩:=(se [af,ac,ae,bx] dm).g12 hrb0 hrb1 hrb2 hrb3 hrb4 hrb5 hrb6 hbx aa ab aA aT
  replace ⟨ar,ax,ay,az,E⟩:=(se [af,ac,ae,bx] dm).g5 ar ax ay az E
  refine .r [0,1,2,3]<|.ln 4 hbx id<|.r [5,6]<|.lb 7 aa id<|.go 8<|.cl (fun eA aY=>Ez w_.disk (Ag w_.disk w_.store) e.cut (hrb4.ext aY) (hrb5.ext aY) (hrb6.ext aY) (aT.ext aY) p0.dd (fun _=>by exact (IE p0.dd p0.sd).1) (w:=eA) (F:=nin (fo F w.heap.size) [af,ac,ae,bx])) ?_
  intro eA aY
  replace ⟨hrb0,hrb1,hrb2,hrb3,hrb4,hrb5,hrb6,hbx,aa,ab,aA,ar⟩:=(se [af,ac,ae,bx] aY).g12 hrb0 hrb1 hrb2 hrb3 hrb4 hrb5 hrb6 hbx aa ab aA ar
  replace ⟨ax,ay,az,E⟩:=(se [af,ac,ae,bx] aY).g4 ax ay az E
  rintro kV kW ⟨⟨_,rfl,⟨dU,kX,dV,dW,kY,dX,dY,kZ,dZ,rfl,aJ,aK,aL⟩⟩,bN⟩
  have bO:=al4 aA.lt ab.lt aa.lt hbx.lt
  have dp:Gb w.heap.size eA.heap.size:=E.size
  have hkeep_:=bN
  replace ⟨hrb0,hrb1,hrb2,hrb3,hrb4,hrb5,hrb6,hbx,aa,ab,aA,ar⟩:=(se [af,ac,ae,bx] bN).g12 hrb0 hrb1 hrb2 hrb3 hrb4 hrb5 hrb6 hbx aa ab aA ar
  replace ⟨ax,ay,az,E⟩:=(se [af,ac,ae,bx] bN).g4 ax ay az E
  refine ⟨Ext.chg hkeep_,?_⟩
  replace aJ:=RepS.CG (M:=[af,ac,ae,bx]) aJ bO dp
  have jq:=aJ.max
  replace aK:=RepS.CG (M:=[af,ac,ae,bx]) aK bO dp
  have jr:=aK.max
  replace aL:=RepS.CG (M:=[af,ac,ae,bx]) aL bO dp
  have jt:=aL.max
  have fJ:=aJ.len
  subst fJ
  have fK:=aK.len
  subst fK
  have fL:=aL.len
  subst fL
  refine .d fun k5 dq=>?_
  replace ⟨hrb0,hrb1,hrb2,hrb3,hrb4,hrb5,hrb6,hbx,aa,ab,aA,ar⟩:=(se [af,ac,ae,bx] dq).g12 hrb0 hrb1 hrb2 hrb3 hrb4 hrb5 hrb6 hbx aa ab aA ar
  replace ⟨ax,ay,az,aJ,aK,aL,E⟩:=(se [af,ac,ae,bx] dq).g7 ax ay az aJ aK aL E
  refine .r 2<|.sb 4 (.agg #[.slice dU (((Ao w_.disk (Ag w_.disk w_.store) e.cut).files).length) dV,.slice dW (((Ao w_.disk (Ag w_.disk w_.store) e.cut).list).length) dX,.slice dY (((Ao w_.disk (Ag w_.disk w_.store) e.cut).names).length) dZ,vI ((Ao w_.disk (Ag w_.disk w_.store) e.cut).next)]) [.slice ab0 w_.store.idx.names.length cb0,.slice ab1 w_.store.idx.AY.length cb1,.slice ab2 w_.store.parts.length cb2,.slice ab3 w_.store.mem.length cb3,.slice dU (((Ao w_.disk (Ag w_.disk w_.store) e.cut).files).length) dV,.slice dW (((Ao w_.disk (Ag w_.disk w_.store) e.cut).list).length) dX,.slice dY (((Ao w_.disk (Ag w_.disk w_.store) e.cut).names).length) dZ,vI ((Ao w_.disk (Ag w_.disk w_.store) e.cut).next)] hbx fun eB dt du fM=>?_
  replace ⟨hrb0,hrb1,hrb2,hrb3,hrb4,hrb5,hrb6,aa,ab,aA,ar,ax⟩:=(so [af,ac,ae,bx] dt).g12 hrb0 hrb1 hrb2 hrb3 hrb4 hrb5 hrb6 aa ab aA ar ax
  replace ⟨ay,az,aJ,aK,aL,E⟩:=(so [af,ac,ae,bx] dt).g6 ay az aJ aK aL E
  refine .d<|.s<|.g<|.r 1<|.lb aa<|.r 2<|.bp (e.cut< (((Ag w_.disk w_.store).length):Int)) (fun fN=>?_) (fun fN=>?_)
  ·refine .d<|.ct<|.g<|.r 1<|.cl (EX (⟨(⟨(⟨w_.store.idx.names,w_.store.idx.AY⟩:Idx),w_.store.parts,w_.store.mem⟩:Sto),(⟨(Ao w_.disk (Ag w_.disk w_.store) e.cut).files,(Ao w_.disk (Ag w_.disk w_.store) e.cut).list,(Ao w_.disk (Ag w_.disk w_.store) e.cut).names,(Ao w_.disk (Ag w_.disk w_.store) e.cut).next⟩:Dsk)⟩:Wld) (RepS.toM hrb0 (all_cons AL all_nil)) (RepS.toM hrb1 (all_cons AL all_nil)) (RepS.toM hrb2 (all_cons AL all_nil)) (RepS.toM hrb3 (all_cons AL all_nil)) (RepS.toM aJ (all_cons AL all_nil)) (RepS.toM aK (all_cons AL all_nil)) (RepS.toM aL (all_cons AL all_nil)) du (by exact (Nw (e:=e) p0 (by with_reducible assumption) (by with_reducible assumption)).2.1) (by exact (Nw (e:=e) p0 (by with_reducible assumption) (by with_reducible assumption)).2.2) (w:=eB) (F:=nin (fo F w.heap.size) [af,ac,ae,bx])) ?_
   rintro k6 bk ⟨⟨rfl,gU,k7,gV,gW,k8,gX,gY,lc,gZ,g0,ld,hC,hE,lf,hH,hN,li,hO,hQ,lj,hV,fO,bX,bY,bZ,b0,b6,b7,b8⟩,bP⟩
   have aV:=al4 aA.lt ab.lt aa.lt du.lt
   have aZ:Gb w.heap.size eB.heap.size:=E.size
   have dv:Mv [af,ac,ae,bx] [af,ac,ae,bx] eB bk:=Mv.inl bP (all_cons AL all_nil) (all_cons (.inl AI) (all_cons (.inl AJ) (all_cons (.inl AK) (all_cons (.inl AL) all_nil))))
   replace ⟨hrb0,hrb1,hrb2,hrb3,hrb4,hrb5,hrb6,aa,ab,aA,ar,ax⟩:=(sp dv bP).g12 hrb0 hrb1 hrb2 hrb3 hrb4 hrb5 hrb6 aa ab aA ar ax
   replace ⟨ay,az,aJ,aK,aL,E⟩:=(sp dv bP).g6 ay az aJ aK aL E
   replace bX:RepS bk (nin (fo F w.heap.size) [af,ac,ae,bx]) _ _ _ _:=RepS.bxM (M2:=[af,ac,ae,bx]) bX aV (fun _ h=>.inr (Nat.le_trans aZ h)) (all_cons (.inr AI) (all_cons (.inr AJ) (all_cons (.inr AK) (all_cons (.inl AI) all_nil))))
   replace bY:RepS bk (nin (fo F w.heap.size) [af,ac,ae,bx]) _ _ _ _:=RepS.bxM (M2:=[af,ac,ae,bx]) bY aV (fun _ h=>.inr (Nat.le_trans aZ h)) (all_cons (.inr AI) (all_cons (.inr AJ) (all_cons (.inr AK) (all_cons (.inl AI) all_nil))))
   replace bZ:RepS bk (nin (fo F w.heap.size) [af,ac,ae,bx]) _ _ _ _:=RepS.bxM (M2:=[af,ac,ae,bx]) bZ aV (fun _ h=>.inr (Nat.le_trans aZ h)) (all_cons (.inr AI) (all_cons (.inr AJ) (all_cons (.inr AK) (all_cons (.inl AI) all_nil))))
   replace b0:RepS bk (nin (fo F w.heap.size) [af,ac,ae,bx]) _ _ _ _:=RepS.bxM (M2:=[af,ac,ae,bx]) b0 aV (fun _ h=>.inr (Nat.le_trans aZ h)) (all_cons (.inr AI) (all_cons (.inr AJ) (all_cons (.inr AK) (all_cons (.inl AI) all_nil))))
   replace b6:RepS bk (nin (fo F w.heap.size) [af,ac,ae,bx]) _ _ _ _:=RepS.bxM (M2:=[af,ac,ae,bx]) b6 aV (fun _ h=>.inr (Nat.le_trans aZ h)) (all_cons (.inr AI) (all_cons (.inr AJ) (all_cons (.inr AK) (all_cons (.inl AI) all_nil))))
   replace b7:RepS bk (nin (fo F w.heap.size) [af,ac,ae,bx]) _ _ _ _:=RepS.bxM (M2:=[af,ac,ae,bx]) b7 aV (fun _ h=>.inr (Nat.le_trans aZ h)) (all_cons (.inr AI) (all_cons (.inr AJ) (all_cons (.inr AK) (all_cons (.inl AI) all_nil))))
   replace b8:RepS bk (nin (fo F w.heap.size) [af,ac,ae,bx]) _ _ _ _:=RepS.bxM (M2:=[af,ac,ae,bx]) b8 aV (fun _ h=>.inr (Nat.le_trans aZ h)) (all_cons (.inr AI) (all_cons (.inr AJ) (all_cons (.inr AK) (all_cons (.inl AI) all_nil))))
   have fP:=bX.len
   subst fP
   have fQ:=bY.len
   subst fQ
   have fR:=bZ.len
   subst fR
   have fS:=b0.len
   subst fS
   have fT:=b6.len
   subst fT
   have fU:=b7.len
   subst fU
   have fV:=b8.len
   subst fV
   refine .d<|T.GL func35 results35 ?_
   rw [show (doW w_ e)=(⟨(⟨(⟨((((BE (⟨(⟨(⟨w_.store.idx.names,w_.store.idx.AY⟩:Idx),w_.store.parts,w_.store.mem⟩:Sto),(⟨(Ao w_.disk (Ag w_.disk w_.store) e.cut).files,(Ao w_.disk (Ag w_.disk w_.store) e.cut).list,(Ao w_.disk (Ag w_.disk w_.store) e.cut).names,(Ao w_.disk (Ag w_.disk w_.store) e.cut).next⟩:Dsk)⟩:Wld))).store).idx).names,((((BE (⟨(⟨(⟨w_.store.idx.names,w_.store.idx.AY⟩:Idx),w_.store.parts,w_.store.mem⟩:Sto),(⟨(Ao w_.disk (Ag w_.disk w_.store) e.cut).files,(Ao w_.disk (Ag w_.disk w_.store) e.cut).list,(Ao w_.disk (Ag w_.disk w_.store) e.cut).names,(Ao w_.disk (Ag w_.disk w_.store) e.cut).next⟩:Dsk)⟩:Wld))).store).idx).AY⟩:Idx),(((BE (⟨(⟨(⟨w_.store.idx.names,w_.store.idx.AY⟩:Idx),w_.store.parts,w_.store.mem⟩:Sto),(⟨(Ao w_.disk (Ag w_.disk w_.store) e.cut).files,(Ao w_.disk (Ag w_.disk w_.store) e.cut).list,(Ao w_.disk (Ag w_.disk w_.store) e.cut).names,(Ao w_.disk (Ag w_.disk w_.store) e.cut).next⟩:Dsk)⟩:Wld))).store).parts,(((BE (⟨(⟨(⟨w_.store.idx.names,w_.store.idx.AY⟩:Idx),w_.store.parts,w_.store.mem⟩:Sto),(⟨(Ao w_.disk (Ag w_.disk w_.store) e.cut).files,(Ao w_.disk (Ag w_.disk w_.store) e.cut).list,(Ao w_.disk (Ag w_.disk w_.store) e.cut).names,(Ao w_.disk (Ag w_.disk w_.store) e.cut).next⟩:Dsk)⟩:Wld))).store).mem⟩:Sto),(⟨(((BE (⟨(⟨(⟨w_.store.idx.names,w_.store.idx.AY⟩:Idx),w_.store.parts,w_.store.mem⟩:Sto),(⟨(Ao w_.disk (Ag w_.disk w_.store) e.cut).files,(Ao w_.disk (Ag w_.disk w_.store) e.cut).list,(Ao w_.disk (Ag w_.disk w_.store) e.cut).names,(Ao w_.disk (Ag w_.disk w_.store) e.cut).next⟩:Dsk)⟩:Wld))).disk).files,(((BE (⟨(⟨(⟨w_.store.idx.names,w_.store.idx.AY⟩:Idx),w_.store.parts,w_.store.mem⟩:Sto),(⟨(Ao w_.disk (Ag w_.disk w_.store) e.cut).files,(Ao w_.disk (Ag w_.disk w_.store) e.cut).list,(Ao w_.disk (Ag w_.disk w_.store) e.cut).names,(Ao w_.disk (Ag w_.disk w_.store) e.cut).next⟩:Dsk)⟩:Wld))).disk).list,(((BE (⟨(⟨(⟨w_.store.idx.names,w_.store.idx.AY⟩:Idx),w_.store.parts,w_.store.mem⟩:Sto),(⟨(Ao w_.disk (Ag w_.disk w_.store) e.cut).files,(Ao w_.disk (Ag w_.disk w_.store) e.cut).list,(Ao w_.disk (Ag w_.disk w_.store) e.cut).names,(Ao w_.disk (Ag w_.disk w_.store) e.cut).next⟩:Dsk)⟩:Wld))).disk).names,(((BE (⟨(⟨(⟨w_.store.idx.names,w_.store.idx.AY⟩:Idx),w_.store.parts,w_.store.mem⟩:Sto),(⟨(Ao w_.disk (Ag w_.disk w_.store) e.cut).files,(Ao w_.disk (Ag w_.disk w_.store) e.cut).list,(Ao w_.disk (Ag w_.disk w_.store) e.cut).names,(Ao w_.disk (Ag w_.disk w_.store) e.cut).next⟩:Dsk)⟩:Wld))).disk).next⟩:Dsk)⟩:Wld) from by exact YW p0 (by with_reducible assumption) (by with_reducible assumption) (by with_reducible assumption) (by with_reducible assumption)]
   exact ⟨⟨rfl,gU,(((((BE (⟨(⟨(⟨w_.store.idx.names,w_.store.idx.AY⟩:Idx),w_.store.parts,w_.store.mem⟩:Sto),(⟨(Ao w_.disk (Ag w_.disk w_.store) e.cut).files,(Ao w_.disk (Ag w_.disk w_.store) e.cut).list,(Ao w_.disk (Ag w_.disk w_.store) e.cut).names,(Ao w_.disk (Ag w_.disk w_.store) e.cut).next⟩:Dsk)⟩:Wld))).store).idx).names).length,gV,gW,(((((BE (⟨(⟨(⟨w_.store.idx.names,w_.store.idx.AY⟩:Idx),w_.store.parts,w_.store.mem⟩:Sto),(⟨(Ao w_.disk (Ag w_.disk w_.store) e.cut).files,(Ao w_.disk (Ag w_.disk w_.store) e.cut).list,(Ao w_.disk (Ag w_.disk w_.store) e.cut).names,(Ao w_.disk (Ag w_.disk w_.store) e.cut).next⟩:Dsk)⟩:Wld))).store).idx).AY).length,gX,gY,((((BE (⟨(⟨(⟨w_.store.idx.names,w_.store.idx.AY⟩:Idx),w_.store.parts,w_.store.mem⟩:Sto),(⟨(Ao w_.disk (Ag w_.disk w_.store) e.cut).files,(Ao w_.disk (Ag w_.disk w_.store) e.cut).list,(Ao w_.disk (Ag w_.disk w_.store) e.cut).names,(Ao w_.disk (Ag w_.disk w_.store) e.cut).next⟩:Dsk)⟩:Wld))).store).parts).length,gZ,g0,((((BE (⟨(⟨(⟨w_.store.idx.names,w_.store.idx.AY⟩:Idx),w_.store.parts,w_.store.mem⟩:Sto),(⟨(Ao w_.disk (Ag w_.disk w_.store) e.cut).files,(Ao w_.disk (Ag w_.disk w_.store) e.cut).list,(Ao w_.disk (Ag w_.disk w_.store) e.cut).names,(Ao w_.disk (Ag w_.disk w_.store) e.cut).next⟩:Dsk)⟩:Wld))).store).mem).length,hC,hE,((((BE (⟨(⟨(⟨w_.store.idx.names,w_.store.idx.AY⟩:Idx),w_.store.parts,w_.store.mem⟩:Sto),(⟨(Ao w_.disk (Ag w_.disk w_.store) e.cut).files,(Ao w_.disk (Ag w_.disk w_.store) e.cut).list,(Ao w_.disk (Ag w_.disk w_.store) e.cut).names,(Ao w_.disk (Ag w_.disk w_.store) e.cut).next⟩:Dsk)⟩:Wld))).disk).files).length,hH,hN,((((BE (⟨(⟨(⟨w_.store.idx.names,w_.store.idx.AY⟩:Idx),w_.store.parts,w_.store.mem⟩:Sto),(⟨(Ao w_.disk (Ag w_.disk w_.store) e.cut).files,(Ao w_.disk (Ag w_.disk w_.store) e.cut).list,(Ao w_.disk (Ag w_.disk w_.store) e.cut).names,(Ao w_.disk (Ag w_.disk w_.store) e.cut).next⟩:Dsk)⟩:Wld))).disk).list).length,hO,hQ,((((BE (⟨(⟨(⟨w_.store.idx.names,w_.store.idx.AY⟩:Idx),w_.store.parts,w_.store.mem⟩:Sto),(⟨(Ao w_.disk (Ag w_.disk w_.store) e.cut).files,(Ao w_.disk (Ag w_.disk w_.store) e.cut).list,(Ao w_.disk (Ag w_.disk w_.store) e.cut).names,(Ao w_.disk (Ag w_.disk w_.store) e.cut).next⟩:Dsk)⟩:Wld))).disk).names).length,hV,fO,(RepS.Ai bX (all_cons AL all_nil)),(RepS.Ai bY (all_cons AL all_nil)),(RepS.Ai bZ (all_cons AL all_nil)),(RepS.Ai b0 (all_cons AL all_nil)),(RepS.Ai b6 (all_cons AL all_nil)),(RepS.Ai b7 (all_cons AL all_nil)),(RepS.Ai b8 (all_cons AL all_nil))⟩,E⟩
  refine .d<|.cf<|.g<|.r 1<|.ln aA<|.r 2<|.sb 0 (.agg #[.slice dM ((Bg w_.store).1.idx.names.length) dN,.slice dO ((((Bg w_.store).1.idx).AY).length) dP,.slice dQ ((Bg w_.store).1.parts.length) dR,.slice dS ((Bg w_.store).1.mem.length) dT]) [.slice dM ((Bg w_.store).1.idx.names.length) dN,.slice dO ((((Bg w_.store).1.idx).AY).length) dP,.slice dQ ((Bg w_.store).1.parts.length) dR,.slice dS ((Bg w_.store).1.mem.length) dT,.slice dU (((Ao w_.disk (Ag w_.disk w_.store) e.cut).files).length) dV,.slice dW (((Ao w_.disk (Ag w_.disk w_.store) e.cut).list).length) dX,.slice dY (((Ao w_.disk (Ag w_.disk w_.store) e.cut).names).length) dZ,vI ((Ao w_.disk (Ag w_.disk w_.store) e.cut).next)] du fun lk dw fW fX=>?_
  replace ⟨hrb0,hrb1,hrb2,hrb3,hrb4,hrb5,hrb6,aa,ab,ar,ax,ay⟩:=(so [af,ac,ae,bx] dw).g12 hrb0 hrb1 hrb2 hrb3 hrb4 hrb5 hrb6 aa ab ar ax ay
  replace ⟨az,aJ,aK,aL,E⟩:=(so [af,ac,ae,bx] dw).g5 az aJ aK aL E
  refine .d<|T.GL func35 results35 ?_
  rw [show (doW w_ e)=(⟨(⟨(⟨(Bg w_.store).1.idx.names,((Bg w_.store).1.idx).AY⟩:Idx),(Bg w_.store).1.parts,(Bg w_.store).1.mem⟩:Sto),(⟨(Ao w_.disk (Ag w_.disk w_.store) e.cut).files,(Ao w_.disk (Ag w_.disk w_.store) e.cut).list,(Ao w_.disk (Ag w_.disk w_.store) e.cut).names,(Ao w_.disk (Ag w_.disk w_.store) e.cut).next⟩:Dsk)⟩:Wld) from by exact Wc p0 (by with_reducible assumption) (by with_reducible assumption) (by with_reducible assumption) (by with_reducible assumption)]
  exact ⟨⟨rfl,dM,(Bg w_.store).1.idx.names.length,dN,dO,(((Bg w_.store).1.idx).AY).length,dP,dQ,(Bg w_.store).1.parts.length,dR,dS,(Bg w_.store).1.mem.length,dT,dU,((Ao w_.disk (Ag w_.disk w_.store) e.cut).files).length,dV,dW,((Ao w_.disk (Ag w_.disk w_.store) e.cut).list).length,dX,dY,((Ao w_.disk (Ag w_.disk w_.store) e.cut).names).length,dZ,fW,(RepS.Ai ar (all_cons AL all_nil)),(RepS.Ai ax (all_cons AL all_nil)),(RepS.Ai ay (all_cons AL all_nil)),(RepS.Ai az (all_cons AL all_nil)),(RepS.Ai aJ (all_cons AL all_nil)),(RepS.Ai aK (all_cons AL all_nil)),(RepS.Ai aL (all_cons AL all_nil))⟩,E⟩
 refine .r 1<|.d<|.cf<|.s<|.g<|.eq e.kind 3 (fun fY=>?_) (fun fY=>?_)
 ·refine .r 1<|.d<|.ct<|.s<|.gd nil 6 fun ll eC=>?_
  replace ⟨hrb0,hrb1,hrb2,hrb3,hrb4,hrb5,hrb6,hbx,aa,ab,ag,E⟩:=(se [af,ac,ae,bx] eC).g12 hrb0 hrb1 hrb2 hrb3 hrb4 hrb5 hrb6 hbx aa ab ag E
  refine .r [0,1,2]<|.ln 3 hbx id<|.r [4]<|.lb 5 aa id<|.d fun eR eD=>?_
  replace ⟨hrb0,hrb1,hrb2,hrb3,hrb4,hrb5,hrb6,hbx,aa,ab,ag,E⟩:=(se [af,ac,ae,bx] eD).g12 hrb0 hrb1 hrb2 hrb3 hrb4 hrb5 hrb6 hbx aa ab ag E
  refine .cl (F8 w_.disk e.at_ hrb4.ta hrb5.ta hrb6.ta p0.dd (w:=eR) (F:=all)) ?_
  rintro lm b9 ⟨⟨lp,lq,rfl,am⟩,eE⟩
  have eF:=al4 ag.lt ab.lt aa.lt hbx.lt
  have fZ:Gb w.heap.size eR.heap.size:=E.size
  replace ⟨hrb0,hrb1,hrb2,hrb3,hrb4,hrb5,hrb6,hbx,aa,ab,ag,E⟩:=(se [af,ac,ae,bx] eE).g12 hrb0 hrb1 hrb2 hrb3 hrb4 hrb5 hrb6 hbx aa ab ag E
  have am:=am.fr eF fZ
  replace am:=am.base (G':=fo F w.heap.size) (fun _ _ h=>.inr h)
  refine .r 1<|.d ?_
  replace hrb0:=hrb0.Bd
  replace hrb1:=hrb1.Bd
  replace hrb2:=hrb2.Bd
  replace hrb3:=hrb3.Bd
  replace hrb4:=hrb4.Bd
  replace hrb5:=hrb5.Bd
  replace hrb6:=hrb6.Bd
  replace am:=am.Bd
  have f0:Gb (bx+1) b9.heap.size:=hbx.lt
  have f5:Gb (ae+1) b9.heap.size:=aa.lt
  have f6:Cov (mtb [ac,af] b9.heap.size) b9 af:=⟨.inl (.inl AJ)⟩
  refine .gd (mtb [ac,af] b9.heap.size) 11 fun lu dx=>?_
  replace ⟨hrb0,hrb1,hrb2,hrb3,hrb4,hrb5,hrb6,hbx,aa,ab,ag,am⟩:=(se [af,ac,ae,bx] dx).g12 hrb0 hrb1 hrb2 hrb3 hrb4 hrb5 hrb6 hbx aa ab ag am
  replace E:=(se [af,ac,ae,bx] dx).g1 E
  refine .r [0,1,2]<|.ln 3 hbx (CP (all_cons (Nb.symm eL) (all_cons (Nb.symm gP) all_nil)) f0)<|.r [4]<|.lb 5 aa (CP (all_cons (Nb.symm ec) (all_cons (Nb.symm gQ) all_nil)) f5)<|.go 6<|.cl (fun eG ba=>F3 w_.store e.at_ ((hrb0.base (fun _ _ h=>h.1)).ext ba) ((hrb1.base (fun _ _ h=>h.1)).ext ba) ((hrb2.base (fun _ _ h=>h.1)).ext ba) ((hrb3.base (fun _ _ h=>h.1)).ext ba) p0.sd (w:=eG) (F:=nin (fo F w.heap.size) [af,ac,ae,bx])) ?_
  intro eG ba
  replace ⟨hrb0,hrb1,hrb2,hrb3,hrb4,hrb5,hrb6,hbx,aa,ab,ag,am⟩:=(se [af,ac,ae,bx] ba).g12 hrb0 hrb1 hrb2 hrb3 hrb4 hrb5 hrb6 hbx aa ab ag am
  replace E:=(se [af,ac,ae,bx] ba).g1 E
  rintro lv lw ⟨⟨ly,rfl,⟨_,rfl,⟨cd,lz,ce,cg,lA,ci,cj,lB,ck,cm,lC,co,rfl,ai,aj,ak,al⟩⟩⟩,bQ⟩
  have bC:=al4 ag.lt ab.lt aa.lt hbx.lt
  have bR:Gb w.heap.size eG.heap.size:=E.size
  have hkeep_:=bQ
  replace ⟨hrb0,hrb1,hrb2,hrb3,hrb4,hrb5,hrb6,hbx,aa,ab,ag,am⟩:=(se [af,ac,ae,bx] bQ).g12 hrb0 hrb1 hrb2 hrb3 hrb4 hrb5 hrb6 hbx aa ab ag am
  replace E:=(se [af,ac,ae,bx] bQ).g1 E
  refine ⟨Ext.chg hkeep_,?_⟩
  replace ai:=RepS.CG (M:=[af,ac,ae,bx]) ai bC bR
  have jC:=ai.max
  replace aj:=RepS.CG (M:=[af,ac,ae,bx]) aj bC bR
  have jD:=aj.max
  replace ak:=RepS.CG (M:=[af,ac,ae,bx]) ak bC bR
  have jE:=ak.max
  replace al:=RepS.CG (M:=[af,ac,ae,bx]) al bC bR
  have jF:=al.max
  have f7:=ai.len
  subst f7
  have f8:=aj.len
  subst f8
  have f9:=ak.len
  subst f9
  have gb:=al.len
  subst gb
  refine .r [7,8,9]<|.go 10<|GE.D4 (t':=32) (o:=0) (v:=.agg #[.slice cd ((BJ w_.store e.at_).1.idx.names.length) ce,.slice cg ((((BJ w_.store e.at_).1.idx).AY).length) ci,.slice cj ((BJ w_.store e.at_).1.parts.length) ck,.slice cm ((BJ w_.store e.at_).1.mem.length) co]) [.slice cd ((BJ w_.store e.at_).1.idx.names.length) ce,.slice cg ((((BJ w_.store e.at_).1.idx).AY).length) ci,.slice cj ((BJ w_.store e.at_).1.parts.length) ck,.slice cm ((BJ w_.store e.at_).1.mem.length) co] ag AA AA AA fun lD dy=>?_
  replace ⟨hrb0,hrb1,hrb2,hrb3,hrb4,hrb5,hrb6,hbx,aa,ab,ag,am⟩:=(se [af,ac,ae,bx] dy).g12 hrb0 hrb1 hrb2 hrb3 hrb4 hrb5 hrb6 hbx aa ab ag am
  replace ⟨ai,aj,ak,al,E⟩:=(se [af,ac,ae,bx] dy).g5 ai aj ak al E
  intro lE bS aq gf
  have hkeep_:=Chg.toS bS (Cov.toS f6)
  replace ⟨hrb0,hrb1,hrb2,hrb3,hrb4,hrb5,hrb6,hbx,aa,ab,am,ai⟩:=(so [af,ac,ae,bx] bS).g12 hrb0 hrb1 hrb2 hrb3 hrb4 hrb5 hrb6 hbx aa ab am ai
  replace ⟨aj,ak,al,E⟩:=(so [af,ac,ae,bx] bS).g4 aj ak al E
  refine ⟨hkeep_,?_⟩
  refine .d fun lF dz=>?_
  replace ⟨hrb0,hrb1,hrb2,hrb3,hrb4,hrb5,hrb6,hbx,aa,ab,aq,am⟩:=(se [af,ac,ae,bx] dz).g12 hrb0 hrb1 hrb2 hrb3 hrb4 hrb5 hrb6 hbx aa ab aq am
  replace ⟨ai,aj,ak,al,E⟩:=(se [af,ac,ae,bx] dz).g5 ai aj ak al E
  replace hrb0:=hrb0.Ax
  replace hrb1:=hrb1.Ax
  replace hrb2:=hrb2.Ax
  replace hrb3:=hrb3.Ax
  replace hrb4:=hrb4.Ax
  replace hrb5:=hrb5.Ax
  replace hrb6:=hrb6.Ax
  replace am:=am.Ax
  refine .d<|.ib 0<|.s<|.s<|.g<|.r 2<|.eq (((Ah w_.disk e.at_).length):Int) 0 (fun gh=>?_) (fun gh=>?_)
  ·refine .r 5<|.d<|.ct<|T.LI AA func35 results35 ?_
   rw [show (doW w_ e)=w_ from by exact UU p0 (by with_reducible assumption) (.inl (by with_reducible assumption))]
   exact ⟨⟨rfl,ab0,w_.store.idx.names.length,cb0,ab1,w_.store.idx.AY.length,cb1,ab2,w_.store.parts.length,cb2,ab3,w_.store.mem.length,cb3,ab4,w_.disk.files.length,cb4,ab5,w_.disk.list.length,cb5,ab6,w_.disk.names.length,cb6,hbx,(RepS.Ai hrb0 (all_cons AL all_nil)),(RepS.Ai hrb1 (all_cons AL all_nil)),(RepS.Ai hrb2 (all_cons AL all_nil)),(RepS.Ai hrb3 (all_cons AL all_nil)),(RepS.Ai hrb4 (all_cons AL all_nil)),(RepS.Ai hrb5 (all_cons AL all_nil)),(RepS.Ai hrb6 (all_cons AL all_nil))⟩,E⟩
  refine .r 2<|.lb aa<|.bp (e.cut< 0) (fun gi=>?_) (fun gi=>?_)
  ·refine .r 1<|.d<|.ct<|T.LI AA func35 results35 ?_
   rw [show (doW w_ e)=w_ from by exact UU p0 (by with_reducible assumption) (.inr (by with_reducible assumption))]
   exact ⟨⟨rfl,ab0,w_.store.idx.names.length,cb0,ab1,w_.store.idx.AY.length,cb1,ab2,w_.store.parts.length,cb2,ab3,w_.store.mem.length,cb3,ab4,w_.disk.files.length,cb4,ab5,w_.disk.list.length,cb5,ab6,w_.disk.names.length,cb6,hbx,(RepS.Ai hrb0 (all_cons AL all_nil)),(RepS.Ai hrb1 (all_cons AL all_nil)),(RepS.Ai hrb2 (all_cons AL all_nil)),(RepS.Ai hrb3 (all_cons AL all_nil)),(RepS.Ai hrb4 (all_cons AL all_nil)),(RepS.Ai hrb5 (all_cons AL all_nil)),(RepS.Ai hrb6 (all_cons AL all_nil))⟩,E⟩
  refine .r 1<|.d<|.cf<|.sk<|.s<|.gd nil 9 fun lG dA=>?_
  replace ⟨hrb0,hrb1,hrb2,hrb3,hrb4,hrb5,hrb6,hbx,aa,ab,aq,am⟩:=(se [af,ac,ae,bx] dA).g12 hrb0 hrb1 hrb2 hrb3 hrb4 hrb5 hrb6 hbx aa ab aq am
  replace ⟨ai,aj,ak,al,E⟩:=(se [af,ac,ae,bx] dA).g5 ai aj ak al E
  refine .r [0,1,2,3]<|.ln 4 hbx id<|.r [5,6]<|.lb 7 aa id<|.go 8<|.cl (fun eH bd=>Ez w_.disk (Ah w_.disk e.at_) e.cut (hrb4.ext bd) (hrb5.ext bd) (hrb6.ext bd) (am.ext bd) p0.dd (fun _=>by exact (IF p0.dd _).1) (w:=eH) (F:=nin (fo F w.heap.size) [af,ac,ae,bx])) ?_
  intro eH bd
  replace ⟨hrb0,hrb1,hrb2,hrb3,hrb4,hrb5,hrb6,hbx,aa,ab,aq,ai⟩:=(se [af,ac,ae,bx] bd).g12 hrb0 hrb1 hrb2 hrb3 hrb4 hrb5 hrb6 hbx aa ab aq ai
  replace ⟨aj,ak,al,E⟩:=(se [af,ac,ae,bx] bd).g4 aj ak al E
  rintro lH lI ⟨⟨_,rfl,⟨d0,lJ,d3,d4,lK,d5,d6,lL,d7,rfl,aM,aN,aO⟩⟩,bT⟩
  have bU:=al4 aq.lt ab.lt aa.lt hbx.lt
  have dB:Gb w.heap.size eH.heap.size:=E.size
  have hkeep_:=bT
  replace ⟨hrb0,hrb1,hrb2,hrb3,hrb4,hrb5,hrb6,hbx,aa,ab,aq,ai⟩:=(se [af,ac,ae,bx] bT).g12 hrb0 hrb1 hrb2 hrb3 hrb4 hrb5 hrb6 hbx aa ab aq ai
  replace ⟨aj,ak,al,E⟩:=(se [af,ac,ae,bx] bT).g4 aj ak al E
  refine ⟨Ext.chg hkeep_,?_⟩
  replace aM:=RepS.CG (M:=[af,ac,ae,bx]) aM bU dB
  have jG:=aM.max
  replace aN:=RepS.CG (M:=[af,ac,ae,bx]) aN bU dB
  have jH:=aN.max
  replace aO:=RepS.CG (M:=[af,ac,ae,bx]) aO bU dB
  have jI:=aO.max
  have gj:=aM.len
  subst gj
  have gk:=aN.len
  subst gk
  have gl:=aO.len
  subst gl
  refine .d fun lM dC=>?_
  replace ⟨hrb0,hrb1,hrb2,hrb3,hrb4,hrb5,hrb6,hbx,aa,ab,aq,ai⟩:=(se [af,ac,ae,bx] dC).g12 hrb0 hrb1 hrb2 hrb3 hrb4 hrb5 hrb6 hbx aa ab aq ai
  replace ⟨aj,ak,al,aM,aN,aO,E⟩:=(se [af,ac,ae,bx] dC).g7 aj ak al aM aN aO E
  refine .r 2<|.sb 4 (.agg #[.slice d0 (((Ao w_.disk (Ah w_.disk e.at_) e.cut).files).length) d3,.slice d4 (((Ao w_.disk (Ah w_.disk e.at_) e.cut).list).length) d5,.slice d6 (((Ao w_.disk (Ah w_.disk e.at_) e.cut).names).length) d7,vI ((Ao w_.disk (Ah w_.disk e.at_) e.cut).next)]) [.slice ab0 w_.store.idx.names.length cb0,.slice ab1 w_.store.idx.AY.length cb1,.slice ab2 w_.store.parts.length cb2,.slice ab3 w_.store.mem.length cb3,.slice d0 (((Ao w_.disk (Ah w_.disk e.at_) e.cut).files).length) d3,.slice d4 (((Ao w_.disk (Ah w_.disk e.at_) e.cut).list).length) d5,.slice d6 (((Ao w_.disk (Ah w_.disk e.at_) e.cut).names).length) d7,vI ((Ao w_.disk (Ah w_.disk e.at_) e.cut).next)] hbx fun eI dD dE gm=>?_
  replace ⟨hrb0,hrb1,hrb2,hrb3,hrb4,hrb5,hrb6,aa,ab,aq,ai,aj⟩:=(so [af,ac,ae,bx] dD).g12 hrb0 hrb1 hrb2 hrb3 hrb4 hrb5 hrb6 aa ab aq ai aj
  replace ⟨ak,al,aM,aN,aO,E⟩:=(so [af,ac,ae,bx] dD).g6 ak al aM aN aO E
  refine .d<|.s<|.g<|.r 1<|.lb aa<|.r 2<|.bp (e.cut< (((Ah w_.disk e.at_).length):Int)) (fun gn=>?_) (fun gn=>?_)
  ·refine .d<|.ct<|.g<|.r 1<|.cl (EX (⟨(⟨(⟨w_.store.idx.names,w_.store.idx.AY⟩:Idx),w_.store.parts,w_.store.mem⟩:Sto),(⟨(Ao w_.disk (Ah w_.disk e.at_) e.cut).files,(Ao w_.disk (Ah w_.disk e.at_) e.cut).list,(Ao w_.disk (Ah w_.disk e.at_) e.cut).names,(Ao w_.disk (Ah w_.disk e.at_) e.cut).next⟩:Dsk)⟩:Wld) (RepS.toM hrb0 (all_cons AL all_nil)) (RepS.toM hrb1 (all_cons AL all_nil)) (RepS.toM hrb2 (all_cons AL all_nil)) (RepS.toM hrb3 (all_cons AL all_nil)) (RepS.toM aM (all_cons AL all_nil)) (RepS.toM aN (all_cons AL all_nil)) (RepS.toM aO (all_cons AL all_nil)) dE (by exact (Nx (e:=e) p0 (by with_reducible assumption) (by with_reducible assumption)).2.1) (by exact (Nx (e:=e) p0 (by with_reducible assumption) (by with_reducible assumption)).2.2) (w:=eI) (F:=nin (fo F w.heap.size) [af,ac,ae,bx])) ?_
   rintro lN bm ⟨⟨rfl,hW,lO,ia,ic,lP,ie,ig,lQ,ii,ij,lR,ik,il,lS,im,io,lT,ip,iq,lU,ir,gp,cp,cq,cr,cu,cw,cx,cy⟩,bV⟩
   have aW:=al4 aq.lt ab.lt aa.lt dE.lt
   have bg:Gb w.heap.size eI.heap.size:=E.size
   have dF:Mv [af,ac,ae,bx] [af,ac,ae,bx] eI bm:=Mv.inl bV (all_cons AL all_nil) (all_cons (.inl AI) (all_cons (.inl AJ) (all_cons (.inl AK) (all_cons (.inl AL) all_nil))))
   replace ⟨hrb0,hrb1,hrb2,hrb3,hrb4,hrb5,hrb6,aa,ab,aq,ai,aj⟩:=(sp dF bV).g12 hrb0 hrb1 hrb2 hrb3 hrb4 hrb5 hrb6 aa ab aq ai aj
   replace ⟨ak,al,aM,aN,aO,E⟩:=(sp dF bV).g6 ak al aM aN aO E
   replace cp:RepS bm (nin (fo F w.heap.size) [af,ac,ae,bx]) _ _ _ _:=RepS.bxM (M2:=[af,ac,ae,bx]) cp aW (fun _ h=>.inr (Nat.le_trans bg h)) (all_cons (.inr AI) (all_cons (.inr AJ) (all_cons (.inr AK) (all_cons (.inl AI) all_nil))))
   replace cq:RepS bm (nin (fo F w.heap.size) [af,ac,ae,bx]) _ _ _ _:=RepS.bxM (M2:=[af,ac,ae,bx]) cq aW (fun _ h=>.inr (Nat.le_trans bg h)) (all_cons (.inr AI) (all_cons (.inr AJ) (all_cons (.inr AK) (all_cons (.inl AI) all_nil))))
   replace cr:RepS bm (nin (fo F w.heap.size) [af,ac,ae,bx]) _ _ _ _:=RepS.bxM (M2:=[af,ac,ae,bx]) cr aW (fun _ h=>.inr (Nat.le_trans bg h)) (all_cons (.inr AI) (all_cons (.inr AJ) (all_cons (.inr AK) (all_cons (.inl AI) all_nil))))
   replace cu:RepS bm (nin (fo F w.heap.size) [af,ac,ae,bx]) _ _ _ _:=RepS.bxM (M2:=[af,ac,ae,bx]) cu aW (fun _ h=>.inr (Nat.le_trans bg h)) (all_cons (.inr AI) (all_cons (.inr AJ) (all_cons (.inr AK) (all_cons (.inl AI) all_nil))))
   replace cw:RepS bm (nin (fo F w.heap.size) [af,ac,ae,bx]) _ _ _ _:=RepS.bxM (M2:=[af,ac,ae,bx]) cw aW (fun _ h=>.inr (Nat.le_trans bg h)) (all_cons (.inr AI) (all_cons (.inr AJ) (all_cons (.inr AK) (all_cons (.inl AI) all_nil))))
   replace cx:RepS bm (nin (fo F w.heap.size) [af,ac,ae,bx]) _ _ _ _:=RepS.bxM (M2:=[af,ac,ae,bx]) cx aW (fun _ h=>.inr (Nat.le_trans bg h)) (all_cons (.inr AI) (all_cons (.inr AJ) (all_cons (.inr AK) (all_cons (.inl AI) all_nil))))
   replace cy:RepS bm (nin (fo F w.heap.size) [af,ac,ae,bx]) _ _ _ _:=RepS.bxM (M2:=[af,ac,ae,bx]) cy aW (fun _ h=>.inr (Nat.le_trans bg h)) (all_cons (.inr AI) (all_cons (.inr AJ) (all_cons (.inr AK) (all_cons (.inl AI) all_nil))))
   have gq:=cp.len
   subst gq
   have gr:=cq.len
   subst gr
   have gs:=cr.len
   subst gs
   have gt:=cu.len
   subst gt
   have gu:=cw.len
   subst gu
   have gv:=cx.len
   subst gv
   have gw:=cy.len
   subst gw
   refine .d<|T.GL func35 results35 ?_
   rw [show (doW w_ e)=(⟨(⟨(⟨((((BE (⟨(⟨(⟨w_.store.idx.names,w_.store.idx.AY⟩:Idx),w_.store.parts,w_.store.mem⟩:Sto),(⟨(Ao w_.disk (Ah w_.disk e.at_) e.cut).files,(Ao w_.disk (Ah w_.disk e.at_) e.cut).list,(Ao w_.disk (Ah w_.disk e.at_) e.cut).names,(Ao w_.disk (Ah w_.disk e.at_) e.cut).next⟩:Dsk)⟩:Wld))).store).idx).names,((((BE (⟨(⟨(⟨w_.store.idx.names,w_.store.idx.AY⟩:Idx),w_.store.parts,w_.store.mem⟩:Sto),(⟨(Ao w_.disk (Ah w_.disk e.at_) e.cut).files,(Ao w_.disk (Ah w_.disk e.at_) e.cut).list,(Ao w_.disk (Ah w_.disk e.at_) e.cut).names,(Ao w_.disk (Ah w_.disk e.at_) e.cut).next⟩:Dsk)⟩:Wld))).store).idx).AY⟩:Idx),(((BE (⟨(⟨(⟨w_.store.idx.names,w_.store.idx.AY⟩:Idx),w_.store.parts,w_.store.mem⟩:Sto),(⟨(Ao w_.disk (Ah w_.disk e.at_) e.cut).files,(Ao w_.disk (Ah w_.disk e.at_) e.cut).list,(Ao w_.disk (Ah w_.disk e.at_) e.cut).names,(Ao w_.disk (Ah w_.disk e.at_) e.cut).next⟩:Dsk)⟩:Wld))).store).parts,(((BE (⟨(⟨(⟨w_.store.idx.names,w_.store.idx.AY⟩:Idx),w_.store.parts,w_.store.mem⟩:Sto),(⟨(Ao w_.disk (Ah w_.disk e.at_) e.cut).files,(Ao w_.disk (Ah w_.disk e.at_) e.cut).list,(Ao w_.disk (Ah w_.disk e.at_) e.cut).names,(Ao w_.disk (Ah w_.disk e.at_) e.cut).next⟩:Dsk)⟩:Wld))).store).mem⟩:Sto),(⟨(((BE (⟨(⟨(⟨w_.store.idx.names,w_.store.idx.AY⟩:Idx),w_.store.parts,w_.store.mem⟩:Sto),(⟨(Ao w_.disk (Ah w_.disk e.at_) e.cut).files,(Ao w_.disk (Ah w_.disk e.at_) e.cut).list,(Ao w_.disk (Ah w_.disk e.at_) e.cut).names,(Ao w_.disk (Ah w_.disk e.at_) e.cut).next⟩:Dsk)⟩:Wld))).disk).files,(((BE (⟨(⟨(⟨w_.store.idx.names,w_.store.idx.AY⟩:Idx),w_.store.parts,w_.store.mem⟩:Sto),(⟨(Ao w_.disk (Ah w_.disk e.at_) e.cut).files,(Ao w_.disk (Ah w_.disk e.at_) e.cut).list,(Ao w_.disk (Ah w_.disk e.at_) e.cut).names,(Ao w_.disk (Ah w_.disk e.at_) e.cut).next⟩:Dsk)⟩:Wld))).disk).list,(((BE (⟨(⟨(⟨w_.store.idx.names,w_.store.idx.AY⟩:Idx),w_.store.parts,w_.store.mem⟩:Sto),(⟨(Ao w_.disk (Ah w_.disk e.at_) e.cut).files,(Ao w_.disk (Ah w_.disk e.at_) e.cut).list,(Ao w_.disk (Ah w_.disk e.at_) e.cut).names,(Ao w_.disk (Ah w_.disk e.at_) e.cut).next⟩:Dsk)⟩:Wld))).disk).names,(((BE (⟨(⟨(⟨w_.store.idx.names,w_.store.idx.AY⟩:Idx),w_.store.parts,w_.store.mem⟩:Sto),(⟨(Ao w_.disk (Ah w_.disk e.at_) e.cut).files,(Ao w_.disk (Ah w_.disk e.at_) e.cut).list,(Ao w_.disk (Ah w_.disk e.at_) e.cut).names,(Ao w_.disk (Ah w_.disk e.at_) e.cut).next⟩:Dsk)⟩:Wld))).disk).next⟩:Dsk)⟩:Wld) from by exact YX p0 (by with_reducible assumption) (by with_reducible assumption) (by with_reducible assumption) (by with_reducible assumption)]
   exact ⟨⟨rfl,hW,(((((BE (⟨(⟨(⟨w_.store.idx.names,w_.store.idx.AY⟩:Idx),w_.store.parts,w_.store.mem⟩:Sto),(⟨(Ao w_.disk (Ah w_.disk e.at_) e.cut).files,(Ao w_.disk (Ah w_.disk e.at_) e.cut).list,(Ao w_.disk (Ah w_.disk e.at_) e.cut).names,(Ao w_.disk (Ah w_.disk e.at_) e.cut).next⟩:Dsk)⟩:Wld))).store).idx).names).length,ia,ic,(((((BE (⟨(⟨(⟨w_.store.idx.names,w_.store.idx.AY⟩:Idx),w_.store.parts,w_.store.mem⟩:Sto),(⟨(Ao w_.disk (Ah w_.disk e.at_) e.cut).files,(Ao w_.disk (Ah w_.disk e.at_) e.cut).list,(Ao w_.disk (Ah w_.disk e.at_) e.cut).names,(Ao w_.disk (Ah w_.disk e.at_) e.cut).next⟩:Dsk)⟩:Wld))).store).idx).AY).length,ie,ig,((((BE (⟨(⟨(⟨w_.store.idx.names,w_.store.idx.AY⟩:Idx),w_.store.parts,w_.store.mem⟩:Sto),(⟨(Ao w_.disk (Ah w_.disk e.at_) e.cut).files,(Ao w_.disk (Ah w_.disk e.at_) e.cut).list,(Ao w_.disk (Ah w_.disk e.at_) e.cut).names,(Ao w_.disk (Ah w_.disk e.at_) e.cut).next⟩:Dsk)⟩:Wld))).store).parts).length,ii,ij,((((BE (⟨(⟨(⟨w_.store.idx.names,w_.store.idx.AY⟩:Idx),w_.store.parts,w_.store.mem⟩:Sto),(⟨(Ao w_.disk (Ah w_.disk e.at_) e.cut).files,(Ao w_.disk (Ah w_.disk e.at_) e.cut).list,(Ao w_.disk (Ah w_.disk e.at_) e.cut).names,(Ao w_.disk (Ah w_.disk e.at_) e.cut).next⟩:Dsk)⟩:Wld))).store).mem).length,ik,il,((((BE (⟨(⟨(⟨w_.store.idx.names,w_.store.idx.AY⟩:Idx),w_.store.parts,w_.store.mem⟩:Sto),(⟨(Ao w_.disk (Ah w_.disk e.at_) e.cut).files,(Ao w_.disk (Ah w_.disk e.at_) e.cut).list,(Ao w_.disk (Ah w_.disk e.at_) e.cut).names,(Ao w_.disk (Ah w_.disk e.at_) e.cut).next⟩:Dsk)⟩:Wld))).disk).files).length,im,io,((((BE (⟨(⟨(⟨w_.store.idx.names,w_.store.idx.AY⟩:Idx),w_.store.parts,w_.store.mem⟩:Sto),(⟨(Ao w_.disk (Ah w_.disk e.at_) e.cut).files,(Ao w_.disk (Ah w_.disk e.at_) e.cut).list,(Ao w_.disk (Ah w_.disk e.at_) e.cut).names,(Ao w_.disk (Ah w_.disk e.at_) e.cut).next⟩:Dsk)⟩:Wld))).disk).list).length,ip,iq,((((BE (⟨(⟨(⟨w_.store.idx.names,w_.store.idx.AY⟩:Idx),w_.store.parts,w_.store.mem⟩:Sto),(⟨(Ao w_.disk (Ah w_.disk e.at_) e.cut).files,(Ao w_.disk (Ah w_.disk e.at_) e.cut).list,(Ao w_.disk (Ah w_.disk e.at_) e.cut).names,(Ao w_.disk (Ah w_.disk e.at_) e.cut).next⟩:Dsk)⟩:Wld))).disk).names).length,ir,gp,(RepS.Ai cp (all_cons AL all_nil)),(RepS.Ai cq (all_cons AL all_nil)),(RepS.Ai cr (all_cons AL all_nil)),(RepS.Ai cu (all_cons AL all_nil)),(RepS.Ai cw (all_cons AL all_nil)),(RepS.Ai cx (all_cons AL all_nil)),(RepS.Ai cy (all_cons AL all_nil))⟩,E⟩
  refine .d<|.cf<|.g<|.r 1<|.ln aq<|.r 2<|.sb 0 (.agg #[.slice cd ((BJ w_.store e.at_).1.idx.names.length) ce,.slice cg ((((BJ w_.store e.at_).1.idx).AY).length) ci,.slice cj ((BJ w_.store e.at_).1.parts.length) ck,.slice cm ((BJ w_.store e.at_).1.mem.length) co]) [.slice cd ((BJ w_.store e.at_).1.idx.names.length) ce,.slice cg ((((BJ w_.store e.at_).1.idx).AY).length) ci,.slice cj ((BJ w_.store e.at_).1.parts.length) ck,.slice cm ((BJ w_.store e.at_).1.mem.length) co,.slice d0 (((Ao w_.disk (Ah w_.disk e.at_) e.cut).files).length) d3,.slice d4 (((Ao w_.disk (Ah w_.disk e.at_) e.cut).list).length) d5,.slice d6 (((Ao w_.disk (Ah w_.disk e.at_) e.cut).names).length) d7,vI ((Ao w_.disk (Ah w_.disk e.at_) e.cut).next)] dE fun lV dG gy gz=>?_
  replace ⟨hrb0,hrb1,hrb2,hrb3,hrb4,hrb5,hrb6,aa,ab,ai,aj,ak⟩:=(so [af,ac,ae,bx] dG).g12 hrb0 hrb1 hrb2 hrb3 hrb4 hrb5 hrb6 aa ab ai aj ak
  replace ⟨al,aM,aN,aO,E⟩:=(so [af,ac,ae,bx] dG).g5 al aM aN aO E
  refine .d<|T.GL func35 results35 ?_
  rw [show (doW w_ e)=(⟨(⟨(⟨(BJ w_.store e.at_).1.idx.names,((BJ w_.store e.at_).1.idx).AY⟩:Idx),(BJ w_.store e.at_).1.parts,(BJ w_.store e.at_).1.mem⟩:Sto),(⟨(Ao w_.disk (Ah w_.disk e.at_) e.cut).files,(Ao w_.disk (Ah w_.disk e.at_) e.cut).list,(Ao w_.disk (Ah w_.disk e.at_) e.cut).names,(Ao w_.disk (Ah w_.disk e.at_) e.cut).next⟩:Dsk)⟩:Wld) from by exact Wd p0 (by with_reducible assumption) (by with_reducible assumption) (by with_reducible assumption) (by with_reducible assumption)]
  exact ⟨⟨rfl,cd,(BJ w_.store e.at_).1.idx.names.length,ce,cg,(((BJ w_.store e.at_).1.idx).AY).length,ci,cj,(BJ w_.store e.at_).1.parts.length,ck,cm,(BJ w_.store e.at_).1.mem.length,co,d0,((Ao w_.disk (Ah w_.disk e.at_) e.cut).files).length,d3,d4,((Ao w_.disk (Ah w_.disk e.at_) e.cut).list).length,d5,d6,((Ao w_.disk (Ah w_.disk e.at_) e.cut).names).length,d7,gy,(RepS.Ai ai (all_cons AL all_nil)),(RepS.Ai aj (all_cons AL all_nil)),(RepS.Ai ak (all_cons AL all_nil)),(RepS.Ai al (all_cons AL all_nil)),(RepS.Ai aM (all_cons AL all_nil)),(RepS.Ai aN (all_cons AL all_nil)),(RepS.Ai aO (all_cons AL all_nil))⟩,E⟩
 refine .r 1<|.d<|.cf<|.s<|.g<|.eq e.kind 4 (fun gA=>?_) (fun gA=>?_)
 ·refine .r 1<|.d<|.ct<|.g<|.r 1<|.cl (EX w_ (RepS.toM hrb0 (all_cons AL all_nil)) (RepS.toM hrb1 (all_cons AL all_nil)) (RepS.toM hrb2 (all_cons AL all_nil)) (RepS.toM hrb3 (all_cons AL all_nil)) (RepS.toM hrb4 (all_cons AL all_nil)) (RepS.toM hrb5 (all_cons AL all_nil)) (RepS.toM hrb6 (all_cons AL all_nil)) hbx (by exact p0.dd) (by exact p0.dk) (w:=bD) (F:=nin (fo F w.heap.size) [af,ac,ae,bx])) ?_
  rintro lW bn ⟨⟨rfl,iu,lX,iw,iy,lY,iz,iA,lZ,iB,iC,l0,iD,iE,l3,iF,iG,l4,iH,iI,l6,iJ,gC,cz,cA,cB,cC,cD,cE,cF⟩,dH⟩
  have aX:=al4 ag.lt ab.lt aa.lt hbx.lt
  have bh:Gb w.heap.size bD.heap.size:=E.size
  have eJ:Mv [af,ac,ae,bx] [af,ac,ae,bx] bD bn:=Mv.inl dH (all_cons AL all_nil) (all_cons (.inl AI) (all_cons (.inl AJ) (all_cons (.inl AK) (all_cons (.inl AL) all_nil))))
  replace ⟨hrb0,hrb1,hrb2,hrb3,hrb4,hrb5,hrb6,E⟩:=(sp eJ dH).g8 hrb0 hrb1 hrb2 hrb3 hrb4 hrb5 hrb6 E
  replace cz:RepS bn (nin (fo F w.heap.size) [af,ac,ae,bx]) _ _ _ _:=RepS.bxM (M2:=[af,ac,ae,bx]) cz aX (fun _ h=>.inr (Nat.le_trans bh h)) (all_cons (.inr AI) (all_cons (.inr AJ) (all_cons (.inr AK) (all_cons (.inl AI) all_nil))))
  replace cA:RepS bn (nin (fo F w.heap.size) [af,ac,ae,bx]) _ _ _ _:=RepS.bxM (M2:=[af,ac,ae,bx]) cA aX (fun _ h=>.inr (Nat.le_trans bh h)) (all_cons (.inr AI) (all_cons (.inr AJ) (all_cons (.inr AK) (all_cons (.inl AI) all_nil))))
  replace cB:RepS bn (nin (fo F w.heap.size) [af,ac,ae,bx]) _ _ _ _:=RepS.bxM (M2:=[af,ac,ae,bx]) cB aX (fun _ h=>.inr (Nat.le_trans bh h)) (all_cons (.inr AI) (all_cons (.inr AJ) (all_cons (.inr AK) (all_cons (.inl AI) all_nil))))
  replace cC:RepS bn (nin (fo F w.heap.size) [af,ac,ae,bx]) _ _ _ _:=RepS.bxM (M2:=[af,ac,ae,bx]) cC aX (fun _ h=>.inr (Nat.le_trans bh h)) (all_cons (.inr AI) (all_cons (.inr AJ) (all_cons (.inr AK) (all_cons (.inl AI) all_nil))))
  replace cD:RepS bn (nin (fo F w.heap.size) [af,ac,ae,bx]) _ _ _ _:=RepS.bxM (M2:=[af,ac,ae,bx]) cD aX (fun _ h=>.inr (Nat.le_trans bh h)) (all_cons (.inr AI) (all_cons (.inr AJ) (all_cons (.inr AK) (all_cons (.inl AI) all_nil))))
  replace cE:RepS bn (nin (fo F w.heap.size) [af,ac,ae,bx]) _ _ _ _:=RepS.bxM (M2:=[af,ac,ae,bx]) cE aX (fun _ h=>.inr (Nat.le_trans bh h)) (all_cons (.inr AI) (all_cons (.inr AJ) (all_cons (.inr AK) (all_cons (.inl AI) all_nil))))
  replace cF:RepS bn (nin (fo F w.heap.size) [af,ac,ae,bx]) _ _ _ _:=RepS.bxM (M2:=[af,ac,ae,bx]) cF aX (fun _ h=>.inr (Nat.le_trans bh h)) (all_cons (.inr AI) (all_cons (.inr AJ) (all_cons (.inr AK) (all_cons (.inl AI) all_nil))))
  have gD:=cz.len
  subst gD
  have gE:=cA.len
  subst gE
  have gF:=cB.len
  subst gF
  have gG:=cC.len
  subst gG
  have gH:=cD.len
  subst gH
  have gI:=cE.len
  subst gI
  have gJ:=cF.len
  subst gJ
  refine .d<|.ib 0<|.s<|.s<|.g<|.r 8<|.d<|.ct<|T.LI AA func35 results35 ?_
  rw [show (doW w_ e)=(⟨(⟨(⟨((((BE w_)).store).idx).names,((((BE w_)).store).idx).AY⟩:Idx),(((BE w_)).store).parts,(((BE w_)).store).mem⟩:Sto),(⟨(((BE w_)).disk).files,(((BE w_)).disk).list,(((BE w_)).disk).names,(((BE w_)).disk).next⟩:Dsk)⟩:Wld) from by exact Ys (by with_reducible assumption)]
  exact ⟨⟨rfl,iu,(((((BE w_)).store).idx).names).length,iw,iy,(((((BE w_)).store).idx).AY).length,iz,iA,((((BE w_)).store).parts).length,iB,iC,((((BE w_)).store).mem).length,iD,iE,((((BE w_)).disk).files).length,iF,iG,((((BE w_)).disk).list).length,iH,iI,((((BE w_)).disk).names).length,iJ,gC,(RepS.Ai cz (all_cons AL all_nil)),(RepS.Ai cA (all_cons AL all_nil)),(RepS.Ai cB (all_cons AL all_nil)),(RepS.Ai cC (all_cons AL all_nil)),(RepS.Ai cD (all_cons AL all_nil)),(RepS.Ai cE (all_cons AL all_nil)),(RepS.Ai cF (all_cons AL all_nil))⟩,E⟩
 refine .r 1<|.d<|.cf<|.sk<|.ib 0<|.s<|.s<|.g<|.r 8<|.d<|.ct<|T.LI AA func35 results35 ?_
 rw [show (doW w_ e)=w_ from by exact Li (by with_reducible assumption) (by with_reducible assumption) (by with_reducible assumption) (by with_reducible assumption)]
 exact ⟨⟨rfl,ab0,w_.store.idx.names.length,cb0,ab1,w_.store.idx.AY.length,cb1,ab2,w_.store.parts.length,cb2,ab3,w_.store.mem.length,cb3,ab4,w_.disk.files.length,cb4,ab5,w_.disk.list.length,cb5,ab6,w_.disk.names.length,cb6,hbx,(RepS.Ai hrb0 (all_cons AL all_nil)),(RepS.Ai hrb1 (all_cons AL all_nil)),(RepS.Ai hrb2 (all_cons AL all_nil)),(RepS.Ai hrb3 (all_cons AL all_nil)),(RepS.Ai hrb4 (all_cons AL all_nil)),(RepS.Ai hrb5 (all_cons AL all_nil)),(RepS.Ai hrb6 (all_cons AL all_nil))⟩,E⟩
theorem Aw (a:Wld) (b:Wld) (h1:RepS w F a1 n1 c1 a.store.idx.names) (h2:RepS w F a2 n2 c2 a.store.idx.AY) (h3:RepS w F a3 n3 c3 a.store.parts) (h4:RepS w F a4 n4 c4 a.store.mem) (h5:RepS w F a5 n5 c5 a.disk.files) (h6:RepS w F a6 n6 c6 a.disk.list) (h7:RepS w F a7 n7 c7 a.disk.names) (h8:RepS w F a8 n8 c8 b.store.idx.names) (h9:RepS w F a9 n9 c9 b.store.idx.AY) (h10:RepS w F a10 n10 c10 b.store.parts) (h11:RepS w F a11 n11 c11 b.store.mem) (h12:RepS w F a12 n12 c12 b.disk.files) (h13:RepS w F a13 n13 c13 b.disk.list) (h14:RepS w F a14 n14 c14 b.disk.names)  : Calls Tryz.prog 11 [.agg #[.slice a1 n1 c1,.slice a2 n2 c2,.slice a3 n3 c3,.slice a4 n4 c4,.slice a5 n5 c5,.slice a6 n6 c6,.slice a7 n7 c7,.int .i64 a.disk.next],.agg #[.slice a8 n8 c8,.slice a9 n9 c9,.slice a10 n10 c10,.slice a11 n11 c11,.slice a12 n12 c12,.slice a13 n13 c13,.slice a14 n14 c14,.int .i64 b.disk.next]].toArray w (Aj fun rv w'=>rv=.bool ((a==b))∧Ext w w'):=by
 cases h1.len
 cases h2.len
 cases h3.len
 cases h4.len
 cases h5.len
 cases h6.len
 cases h7.len
 cases h8.len
 cases h9.len
 cases h10.len
 cases h11.len
 cases h12.len
 cases h13.len
 cases h14.len
 refine goT func11 ?_
 have Z:=((((((((((((((St.i0 F w).p h1).p h2).p h3).p h4).p h5).p h6).p h7).p h8).p h9).p h10).p h11).p h12).p h13).p h14
 refine .s<|.g<|RG.Np Z fun ar w Z=>RG.Np Z fun ax w Z=>.r 1<|.d<|.s<|.g<|.r 1<|RG.Ln 1 Z<|.r 1<|RG.Ln 0 Z<|RG.C0 (EL a.store b.store (Z.a 13) (Z.a 12) (Z.a 11) (Z.a 10) (Z.a 6) (Z.a 5) (Z.a 4) (Z.a 3)) Z fun w Z=>?_
 cases aq:(a.store==b.store)
 ·exact .r 8<|.d<|T.rt func11 results11 (.bool false) ⟨(AG (by exact Xi ‹_›)),Z.xt⟩
 exact .r 2<|RG.Ln 1 Z<|.r 1<|RG.Ln 0 Z<|RG.C0 (Ey a.disk b.disk (Z.a 9) (Z.a 8) (Z.a 7) (Z.a 2) (Z.a 1) (Z.a 0)) Z fun w Z=>.r 2<|.d<|T.rt func11 results11 (.bool (a.disk==b.disk)) ⟨(AG (by exact Xj ‹_›)),Z.xt⟩
end Go.Proofs.YtckdhcbbgmiccaaGreat
namespace Go.Proofs.YtckdhcbbgmiccaaGreat
section
variable {w:Wld}
theorem PE (h:WV w):(w.disk.files.length:Int)=w.disk.list.length∧(w.disk.list.length:Int)=w.store.parts.length:=by
 have h1:=h.v.UL
 have e:(BP w.disk).files=w.disk.files:=by
  unfold BP
  rw [List.filter_eq_self]
  exact fun f hf=>List.contains_iff_mem.2 (h.tf f hf)
 rw [e] at h1
 refine ⟨by omega,?_⟩
 rw [h.p,List.length_map]
theorem Ny (h:WV w):w.store.parts.length≤6∧w.store.mem.length≤20∧w.store.idx.names.length≤6:=⟨(DY.1 h.k).1,(DY.1 h.k).2.1,h.wd.wi.sto.nm.len⟩
theorem Iw {d:Dsk}:(Aq d).idx.names=d.names:=rfl
end
theorem EsD.take {es:List Evt}(h:EsD es) (k:Nat):EsD ((es.take k).drop 0):=fun e he=>h e (List.mem_of_mem_take (List.mem_of_mem_drop he))
end Go.Proofs.YtckdhcbbgmiccaaGreat
namespace Go.Proofs.YtckdhcbbgmiccaaGreat
section
variable {w:Wld} {e:Evt}
theorem Xm (B:Int):∀ (l:List Stp) (d:Dsk),d.next≤B→(∀ x∈l,x.kind=1→x.num+1≤B)→(l.foldl doD d).next≤B:=by
 intro l
 induction l with
 | nil=>intro d h _; exact h
 | cons x xs ih =>
   intro d h hx
   rw [List.foldl_cons]
   refine ih _ ?_ (fun y hy=>hx y (by simp [hy]))
   unfold doD
   split
   ·rename_i hk; exact hx x AD hk
   ·split
    ·exact h
    ·split
     ·exact h
     ·exact h
theorem UW (d:Dsk) (s:Sto):∀ x∈BC d s,x.kind=1→x.num+1≤d.next+1:=by
 intro x hx hk
 unfold BC at hx
 split at hx
 ·cases hx
 ·simp only [List.mem_cons,List.not_mem_nil,or_false] at hx
  rcases hx with rfl | rfl
  ·exact Int.le_refl _
  ·simp at hk
theorem UX (d:Dsk) (a:Int):∀ x∈Am d a,x.kind=1→x.num+1≤d.next+1:=by
 intro x hx hk
 unfold Am at hx
 split at hx
 ·cases hx
 ·simp only [List.mem_cons,List.not_mem_nil,or_false] at hx
  rcases hx with rfl | rfl | rfl | rfl
  ·exact Int.le_refl _
  ·simp at hk
  ·simp at hk
  ·simp at hk
theorem PF {st:List Stp}{c:Int}{s:Sto}(h:∀ x∈st,x.kind=1→x.num+1≤w.disk.next+1):(Bs w st c s).disk.next≤w.disk.next+1:=by
 have key:(toD w.disk st c).next≤w.disk.next+1:=Xm _ _ _ AB (fun x hx=>h x (List.mem_of_mem_take hx))
 unfold Bs
 split
 ·omega
 ·split
  ·exact key
  ·exact key
theorem UY (w:Wld) (e:Evt):(doW w e).disk.next≤w.disk.next+1:=by
 by_cases k1:e.kind=1
 ·cases hn:As e.name with
  | false=>rw [Gw k1 hn]; omega
  | true=>rw [HX k1 hn]; show w.disk.next≤_; omega
 ·by_cases k2:e.kind=2
  ·rw [HY k2]; exact PF (UW _ _)
  ·by_cases k3:e.kind=3
   ·rw [GY k3]; exact PF (UX _ _)
   ·by_cases k4:e.kind=4
    ·rw [OQ k4]; show w.disk.next≤_; omega
    ·rw [Li k1 k2 k3 k4]; omega
theorem V6:∀ (es:List Evt) (w:Wld),(es.foldl doW w).disk.next≤w.disk.next+es.length:=by
 intro es
 induction es with
 | nil=>intro w; simp
 | cons e es ih =>
   intro w
   have h1:=ih (doW w e)
   have h2:=UY w e
   rw [List.foldl_cons,List.length_cons]
   omega
theorem Nz (h:WV w) (hc:(w.store.mem.length:Int)=0∨(w.store.parts.length:Int)=6) (k:e.kind=2):doW w e=w:=by
 rw [HY k]
 refine Cj (.inl ?_)
 have hl:=(PE h).2
 rw [Ek AB]
 rfl
theorem Xn (h:WV w) (hn:w.disk.next≤60) (h0:¬ (w.store.mem.length:Int)=0) (h6:¬ (w.store.parts.length:Int)=6):FlD w.disk w.store:=by
 have h1:=PE h
 have h2:=Ny h
 exact ⟨h.v,h.sd,h.k,h.nb,h.p,fun e=>h0 (by rw [e]; rfl),by omega,by omega,by omega⟩
theorem N1 (h:WV w) (q:FlD w.disk w.store) (k:e.kind=2) (hc:¬ e.cut< 2):doW w e=⟨C7 w.store,toD w.disk (BC w.disk w.store) e.cut⟩:=by
 rw [HY k]
 have hl:=F9 q
 rw [DU AB AB AB,(Gi h.sd h.k q.m q.parts).1]
theorem RA (h:WV w) (k:e.kind=4):doW w e=⟨Aq w.disk,BP w.disk⟩:=by
 rw [OQ k]; exact IH h.dd h.v
theorem Hs (h:WV w) (q:FlD w.disk w.store):By (C7 w.store) [] 0 99=By w.store [] 0 99 :=
 JT (x:=C7 w.store) (s:=w.store) rfl (h.k.trans (JP h.sd h.k q.m q.parts).symm) (fun _ id a b=>Im (StoK.of h.sd h.k) a (by have:=h.sd.nm.len; omega)) _ _
theorem Yt (h:WV w) (hn:w.disk.next≤60){a:Int}(h0:0≤a) (h1:a+2≤w.disk.list.length):∃ x y,MgD w.disk a.toNat x y∧Am w.disk a=Am w.disk a.toNat:=by
 have hl:=PE h
 have h2:=Ny h
 have hc:¬ (!(inR a 0 ((w.disk.list.length:Int) - 2)) || decide (w.disk.next≥999) || decide (w.disk.files.length≥20))=true:=by
  have hi:inR a 0 ((w.disk.list.length:Int) - 2)=true:=by simp [inR]; omega
  have hx:decide (w.disk.next≥999)=false:=decide_eq_false AB
  have hy:decide (w.disk.files.length≥20)=false:=decide_eq_false AB
  rw [hi,hx,hy]
  decide
 obtain ⟨x,y,q,_,e,_⟩:=h.mg (i:=a) (by unfold Am; rw [if_neg hc]; simp)
 exact ⟨x,y,q,e⟩
theorem N2 (h:WV w){x y:Int}(q:MgD w.disk e.at_.toNat x y) (es:Am w.disk e.at_=Am w.disk e.at_.toNat) (h0:0≤e.at_) (k:e.kind=3) (hc:¬ e.cut< 4) :
 doW w e=⟨CV w.store e.at_.toNat,toD w.disk (Am w.disk e.at_.toNat) e.cut⟩:=by
 rw [GY k,es]
 have hl:=GB q
 have hp:e.at_.toNat+2≤w.store.parts.length:=by rw [← h.open,q.open.2.2]; exact q.l
 have em:(BG w.store e.at_).1=CV w.store e.at_.toNat:=by
  have:=Hr hp
  rw [show ((e.at_.toNat:Nat):Int)=e.at_ by omega] at this
  rw [this]
 rw [DU AB AB AB,em]
theorem V7 (h:WV w){x y:Int}(q:MgD w.disk e.at_.toNat x y) (es:Am w.disk e.at_=Am w.disk e.at_.toNat) (k:e.kind=3) (h1:0≤e.cut) (hc:e.cut< 4) :
 doW w e=⟨Aq (toD w.disk (Am w.disk e.at_.toNat) e.cut),BP (toD w.disk (Am w.disk e.at_.toNat) e.cut)⟩:=by
 rw [GY k,es]
 have hl:=GB q
 rw [E3 AB AB AB]
 exact IH (w:=⟨w.store,toD w.disk (Am w.disk e.at_.toNat) e.cut⟩) (by have:=MC h e.at_ e.cut; rwa [es] at this) (q.to _).1
theorem We (h:WV w){x y:Int}{a:Nat}(q:MgD w.disk a x y) (c:Int):By (Aq (toD w.disk (Am w.disk a) c)) [] 0 99=By (Aq w.disk) [] 0 99:=by
 rw [(q.to c).2]
 split
 ·rfl
 ·exact Hq q.sd q.v.so (by rw [q.open.2.2]; exact q.l)
end
section
variable {w:Wld} {c:Int}
theorem Yu (h:WV w) (hn:w.disk.next≤60){a:Int}(h0:0≤a) (h1:a+2≤w.disk.list.length) (hc:0≤c∧c< 5) :
 (By (doW (doW w ⟨3,a,c,[],⟨0,0⟩⟩) ⟨4,0,0,[],⟨0,0⟩⟩).store [] 0 99==By (doW w ⟨4,0,0,[],⟨0,0⟩⟩).store [] 0 99)=true∧(By (doW w ⟨3,a,9,[],⟨0,0⟩⟩).store [] 0 99==By w.store [] 0 99)=true ∧
  ((doW w ⟨3,a,9,[],⟨0,0⟩⟩).disk.list.length:Int)=w.disk.list.length - 1:=by
 obtain ⟨x,y,q,es⟩:=Yt h hn h0 h1
 have hx:WV (doW w ⟨3,a,c,[],⟨0,0⟩⟩):=h.do NmD.nil
 have e9:=N2 (e:=⟨3,a,9,[],⟨0,0⟩⟩) h q es h0 rfl (by show ¬ (9:Int)< 4; decide)
 have hp:a.toNat+2≤w.store.parts.length:=by rw [← h.open,q.open.2.2]; exact q.l
 rw [RA hx rfl,RA (e:=⟨4,0,0,[],⟨0,0⟩⟩) h rfl,e9]
 refine ⟨?_,?_,?_⟩
 ·show (By (Aq (doW w ⟨3,a,c,[],⟨0,0⟩⟩).disk) [] 0 99==By (Aq w.disk) [] 0 99)=true
  by_cases h4:c< 4
  ·rw [V7 (e:=⟨3,a,c,[],⟨0,0⟩⟩) h q es rfl hc.1 h4]
   show (By (Aq (BP (toD w.disk (Am w.disk a.toNat) c))) [] 0 99==_)=true
   obtain ⟨_,eo⟩:=(q.to c).1.tidy
   rw [eo,We h q c]
   exact beq_self_eq_true _
  ·rw [N2 (e:=⟨3,a,c,[],⟨0,0⟩⟩) h q es h0 rfl h4]
   show (By (Aq (toD w.disk (Am w.disk a.toNat) c)) [] 0 99==_)=true
   rw [We h q c]
   exact beq_self_eq_true _
 ·show (By (CV w.store a.toNat) [] 0 99==_)=true
  rw [Hq h.sd h.k hp]
  exact beq_self_eq_true _
 ·show (((toD w.disk (Am w.disk a.toNat) 9).list.length:Nat):Int)=_
  rw [MB q AE]
  have:=q.l
  have e:(mgD w.disk a.toNat x y).list=w.disk.list.take a.toNat++[w.disk.next]++w.disk.list.drop (a.toNat+2):=rfl
  show (((mgD w.disk a.toNat x y).list.length:Nat):Int)=_
  rw [e]
  simp only [List.length_append,List.length_take,List.length_drop,List.length_cons,List.length_nil]
  omega
end
end Go.Proofs.YtckdhcbbgmiccaaGreat
namespace Go.Proofs.YtckdhcbbgmiccaaGreat
theorem R6 {p:List Tag→Bool}:∀ (l m:List (List Tag)) (i:Nat),BK p i (l++m)=BK p i l++BK p (i+l.length) m:=by
 intro l
 induction l with
 | nil=>intro m i; rfl
 | cons n ns ih =>
   intro m i
   rw [List.cons_append]
   show (if p n then [(i:Int)+1] else [])++BK p (i+1) (ns++m)=((if p n then [(i:Int)+1] else [])++BK p (i+1) ns)++BK p (i+(n::ns).length) m
   rw [ih,← List.append_assoc,List.length_cons,show i+(ns.length+1)=i+1+ns.length by omega]
theorem Xo {id:Int}:∀ (ps:List Prt),(∀ p∈ps,∀ i∈p.ids,i≠id)→ps.foldl (CE id) []=[]:=by
 intro ps
 induction ps with
 | nil=>intro _; rfl
 | cons p ps ih =>
   intro h
   rw [List.foldl_cons]
   have e:CE id [] p=[]:=by
    unfold CE partOf
    rw [On _ _ (h p AD)]
    rfl
   rw [e]
   exact ih (fun q hq=>h q (by simp [hq]))
section
variable {w:Wld}
theorem Xp (h:WV w):∃ l,w.store.idx.names=w.disk.names++l:=⟨w.store.idx.names.drop w.disk.names.length,by
 have:=List.take_append_drop w.disk.names.length w.store.idx.names
 rw [← h.m] at this
 exact this.symm⟩
theorem UZ (h:WV w) (hm:w.store.mem=[]):By (Aq w.disk) [] 0 99=By w.store [] 0 99:=by
 obtain ⟨l,hl⟩:=Xp h
 have r1:∀ id,rowsOf w.store id=w.store.parts.foldl (CE id) []:=fun id=>by unfold rowsOf; rw [hm]; rfl
 have r2:∀ id,rowsOf (Aq w.disk) id=w.store.parts.foldl (CE id) []:=fun id=>by rw [← h.open]; rfl
 rw [TY h.v.so Oy,TY h.k Oy]
 unfold Om
 rw [hl,Iw,R6,List.flatMap_append]
 have e1:(BK (fits []) 0 w.disk.names).flatMap (D6 (Aq w.disk) 0 99)=(BK (fits []) 0 w.disk.names).flatMap (D6 w.store 0 99):=by
  have key:∀ (q:List Int),(∀ i∈q,1≤i∧i≤w.disk.names.length)→q.flatMap (D6 (Aq w.disk) 0 99)=q.flatMap (D6 w.store 0 99):=by
   intro q
   induction q with
   | nil=>intro _; rfl
   | cons i is ih =>
     intro hq
     rw [List.flatMap_cons,List.flatMap_cons,ih (fun j hj=>hq j (by simp [hj]))]
     have h1:=hq i AD
     unfold D6
     rw [r1,r2,hl,Iw]
     have e:(w.disk.names++l).getD (i - 1).toNat []=w.disk.names.getD (i - 1).toNat []:=by
      rw [List.getD_eq_getElem?_getD,List.getD_eq_getElem?_getD,List.getElem?_append_left AB]
     rw [e]
  exact key _ (fun i hi=>ER hi)
 have e2:(BK (fits []) (0+w.disk.names.length) l).flatMap (D6 w.store 0 99)=[]:=by
  rw [List.flatMap_eq_nil_iff]
  intro i hi
  have h1:=Mt l _ i hi
  have h0:rowsOf w.store i=[]:=by
   rw [r1]
   refine Xo _ fun p hp j hj=>?_
   rw [← h.open] at hp
   have h2:=JS ((DY.1 h.v.so).2.2.1 p hp) j hj
   rw [Iw] at h2
   omega
  unfold D6
  rw [h0]
  rfl
 rw [e1,e2,List.append_nil]
theorem YY (h:WV w):(doW w ⟨4,0,0,[],⟨0,0⟩⟩).store=Aq w.disk:=by rw [RA h rfl]
structure SM (w x:Wld) (k:Nat):Prop where
 wv:WV x
 ask:By x.store [] 0 99=By w.store [] 0 99
 nx:x.disk.next≤52+k
 len:x.disk.list.length≤6 - k∨x.disk.list.length≤1
theorem SM.start (h:WV w) (hn:w.disk.next≤51):SM w (doW w ⟨2,0,9,[],⟨0,0⟩⟩) 0:=by
 have hx:WV (doW w ⟨2,0,9,[],⟨0,0⟩⟩):=h.do NmD.nil
 have h1:=UY w ⟨2,0,9,[],⟨0,0⟩⟩
 have h2:=PE hx
 have h3:=Ny hx
 refine ⟨hx,?_,by omega,.inl AB⟩
 by_cases hc:(w.store.mem.length:Int)=0∨(w.store.parts.length:Int)=6
 ·rw [Nz h hc rfl]
 ·have q:=Xn h AB (fun e=>hc (.inl e)) (fun e=>hc (.inr e))
  rw [N1 (e:=⟨2,0,9,[],⟨0,0⟩⟩) h q rfl AE]
  exact Hs h q
theorem SM.step {x:Wld}{k:Nat}(h:SM w x k) (hk:k< 6):SM w (doW x ⟨3,0,9,[],⟨0,0⟩⟩) (k+1):=by
 have hx:WV (doW x ⟨3,0,9,[],⟨0,0⟩⟩):=h.wv.do NmD.nil
 have h1:=UY x ⟨3,0,9,[],⟨0,0⟩⟩
 have hn:=h.nx
 by_cases hl:2≤x.disk.list.length
 ·obtain ⟨_,e2,e3⟩:=Yu (c:=0) (a:=0) h.wv AB AB AB AB
  refine ⟨hx,(eq_of_beq e2).trans h.ask,by omega,?_⟩
  rcases h.len with h4 | h4 <;> omega
 ·have e:doW x ⟨3,0,9,[],⟨0,0⟩⟩=x:=by
   rw [GY (e:=⟨3,0,9,[],⟨0,0⟩⟩) rfl]
   refine Cj (.inl ?_)
   show ((Am x.disk 0).length:Int)=0
   have:Am x.disk 0=[]:=by
    unfold Am
    rw [if_pos]
    have hi:inR 0 0 ((x.disk.list.length:Int) - 2)=false:=by simp [inR]; omega
    rw [hi]
    rfl
   rw [this]
   rfl
  rw [e]
  exact ⟨h.wv,h.ask,by omega,.inr AB⟩
theorem SM.fin {x:Wld}(h:SM w x 6):WV (doW x ⟨2,0,9,[],⟨0,0⟩⟩)∧(By (doW x ⟨2,0,9,[],⟨0,0⟩⟩).store [] 0 99==By w.store [] 0 99)=true∧(By (doW (doW x ⟨2,0,9,[],⟨0,0⟩⟩) ⟨4,0,0,[],⟨0,0⟩⟩).store [] 0 99==By w.store [] 0 99)=true ∧
 (doW x ⟨2,0,9,[],⟨0,0⟩⟩).store.mem.length=0∧(doW x ⟨2,0,9,[],⟨0,0⟩⟩).disk.list.length≤2:=by
 have hx:WV (doW x ⟨2,0,9,[],⟨0,0⟩⟩):=h.wv.do NmD.nil
 have hl:=h.len
 have hn:=h.nx
 have h2:=PE h.wv
 have key:(doW x ⟨2,0,9,[],⟨0,0⟩⟩).store.mem=[]∧By (doW x ⟨2,0,9,[],⟨0,0⟩⟩).store [] 0 99=By w.store [] 0 99∧(doW x ⟨2,0,9,[],⟨0,0⟩⟩).disk.list.length≤2:=by
  by_cases hm:(x.store.mem.length:Int)=0
  ·rw [Nz h.wv (.inl hm) rfl]
   exact ⟨List.length_eq_zero_iff.1 AB,h.ask,by omega⟩
  ·have q:=Xn h.wv AB hm AB
   rw [N1 (e:=⟨2,0,9,[],⟨0,0⟩⟩) h.wv q rfl AE]
   refine ⟨rfl,(Hs h.wv q).trans h.ask,?_⟩
   show (toD x.disk (BC x.disk x.store) 9).list.length≤2
   rw [(Iu q (c:=9) AE).2]
   simp only [List.length_append,List.length_cons,List.length_nil]
   omega
 obtain ⟨k1,k2,k3⟩:=key
 refine ⟨hx,by rw [k2]; exact beq_self_eq_true _,?_,by rw [k1]; rfl,k3⟩
 rw [YY hx,UZ hx k1,k2]
 exact beq_self_eq_true _
end
end Go.Proofs.YtckdhcbbgmiccaaGreat
namespace Go.Proofs.YtckdhcbbgmiccaaGreat
def NB (w:Wld):Prop:=w.store.mem=[]→w.store.idx.names=w.disk.names
theorem QD {s:Sto}{n:List Tag}{r:Row}(h:(CN s n r).2=false):(CN s n r).1=s:=by
 unfold CN at h ⊢
 split at h
 ·rename_i hc; rw [if_pos hc]
 ·rename_i hc
  rw [if_neg hc]
  split at h
  ·rename_i hc2; rw [if_pos hc2]
  ·cases h
section
variable {w:Wld}
theorem NB.do (h:WV w) (nb:NB w) (e:Evt):NB (doW w e):=by
 by_cases k1:e.kind=1
 ·cases hn:As e.name with
  | false=>rw [Gw k1 hn]; exact nb
  | true =>
    rw [HX k1 hn]
    cases hb:(CN w.store e.name e.row).2 with
    | false=>rw [QD hb]; exact nb
    | true =>
      intro hm
      rw [(LB hb).2.2.2.2] at hm
      have hm2:w.store.mem++[⟨(BV w.store.idx e.name).2.1,e.row⟩]=[]:=hm
      simp at hm2
 ·by_cases k2:e.kind=2
  ·rw [HY k2]
   by_cases hs:((BC w.disk w.store).length:Int)=0∨e.cut< 0
   ·rw [Cj hs]; exact nb
   ·have q:=h.fl (fun e0=>hs (.inl (by rw [e0]; rfl)))
    by_cases hc:e.cut< (BC w.disk w.store).length
    ·rw [E3 (fun e0=>hs (.inl e0)) (fun e0=>hs (.inr e0)) hc,IH (w:=⟨w.store,toD w.disk (BC w.disk w.store) e.cut⟩) (PC h q _) (q.to _).1]
     exact fun _=>rfl
    ·rw [DU (fun e0=>hs (.inl e0)) (fun e0=>hs (.inr e0)) hc,(Gi h.sd h.k q.m q.parts).1]
     have o:=(q.to e.cut).2
     rw [F9 q] at hc
     rw [if_neg hc] at o
     intro _
     exact (congrArg (fun s:Sto=>s.idx.names) o).symm
  ·by_cases k3:e.kind=3
   ·rw [GY k3]
    by_cases hs:((Am w.disk e.at_).length:Int)=0∨e.cut< 0
    ·rw [Cj hs]; exact nb
    ·obtain ⟨x,y,q,i0,e3,_⟩:=h.mg (i:=e.at_) (fun e0=>hs (.inl (by rw [e0]; rfl)))
     have o:=(q.to e.cut).2
     by_cases hc:e.cut< (Am w.disk e.at_).length
     ·rw [E3 (fun e0=>hs (.inl e0)) (fun e0=>hs (.inr e0)) hc,IH (w:=⟨w.store,toD w.disk (Am w.disk e.at_) e.cut⟩) (MC h _ _) (by rw [e3]; exact (q.to _).1)]
      exact fun _=>rfl
     ·rw [DU (fun e0=>hs (.inl e0)) (fun e0=>hs (.inr e0)) hc]
      have hp:e.at_.toNat+2≤w.store.parts.length:=by rw [← h.open,q.open.2.2]; exact q.l
      have em:(BG w.store e.at_).1=CV w.store e.at_.toNat:=by
       have:=Hr hp
       rw [← i0] at this
       rw [this]
      have hd:(toD w.disk (Am w.disk e.at_.toNat) e.cut).names=w.disk.names:=by
       split at o
       ·exact congrArg (fun s:Sto=>s.idx.names) o
       ·exact congrArg (fun s:Sto=>s.idx.names) o
      intro hm
      rw [em] at hm ⊢
      show w.store.idx.names=(toD w.disk (Am w.disk e.at_) e.cut).names
      rw [e3,hd]
      exact nb hm
   ·by_cases k4:e.kind=4
    ·rw [RA h k4]; exact fun _=>rfl
    ·rw [Li k1 k2 k3 k4]; exact nb
theorem NB.foldl:∀ (es:List Evt) (w:Wld),WV w→NB w→EsD es→NB (es.foldl doW w):=by
 intro es
 induction es with
 | nil=>intro w _ nb _; exact nb
 | cons e es ih =>
   intro w h nb he
   exact ih _ (h.do (he e AD).1) (nb.do h e) (fun x hx=>he x (by simp [hx]))
def c9 (e:Evt):Evt:=⟨e.kind,e.at_,9,e.name,e.row⟩
def nvS (p:List Evt × List Evt) (e:Evt):List Evt × List Evt:=if e.kind=1∧(p.1.length:Int)< 20 then (p.1++[c9 e],p.2++[c9 e]) else if e.kind=2∨e.kind=3 then (p.1,p.2++[c9 e]) else p
structure NV (A B:List Evt):Prop where
 ea:EsD A
 eb:EsD B
 ix:(CW B).store.idx=(CW A).store.idx
 rw:∀ id,1≤id→id≤6→rowsOf (CW B).store id=rowsOf (CW A).store id
 la:A.length≤20
 ma:(CW A).store.mem.length≤A.length
 mb:(CW B).store.mem.length≤A.length
theorem C9 (es:List Evt) (e:Evt):CW (es++[e])=doW (CW es) e:=by unfold CW; rw [List.foldl_append]; rfl
theorem NV.nil:NV [] []:=⟨EsD.nil,EsD.nil,rfl,fun _ _ _=>rfl,by simp,by simp [CW,Cl],by simp [CW,Cl]⟩
theorem MF (s:Sto) (n:List Tag) (r:Row):(Fq s n r).mem.length=s.mem.length+1:=by simp [Fq]
theorem add_same {s t:Sto}{n:List Tag}{r:Row}(hs:SD s) (ht:SD t) (ks:Ad s=true) (kt:Ad t=true) (hi:t.idx=s.idx) (hr:∀ id,1≤id→id≤6→rowsOf t id=rowsOf s id) (hm:s.mem.length< 20) (hm2:t.mem.length< 20) :
 (CN t n r).1.idx=(CN s n r).1.idx∧(∀ id,1≤id→id≤6→rowsOf (CN t n r).1 id=rowsOf (CN s n r).1 id)∧(CN s n r).1.mem.length≤s.mem.length+1∧(CN t n r).1.mem.length≤t.mem.length+1:=by
 have same:t.idx=s.idx∧(∀ id,1≤id→id≤6→rowsOf t id=rowsOf s id)∧s.mem.length≤s.mem.length+1∧t.mem.length≤t.mem.length+1:=⟨hi,hr,by omega,by omega⟩
 cases h1:(BV s.idx n).2.2 with
 | false=>rw [LZ h1,LZ (by rw [hi]; exact h1)]; exact same
 | true =>
   cases h2:BX r with
   | false=>rw [Jk h2,Jk h2]; exact same
   | true =>
     obtain ⟨_,i2,_,i4⟩:=Na hs.idx hs.nm n
     have i5:=i4 h1
     have i6:=i2.len
     have hx:∀ id,1≤id→id≤6→rowsOf (Fq t n r) id=rowsOf (Fq s n r) id:=fun id a b=>by rw [Ip ht kt,Ip hs ks,hi,hr id a b]
     have h3:=hx (BV s.idx n).2.1 i5.1 AB
     by_cases h4:((rowsOf (Fq s n r) (BV s.idx n).2.1).length:Int) > 24
     ·rw [Gu h1 h2 AB h4,Gu (by rw [hi]; exact h1) h2 AB (by rw [hi,h3]; exact h4)]; exact same
     ·rw [Gv h1 h2 AB h4,Gv (by rw [hi]; exact h1) h2 AB (by rw [hi,h3]; exact h4)]
      refine ⟨?_,hx,by rw [MF]; exact Nat.le_refl _,by rw [MF]; exact Nat.le_refl _⟩
      show (BV t.idx n).1=(BV s.idx n).1
      rw [hi]
theorem NV.add {A B:List Evt}(h:NV A B){e:Evt}(he:EvD e) (k:e.kind=1) (hl:(A.length:Int)< 20):NV (A++[c9 e]) (B++[c9 e]):=by
 have ha:=WV.R5 h.ea
 have hb:=WV.R5 h.eb
 have m1:=h.ma
 have m2:=h.mb
 have key:(doW (CW B) (c9 e)).store.idx=(doW (CW A) (c9 e)).store.idx∧(∀ id,1≤id→id≤6→rowsOf (doW (CW B) (c9 e)).store id=rowsOf (doW (CW A) (c9 e)).store id) ∧
  (doW (CW A) (c9 e)).store.mem.length≤A.length+1∧(doW (CW B) (c9 e)).store.mem.length≤A.length+1:=by
  have k9:(c9 e).kind=1:=k
  cases hn:As (c9 e).name with
  | false=>rw [Gw k9 hn,Gw k9 hn]; exact ⟨h.ix,h.rw,by omega,by omega⟩
  | true =>
    rw [HX k9 hn,HX k9 hn]
    obtain ⟨q1,q2,q3,q4⟩:=add_same (n:=(c9 e).name) (r:=(c9 e).row) ha.sd hb.sd ha.k hb.k h.ix h.rw AB AB
    exact ⟨q1,q2,Nat.le_trans q3 AB,Nat.le_trans q4 AB⟩
 obtain ⟨k1,k2,k3,k4⟩:=key
 refine ⟨h.ea.snoc he,h.eb.snoc he,?_,?_,?_,?_,?_⟩
 ·rw [C9,C9]; exact k1
 ·rw [C9,C9]; exact k2
 ·rw [List.length_append,List.length_cons,List.length_nil]; omega
 ·rw [C9,List.length_append,List.length_cons,List.length_nil]; exact k3
 ·rw [C9,List.length_append,List.length_cons,List.length_nil]; exact k4
theorem NV.flush {A B:List Evt}(h:NV A B){e:Evt}(he:EvD e) (k:e.kind=2∨e.kind=3) (hl:B.length≤50):NV A (B++[c9 e]):=by
 have hb:=WV.R5 h.eb
 have nx:(CW B).disk.next≤60:=by
  have h3:=V6 B Cl
  have h4:Cl.disk.next=1:=rfl
  unfold CW
  omega
 have m2:=h.mb
 have n6:=hb.sd.nm.len
 have key:(doW (CW B) (c9 e)).store.idx=(CW B).store.idx∧(∀ id,1≤id→id≤6→rowsOf (doW (CW B) (c9 e)).store id=rowsOf (CW B).store id)∧(doW (CW B) (c9 e)).store.mem.length≤A.length:=by
  rcases k with k | k
  ·by_cases hc:((CW B).store.mem.length:Int)=0∨((CW B).store.parts.length:Int)=6
   ·rw [Nz (e:=c9 e) hb hc k]; exact ⟨rfl,fun _ _ _=>rfl,m2⟩
   ·have q:=Xn hb nx (fun e=>hc (.inl e)) (fun e=>hc (.inr e))
    rw [N1 (e:=c9 e) hb q k (by show ¬ (9:Int)< 2; decide)]
    exact ⟨rfl,fun id a b=>Im (StoK.of hb.sd hb.k) a b,by show (0:Nat)≤_; omega⟩
  ·by_cases hs:((Am (CW B).disk e.at_).length:Int)=0
   ·rw [GY (e:=c9 e) k]
    have hs9:((Am (CW B).disk (c9 e).at_).length:Int)=0:=hs
    rw [Cj (.inl hs9)]
    exact ⟨rfl,fun _ _ _=>rfl,m2⟩
   ·obtain ⟨x,y,q,i0,e3,_⟩:=hb.mg (i:=e.at_) (fun e0=>hs (by rw [e0]; rfl))
    have hp:e.at_.toNat+2≤(CW B).store.parts.length:=by rw [← hb.open,q.open.2.2]; exact q.l
    rw [N2 (e:=c9 e) hb q e3 (by show 0≤e.at_; omega) k (by show ¬ (9:Int)< 4; decide)]
    exact ⟨rfl,fun id a b=>(E5 (StoK.of hb.sd hb.k) hp a b).2,m2⟩
 obtain ⟨k1,k2,k3⟩:=key
 refine ⟨h.ea,h.eb.snoc he,?_,?_,h.la,h.ma,?_⟩
 ·rw [C9,k1]; exact h.ix
 ·rw [C9]; exact fun id a b=>(k2 id a b).trans (h.rw id a b)
 ·rw [C9]; exact k3
theorem NV.step {p:List Evt × List Evt}(h:NV p.1 p.2){e:Evt}(he:EvD e) (hl:p.2.length≤50):NV (nvS p e).1 (nvS p e).2∧(nvS p e).2.length≤p.2.length+1:=by
 unfold nvS
 split
 ·rename_i k; exact ⟨h.add he k.1 k.2,by simp⟩
 ·split
  ·rename_i k; exact ⟨h.flush he k hl,by simp⟩
  ·exact ⟨h,by omega⟩
theorem NV.foldl:∀ (es:List Evt) (p:List Evt × List Evt),NV p.1 p.2→EsD es→p.2.length+es.length≤50→NV (es.foldl nvS p).1 (es.foldl nvS p).2∧(es.foldl nvS p).2.length≤50:=by
 intro es
 induction es with
 | nil=>intro p h _ hl; exact ⟨h,by simpa using hl⟩
 | cons e es ih =>
   intro p h he hl
   rw [List.length_cons] at hl
   obtain ⟨a,b⟩:=h.step (he e AD) AB
   exact ih _ a (fun x hx=>he x (by simp [hx])) AB
end
end Go.Proofs.YtckdhcbbgmiccaaGreat
