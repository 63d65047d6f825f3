/- walks; pruned haves; hints pruned; squeezed -/
import Derived.Test.YtckdhcbbgmiccaaGreatWyzW60
open Go.Proofs.Tryz
set_option linter.unusedVariables false
set_option linter.unusedSimpArgs false
namespace Go.Proofs.YtckdhcbbgmiccaaGreat
set_option maxRecDepth 100000
set_option maxHeartbeats 4000000
variable {w:World} {F:Nat→Prop} {a1 a2 a3 a4 a5 a6 a7 a8 a9 a10 a11 a12 a13 a14:Option Addr} {n1 c1 n2 c2 n3 c3 n4 c4 n5 c5 n6 c6 n7 c7 n8 c8 n9 c9 n10 c10 n11 c11 n12 c12 n13 c13 n14 c14:Nat}
theorem K2  {F:Nat→Prop}   : Calls Tryz.prog 42 [].toArray w (Al fun rv w'=>VS (ge w.heap.size) w' ((⟨[],[],[],1⟩:Dsk):Dsk) rv∧Ext w w'):=by
 refine goT func42 ?_
 have Z:=St.i0 F w
 refine .s<|.g<|RG.Np Z fun E w Z=>.d<|.s<|.g<|RG.N0 Fil 0 Z fun aa w Z=>RG.N0 Int 0 Z fun ab w Z=>RG.N0 (List Tag) 0 Z fun ac w Z=>.r 1<|RG.Ss 3 Z fun w Z=>.d ?_
 have Z:=((Z.sl 2).sl 1).sl 0
 exact T.Rb 0 func42 results42 Z ⟨Z.rS (⟨([]:List Fil),([]:List Int),([]:List (List Tag)),1⟩:Dsk) [2,1,0] AF,Z.xt⟩
theorem GM  {F:Nat→Prop}   : Calls Tryz.prog 13 [].toArray w (Al fun rv w'=>VS (ge w.heap.size) w' (CR:Wld) rv∧Ext w w'):=by
 refine goT func13 ?_
 have Z:=St.i0 F w
 refine .s<|.g<|RG.Np Z fun ax w Z=>.d<|.s<|.g<|.r 1<|RG.cl (CP (⟨(⟨([]:List (List Tag)),([]:List Pst)⟩:Idx),([]:List Prt),([]:List Smp)⟩:Sto) Z.na Z.na Z.na Z.na WV.new.wd.wi.sto.nm NsD.nil WV.new.sd.sz) ?_
 rintro _ w ⟨⟨ai,ay,aj,ak,az,al,am,aA,ao,aq,aB,ar,rfl,ab,ac,E,ae,aa,af,ag⟩,ah⟩
 cases ab.len
 cases ac.len
 cases E.len
 cases aa.len
 have Z:=Z.so ah [.own 0 am 66 ao (((AZ (⟨(⟨([]:List (List Tag)),([]:List Pst)⟩:Idx),([]:List Prt),([]:List Smp)⟩:Sto))).parts),.own 0 aq 107 ar (((AZ (⟨(⟨([]:List (List Tag)),([]:List Pst)⟩:Idx),([]:List Prt),([]:List Smp)⟩:Sto))).mem)] [.rep ai aj ((((AZ (⟨(⟨([]:List (List Tag)),([]:List Pst)⟩:Idx),([]:List Prt),([]:List Smp)⟩:Sto))).idx).names),.rep ak al ((((AZ (⟨(⟨([]:List (List Tag)),([]:List Pst)⟩:Idx),([]:List Prt),([]:List Smp)⟩:Sto))).idx).AY)] (nd2 ag) (oN E ae (oN aa af o0)) (fc ab (fc ac fn_))
 refine RG.CS (K2 (F:=all)) Z fun aC aD aE aF aG aH w Z=>.r 1<|RG.Ss 2 Z fun w Z=>.d ?_
 have Z:=(Z.sl 0).sl 0
 exact T.Rb 0 func13 results13 Z ⟨Z.rS (⟨(⟨(⟨(((AZ (⟨(⟨([]:List (List Tag)),([]:List Pst)⟩:Idx),([]:List Prt),([]:List Smp)⟩:Sto))).idx).names,(((AZ (⟨(⟨([]:List (List Tag)),([]:List Pst)⟩:Idx),([]:List Prt),([]:List Smp)⟩:Sto))).idx).AY⟩:Idx),((AZ (⟨(⟨([]:List (List Tag)),([]:List Pst)⟩:Idx),([]:List Prt),([]:List Smp)⟩:Sto))).parts,((AZ (⟨(⟨([]:List (List Tag)),([]:List Pst)⟩:Idx),([]:List Prt),([]:List Smp)⟩:Sto))).mem⟩:Sto),(⟨((⟨[],[],[],1⟩:Dsk)).files,((⟨[],[],[],1⟩:Dsk)).list,((⟨[],[],[],1⟩:Dsk)).names,((⟨[],[],[],1⟩:Dsk)).next⟩:Dsk)⟩:Wld) [5,6,1,0,2,3,4] AF,Z.xt⟩
theorem D9 (w_:Wld){bx:Nat}{ab0:Option Addr}{nb0 cb0:Nat}(hrb0:RepS w (nin F [bx]) ab0 nb0 cb0 w_.store.idx.names){ab1:Option Addr}{nb1 cb1:Nat}(hrb1:RepS w (nin F [bx]) ab1 nb1 cb1 w_.store.idx.AY){ab2:Option Addr}{nb2 cb2:Nat}(hrb2:RepS w (nin F [bx]) ab2 nb2 cb2 w_.store.parts){ab3:Option Addr}{nb3 cb3:Nat}(hrb3:RepS w (nin F [bx]) ab3 nb3 cb3 w_.store.mem){ab4:Option Addr}{nb4 cb4:Nat}(hrb4:RepS w (nin F [bx]) ab4 nb4 cb4 w_.disk.files){ab5:Option Addr}{nb5 cb5:Nat}(hrb5:RepS w (nin F [bx]) ab5 nb5 cb5 w_.disk.list){ab6:Option Addr}{nb6 cb6:Nat}(hrb6:RepS w (nin F [bx]) ab6 nb6 cb6 w_.disk.names) (hbx:Box w bx 38 [.slice ab0 nb0 cb0,.slice ab1 nb1 cb1,.slice ab2 nb2 cb2,.slice ab3 nb3 cb3,.slice ab4 nb4 cb4,.slice ab5 nb5 cb5,.slice ab6 nb6 cb6,.int .i64 w_.disk.next]) (p0:DD w_.disk) (p1:Ax w_.disk=true):Calls Tryz.prog 69 [.pointer (some ⟨bx,0,none⟩)].toArray w (Al fun rv w'=>(rv=.tuple #[]∧(∃ (ao0:Option Addr) (no0 co0:Nat) (ao1:Option Addr) (no1 co1:Nat) (ao2:Option Addr) (no2 co2:Nat) (ao3:Option Addr) (no3 co3:Nat) (ao4:Option Addr) (no4 co4:Nat) (ao5:Option Addr) (no5 co5:Nat) (ao6:Option Addr) (no6 co6:Nat),Box w' bx 38 [.slice ao0 no0 co0,.slice ao1 no1 co1,.slice ao2 no2 co2,.slice ao3 no3 co3,.slice ao4 no4 co4,.slice ao5 no5 co5,.slice ao6 no6 co6,.int .i64 ((((BA w_)).disk).next)]∧RepS w' (nin (fo F w.heap.size) [bx]) ao0 no0 co0 (((((BA w_)).store).idx).names)∧RepS w' (nin (fo F w.heap.size) [bx]) ao1 no1 co1 (((((BA w_)).store).idx).AY)∧RepS w' (nin (fo F w.heap.size) [bx]) ao2 no2 co2 ((((BA w_)).store).parts)∧RepS w' (nin (fo F w.heap.size) [bx]) ao3 no3 co3 ((((BA w_)).store).mem)∧RepS w' (nin (fo F w.heap.size) [bx]) ao4 no4 co4 ((((BA w_)).disk).files)∧RepS w' (nin (fo F w.heap.size) [bx]) ao5 no5 co5 ((((BA w_)).disk).list)∧RepS w' (nin (fo F w.heap.size) [bx]) ao6 no6 co6 ((((BA w_)).disk).names)))∧Chg (ins [bx]) w w'):=by
 cases hrb0.len
 cases hrb1.len
 cases hrb2.len
 cases hrb3.len
 cases hrb4.len
 cases hrb5.len
 cases hrb6.len
 refine goT func69 ?_
 have Z:=(((((((St.i2 F hbx).p1 hrb0).p1 hrb1).p1 hrb2).p1 hrb3).p1 hrb4).p1 hrb5).p1 hrb6
 refine .s<|.g<|.r 4<|RG.Ln 0 Z<|RG.CS (Jz w_.disk (Z.a 2) (Z.a 1) (Z.a 0) p0) Z fun E aa ab ac ae af w Z=>.r 2<|RG.Ss 0 Z fun w Z=>.d<|.g<|.r 4<|RG.Ln 0 Z<|RG.CS (Jw (CE w_.disk) (Z.mg 1 0) (Z.mg 1 1) (Z.mg 1 2) (T0 p0)) Z fun ag ah ai aj ak al am ao w Z=>.r 2<|RG.Ss 0 Z fun w Z=>.d<|T.FP func69 results69 ?_
 rw [show (BA w_)=(⟨(⟨(⟨((Cf (CE w_.disk)).idx).names,((Cf (CE w_.disk)).idx).AY⟩:Idx),(Cf (CE w_.disk)).parts,(Cf (CE w_.disk)).mem⟩:Sto),(⟨(CE w_.disk).files,(CE w_.disk).list,(CE w_.disk).names,(CE w_.disk).next⟩:Dsk)⟩:Wld) from by exact VX p0 p1]
 exact ⟨⟨rfl,ag,(((Cf (CE w_.disk)).idx).names).length,ah,ai,(((Cf (CE w_.disk)).idx).AY).length,aj,ak,((Cf (CE w_.disk)).parts).length,al,am,((Cf (CE w_.disk)).mem).length,ao,E,(CE w_.disk).files.length,aa,ab,(CE w_.disk).list.length,ac,ae,(CE w_.disk).names.length,af,Z.bc 0,Z.qr (g:=1) [0] 0 (((Cf (CE w_.disk)).idx).names) rfl,Z.qr (g:=1) [0] 1 (((Cf (CE w_.disk)).idx).AY) rfl,Z.qr (g:=1) [0] 2 ((Cf (CE w_.disk)).parts) rfl,Z.qr (g:=1) [0] 3 ((Cf (CE w_.disk)).mem) rfl,Z.qr (g:=1) [0] 4 ((CE w_.disk).files) rfl,Z.qr (g:=1) [0] 5 ((CE w_.disk).list) rfl,Z.qr (g:=1) [0] 6 ((CE w_.disk).names) rfl⟩,Z.ch⟩
theorem Df (w_:Wld) (e:Evt){bx:Nat}{ab0:Option Addr}{nb0 cb0:Nat}(hrb0:RepS w (nin F [bx]) ab0 nb0 cb0 w_.store.idx.names){ab1:Option Addr}{nb1 cb1:Nat}(hrb1:RepS w (nin F [bx]) ab1 nb1 cb1 w_.store.idx.AY){ab2:Option Addr}{nb2 cb2:Nat}(hrb2:RepS w (nin F [bx]) ab2 nb2 cb2 w_.store.parts){ab3:Option Addr}{nb3 cb3:Nat}(hrb3:RepS w (nin F [bx]) ab3 nb3 cb3 w_.store.mem){ab4:Option Addr}{nb4 cb4:Nat}(hrb4:RepS w (nin F [bx]) ab4 nb4 cb4 w_.disk.files){ab5:Option Addr}{nb5 cb5:Nat}(hrb5:RepS w (nin F [bx]) ab5 nb5 cb5 w_.disk.list){ab6:Option Addr}{nb6 cb6:Nat}(hrb6:RepS w (nin F [bx]) ab6 nb6 cb6 w_.disk.names) (hbx:Box w bx 38 [.slice ab0 nb0 cb0,.slice ab1 nb1 cb1,.slice ab2 nb2 cb2,.slice ab3 nb3 cb3,.slice ab4 nb4 cb4,.slice ab5 nb5 cb5,.slice ab6 nb6 cb6,.int .i64 w_.disk.next]) (h1:RepS w (nin F [bx]) a1 n1 c1 e.name) (p0:WV w_) (p1:NmD e.name):Calls Tryz.prog 35 [.pointer (some ⟨bx,0,none⟩),.agg #[.int .i64 e.kind,.int .i64 e.at_,.int .i64 e.cut,.slice a1 n1 c1,.int .i64 e.row.t,.int .i64 e.row.v]].toArray w (Al fun rv w'=>(rv=.tuple #[]∧(∃ (ao0:Option Addr) (no0 co0:Nat) (ao1:Option Addr) (no1 co1:Nat) (ao2:Option Addr) (no2 co2:Nat) (ao3:Option Addr) (no3 co3:Nat) (ao4:Option Addr) (no4 co4:Nat) (ao5:Option Addr) (no5 co5:Nat) (ao6:Option Addr) (no6 co6:Nat),Box w' bx 38 [.slice ao0 no0 co0,.slice ao1 no1 co1,.slice ao2 no2 co2,.slice ao3 no3 co3,.slice ao4 no4 co4,.slice ao5 no5 co5,.slice ao6 no6 co6,.int .i64 ((((doW w_ e)).disk).next)]∧RepS w' (nin (fo F w.heap.size) [bx]) ao0 no0 co0 (((((doW w_ e)).store).idx).names)∧RepS w' (nin (fo F w.heap.size) [bx]) ao1 no1 co1 (((((doW w_ e)).store).idx).AY)∧RepS w' (nin (fo F w.heap.size) [bx]) ao2 no2 co2 ((((doW w_ e)).store).parts)∧RepS w' (nin (fo F w.heap.size) [bx]) ao3 no3 co3 ((((doW w_ e)).store).mem)∧RepS w' (nin (fo F w.heap.size) [bx]) ao4 no4 co4 ((((doW w_ e)).disk).files)∧RepS w' (nin (fo F w.heap.size) [bx]) ao5 no5 co5 ((((doW w_ e)).disk).list)∧RepS w' (nin (fo F w.heap.size) [bx]) ao6 no6 co6 ((((doW w_ e)).disk).names)))∧Chg (ins [bx]) w w'):=by
 refine goT func35 ?_
 have hcv_bx:Cov (ins [bx]) w bx:=Cov.mkI AI
 obtain rfl:=hrb0.len
 replace hrb0:=hrb0.IY (s:=w.heap.size)
 obtain rfl:=hrb1.len
 replace hrb1:=hrb1.IY (s:=w.heap.size)
 obtain rfl:=hrb2.len
 replace hrb2:=hrb2.IY (s:=w.heap.size)
 obtain rfl:=hrb3.len
 replace hrb3:=hrb3.IY (s:=w.heap.size)
 obtain rfl:=hrb4.len
 replace hrb4:=hrb4.IY (s:=w.heap.size)
 obtain rfl:=hrb5.len
 replace hrb5:=hrb5.IY (s:=w.heap.size)
 obtain rfl:=hrb6.len
 replace hrb6:=hrb6.IY (s:=w.heap.size)
 obtain rfl:=h1.len
 replace h1:=h1.IY (s:=w.heap.size)
 refine .s<|.g<|.np 46 [vI e.kind,vI e.at_,vI e.cut,.slice a1 e.name.length c1,vI e.row.t,vI e.row.v] fun ae iK d8 d9 aa gK=>?_
 have j5:=Ab d8 hbx.lt
 replace ⟨hrb0,hrb1,hrb2,hrb3,hrb4,hrb5,hrb6,hbx,h1⟩:=(sn [bx] d9 d8).g9 hrb0 hrb1 hrb2 hrb3 hrb4 hrb5 hrb6 hbx h1
 have E:Chg (ins [bx]) w iK:=Chg.GW (Chg.refl (ins [bx]) w) d9
 refine .d<|.s<|.g<|.ns 0 115 [] fun ac iL dI eK gL gM=>?_
 have eL:=Ab dI hbx.lt
 have ec:=Ab dI aa.lt
 replace ⟨hrb0,hrb1,hrb2,hrb3,hrb4,hrb5,hrb6,hbx,h1,aa,E⟩:=(sn [ae,bx] eK dI).g11 hrb0 hrb1 hrb2 hrb3 hrb4 hrb5 hrb6 hbx h1 aa E
 have ab:Own (α:=Stp) iL ac 115 (nin (fo F w.heap.size) [ac,ae,bx]) 0 0 []:=Own.BM gL
 refine .r 1<|.d<|.s<|.g<|.r 3<|.ln hbx<|.np 32 [AH,AH,AH,AH] fun af l7 bE eM gN gO=>?_
 have gP:=Ab bE hbx.lt
 have gQ:=Ab bE aa.lt
 have j6:=Ab bE ab.lt
 have j7:=E.cn bE
 replace ⟨hrb0,hrb1,hrb2,hrb3,hrb4,hrb5,hrb6,hbx,h1,aa,ab,E⟩:=(sn [ac,ae,bx] eM bE).g12 hrb0 hrb1 hrb2 hrb3 hrb4 hrb5 hrb6 hbx h1 aa ab E
 refine .sc [.slice ab0 w_.store.idx.names.length cb0,.slice ab1 w_.store.idx.AY.length cb1,.slice ab2 w_.store.parts.length cb2,.slice ab3 w_.store.mem.length cb3] gN fun bD eN ag gR=>?_
 replace ⟨hrb0,hrb1,hrb2,hrb3,hrb4,hrb5,hrb6,hbx,h1,aa,ab,E⟩:=(so [af,ac,ae,bx] eN).g12 hrb0 hrb1 hrb2 hrb3 hrb4 hrb5 hrb6 hbx h1 aa ab E
 refine .d<|.s<|.s<|.g<|.r 1<|.lb aa<|.d<|.b 0<|.s<|.g<|.eq e.kind 1 (fun gS=>?_) (fun gS=>?_)
 ·refine .r 1<|.d<|.ct<|.s ?_
  replace hrb0:=hrb0.Cl
  replace hrb1:=hrb1.Cl
  replace hrb2:=hrb2.Cl
  replace hrb3:=hrb3.Cl
  replace hrb4:=hrb4.Cl
  replace hrb5:=hrb5.Cl
  replace hrb6:=hrb6.Cl
  replace h1:=h1.Cl
  have gT:Gb (bx+1) bD.heap.size:=hbx.lt
  have eO:Gb (ae+1) bD.heap.size:=aa.lt
  refine .gd (mtb [ac] bD.heap.size) 14 fun iM dJ=>?_
  replace ⟨hrb0,hrb1,hrb2,hrb3,hrb4,hrb5,hrb6,hbx,h1,aa,ab,ag⟩:=(se [af,ac,ae,bx] dJ).g12 hrb0 hrb1 hrb2 hrb3 hrb4 hrb5 hrb6 hbx h1 aa ab ag
  replace E:=(se [af,ac,ae,bx] dJ).g1 E
  have ah:Chg (mtb [ac] bD.heap.size) bD iM:=Chg.GW (Chg.refl (mtb [ac] bD.heap.size) bD) dJ
  refine .r [0,1,2]<|.ln 3 hbx (Cy (all_cons (Nb.symm eL) all_nil) gT)<|.r [4]<|.lb 5 aa (Cy (all_cons (Nb.symm ec) all_nil) eO)<|.r [6]<|.ln 7 aa (Cy (all_cons (Nb.symm ec) all_nil) eO)<|.tw 8 12 ?_ ?_
  ·refine .cl (fun eS bi=>GJ w_.store e.name e.row ((hrb0.base (fun _ _ h=>h.1)).ext bi) ((hrb1.base (fun _ _ h=>h.1)).ext bi) ((hrb2.base (fun _ _ h=>h.1)).ext bi) ((hrb3.base (fun _ _ h=>h.1)).ext bi) ((h1.base (fun _ _ h=>h.1)).ext bi) p0.sd p1 (w:=eS) (F:=nin (fo F w.heap.size) [af,ac,ae,bx])) ?_
   intro eS bi
   replace ⟨hrb0,hrb1,hrb2,hrb3,hrb4,hrb5,hrb6,hbx,h1,aa,ab,ag⟩:=(se [af,ac,ae,bx] bi).g12 hrb0 hrb1 hrb2 hrb3 hrb4 hrb5 hrb6 hbx h1 aa ab ag
   replace ⟨E,ah⟩:=(se [af,ac,ae,bx] bi).g2 E ah
   rintro l8 l9 ⟨⟨mh,rfl,⟨_,rfl,⟨cG,mj,cH,cI,ml,cJ,cK,mp,cL,cM,mq,cN,rfl,aF,aG,aH,aI⟩⟩⟩,dK⟩
   have bW:=al4 ag.lt ab.lt aa.lt hbx.lt
   have dL:Gb w.heap.size eS.heap.size:=E.size
   have hkeep_:=dK
   replace ⟨hrb0,hrb1,hrb2,hrb3,hrb4,hrb5,hrb6,hbx,h1,aa,ab,ag⟩:=(se [af,ac,ae,bx] dK).g12 hrb0 hrb1 hrb2 hrb3 hrb4 hrb5 hrb6 hbx h1 aa ab ag
   replace ⟨E,ah⟩:=(se [af,ac,ae,bx] dK).g2 E ah
   refine ⟨Ext.chg hkeep_,?_⟩
   replace aF:=RepS.Bq (M:=[af,ac,ae,bx]) aF bW dL
   have j8:=aF.max
   replace aG:=RepS.Bq (M:=[af,ac,ae,bx]) aG bW dL
   have j9:=aG.max
   replace aH:=RepS.Bq (M:=[af,ac,ae,bx]) aH bW dL
   have ka:=aH.max
   replace aI:=RepS.Bq (M:=[af,ac,ae,bx]) aI bW dL
   have iN:=aI.max
   have eT:=aF.len
   subst eT
   have eU:=aG.len
   subst eU
   have eV:=aH.len
   subst eV
   have eW:=aI.len
   subst eW
   refine .r [9,10] ?_
   cases iO:(BQ w_.store e.name e.row).2
   ·refine .r [11]<|.go 12<|.nw (fun b=>.pointer (some ⟨b,0,none⟩)) 32 [AH,AH,AH,AH] fun kb cO=>?_
    replace ⟨hrb0,hrb1,hrb2,hrb3,hrb4,hrb5,hrb6,hbx,h1,aa,ab,ag⟩:=(se [af,ac,ae,bx] cO).g12 hrb0 hrb1 hrb2 hrb3 hrb4 hrb5 hrb6 hbx h1 aa ab ag
    replace ⟨aF,aG,aH,aI,E,ah⟩:=(se [af,ac,ae,bx] cO).g6 aF aG aH aI E ah
    intro bF kd aP cP eX eY
    have iP:=Ab aP hbx.lt
    have iQ:=Ab aP aa.lt
    have iR:=Ab aP ab.lt
    have iS:=Ab aP ag.lt
    have iT:=E.cn aP
    have eZ:=ah.cn aP
    replace ⟨hrb0,hrb1,hrb2,hrb3,hrb4,hrb5,hrb6,hbx,h1,aa,ab,ag⟩:=(sn [af,ac,ae,bx] cP aP).g12 hrb0 hrb1 hrb2 hrb3 hrb4 hrb5 hrb6 hbx h1 aa ab ag
    replace ⟨aF,aG,aH,aI,E,ah⟩:=(sn [af,ac,ae,bx] cP aP).g6 aF aG aH aI E ah
    refine .go 13<|GE.Er (t':=32) (o:=0) (v:=.agg #[.slice cG ((BQ w_.store e.name e.row).1.idx.names.length) cH,.slice cI ((((BQ w_.store e.name e.row).1.idx).AY).length) cJ,.slice cK ((BQ w_.store e.name e.row).1.parts.length) cL,.slice cM ((BQ w_.store e.name e.row).1.mem.length) cN]) [.slice cG ((BQ w_.store e.name e.row).1.idx.names.length) cH,.slice cI ((((BQ w_.store e.name e.row).1.idx).AY).length) cJ,.slice cK ((BQ w_.store e.name e.row).1.parts.length) cL,.slice cM ((BQ w_.store e.name e.row).1.mem.length) cN] eX AA AA AA fun ke cQ=>?_
    replace ⟨hrb0,hrb1,hrb2,hrb3,hrb4,hrb5,hrb6,hbx,h1,aa,ab,ag⟩:=(se [bF,af,ac,ae,bx] cQ).g12 hrb0 hrb1 hrb2 hrb3 hrb4 hrb5 hrb6 hbx h1 aa ab ag
    replace ⟨aF,aG,aH,aI,E,ah⟩:=(se [bF,af,ac,ae,bx] cQ).g6 aF aG aH aI E ah
    intro kf bG iU e7
    have hkeep_:=Chg.toS bG (Cov.toS eZ)
    replace ⟨hrb0,hrb1,hrb2,hrb3,hrb4,hrb5,hrb6,hbx,h1,aa,ab,ag⟩:=(so [bF,af,ac,ae,bx] bG).g12 hrb0 hrb1 hrb2 hrb3 hrb4 hrb5 hrb6 hbx h1 aa ab ag
    replace ⟨aF,aG,aH,aI,E,ah⟩:=(so [bF,af,ac,ae,bx] bG).g6 aF aG aH aI E ah
    refine ⟨hkeep_,?_⟩
    refine .d fun kg cR=>?_
    replace ⟨hrb0,hrb1,hrb2,hrb3,hrb4,hrb5,hrb6,hbx,h1,aa,ab,ag⟩:=(se [bF,af,ac,ae,bx] cR).g12 hrb0 hrb1 hrb2 hrb3 hrb4 hrb5 hrb6 hbx h1 aa ab ag
    replace ⟨aF,aG,aH,aI,E,ah⟩:=(se [bF,af,ac,ae,bx] cR).g6 aF aG aH aI E ah
    replace hrb0:=hrb0.BK
    replace hrb1:=hrb1.BK
    replace hrb2:=hrb2.BK
    replace hrb3:=hrb3.BK
    replace hrb4:=hrb4.BK
    replace hrb5:=hrb5.BK
    replace hrb6:=hrb6.BK
    replace h1:=h1.BK
    refine .r 1<|.d<|.s<|.g<|.r 1<|.d<|.cf<|.sk<|.ib 0<|.s<|.s<|.g<|.r 8<|.d<|.ct<|T.KH AA func35 results35 ?_
    rw [show (doW w_ e)=w_ from by exact UT p0 (by with_reducible assumption) (by with_reducible assumption)]
    exact ⟨⟨rfl,ab0,w_.store.idx.names.length,cb0,ab1,w_.store.idx.AY.length,cb1,ab2,w_.store.parts.length,cb2,ab3,w_.store.mem.length,cb3,ab4,w_.disk.files.length,cb4,ab5,w_.disk.list.length,cb5,ab6,w_.disk.names.length,cb6,hbx,(RepS.Am hrb0 (all_cons AM all_nil)),(RepS.Am hrb1 (all_cons AM all_nil)),(RepS.Am hrb2 (all_cons AM all_nil)),(RepS.Am hrb3 (all_cons AM all_nil)),(RepS.Am hrb4 (all_cons AM all_nil)),(RepS.Am hrb5 (all_cons AM all_nil)),(RepS.Am hrb6 (all_cons AM all_nil))⟩,E⟩
   refine .r [11]<|.go 12<|.nw (fun b=>.pointer (some ⟨b,0,none⟩)) 32 [AH,AH,AH,AH] fun kh cS=>?_
   replace ⟨hrb0,hrb1,hrb2,hrb3,hrb4,hrb5,hrb6,hbx,h1,aa,ab,ag⟩:=(se [af,ac,ae,bx] cS).g12 hrb0 hrb1 hrb2 hrb3 hrb4 hrb5 hrb6 hbx h1 aa ab ag
   replace ⟨aF,aG,aH,aI,E,ah⟩:=(se [af,ac,ae,bx] cS).g6 aF aG aH aI E ah
   intro bj ki aQ cT e8 fa
   have iV:=Ab aQ hbx.lt
   have iW:=Ab aQ aa.lt
   have iX:=Ab aQ ab.lt
   have iY:=Ab aQ ag.lt
   have iZ:=E.cn aQ
   have fb:=ah.cn aQ
   replace ⟨hrb0,hrb1,hrb2,hrb3,hrb4,hrb5,hrb6,hbx,h1,aa,ab,ag⟩:=(sn [af,ac,ae,bx] cT aQ).g12 hrb0 hrb1 hrb2 hrb3 hrb4 hrb5 hrb6 hbx h1 aa ab ag
   replace ⟨aF,aG,aH,aI,E,ah⟩:=(sn [af,ac,ae,bx] cT aQ).g6 aF aG aH aI E ah
   refine .go 13<|GE.Er (t':=32) (o:=0) (v:=.agg #[.slice cG ((BQ w_.store e.name e.row).1.idx.names.length) cH,.slice cI ((((BQ w_.store e.name e.row).1.idx).AY).length) cJ,.slice cK ((BQ w_.store e.name e.row).1.parts.length) cL,.slice cM ((BQ w_.store e.name e.row).1.mem.length) cN]) [.slice cG ((BQ w_.store e.name e.row).1.idx.names.length) cH,.slice cI ((((BQ w_.store e.name e.row).1.idx).AY).length) cJ,.slice cK ((BQ w_.store e.name e.row).1.parts.length) cL,.slice cM ((BQ w_.store e.name e.row).1.mem.length) cN] e8 AA AA AA fun kj cU=>?_
   replace ⟨hrb0,hrb1,hrb2,hrb3,hrb4,hrb5,hrb6,hbx,h1,aa,ab,ag⟩:=(se [bj,af,ac,ae,bx] cU).g12 hrb0 hrb1 hrb2 hrb3 hrb4 hrb5 hrb6 hbx h1 aa ab ag
   replace ⟨aF,aG,aH,aI,E,ah⟩:=(se [bj,af,ac,ae,bx] cU).g6 aF aG aH aI E ah
   intro kk bH cV fd
   have hkeep_:=Chg.toS bH (Cov.toS fb)
   replace ⟨hrb0,hrb1,hrb2,hrb3,hrb4,hrb5,hrb6,hbx,h1,aa,ab,ag⟩:=(so [bj,af,ac,ae,bx] bH).g12 hrb0 hrb1 hrb2 hrb3 hrb4 hrb5 hrb6 hbx h1 aa ab ag
   replace ⟨aF,aG,aH,aI,E,ah⟩:=(so [bj,af,ac,ae,bx] bH).g6 aF aG aH aI E ah
   refine ⟨hkeep_,?_⟩
   refine .d fun kl cW=>?_
   replace ⟨hrb0,hrb1,hrb2,hrb3,hrb4,hrb5,hrb6,hbx,h1,aa,ab,ag⟩:=(se [bj,af,ac,ae,bx] cW).g12 hrb0 hrb1 hrb2 hrb3 hrb4 hrb5 hrb6 hbx h1 aa ab ag
   replace ⟨aF,aG,aH,aI,cV,E,ah⟩:=(se [bj,af,ac,ae,bx] cW).g7 aF aG aH aI cV E ah
   replace hrb0:=hrb0.BK
   replace hrb1:=hrb1.BK
   replace hrb2:=hrb2.BK
   replace hrb3:=hrb3.BK
   replace hrb4:=hrb4.BK
   replace hrb5:=hrb5.BK
   replace hrb6:=hrb6.BK
   replace h1:=h1.BK
   refine .r 1<|.d<|.s<|.g<|.r 1<|.d<|.ct<|.g<|.r 1<|.ln cV<|.r 2<|.sb 0 (.agg #[.slice cG ((BQ w_.store e.name e.row).1.idx.names.length) cH,.slice cI ((((BQ w_.store e.name e.row).1.idx).AY).length) cJ,.slice cK ((BQ w_.store e.name e.row).1.parts.length) cL,.slice cM ((BQ w_.store e.name e.row).1.mem.length) cN]) [.slice cG ((BQ w_.store e.name e.row).1.idx.names.length) cH,.slice cI ((((BQ w_.store e.name e.row).1.idx).AY).length) cJ,.slice cK ((BQ w_.store e.name e.row).1.parts.length) cL,.slice cM ((BQ w_.store e.name e.row).1.mem.length) cN,.slice ab4 w_.disk.files.length cb4,.slice ab5 w_.disk.list.length cb5,.slice ab6 w_.disk.names.length cb6,vI w_.disk.next] hbx fun km cX fe ff=>?_
   replace ⟨hrb0,hrb1,hrb2,hrb3,hrb4,hrb5,hrb6,h1,aa,ab,ag,aF⟩:=(so [bj,af,ac,ae,bx] cX).g12 hrb0 hrb1 hrb2 hrb3 hrb4 hrb5 hrb6 h1 aa ab ag aF
   replace ⟨aG,aH,aI,E⟩:=(so [bj,af,ac,ae,bx] cX).g4 aG aH aI E
   refine .d<|.ib 0<|.s<|.s<|.g<|.r 8<|.d<|.ct<|T.KH AA func35 results35 ?_
   rw [show (doW w_ e)=(⟨(⟨(⟨(BQ w_.store e.name e.row).1.idx.names,((BQ w_.store e.name e.row).1.idx).AY⟩:Idx),(BQ w_.store e.name e.row).1.parts,(BQ w_.store e.name e.row).1.mem⟩:Sto),(⟨w_.disk.files,w_.disk.list,w_.disk.names,w_.disk.next⟩:Dsk)⟩:Wld) from by exact do_1 p0 (by with_reducible assumption) (by with_reducible assumption)]
   exact ⟨⟨rfl,cG,(BQ w_.store e.name e.row).1.idx.names.length,cH,cI,(((BQ w_.store e.name e.row).1.idx).AY).length,cJ,cK,(BQ w_.store e.name e.row).1.parts.length,cL,cM,(BQ w_.store e.name e.row).1.mem.length,cN,ab4,w_.disk.files.length,cb4,ab5,w_.disk.list.length,cb5,ab6,w_.disk.names.length,cb6,fe,(RepS.Am aF (all_cons AM all_nil)),(RepS.Am aG (all_cons AM all_nil)),(RepS.Am aH (all_cons AM all_nil)),(RepS.Am aI (all_cons AM all_nil)),(RepS.Am hrb4 (all_cons AM all_nil)),(RepS.Am hrb5 (all_cons AM all_nil)),(RepS.Am hrb6 (all_cons AM all_nil))⟩,E⟩
  refine .nw (fun b=>.pointer (some ⟨b,0,none⟩)) 32 [AH,AH,AH,AH] fun ko cY=>?_
  replace ⟨hrb0,hrb1,hrb2,hrb3,hrb4,hrb5,hrb6,hbx,h1,aa,ab,ag⟩:=(se [af,ac,ae,bx] cY).g12 hrb0 hrb1 hrb2 hrb3 hrb4 hrb5 hrb6 hbx h1 aa ab ag
  replace ⟨E,ah⟩:=(se [af,ac,ae,bx] cY).g2 E ah
  intro ao kr aR cZ aS fg
  have ja:=Ab aR hbx.lt
  have jb:=Ab aR aa.lt
  have jc:=Ab aR ab.lt
  have jd:=Ab aR ag.lt
  have je:=E.cn aR
  have ee:=ah.cn aR
  replace ⟨hrb0,hrb1,hrb2,hrb3,hrb4,hrb5,hrb6,hbx,h1,aa,ab,ag⟩:=(sn [af,ac,ae,bx] cZ aR).g12 hrb0 hrb1 hrb2 hrb3 hrb4 hrb5 hrb6 hbx h1 aa ab ag
  replace E:=(sn [af,ac,ae,bx] cZ aR).g1 E
  refine .go 8<|.cl (fun eg aU=>GJ w_.store e.name e.row ((hrb0.base (fun _ _ h=>h.1)).ext aU) ((hrb1.base (fun _ _ h=>h.1)).ext aU) ((hrb2.base (fun _ _ h=>h.1)).ext aU) ((hrb3.base (fun _ _ h=>h.1)).ext aU) ((h1.base (fun _ _ h=>h.1)).ext aU) p0.sd p1 (w:=eg) (F:=nin (fo F w.heap.size) [ao,af,ac,ae,bx])) ?_
  intro eg aU
  replace ⟨hrb0,hrb1,hrb2,hrb3,hrb4,hrb5,hrb6,hbx,aa,ab,ag,aS⟩:=(se [ao,af,ac,ae,bx] aU).g12 hrb0 hrb1 hrb2 hrb3 hrb4 hrb5 hrb6 hbx aa ab ag aS
  replace E:=(se [ao,af,ac,ae,bx] aU).g1 E
  rintro ku kv ⟨⟨kw,rfl,⟨_,rfl,⟨bo,kx,bq,br,ky,bt,bu,kz,bv,bw,kA,bz,rfl,aB,aC,aD,aE⟩⟩⟩,bI⟩
  have bA:=al5 aS.lt ag.lt ab.lt aa.lt hbx.lt
  have bJ:Gb w.heap.size eg.heap.size:=E.size
  have hkeep_:=bI
  replace ⟨hrb0,hrb1,hrb2,hrb3,hrb4,hrb5,hrb6,hbx,aa,ab,ag,aS⟩:=(se [ao,af,ac,ae,bx] bI).g12 hrb0 hrb1 hrb2 hrb3 hrb4 hrb5 hrb6 hbx aa ab ag aS
  replace E:=(se [ao,af,ac,ae,bx] bI).g1 E
  refine ⟨Ext.chg hkeep_,?_⟩
  replace aB:=RepS.Bq (M:=[ao,af,ac,ae,bx]) aB bA bJ
  have jf:=aB.max
  replace aC:=RepS.Bq (M:=[ao,af,ac,ae,bx]) aC bA bJ
  have jg:=aC.max
  replace aD:=RepS.Bq (M:=[ao,af,ac,ae,bx]) aD bA bJ
  have jh:=aD.max
  replace aE:=RepS.Bq (M:=[ao,af,ac,ae,bx]) aE bA bJ
  have ji:=aE.max
  have fi:=aB.len
  subst fi
  have fj:=aC.len
  subst fj
  have fm:=aD.len
  subst fm
  have fp:=aE.len
  subst fp
  refine .r [9,10] ?_
  cases jj:(BQ w_.store e.name e.row).2
  ·refine .r [11]<|.go 13<|GE.Er (t':=32) (o:=0) (v:=.agg #[.slice bo ((BQ w_.store e.name e.row).1.idx.names.length) bq,.slice br ((((BQ w_.store e.name e.row).1.idx).AY).length) bt,.slice bu ((BQ w_.store e.name e.row).1.parts.length) bv,.slice bw ((BQ w_.store e.name e.row).1.mem.length) bz]) [.slice bo ((BQ w_.store e.name e.row).1.idx.names.length) bq,.slice br ((((BQ w_.store e.name e.row).1.idx).AY).length) bt,.slice bu ((BQ w_.store e.name e.row).1.parts.length) bv,.slice bw ((BQ w_.store e.name e.row).1.mem.length) bz] aS AA AA AA fun kB c7=>?_
   replace ⟨hrb0,hrb1,hrb2,hrb3,hrb4,hrb5,hrb6,hbx,aa,ab,ag,aS⟩:=(se [ao,af,ac,ae,bx] c7).g12 hrb0 hrb1 hrb2 hrb3 hrb4 hrb5 hrb6 hbx aa ab ag aS
   replace ⟨aB,aC,aD,aE,E⟩:=(se [ao,af,ac,ae,bx] c7).g5 aB aC aD aE E
   intro kC bK jk fq
   have hkeep_:=Chg.toS bK (Cov.toS ee)
   replace ⟨hrb0,hrb1,hrb2,hrb3,hrb4,hrb5,hrb6,hbx,aa,ab,ag,aB⟩:=(so [ao,af,ac,ae,bx] bK).g12 hrb0 hrb1 hrb2 hrb3 hrb4 hrb5 hrb6 hbx aa ab ag aB
   replace ⟨aC,aD,aE,E⟩:=(so [ao,af,ac,ae,bx] bK).g4 aC aD aE E
   refine ⟨hkeep_,?_⟩
   refine .d fun kD c8=>?_
   replace ⟨hrb0,hrb1,hrb2,hrb3,hrb4,hrb5,hrb6,hbx,aa,ab,ag,aB⟩:=(se [ao,af,ac,ae,bx] c8).g12 hrb0 hrb1 hrb2 hrb3 hrb4 hrb5 hrb6 hbx aa ab ag aB
   replace ⟨aC,aD,aE,E⟩:=(se [ao,af,ac,ae,bx] c8).g4 aC aD aE E
   replace hrb0:=hrb0.BK
   replace hrb1:=hrb1.BK
   replace hrb2:=hrb2.BK
   replace hrb3:=hrb3.BK
   replace hrb4:=hrb4.BK
   replace hrb5:=hrb5.BK
   replace hrb6:=hrb6.BK
   refine .r 1<|.d<|.s<|.g<|.r 1<|.d<|.cf<|.sk<|.ib 0<|.s<|.s<|.g<|.r 8<|.d<|.ct<|T.KH AA func35 results35 ?_
   rw [show (doW w_ e)=w_ from by exact UT p0 (by with_reducible assumption) (by with_reducible assumption)]
   exact ⟨⟨rfl,ab0,w_.store.idx.names.length,cb0,ab1,w_.store.idx.AY.length,cb1,ab2,w_.store.parts.length,cb2,ab3,w_.store.mem.length,cb3,ab4,w_.disk.files.length,cb4,ab5,w_.disk.list.length,cb5,ab6,w_.disk.names.length,cb6,hbx,(RepS.Am hrb0 (all_cons AM all_nil)),(RepS.Am hrb1 (all_cons AM all_nil)),(RepS.Am hrb2 (all_cons AM all_nil)),(RepS.Am hrb3 (all_cons AM all_nil)),(RepS.Am hrb4 (all_cons AM all_nil)),(RepS.Am hrb5 (all_cons AM all_nil)),(RepS.Am hrb6 (all_cons AM all_nil))⟩,E⟩
  refine .r [11]<|.go 13<|GE.Er (t':=32) (o:=0) (v:=.agg #[.slice bo ((BQ w_.store e.name e.row).1.idx.names.length) bq,.slice br ((((BQ w_.store e.name e.row).1.idx).AY).length) bt,.slice bu ((BQ w_.store e.name e.row).1.parts.length) bv,.slice bw ((BQ w_.store e.name e.row).1.mem.length) bz]) [.slice bo ((BQ w_.store e.name e.row).1.idx.names.length) bq,.slice br ((((BQ w_.store e.name e.row).1.idx).AY).length) bt,.slice bu ((BQ w_.store e.name e.row).1.parts.length) bv,.slice bw ((BQ w_.store e.name e.row).1.mem.length) bz] aS AA AA AA fun kE da=>?_
  replace ⟨hrb0,hrb1,hrb2,hrb3,hrb4,hrb5,hrb6,hbx,aa,ab,ag,aB⟩:=(se [ao,af,ac,ae,bx] da).g12 hrb0 hrb1 hrb2 hrb3 hrb4 hrb5 hrb6 hbx aa ab ag aB
  replace ⟨aC,aD,aE,E⟩:=(se [ao,af,ac,ae,bx] da).g4 aC aD aE E
  intro kF bL db fu
  have hkeep_:=Chg.toS bL (Cov.toS ee)
  replace ⟨hrb0,hrb1,hrb2,hrb3,hrb4,hrb5,hrb6,hbx,aa,ab,ag,aB⟩:=(so [ao,af,ac,ae,bx] bL).g12 hrb0 hrb1 hrb2 hrb3 hrb4 hrb5 hrb6 hbx aa ab ag aB
  replace ⟨aC,aD,aE,E⟩:=(so [ao,af,ac,ae,bx] bL).g4 aC aD aE E
  refine ⟨hkeep_,?_⟩
  refine .d fun kG de=>?_
  replace ⟨hrb0,hrb1,hrb2,hrb3,hrb4,hrb5,hrb6,hbx,aa,ab,ag,db⟩:=(se [ao,af,ac,ae,bx] de).g12 hrb0 hrb1 hrb2 hrb3 hrb4 hrb5 hrb6 hbx aa ab ag db
  replace ⟨aB,aC,aD,aE,E⟩:=(se [ao,af,ac,ae,bx] de).g5 aB aC aD aE E
  replace hrb0:=hrb0.BK
  replace hrb1:=hrb1.BK
  replace hrb2:=hrb2.BK
  replace hrb3:=hrb3.BK
  replace hrb4:=hrb4.BK
  replace hrb5:=hrb5.BK
  replace hrb6:=hrb6.BK
  refine .r 1<|.d<|.s<|.g<|.r 1<|.d<|.ct<|.g<|.r 1<|.ln db<|.r 2<|.sb 0 (.agg #[.slice bo ((BQ w_.store e.name e.row).1.idx.names.length) bq,.slice br ((((BQ w_.store e.name e.row).1.idx).AY).length) bt,.slice bu ((BQ w_.store e.name e.row).1.parts.length) bv,.slice bw ((BQ w_.store e.name e.row).1.mem.length) bz]) [.slice bo ((BQ w_.store e.name e.row).1.idx.names.length) bq,.slice br ((((BQ w_.store e.name e.row).1.idx).AY).length) bt,.slice bu ((BQ w_.store e.name e.row).1.parts.length) bv,.slice bw ((BQ w_.store e.name e.row).1.mem.length) bz,.slice ab4 w_.disk.files.length cb4,.slice ab5 w_.disk.list.length cb5,.slice ab6 w_.disk.names.length cb6,vI w_.disk.next] hbx fun kH df fv fw=>?_
  replace ⟨hrb0,hrb1,hrb2,hrb3,hrb4,hrb5,hrb6,aa,ab,ag,aB,aC⟩:=(so [ao,af,ac,ae,bx] df).g12 hrb0 hrb1 hrb2 hrb3 hrb4 hrb5 hrb6 aa ab ag aB aC
  replace ⟨aD,aE,E⟩:=(so [ao,af,ac,ae,bx] df).g3 aD aE E
  refine .d<|.ib 0<|.s<|.s<|.g<|.r 8<|.d<|.ct<|T.KH AA func35 results35 ?_
  rw [show (doW w_ e)=(⟨(⟨(⟨(BQ w_.store e.name e.row).1.idx.names,((BQ w_.store e.name e.row).1.idx).AY⟩:Idx),(BQ w_.store e.name e.row).1.parts,(BQ w_.store e.name e.row).1.mem⟩:Sto),(⟨w_.disk.files,w_.disk.list,w_.disk.names,w_.disk.next⟩:Dsk)⟩:Wld) from by exact do_1 p0 (by with_reducible assumption) (by with_reducible assumption)]
  exact ⟨⟨rfl,bo,(BQ w_.store e.name e.row).1.idx.names.length,bq,br,(((BQ w_.store e.name e.row).1.idx).AY).length,bt,bu,(BQ w_.store e.name e.row).1.parts.length,bv,bw,(BQ w_.store e.name e.row).1.mem.length,bz,ab4,w_.disk.files.length,cb4,ab5,w_.disk.list.length,cb5,ab6,w_.disk.names.length,cb6,fv,(RepS.Am aB (all_cons AM all_nil)),(RepS.Am aC (all_cons AM all_nil)),(RepS.Am aD (all_cons AM all_nil)),(RepS.Am aE (all_cons AM all_nil)),(RepS.Am hrb4 (all_cons AM all_nil)),(RepS.Am hrb5 (all_cons AM all_nil)),(RepS.Am hrb6 (all_cons AM all_nil))⟩,E⟩
 refine .r 1<|.d<|.cf<|.s<|.g<|.eq e.kind 2 (fun fA=>?_) (fun fA=>?_)
 ·refine .r 1<|.d<|.ct<|.s<|.gd nil 8 fun kI eh=>?_
  replace ⟨hrb0,hrb1,hrb2,hrb3,hrb4,hrb5,hrb6,hbx,aa,ab,ag,E⟩:=(se [af,ac,ae,bx] eh).g12 hrb0 hrb1 hrb2 hrb3 hrb4 hrb5 hrb6 hbx aa ab ag E
  refine .r [0,1,2]<|.ln 3 hbx id<|.r [4,5,6]<|.ln 7 hbx id<|.d fun eP ej=>?_
  replace ⟨hrb0,hrb1,hrb2,hrb3,hrb4,hrb5,hrb6,hbx,aa,ab,ag,E⟩:=(se [af,ac,ae,bx] ej).g12 hrb0 hrb1 hrb2 hrb3 hrb4 hrb5 hrb6 hbx aa ab ag E
  refine .cl (IW w_.disk w_.store hrb4.ta hrb5.ta hrb6.ta hrb0.ta hrb1.ta hrb2.ta hrb3.ta p0.dd (SG.of p0.sd) (w:=eP) (F:=all)) ?_
  rintro kJ eQ ⟨⟨kK,kL,rfl,aT⟩,ek⟩
  have en:=al4 ag.lt ab.lt aa.lt hbx.lt
  have fB:Gb w.heap.size eP.heap.size:=E.size
  replace ⟨hrb0,hrb1,hrb2,hrb3,hrb4,hrb5,hrb6,hbx,aa,ab,ag,E⟩:=(se [af,ac,ae,bx] ek).g12 hrb0 hrb1 hrb2 hrb3 hrb4 hrb5 hrb6 hbx aa ab ag E
  have aT:=aT.fr en fB
  replace aT:=aT.base (G':=fo F w.heap.size) (fun _ _ h=>.inr h)
  refine .r 1<|.d<|.g<|.r 3<|.ln hbx<|.cl (IM w_.store hrb0 hrb1 hrb2 hrb3 p0.sd (w:=eQ) (F:=nin (fo F w.heap.size) [af,ac,ae,bx])) ?_
  rintro kM kN ⟨⟨kO,rfl,⟨_,rfl,⟨dM,kP,dN,dO,kQ,dP,dQ,kR,dR,dS,kS,dT,rfl,ar,ax,ay,az⟩⟩⟩,dh⟩
  have bB:=al4 ag.lt ab.lt aa.lt hbx.lt
  have bM:Gb w.heap.size eQ.heap.size:=E.size
  replace ⟨hrb0,hrb1,hrb2,hrb3,hrb4,hrb5,hrb6,hbx,aa,ab,ag,aT⟩:=(se [af,ac,ae,bx] dh).g12 hrb0 hrb1 hrb2 hrb3 hrb4 hrb5 hrb6 hbx aa ab ag aT
  replace E:=(se [af,ac,ae,bx] dh).g1 E
  replace ar:=RepS.Bq (M:=[af,ac,ae,bx]) ar bB bM
  have jm:=ar.max
  replace ax:=RepS.Bq (M:=[af,ac,ae,bx]) ax bB bM
  have jn:=ax.max
  replace ay:=RepS.Bq (M:=[af,ac,ae,bx]) ay bB bM
  have jo:=ay.max
  replace az:=RepS.Bq (M:=[af,ac,ae,bx]) az bB bM
  have jp:=az.max
  have fC:=ar.len
  subst fC
  have fD:=ax.len
  subst fD
  have fE:=ay.len
  subst fE
  have fF:=az.len
  subst fF
  refine .r 3<|.sc [.slice dM ((Bg w_.store).1.idx.names.length) dN,.slice dO ((((Bg w_.store).1.idx).AY).length) dP,.slice dQ ((Bg w_.store).1.parts.length) dR,.slice dS ((Bg w_.store).1.mem.length) dT] ag fun kT dj aA fG=>?_
  replace ⟨hrb0,hrb1,hrb2,hrb3,hrb4,hrb5,hrb6,hbx,aa,ab,aT,ar⟩:=(so [af,ac,ae,bx] dj).g12 hrb0 hrb1 hrb2 hrb3 hrb4 hrb5 hrb6 hbx aa ab aT ar
  replace ⟨ax,ay,az,E⟩:=(so [af,ac,ae,bx] dj).g4 ax ay az E
  refine .d<|.ib 0<|.s<|.s<|.g<|.r 2<|.eq (((Af w_.disk w_.store).length):Int) 0 (fun fH=>?_) (fun fH=>?_)
  ·refine .r 5<|.d<|.ct<|T.KH AA func35 results35 ?_
   rw [show (doW w_ e)=w_ from by exact UU p0 (by with_reducible assumption) (.inl (by with_reducible assumption))]
   exact ⟨⟨rfl,ab0,w_.store.idx.names.length,cb0,ab1,w_.store.idx.AY.length,cb1,ab2,w_.store.parts.length,cb2,ab3,w_.store.mem.length,cb3,ab4,w_.disk.files.length,cb4,ab5,w_.disk.list.length,cb5,ab6,w_.disk.names.length,cb6,hbx,(RepS.Am hrb0 (all_cons AL all_nil)),(RepS.Am hrb1 (all_cons AL all_nil)),(RepS.Am hrb2 (all_cons AL all_nil)),(RepS.Am hrb3 (all_cons AL all_nil)),(RepS.Am hrb4 (all_cons AL all_nil)),(RepS.Am hrb5 (all_cons AL all_nil)),(RepS.Am hrb6 (all_cons AL all_nil))⟩,E⟩
  refine .r 2<|.lb aa<|.bp (e.cut< 0) (fun fI=>?_) (fun fI=>?_)
  ·refine .r 1<|.d<|.ct<|T.KH AA func35 results35 ?_
   rw [show (doW w_ e)=w_ from by exact UU p0 (by with_reducible assumption) (.inr (by with_reducible assumption))]
   exact ⟨⟨rfl,ab0,w_.store.idx.names.length,cb0,ab1,w_.store.idx.AY.length,cb1,ab2,w_.store.parts.length,cb2,ab3,w_.store.mem.length,cb3,ab4,w_.disk.files.length,cb4,ab5,w_.disk.list.length,cb5,ab6,w_.disk.names.length,cb6,hbx,(RepS.Am hrb0 (all_cons AL all_nil)),(RepS.Am hrb1 (all_cons AL all_nil)),(RepS.Am hrb2 (all_cons AL all_nil)),(RepS.Am hrb3 (all_cons AL all_nil)),(RepS.Am hrb4 (all_cons AL all_nil)),(RepS.Am hrb5 (all_cons AL all_nil)),(RepS.Am hrb6 (all_cons AL all_nil))⟩,E⟩
  refine .r 1<|.d<|.cf<|.sk<|.s<|.gd nil 9 fun kU dm=>?_
  replace ⟨hrb0,hrb1,hrb2,hrb3,hrb4,hrb5,hrb6,hbx,aa,ab,aA,aT⟩:=(se [af,ac,ae,bx] dm).g12 hrb0 hrb1 hrb2 hrb3 hrb4 hrb5 hrb6 hbx aa ab aA aT
  replace ⟨ar,ax,ay,az,E⟩:=(se [af,ac,ae,bx] dm).g5 ar ax ay az E
  refine .r [0,1,2,3]<|.ln 4 hbx id<|.r [5,6]<|.lb 7 aa id<|.go 8<|.cl (fun eA aY=>HT w_.disk (Af w_.disk w_.store) e.cut (hrb4.ext aY) (hrb5.ext aY) (hrb6.ext aY) (aT.ext aY) p0.dd (fun _=>by exact (JH p0.dd p0.sd).1) (w:=eA) (F:=nin (fo F w.heap.size) [af,ac,ae,bx])) ?_
  intro eA aY
  replace ⟨hrb0,hrb1,hrb2,hrb3,hrb4,hrb5,hrb6,hbx,aa,ab,aA,ar⟩:=(se [af,ac,ae,bx] aY).g12 hrb0 hrb1 hrb2 hrb3 hrb4 hrb5 hrb6 hbx aa ab aA ar
  replace ⟨ax,ay,az,E⟩:=(se [af,ac,ae,bx] aY).g4 ax ay az E
  rintro kV kW ⟨⟨_,rfl,⟨dU,kX,dV,dW,kY,dX,dY,kZ,dZ,rfl,aJ,aK,aL⟩⟩,bN⟩
  have bO:=al4 aA.lt ab.lt aa.lt hbx.lt
  have dp:Gb w.heap.size eA.heap.size:=E.size
  have hkeep_:=bN
  replace ⟨hrb0,hrb1,hrb2,hrb3,hrb4,hrb5,hrb6,hbx,aa,ab,aA,ar⟩:=(se [af,ac,ae,bx] bN).g12 hrb0 hrb1 hrb2 hrb3 hrb4 hrb5 hrb6 hbx aa ab aA ar
  replace ⟨ax,ay,az,E⟩:=(se [af,ac,ae,bx] bN).g4 ax ay az E
  refine ⟨Ext.chg hkeep_,?_⟩
  replace aJ:=RepS.Bq (M:=[af,ac,ae,bx]) aJ bO dp
  have jq:=aJ.max
  replace aK:=RepS.Bq (M:=[af,ac,ae,bx]) aK bO dp
  have jr:=aK.max
  replace aL:=RepS.Bq (M:=[af,ac,ae,bx]) aL bO dp
  have jt:=aL.max
  have fJ:=aJ.len
  subst fJ
  have fK:=aK.len
  subst fK
  have fL:=aL.len
  subst fL
  refine .d fun k5 dq=>?_
  replace ⟨hrb0,hrb1,hrb2,hrb3,hrb4,hrb5,hrb6,hbx,aa,ab,aA,ar⟩:=(se [af,ac,ae,bx] dq).g12 hrb0 hrb1 hrb2 hrb3 hrb4 hrb5 hrb6 hbx aa ab aA ar
  replace ⟨ax,ay,az,aJ,aK,aL,E⟩:=(se [af,ac,ae,bx] dq).g7 ax ay az aJ aK aL E
  refine .r 2<|.sb 4 (.agg #[.slice dU (((Aj w_.disk (Af w_.disk w_.store) e.cut).files).length) dV,.slice dW (((Aj w_.disk (Af w_.disk w_.store) e.cut).list).length) dX,.slice dY (((Aj w_.disk (Af w_.disk w_.store) e.cut).names).length) dZ,vI ((Aj w_.disk (Af w_.disk w_.store) e.cut).next)]) [.slice ab0 w_.store.idx.names.length cb0,.slice ab1 w_.store.idx.AY.length cb1,.slice ab2 w_.store.parts.length cb2,.slice ab3 w_.store.mem.length cb3,.slice dU (((Aj w_.disk (Af w_.disk w_.store) e.cut).files).length) dV,.slice dW (((Aj w_.disk (Af w_.disk w_.store) e.cut).list).length) dX,.slice dY (((Aj w_.disk (Af w_.disk w_.store) e.cut).names).length) dZ,vI ((Aj w_.disk (Af w_.disk w_.store) e.cut).next)] hbx fun eB dt du fM=>?_
  replace ⟨hrb0,hrb1,hrb2,hrb3,hrb4,hrb5,hrb6,aa,ab,aA,ar,ax⟩:=(so [af,ac,ae,bx] dt).g12 hrb0 hrb1 hrb2 hrb3 hrb4 hrb5 hrb6 aa ab aA ar ax
  replace ⟨ay,az,aJ,aK,aL,E⟩:=(so [af,ac,ae,bx] dt).g6 ay az aJ aK aL E
  refine .d<|.s<|.g<|.r 1<|.lb aa<|.r 2<|.bp (e.cut< (((Af w_.disk w_.store).length):Int)) (fun fN=>?_) (fun fN=>?_)
  ·refine .d<|.ct<|.g<|.r 1<|.cl (D9 (⟨(⟨(⟨w_.store.idx.names,w_.store.idx.AY⟩:Idx),w_.store.parts,w_.store.mem⟩:Sto),(⟨(Aj w_.disk (Af w_.disk w_.store) e.cut).files,(Aj w_.disk (Af w_.disk w_.store) e.cut).list,(Aj w_.disk (Af w_.disk w_.store) e.cut).names,(Aj w_.disk (Af w_.disk w_.store) e.cut).next⟩:Dsk)⟩:Wld) (RepS.toM hrb0 (all_cons AL all_nil)) (RepS.toM hrb1 (all_cons AL all_nil)) (RepS.toM hrb2 (all_cons AL all_nil)) (RepS.toM hrb3 (all_cons AL all_nil)) (RepS.toM aJ (all_cons AL all_nil)) (RepS.toM aK (all_cons AL all_nil)) (RepS.toM aL (all_cons AL all_nil)) du (by exact (Mf (e:=e) p0 (by with_reducible assumption) (by with_reducible assumption)).2.1) (by exact (Mf (e:=e) p0 (by with_reducible assumption) (by with_reducible assumption)).2.2) (w:=eB) (F:=nin (fo F w.heap.size) [af,ac,ae,bx])) ?_
   rintro k6 bk ⟨⟨rfl,gU,k7,gV,gW,k8,gX,gY,lc,gZ,g0,ld,hC,hE,lf,hH,hN,li,hO,hQ,lj,hV,fO,bX,bY,bZ,b0,b6,b7,b8⟩,bP⟩
   have aV:=al4 aA.lt ab.lt aa.lt du.lt
   have aZ:Gb w.heap.size eB.heap.size:=E.size
   have dv:Mv [af,ac,ae,bx] [af,ac,ae,bx] eB bk:=Mv.inl bP (all_cons AL all_nil) (all_cons (.inl AI) (all_cons (.inl AJ) (all_cons (.inl AK) (all_cons (.inl AL) all_nil))))
   replace ⟨hrb0,hrb1,hrb2,hrb3,hrb4,hrb5,hrb6,aa,ab,aA,ar,ax⟩:=(sp dv bP).g12 hrb0 hrb1 hrb2 hrb3 hrb4 hrb5 hrb6 aa ab aA ar ax
   replace ⟨ay,az,aJ,aK,aL,E⟩:=(sp dv bP).g6 ay az aJ aK aL E
   replace bX:RepS bk (nin (fo F w.heap.size) [af,ac,ae,bx]) _ _ _ _:=RepS.bxM (M2:=[af,ac,ae,bx]) bX aV (fun _ h=>.inr (Nat.le_trans aZ h)) (all_cons (.inr AI) (all_cons (.inr AJ) (all_cons (.inr AK) (all_cons (.inl AI) all_nil))))
   replace bY:RepS bk (nin (fo F w.heap.size) [af,ac,ae,bx]) _ _ _ _:=RepS.bxM (M2:=[af,ac,ae,bx]) bY aV (fun _ h=>.inr (Nat.le_trans aZ h)) (all_cons (.inr AI) (all_cons (.inr AJ) (all_cons (.inr AK) (all_cons (.inl AI) all_nil))))
   replace bZ:RepS bk (nin (fo F w.heap.size) [af,ac,ae,bx]) _ _ _ _:=RepS.bxM (M2:=[af,ac,ae,bx]) bZ aV (fun _ h=>.inr (Nat.le_trans aZ h)) (all_cons (.inr AI) (all_cons (.inr AJ) (all_cons (.inr AK) (all_cons (.inl AI) all_nil))))
   replace b0:RepS bk (nin (fo F w.heap.size) [af,ac,ae,bx]) _ _ _ _:=RepS.bxM (M2:=[af,ac,ae,bx]) b0 aV (fun _ h=>.inr (Nat.le_trans aZ h)) (all_cons (.inr AI) (all_cons (.inr AJ) (all_cons (.inr AK) (all_cons (.inl AI) all_nil))))
   replace b6:RepS bk (nin (fo F w.heap.size) [af,ac,ae,bx]) _ _ _ _:=RepS.bxM (M2:=[af,ac,ae,bx]) b6 aV (fun _ h=>.inr (Nat.le_trans aZ h)) (all_cons (.inr AI) (all_cons (.inr AJ) (all_cons (.inr AK) (all_cons (.inl AI) all_nil))))
   replace b7:RepS bk (nin (fo F w.heap.size) [af,ac,ae,bx]) _ _ _ _:=RepS.bxM (M2:=[af,ac,ae,bx]) b7 aV (fun _ h=>.inr (Nat.le_trans aZ h)) (all_cons (.inr AI) (all_cons (.inr AJ) (all_cons (.inr AK) (all_cons (.inl AI) all_nil))))
   replace b8:RepS bk (nin (fo F w.heap.size) [af,ac,ae,bx]) _ _ _ _:=RepS.bxM (M2:=[af,ac,ae,bx]) b8 aV (fun _ h=>.inr (Nat.le_trans aZ h)) (all_cons (.inr AI) (all_cons (.inr AJ) (all_cons (.inr AK) (all_cons (.inl AI) all_nil))))
   have fP:=bX.len
   subst fP
   have fQ:=bY.len
   subst fQ
   have fR:=bZ.len
   subst fR
   have fS:=b0.len
   subst fS
   have fT:=b6.len
   subst fT
   have fU:=b7.len
   subst fU
   have fV:=b8.len
   subst fV
   refine .d<|T.FP func35 results35 ?_
   rw [show (doW w_ e)=(⟨(⟨(⟨((((BA (⟨(⟨(⟨w_.store.idx.names,w_.store.idx.AY⟩:Idx),w_.store.parts,w_.store.mem⟩:Sto),(⟨(Aj w_.disk (Af w_.disk w_.store) e.cut).files,(Aj w_.disk (Af w_.disk w_.store) e.cut).list,(Aj w_.disk (Af w_.disk w_.store) e.cut).names,(Aj w_.disk (Af w_.disk w_.store) e.cut).next⟩:Dsk)⟩:Wld))).store).idx).names,((((BA (⟨(⟨(⟨w_.store.idx.names,w_.store.idx.AY⟩:Idx),w_.store.parts,w_.store.mem⟩:Sto),(⟨(Aj w_.disk (Af w_.disk w_.store) e.cut).files,(Aj w_.disk (Af w_.disk w_.store) e.cut).list,(Aj w_.disk (Af w_.disk w_.store) e.cut).names,(Aj w_.disk (Af w_.disk w_.store) e.cut).next⟩:Dsk)⟩:Wld))).store).idx).AY⟩:Idx),(((BA (⟨(⟨(⟨w_.store.idx.names,w_.store.idx.AY⟩:Idx),w_.store.parts,w_.store.mem⟩:Sto),(⟨(Aj w_.disk (Af w_.disk w_.store) e.cut).files,(Aj w_.disk (Af w_.disk w_.store) e.cut).list,(Aj w_.disk (Af w_.disk w_.store) e.cut).names,(Aj w_.disk (Af w_.disk w_.store) e.cut).next⟩:Dsk)⟩:Wld))).store).parts,(((BA (⟨(⟨(⟨w_.store.idx.names,w_.store.idx.AY⟩:Idx),w_.store.parts,w_.store.mem⟩:Sto),(⟨(Aj w_.disk (Af w_.disk w_.store) e.cut).files,(Aj w_.disk (Af w_.disk w_.store) e.cut).list,(Aj w_.disk (Af w_.disk w_.store) e.cut).names,(Aj w_.disk (Af w_.disk w_.store) e.cut).next⟩:Dsk)⟩:Wld))).store).mem⟩:Sto),(⟨(((BA (⟨(⟨(⟨w_.store.idx.names,w_.store.idx.AY⟩:Idx),w_.store.parts,w_.store.mem⟩:Sto),(⟨(Aj w_.disk (Af w_.disk w_.store) e.cut).files,(Aj w_.disk (Af w_.disk w_.store) e.cut).list,(Aj w_.disk (Af w_.disk w_.store) e.cut).names,(Aj w_.disk (Af w_.disk w_.store) e.cut).next⟩:Dsk)⟩:Wld))).disk).files,(((BA (⟨(⟨(⟨w_.store.idx.names,w_.store.idx.AY⟩:Idx),w_.store.parts,w_.store.mem⟩:Sto),(⟨(Aj w_.disk (Af w_.disk w_.store) e.cut).files,(Aj w_.disk (Af w_.disk w_.store) e.cut).list,(Aj w_.disk (Af w_.disk w_.store) e.cut).names,(Aj w_.disk (Af w_.disk w_.store) e.cut).next⟩:Dsk)⟩:Wld))).disk).list,(((BA (⟨(⟨(⟨w_.store.idx.names,w_.store.idx.AY⟩:Idx),w_.store.parts,w_.store.mem⟩:Sto),(⟨(Aj w_.disk (Af w_.disk w_.store) e.cut).files,(Aj w_.disk (Af w_.disk w_.store) e.cut).list,(Aj w_.disk (Af w_.disk w_.store) e.cut).names,(Aj w_.disk (Af w_.disk w_.store) e.cut).next⟩:Dsk)⟩:Wld))).disk).names,(((BA (⟨(⟨(⟨w_.store.idx.names,w_.store.idx.AY⟩:Idx),w_.store.parts,w_.store.mem⟩:Sto),(⟨(Aj w_.disk (Af w_.disk w_.store) e.cut).files,(Aj w_.disk (Af w_.disk w_.store) e.cut).list,(Aj w_.disk (Af w_.disk w_.store) e.cut).names,(Aj w_.disk (Af w_.disk w_.store) e.cut).next⟩:Dsk)⟩:Wld))).disk).next⟩:Dsk)⟩:Wld) from by exact WJ p0 (by with_reducible assumption) (by with_reducible assumption) (by with_reducible assumption) (by with_reducible assumption)]
   exact ⟨⟨rfl,gU,(((((BA (⟨(⟨(⟨w_.store.idx.names,w_.store.idx.AY⟩:Idx),w_.store.parts,w_.store.mem⟩:Sto),(⟨(Aj w_.disk (Af w_.disk w_.store) e.cut).files,(Aj w_.disk (Af w_.disk w_.store) e.cut).list,(Aj w_.disk (Af w_.disk w_.store) e.cut).names,(Aj w_.disk (Af w_.disk w_.store) e.cut).next⟩:Dsk)⟩:Wld))).store).idx).names).length,gV,gW,(((((BA (⟨(⟨(⟨w_.store.idx.names,w_.store.idx.AY⟩:Idx),w_.store.parts,w_.store.mem⟩:Sto),(⟨(Aj w_.disk (Af w_.disk w_.store) e.cut).files,(Aj w_.disk (Af w_.disk w_.store) e.cut).list,(Aj w_.disk (Af w_.disk w_.store) e.cut).names,(Aj w_.disk (Af w_.disk w_.store) e.cut).next⟩:Dsk)⟩:Wld))).store).idx).AY).length,gX,gY,((((BA (⟨(⟨(⟨w_.store.idx.names,w_.store.idx.AY⟩:Idx),w_.store.parts,w_.store.mem⟩:Sto),(⟨(Aj w_.disk (Af w_.disk w_.store) e.cut).files,(Aj w_.disk (Af w_.disk w_.store) e.cut).list,(Aj w_.disk (Af w_.disk w_.store) e.cut).names,(Aj w_.disk (Af w_.disk w_.store) e.cut).next⟩:Dsk)⟩:Wld))).store).parts).length,gZ,g0,((((BA (⟨(⟨(⟨w_.store.idx.names,w_.store.idx.AY⟩:Idx),w_.store.parts,w_.store.mem⟩:Sto),(⟨(Aj w_.disk (Af w_.disk w_.store) e.cut).files,(Aj w_.disk (Af w_.disk w_.store) e.cut).list,(Aj w_.disk (Af w_.disk w_.store) e.cut).names,(Aj w_.disk (Af w_.disk w_.store) e.cut).next⟩:Dsk)⟩:Wld))).store).mem).length,hC,hE,((((BA (⟨(⟨(⟨w_.store.idx.names,w_.store.idx.AY⟩:Idx),w_.store.parts,w_.store.mem⟩:Sto),(⟨(Aj w_.disk (Af w_.disk w_.store) e.cut).files,(Aj w_.disk (Af w_.disk w_.store) e.cut).list,(Aj w_.disk (Af w_.disk w_.store) e.cut).names,(Aj w_.disk (Af w_.disk w_.store) e.cut).next⟩:Dsk)⟩:Wld))).disk).files).length,hH,hN,((((BA (⟨(⟨(⟨w_.store.idx.names,w_.store.idx.AY⟩:Idx),w_.store.parts,w_.store.mem⟩:Sto),(⟨(Aj w_.disk (Af w_.disk w_.store) e.cut).files,(Aj w_.disk (Af w_.disk w_.store) e.cut).list,(Aj w_.disk (Af w_.disk w_.store) e.cut).names,(Aj w_.disk (Af w_.disk w_.store) e.cut).next⟩:Dsk)⟩:Wld))).disk).list).length,hO,hQ,((((BA (⟨(⟨(⟨w_.store.idx.names,w_.store.idx.AY⟩:Idx),w_.store.parts,w_.store.mem⟩:Sto),(⟨(Aj w_.disk (Af w_.disk w_.store) e.cut).files,(Aj w_.disk (Af w_.disk w_.store) e.cut).list,(Aj w_.disk (Af w_.disk w_.store) e.cut).names,(Aj w_.disk (Af w_.disk w_.store) e.cut).next⟩:Dsk)⟩:Wld))).disk).names).length,hV,fO,(RepS.Am bX (all_cons AL all_nil)),(RepS.Am bY (all_cons AL all_nil)),(RepS.Am bZ (all_cons AL all_nil)),(RepS.Am b0 (all_cons AL all_nil)),(RepS.Am b6 (all_cons AL all_nil)),(RepS.Am b7 (all_cons AL all_nil)),(RepS.Am b8 (all_cons AL all_nil))⟩,E⟩
  refine .d<|.cf<|.g<|.r 1<|.ln aA<|.r 2<|.sb 0 (.agg #[.slice dM ((Bg w_.store).1.idx.names.length) dN,.slice dO ((((Bg w_.store).1.idx).AY).length) dP,.slice dQ ((Bg w_.store).1.parts.length) dR,.slice dS ((Bg w_.store).1.mem.length) dT]) [.slice dM ((Bg w_.store).1.idx.names.length) dN,.slice dO ((((Bg w_.store).1.idx).AY).length) dP,.slice dQ ((Bg w_.store).1.parts.length) dR,.slice dS ((Bg w_.store).1.mem.length) dT,.slice dU (((Aj w_.disk (Af w_.disk w_.store) e.cut).files).length) dV,.slice dW (((Aj w_.disk (Af w_.disk w_.store) e.cut).list).length) dX,.slice dY (((Aj w_.disk (Af w_.disk w_.store) e.cut).names).length) dZ,vI ((Aj w_.disk (Af w_.disk w_.store) e.cut).next)] du fun lk dw fW fX=>?_
  replace ⟨hrb0,hrb1,hrb2,hrb3,hrb4,hrb5,hrb6,aa,ab,ar,ax,ay⟩:=(so [af,ac,ae,bx] dw).g12 hrb0 hrb1 hrb2 hrb3 hrb4 hrb5 hrb6 aa ab ar ax ay
  replace ⟨az,aJ,aK,aL,E⟩:=(so [af,ac,ae,bx] dw).g5 az aJ aK aL E
  refine .d<|T.FP func35 results35 ?_
  rw [show (doW w_ e)=(⟨(⟨(⟨(Bg w_.store).1.idx.names,((Bg w_.store).1.idx).AY⟩:Idx),(Bg w_.store).1.parts,(Bg w_.store).1.mem⟩:Sto),(⟨(Aj w_.disk (Af w_.disk w_.store) e.cut).files,(Aj w_.disk (Af w_.disk w_.store) e.cut).list,(Aj w_.disk (Af w_.disk w_.store) e.cut).names,(Aj w_.disk (Af w_.disk w_.store) e.cut).next⟩:Dsk)⟩:Wld) from by exact WK p0 (by with_reducible assumption) (by with_reducible assumption) (by with_reducible assumption) (by with_reducible assumption)]
  exact ⟨⟨rfl,dM,(Bg w_.store).1.idx.names.length,dN,dO,(((Bg w_.store).1.idx).AY).length,dP,dQ,(Bg w_.store).1.parts.length,dR,dS,(Bg w_.store).1.mem.length,dT,dU,((Aj w_.disk (Af w_.disk w_.store) e.cut).files).length,dV,dW,((Aj w_.disk (Af w_.disk w_.store) e.cut).list).length,dX,dY,((Aj w_.disk (Af w_.disk w_.store) e.cut).names).length,dZ,fW,(RepS.Am ar (all_cons AL all_nil)),(RepS.Am ax (all_cons AL all_nil)),(RepS.Am ay (all_cons AL all_nil)),(RepS.Am az (all_cons AL all_nil)),(RepS.Am aJ (all_cons AL all_nil)),(RepS.Am aK (all_cons AL all_nil)),(RepS.Am aL (all_cons AL all_nil))⟩,E⟩
 refine .r 1<|.d<|.cf<|.s<|.g<|.eq e.kind 3 (fun fY=>?_) (fun fY=>?_)
 ·refine .r 1<|.d<|.ct<|.s<|.gd nil 6 fun ll eC=>?_
  replace ⟨hrb0,hrb1,hrb2,hrb3,hrb4,hrb5,hrb6,hbx,aa,ab,ag,E⟩:=(se [af,ac,ae,bx] eC).g12 hrb0 hrb1 hrb2 hrb3 hrb4 hrb5 hrb6 hbx aa ab ag E
  refine .r [0,1,2]<|.ln 3 hbx id<|.r [4]<|.lb 5 aa id<|.d fun eR eD=>?_
  replace ⟨hrb0,hrb1,hrb2,hrb3,hrb4,hrb5,hrb6,hbx,aa,ab,ag,E⟩:=(se [af,ac,ae,bx] eD).g12 hrb0 hrb1 hrb2 hrb3 hrb4 hrb5 hrb6 hbx aa ab ag E
  refine .cl (Ib w_.disk e.at_ hrb4.ta hrb5.ta hrb6.ta p0.dd (w:=eR) (F:=all)) ?_
  rintro lm b9 ⟨⟨lp,lq,rfl,am⟩,eE⟩
  have eF:=al4 ag.lt ab.lt aa.lt hbx.lt
  have fZ:Gb w.heap.size eR.heap.size:=E.size
  replace ⟨hrb0,hrb1,hrb2,hrb3,hrb4,hrb5,hrb6,hbx,aa,ab,ag,E⟩:=(se [af,ac,ae,bx] eE).g12 hrb0 hrb1 hrb2 hrb3 hrb4 hrb5 hrb6 hbx aa ab ag E
  have am:=am.fr eF fZ
  replace am:=am.base (G':=fo F w.heap.size) (fun _ _ h=>.inr h)
  refine .r 1<|.d ?_
  replace hrb0:=hrb0.Cl
  replace hrb1:=hrb1.Cl
  replace hrb2:=hrb2.Cl
  replace hrb3:=hrb3.Cl
  replace hrb4:=hrb4.Cl
  replace hrb5:=hrb5.Cl
  replace hrb6:=hrb6.Cl
  replace am:=am.Cl
  have f0:Gb (bx+1) b9.heap.size:=hbx.lt
  have f5:Gb (ae+1) b9.heap.size:=aa.lt
  have f6:Cov (mtb [ac,af] b9.heap.size) b9 af:=⟨.inl (.inl AJ)⟩
  refine .gd (mtb [ac,af] b9.heap.size) 11 fun lu dx=>?_
  replace ⟨hrb0,hrb1,hrb2,hrb3,hrb4,hrb5,hrb6,hbx,aa,ab,ag,am⟩:=(se [af,ac,ae,bx] dx).g12 hrb0 hrb1 hrb2 hrb3 hrb4 hrb5 hrb6 hbx aa ab ag am
  replace E:=(se [af,ac,ae,bx] dx).g1 E
  refine .r [0,1,2]<|.ln 3 hbx (Cy (all_cons (Nb.symm eL) (all_cons (Nb.symm gP) all_nil)) f0)<|.r [4]<|.lb 5 aa (Cy (all_cons (Nb.symm ec) (all_cons (Nb.symm gQ) all_nil)) f5)<|.go 6<|.cl (fun eG ba=>IQ w_.store e.at_ ((hrb0.base (fun _ _ h=>h.1)).ext ba) ((hrb1.base (fun _ _ h=>h.1)).ext ba) ((hrb2.base (fun _ _ h=>h.1)).ext ba) ((hrb3.base (fun _ _ h=>h.1)).ext ba) p0.sd (w:=eG) (F:=nin (fo F w.heap.size) [af,ac,ae,bx])) ?_
  intro eG ba
  replace ⟨hrb0,hrb1,hrb2,hrb3,hrb4,hrb5,hrb6,hbx,aa,ab,ag,am⟩:=(se [af,ac,ae,bx] ba).g12 hrb0 hrb1 hrb2 hrb3 hrb4 hrb5 hrb6 hbx aa ab ag am
  replace E:=(se [af,ac,ae,bx] ba).g1 E
  rintro lv lw ⟨⟨ly,rfl,⟨_,rfl,⟨cd,lz,ce,cg,lA,ci,cj,lB,ck,cm,lC,co,rfl,ai,aj,ak,al⟩⟩⟩,bQ⟩
  have bC:=al4 ag.lt ab.lt aa.lt hbx.lt
  have bR:Gb w.heap.size eG.heap.size:=E.size
  have hkeep_:=bQ
  replace ⟨hrb0,hrb1,hrb2,hrb3,hrb4,hrb5,hrb6,hbx,aa,ab,ag,am⟩:=(se [af,ac,ae,bx] bQ).g12 hrb0 hrb1 hrb2 hrb3 hrb4 hrb5 hrb6 hbx aa ab ag am
  replace E:=(se [af,ac,ae,bx] bQ).g1 E
  refine ⟨Ext.chg hkeep_,?_⟩
  replace ai:=RepS.Bq (M:=[af,ac,ae,bx]) ai bC bR
  have jC:=ai.max
  replace aj:=RepS.Bq (M:=[af,ac,ae,bx]) aj bC bR
  have jD:=aj.max
  replace ak:=RepS.Bq (M:=[af,ac,ae,bx]) ak bC bR
  have jE:=ak.max
  replace al:=RepS.Bq (M:=[af,ac,ae,bx]) al bC bR
  have jF:=al.max
  have f7:=ai.len
  subst f7
  have f8:=aj.len
  subst f8
  have f9:=ak.len
  subst f9
  have gb:=al.len
  subst gb
  refine .r [7,8,9]<|.go 10<|GE.Er (t':=32) (o:=0) (v:=.agg #[.slice cd ((BL w_.store e.at_).1.idx.names.length) ce,.slice cg ((((BL w_.store e.at_).1.idx).AY).length) ci,.slice cj ((BL w_.store e.at_).1.parts.length) ck,.slice cm ((BL w_.store e.at_).1.mem.length) co]) [.slice cd ((BL w_.store e.at_).1.idx.names.length) ce,.slice cg ((((BL w_.store e.at_).1.idx).AY).length) ci,.slice cj ((BL w_.store e.at_).1.parts.length) ck,.slice cm ((BL w_.store e.at_).1.mem.length) co] ag AA AA AA fun lD dy=>?_
  replace ⟨hrb0,hrb1,hrb2,hrb3,hrb4,hrb5,hrb6,hbx,aa,ab,ag,am⟩:=(se [af,ac,ae,bx] dy).g12 hrb0 hrb1 hrb2 hrb3 hrb4 hrb5 hrb6 hbx aa ab ag am
  replace ⟨ai,aj,ak,al,E⟩:=(se [af,ac,ae,bx] dy).g5 ai aj ak al E
  intro lE bS aq gf
  have hkeep_:=Chg.toS bS (Cov.toS f6)
  replace ⟨hrb0,hrb1,hrb2,hrb3,hrb4,hrb5,hrb6,hbx,aa,ab,am,ai⟩:=(so [af,ac,ae,bx] bS).g12 hrb0 hrb1 hrb2 hrb3 hrb4 hrb5 hrb6 hbx aa ab am ai
  replace ⟨aj,ak,al,E⟩:=(so [af,ac,ae,bx] bS).g4 aj ak al E
  refine ⟨hkeep_,?_⟩
  refine .d fun lF dz=>?_
  replace ⟨hrb0,hrb1,hrb2,hrb3,hrb4,hrb5,hrb6,hbx,aa,ab,aq,am⟩:=(se [af,ac,ae,bx] dz).g12 hrb0 hrb1 hrb2 hrb3 hrb4 hrb5 hrb6 hbx aa ab aq am
  replace ⟨ai,aj,ak,al,E⟩:=(se [af,ac,ae,bx] dz).g5 ai aj ak al E
  replace hrb0:=hrb0.BK
  replace hrb1:=hrb1.BK
  replace hrb2:=hrb2.BK
  replace hrb3:=hrb3.BK
  replace hrb4:=hrb4.BK
  replace hrb5:=hrb5.BK
  replace hrb6:=hrb6.BK
  replace am:=am.BK
  refine .d<|.ib 0<|.s<|.s<|.g<|.r 2<|.eq (((Ag w_.disk e.at_).length):Int) 0 (fun gh=>?_) (fun gh=>?_)
  ·refine .r 5<|.d<|.ct<|T.KH AA func35 results35 ?_
   rw [show (doW w_ e)=w_ from by exact UW p0 (by with_reducible assumption) (.inl (by with_reducible assumption))]
   exact ⟨⟨rfl,ab0,w_.store.idx.names.length,cb0,ab1,w_.store.idx.AY.length,cb1,ab2,w_.store.parts.length,cb2,ab3,w_.store.mem.length,cb3,ab4,w_.disk.files.length,cb4,ab5,w_.disk.list.length,cb5,ab6,w_.disk.names.length,cb6,hbx,(RepS.Am hrb0 (all_cons AL all_nil)),(RepS.Am hrb1 (all_cons AL all_nil)),(RepS.Am hrb2 (all_cons AL all_nil)),(RepS.Am hrb3 (all_cons AL all_nil)),(RepS.Am hrb4 (all_cons AL all_nil)),(RepS.Am hrb5 (all_cons AL all_nil)),(RepS.Am hrb6 (all_cons AL all_nil))⟩,E⟩
  refine .r 2<|.lb aa<|.bp (e.cut< 0) (fun gi=>?_) (fun gi=>?_)
  ·refine .r 1<|.d<|.ct<|T.KH AA func35 results35 ?_
   rw [show (doW w_ e)=w_ from by exact UW p0 (by with_reducible assumption) (.inr (by with_reducible assumption))]
   exact ⟨⟨rfl,ab0,w_.store.idx.names.length,cb0,ab1,w_.store.idx.AY.length,cb1,ab2,w_.store.parts.length,cb2,ab3,w_.store.mem.length,cb3,ab4,w_.disk.files.length,cb4,ab5,w_.disk.list.length,cb5,ab6,w_.disk.names.length,cb6,hbx,(RepS.Am hrb0 (all_cons AL all_nil)),(RepS.Am hrb1 (all_cons AL all_nil)),(RepS.Am hrb2 (all_cons AL all_nil)),(RepS.Am hrb3 (all_cons AL all_nil)),(RepS.Am hrb4 (all_cons AL all_nil)),(RepS.Am hrb5 (all_cons AL all_nil)),(RepS.Am hrb6 (all_cons AL all_nil))⟩,E⟩
  refine .r 1<|.d<|.cf<|.sk<|.s<|.gd nil 9 fun lG dA=>?_
  replace ⟨hrb0,hrb1,hrb2,hrb3,hrb4,hrb5,hrb6,hbx,aa,ab,aq,am⟩:=(se [af,ac,ae,bx] dA).g12 hrb0 hrb1 hrb2 hrb3 hrb4 hrb5 hrb6 hbx aa ab aq am
  replace ⟨ai,aj,ak,al,E⟩:=(se [af,ac,ae,bx] dA).g5 ai aj ak al E
  refine .r [0,1,2,3]<|.ln 4 hbx id<|.r [5,6]<|.lb 7 aa id<|.go 8<|.cl (fun eH bd=>HT w_.disk (Ag w_.disk e.at_) e.cut (hrb4.ext bd) (hrb5.ext bd) (hrb6.ext bd) (am.ext bd) p0.dd (fun _=>by exact (JI p0.dd _).1) (w:=eH) (F:=nin (fo F w.heap.size) [af,ac,ae,bx])) ?_
  intro eH bd
  replace ⟨hrb0,hrb1,hrb2,hrb3,hrb4,hrb5,hrb6,hbx,aa,ab,aq,ai⟩:=(se [af,ac,ae,bx] bd).g12 hrb0 hrb1 hrb2 hrb3 hrb4 hrb5 hrb6 hbx aa ab aq ai
  replace ⟨aj,ak,al,E⟩:=(se [af,ac,ae,bx] bd).g4 aj ak al E
  rintro lH lI ⟨⟨_,rfl,⟨d0,lJ,d3,d4,lK,d5,d6,lL,d7,rfl,aM,aN,aO⟩⟩,bT⟩
  have bU:=al4 aq.lt ab.lt aa.lt hbx.lt
  have dB:Gb w.heap.size eH.heap.size:=E.size
  have hkeep_:=bT
  replace ⟨hrb0,hrb1,hrb2,hrb3,hrb4,hrb5,hrb6,hbx,aa,ab,aq,ai⟩:=(se [af,ac,ae,bx] bT).g12 hrb0 hrb1 hrb2 hrb3 hrb4 hrb5 hrb6 hbx aa ab aq ai
  replace ⟨aj,ak,al,E⟩:=(se [af,ac,ae,bx] bT).g4 aj ak al E
  refine ⟨Ext.chg hkeep_,?_⟩
  replace aM:=RepS.Bq (M:=[af,ac,ae,bx]) aM bU dB
  have jG:=aM.max
  replace aN:=RepS.Bq (M:=[af,ac,ae,bx]) aN bU dB
  have jH:=aN.max
  replace aO:=RepS.Bq (M:=[af,ac,ae,bx]) aO bU dB
  have jI:=aO.max
  have gj:=aM.len
  subst gj
  have gk:=aN.len
  subst gk
  have gl:=aO.len
  subst gl
  refine .d fun lM dC=>?_
  replace ⟨hrb0,hrb1,hrb2,hrb3,hrb4,hrb5,hrb6,hbx,aa,ab,aq,ai⟩:=(se [af,ac,ae,bx] dC).g12 hrb0 hrb1 hrb2 hrb3 hrb4 hrb5 hrb6 hbx aa ab aq ai
  replace ⟨aj,ak,al,aM,aN,aO,E⟩:=(se [af,ac,ae,bx] dC).g7 aj ak al aM aN aO E
  refine .r 2<|.sb 4 (.agg #[.slice d0 (((Aj w_.disk (Ag w_.disk e.at_) e.cut).files).length) d3,.slice d4 (((Aj w_.disk (Ag w_.disk e.at_) e.cut).list).length) d5,.slice d6 (((Aj w_.disk (Ag w_.disk e.at_) e.cut).names).length) d7,vI ((Aj w_.disk (Ag w_.disk e.at_) e.cut).next)]) [.slice ab0 w_.store.idx.names.length cb0,.slice ab1 w_.store.idx.AY.length cb1,.slice ab2 w_.store.parts.length cb2,.slice ab3 w_.store.mem.length cb3,.slice d0 (((Aj w_.disk (Ag w_.disk e.at_) e.cut).files).length) d3,.slice d4 (((Aj w_.disk (Ag w_.disk e.at_) e.cut).list).length) d5,.slice d6 (((Aj w_.disk (Ag w_.disk e.at_) e.cut).names).length) d7,vI ((Aj w_.disk (Ag w_.disk e.at_) e.cut).next)] hbx fun eI dD dE gm=>?_
  replace ⟨hrb0,hrb1,hrb2,hrb3,hrb4,hrb5,hrb6,aa,ab,aq,ai,aj⟩:=(so [af,ac,ae,bx] dD).g12 hrb0 hrb1 hrb2 hrb3 hrb4 hrb5 hrb6 aa ab aq ai aj
  replace ⟨ak,al,aM,aN,aO,E⟩:=(so [af,ac,ae,bx] dD).g6 ak al aM aN aO E
  refine .d<|.s<|.g<|.r 1<|.lb aa<|.r 2<|.bp (e.cut< (((Ag w_.disk e.at_).length):Int)) (fun gn=>?_) (fun gn=>?_)
  ·refine .d<|.ct<|.g<|.r 1<|.cl (D9 (⟨(⟨(⟨w_.store.idx.names,w_.store.idx.AY⟩:Idx),w_.store.parts,w_.store.mem⟩:Sto),(⟨(Aj w_.disk (Ag w_.disk e.at_) e.cut).files,(Aj w_.disk (Ag w_.disk e.at_) e.cut).list,(Aj w_.disk (Ag w_.disk e.at_) e.cut).names,(Aj w_.disk (Ag w_.disk e.at_) e.cut).next⟩:Dsk)⟩:Wld) (RepS.toM hrb0 (all_cons AL all_nil)) (RepS.toM hrb1 (all_cons AL all_nil)) (RepS.toM hrb2 (all_cons AL all_nil)) (RepS.toM hrb3 (all_cons AL all_nil)) (RepS.toM aM (all_cons AL all_nil)) (RepS.toM aN (all_cons AL all_nil)) (RepS.toM aO (all_cons AL all_nil)) dE (by exact (Mg (e:=e) p0 (by with_reducible assumption) (by with_reducible assumption)).2.1) (by exact (Mg (e:=e) p0 (by with_reducible assumption) (by with_reducible assumption)).2.2) (w:=eI) (F:=nin (fo F w.heap.size) [af,ac,ae,bx])) ?_
   rintro lN bm ⟨⟨rfl,hW,lO,ia,ic,lP,ie,ig,lQ,ii,ij,lR,ik,il,lS,im,io,lT,ip,iq,lU,ir,gp,cp,cq,cr,cu,cw,cx,cy⟩,bV⟩
   have aW:=al4 aq.lt ab.lt aa.lt dE.lt
   have bg:Gb w.heap.size eI.heap.size:=E.size
   have dF:Mv [af,ac,ae,bx] [af,ac,ae,bx] eI bm:=Mv.inl bV (all_cons AL all_nil) (all_cons (.inl AI) (all_cons (.inl AJ) (all_cons (.inl AK) (all_cons (.inl AL) all_nil))))
   replace ⟨hrb0,hrb1,hrb2,hrb3,hrb4,hrb5,hrb6,aa,ab,aq,ai,aj⟩:=(sp dF bV).g12 hrb0 hrb1 hrb2 hrb3 hrb4 hrb5 hrb6 aa ab aq ai aj
   replace ⟨ak,al,aM,aN,aO,E⟩:=(sp dF bV).g6 ak al aM aN aO E
   replace cp:RepS bm (nin (fo F w.heap.size) [af,ac,ae,bx]) _ _ _ _:=RepS.bxM (M2:=[af,ac,ae,bx]) cp aW (fun _ h=>.inr (Nat.le_trans bg h)) (all_cons (.inr AI) (all_cons (.inr AJ) (all_cons (.inr AK) (all_cons (.inl AI) all_nil))))
   replace cq:RepS bm (nin (fo F w.heap.size) [af,ac,ae,bx]) _ _ _ _:=RepS.bxM (M2:=[af,ac,ae,bx]) cq aW (fun _ h=>.inr (Nat.le_trans bg h)) (all_cons (.inr AI) (all_cons (.inr AJ) (all_cons (.inr AK) (all_cons (.inl AI) all_nil))))
   replace cr:RepS bm (nin (fo F w.heap.size) [af,ac,ae,bx]) _ _ _ _:=RepS.bxM (M2:=[af,ac,ae,bx]) cr aW (fun _ h=>.inr (Nat.le_trans bg h)) (all_cons (.inr AI) (all_cons (.inr AJ) (all_cons (.inr AK) (all_cons (.inl AI) all_nil))))
   replace cu:RepS bm (nin (fo F w.heap.size) [af,ac,ae,bx]) _ _ _ _:=RepS.bxM (M2:=[af,ac,ae,bx]) cu aW (fun _ h=>.inr (Nat.le_trans bg h)) (all_cons (.inr AI) (all_cons (.inr AJ) (all_cons (.inr AK) (all_cons (.inl AI) all_nil))))
   replace cw:RepS bm (nin (fo F w.heap.size) [af,ac,ae,bx]) _ _ _ _:=RepS.bxM (M2:=[af,ac,ae,bx]) cw aW (fun _ h=>.inr (Nat.le_trans bg h)) (all_cons (.inr AI) (all_cons (.inr AJ) (all_cons (.inr AK) (all_cons (.inl AI) all_nil))))
   replace cx:RepS bm (nin (fo F w.heap.size) [af,ac,ae,bx]) _ _ _ _:=RepS.bxM (M2:=[af,ac,ae,bx]) cx aW (fun _ h=>.inr (Nat.le_trans bg h)) (all_cons (.inr AI) (all_cons (.inr AJ) (all_cons (.inr AK) (all_cons (.inl AI) all_nil))))
   replace cy:RepS bm (nin (fo F w.heap.size) [af,ac,ae,bx]) _ _ _ _:=RepS.bxM (M2:=[af,ac,ae,bx]) cy aW (fun _ h=>.inr (Nat.le_trans bg h)) (all_cons (.inr AI) (all_cons (.inr AJ) (all_cons (.inr AK) (all_cons (.inl AI) all_nil))))
   have gq:=cp.len
   subst gq
   have gr:=cq.len
   subst gr
   have gs:=cr.len
   subst gs
   have gt:=cu.len
   subst gt
   have gu:=cw.len
   subst gu
   have gv:=cx.len
   subst gv
   have gw:=cy.len
   subst gw
   refine .d<|T.FP func35 results35 ?_
   rw [show (doW w_ e)=(⟨(⟨(⟨((((BA (⟨(⟨(⟨w_.store.idx.names,w_.store.idx.AY⟩:Idx),w_.store.parts,w_.store.mem⟩:Sto),(⟨(Aj w_.disk (Ag w_.disk e.at_) e.cut).files,(Aj w_.disk (Ag w_.disk e.at_) e.cut).list,(Aj w_.disk (Ag w_.disk e.at_) e.cut).names,(Aj w_.disk (Ag w_.disk e.at_) e.cut).next⟩:Dsk)⟩:Wld))).store).idx).names,((((BA (⟨(⟨(⟨w_.store.idx.names,w_.store.idx.AY⟩:Idx),w_.store.parts,w_.store.mem⟩:Sto),(⟨(Aj w_.disk (Ag w_.disk e.at_) e.cut).files,(Aj w_.disk (Ag w_.disk e.at_) e.cut).list,(Aj w_.disk (Ag w_.disk e.at_) e.cut).names,(Aj w_.disk (Ag w_.disk e.at_) e.cut).next⟩:Dsk)⟩:Wld))).store).idx).AY⟩:Idx),(((BA (⟨(⟨(⟨w_.store.idx.names,w_.store.idx.AY⟩:Idx),w_.store.parts,w_.store.mem⟩:Sto),(⟨(Aj w_.disk (Ag w_.disk e.at_) e.cut).files,(Aj w_.disk (Ag w_.disk e.at_) e.cut).list,(Aj w_.disk (Ag w_.disk e.at_) e.cut).names,(Aj w_.disk (Ag w_.disk e.at_) e.cut).next⟩:Dsk)⟩:Wld))).store).parts,(((BA (⟨(⟨(⟨w_.store.idx.names,w_.store.idx.AY⟩:Idx),w_.store.parts,w_.store.mem⟩:Sto),(⟨(Aj w_.disk (Ag w_.disk e.at_) e.cut).files,(Aj w_.disk (Ag w_.disk e.at_) e.cut).list,(Aj w_.disk (Ag w_.disk e.at_) e.cut).names,(Aj w_.disk (Ag w_.disk e.at_) e.cut).next⟩:Dsk)⟩:Wld))).store).mem⟩:Sto),(⟨(((BA (⟨(⟨(⟨w_.store.idx.names,w_.store.idx.AY⟩:Idx),w_.store.parts,w_.store.mem⟩:Sto),(⟨(Aj w_.disk (Ag w_.disk e.at_) e.cut).files,(Aj w_.disk (Ag w_.disk e.at_) e.cut).list,(Aj w_.disk (Ag w_.disk e.at_) e.cut).names,(Aj w_.disk (Ag w_.disk e.at_) e.cut).next⟩:Dsk)⟩:Wld))).disk).files,(((BA (⟨(⟨(⟨w_.store.idx.names,w_.store.idx.AY⟩:Idx),w_.store.parts,w_.store.mem⟩:Sto),(⟨(Aj w_.disk (Ag w_.disk e.at_) e.cut).files,(Aj w_.disk (Ag w_.disk e.at_) e.cut).list,(Aj w_.disk (Ag w_.disk e.at_) e.cut).names,(Aj w_.disk (Ag w_.disk e.at_) e.cut).next⟩:Dsk)⟩:Wld))).disk).list,(((BA (⟨(⟨(⟨w_.store.idx.names,w_.store.idx.AY⟩:Idx),w_.store.parts,w_.store.mem⟩:Sto),(⟨(Aj w_.disk (Ag w_.disk e.at_) e.cut).files,(Aj w_.disk (Ag w_.disk e.at_) e.cut).list,(Aj w_.disk (Ag w_.disk e.at_) e.cut).names,(Aj w_.disk (Ag w_.disk e.at_) e.cut).next⟩:Dsk)⟩:Wld))).disk).names,(((BA (⟨(⟨(⟨w_.store.idx.names,w_.store.idx.AY⟩:Idx),w_.store.parts,w_.store.mem⟩:Sto),(⟨(Aj w_.disk (Ag w_.disk e.at_) e.cut).files,(Aj w_.disk (Ag w_.disk e.at_) e.cut).list,(Aj w_.disk (Ag w_.disk e.at_) e.cut).names,(Aj w_.disk (Ag w_.disk e.at_) e.cut).next⟩:Dsk)⟩:Wld))).disk).next⟩:Dsk)⟩:Wld) from by exact WL p0 (by with_reducible assumption) (by with_reducible assumption) (by with_reducible assumption) (by with_reducible assumption)]
   exact ⟨⟨rfl,hW,(((((BA (⟨(⟨(⟨w_.store.idx.names,w_.store.idx.AY⟩:Idx),w_.store.parts,w_.store.mem⟩:Sto),(⟨(Aj w_.disk (Ag w_.disk e.at_) e.cut).files,(Aj w_.disk (Ag w_.disk e.at_) e.cut).list,(Aj w_.disk (Ag w_.disk e.at_) e.cut).names,(Aj w_.disk (Ag w_.disk e.at_) e.cut).next⟩:Dsk)⟩:Wld))).store).idx).names).length,ia,ic,(((((BA (⟨(⟨(⟨w_.store.idx.names,w_.store.idx.AY⟩:Idx),w_.store.parts,w_.store.mem⟩:Sto),(⟨(Aj w_.disk (Ag w_.disk e.at_) e.cut).files,(Aj w_.disk (Ag w_.disk e.at_) e.cut).list,(Aj w_.disk (Ag w_.disk e.at_) e.cut).names,(Aj w_.disk (Ag w_.disk e.at_) e.cut).next⟩:Dsk)⟩:Wld))).store).idx).AY).length,ie,ig,((((BA (⟨(⟨(⟨w_.store.idx.names,w_.store.idx.AY⟩:Idx),w_.store.parts,w_.store.mem⟩:Sto),(⟨(Aj w_.disk (Ag w_.disk e.at_) e.cut).files,(Aj w_.disk (Ag w_.disk e.at_) e.cut).list,(Aj w_.disk (Ag w_.disk e.at_) e.cut).names,(Aj w_.disk (Ag w_.disk e.at_) e.cut).next⟩:Dsk)⟩:Wld))).store).parts).length,ii,ij,((((BA (⟨(⟨(⟨w_.store.idx.names,w_.store.idx.AY⟩:Idx),w_.store.parts,w_.store.mem⟩:Sto),(⟨(Aj w_.disk (Ag w_.disk e.at_) e.cut).files,(Aj w_.disk (Ag w_.disk e.at_) e.cut).list,(Aj w_.disk (Ag w_.disk e.at_) e.cut).names,(Aj w_.disk (Ag w_.disk e.at_) e.cut).next⟩:Dsk)⟩:Wld))).store).mem).length,ik,il,((((BA (⟨(⟨(⟨w_.store.idx.names,w_.store.idx.AY⟩:Idx),w_.store.parts,w_.store.mem⟩:Sto),(⟨(Aj w_.disk (Ag w_.disk e.at_) e.cut).files,(Aj w_.disk (Ag w_.disk e.at_) e.cut).list,(Aj w_.disk (Ag w_.disk e.at_) e.cut).names,(Aj w_.disk (Ag w_.disk e.at_) e.cut).next⟩:Dsk)⟩:Wld))).disk).files).length,im,io,((((BA (⟨(⟨(⟨w_.store.idx.names,w_.store.idx.AY⟩:Idx),w_.store.parts,w_.store.mem⟩:Sto),(⟨(Aj w_.disk (Ag w_.disk e.at_) e.cut).files,(Aj w_.disk (Ag w_.disk e.at_) e.cut).list,(Aj w_.disk (Ag w_.disk e.at_) e.cut).names,(Aj w_.disk (Ag w_.disk e.at_) e.cut).next⟩:Dsk)⟩:Wld))).disk).list).length,ip,iq,((((BA (⟨(⟨(⟨w_.store.idx.names,w_.store.idx.AY⟩:Idx),w_.store.parts,w_.store.mem⟩:Sto),(⟨(Aj w_.disk (Ag w_.disk e.at_) e.cut).files,(Aj w_.disk (Ag w_.disk e.at_) e.cut).list,(Aj w_.disk (Ag w_.disk e.at_) e.cut).names,(Aj w_.disk (Ag w_.disk e.at_) e.cut).next⟩:Dsk)⟩:Wld))).disk).names).length,ir,gp,(RepS.Am cp (all_cons AL all_nil)),(RepS.Am cq (all_cons AL all_nil)),(RepS.Am cr (all_cons AL all_nil)),(RepS.Am cu (all_cons AL all_nil)),(RepS.Am cw (all_cons AL all_nil)),(RepS.Am cx (all_cons AL all_nil)),(RepS.Am cy (all_cons AL all_nil))⟩,E⟩
  refine .d<|.cf<|.g<|.r 1<|.ln aq<|.r 2<|.sb 0 (.agg #[.slice cd ((BL w_.store e.at_).1.idx.names.length) ce,.slice cg ((((BL w_.store e.at_).1.idx).AY).length) ci,.slice cj ((BL w_.store e.at_).1.parts.length) ck,.slice cm ((BL w_.store e.at_).1.mem.length) co]) [.slice cd ((BL w_.store e.at_).1.idx.names.length) ce,.slice cg ((((BL w_.store e.at_).1.idx).AY).length) ci,.slice cj ((BL w_.store e.at_).1.parts.length) ck,.slice cm ((BL w_.store e.at_).1.mem.length) co,.slice d0 (((Aj w_.disk (Ag w_.disk e.at_) e.cut).files).length) d3,.slice d4 (((Aj w_.disk (Ag w_.disk e.at_) e.cut).list).length) d5,.slice d6 (((Aj w_.disk (Ag w_.disk e.at_) e.cut).names).length) d7,vI ((Aj w_.disk (Ag w_.disk e.at_) e.cut).next)] dE fun lV dG gy gz=>?_
  replace ⟨hrb0,hrb1,hrb2,hrb3,hrb4,hrb5,hrb6,aa,ab,ai,aj,ak⟩:=(so [af,ac,ae,bx] dG).g12 hrb0 hrb1 hrb2 hrb3 hrb4 hrb5 hrb6 aa ab ai aj ak
  replace ⟨al,aM,aN,aO,E⟩:=(so [af,ac,ae,bx] dG).g5 al aM aN aO E
  refine .d<|T.FP func35 results35 ?_
  rw [show (doW w_ e)=(⟨(⟨(⟨(BL w_.store e.at_).1.idx.names,((BL w_.store e.at_).1.idx).AY⟩:Idx),(BL w_.store e.at_).1.parts,(BL w_.store e.at_).1.mem⟩:Sto),(⟨(Aj w_.disk (Ag w_.disk e.at_) e.cut).files,(Aj w_.disk (Ag w_.disk e.at_) e.cut).list,(Aj w_.disk (Ag w_.disk e.at_) e.cut).names,(Aj w_.disk (Ag w_.disk e.at_) e.cut).next⟩:Dsk)⟩:Wld) from by exact WM p0 (by with_reducible assumption) (by with_reducible assumption) (by with_reducible assumption) (by with_reducible assumption)]
  exact ⟨⟨rfl,cd,(BL w_.store e.at_).1.idx.names.length,ce,cg,(((BL w_.store e.at_).1.idx).AY).length,ci,cj,(BL w_.store e.at_).1.parts.length,ck,cm,(BL w_.store e.at_).1.mem.length,co,d0,((Aj w_.disk (Ag w_.disk e.at_) e.cut).files).length,d3,d4,((Aj w_.disk (Ag w_.disk e.at_) e.cut).list).length,d5,d6,((Aj w_.disk (Ag w_.disk e.at_) e.cut).names).length,d7,gy,(RepS.Am ai (all_cons AL all_nil)),(RepS.Am aj (all_cons AL all_nil)),(RepS.Am ak (all_cons AL all_nil)),(RepS.Am al (all_cons AL all_nil)),(RepS.Am aM (all_cons AL all_nil)),(RepS.Am aN (all_cons AL all_nil)),(RepS.Am aO (all_cons AL all_nil))⟩,E⟩
 refine .r 1<|.d<|.cf<|.s<|.g<|.eq e.kind 4 (fun gA=>?_) (fun gA=>?_)
 ·refine .r 1<|.d<|.ct<|.g<|.r 1<|.cl (D9 w_ (RepS.toM hrb0 (all_cons AL all_nil)) (RepS.toM hrb1 (all_cons AL all_nil)) (RepS.toM hrb2 (all_cons AL all_nil)) (RepS.toM hrb3 (all_cons AL all_nil)) (RepS.toM hrb4 (all_cons AL all_nil)) (RepS.toM hrb5 (all_cons AL all_nil)) (RepS.toM hrb6 (all_cons AL all_nil)) hbx (by exact p0.dd) (by exact p0.dk) (w:=bD) (F:=nin (fo F w.heap.size) [af,ac,ae,bx])) ?_
  rintro lW bn ⟨⟨rfl,iu,lX,iw,iy,lY,iz,iA,lZ,iB,iC,l0,iD,iE,l3,iF,iG,l4,iH,iI,l6,iJ,gC,cz,cA,cB,cC,cD,cE,cF⟩,dH⟩
  have aX:=al4 ag.lt ab.lt aa.lt hbx.lt
  have bh:Gb w.heap.size bD.heap.size:=E.size
  have eJ:Mv [af,ac,ae,bx] [af,ac,ae,bx] bD bn:=Mv.inl dH (all_cons AL all_nil) (all_cons (.inl AI) (all_cons (.inl AJ) (all_cons (.inl AK) (all_cons (.inl AL) all_nil))))
  replace ⟨hrb0,hrb1,hrb2,hrb3,hrb4,hrb5,hrb6,E⟩:=(sp eJ dH).g8 hrb0 hrb1 hrb2 hrb3 hrb4 hrb5 hrb6 E
  replace cz:RepS bn (nin (fo F w.heap.size) [af,ac,ae,bx]) _ _ _ _:=RepS.bxM (M2:=[af,ac,ae,bx]) cz aX (fun _ h=>.inr (Nat.le_trans bh h)) (all_cons (.inr AI) (all_cons (.inr AJ) (all_cons (.inr AK) (all_cons (.inl AI) all_nil))))
  replace cA:RepS bn (nin (fo F w.heap.size) [af,ac,ae,bx]) _ _ _ _:=RepS.bxM (M2:=[af,ac,ae,bx]) cA aX (fun _ h=>.inr (Nat.le_trans bh h)) (all_cons (.inr AI) (all_cons (.inr AJ) (all_cons (.inr AK) (all_cons (.inl AI) all_nil))))
  replace cB:RepS bn (nin (fo F w.heap.size) [af,ac,ae,bx]) _ _ _ _:=RepS.bxM (M2:=[af,ac,ae,bx]) cB aX (fun _ h=>.inr (Nat.le_trans bh h)) (all_cons (.inr AI) (all_cons (.inr AJ) (all_cons (.inr AK) (all_cons (.inl AI) all_nil))))
  replace cC:RepS bn (nin (fo F w.heap.size) [af,ac,ae,bx]) _ _ _ _:=RepS.bxM (M2:=[af,ac,ae,bx]) cC aX (fun _ h=>.inr (Nat.le_trans bh h)) (all_cons (.inr AI) (all_cons (.inr AJ) (all_cons (.inr AK) (all_cons (.inl AI) all_nil))))
  replace cD:RepS bn (nin (fo F w.heap.size) [af,ac,ae,bx]) _ _ _ _:=RepS.bxM (M2:=[af,ac,ae,bx]) cD aX (fun _ h=>.inr (Nat.le_trans bh h)) (all_cons (.inr AI) (all_cons (.inr AJ) (all_cons (.inr AK) (all_cons (.inl AI) all_nil))))
  replace cE:RepS bn (nin (fo F w.heap.size) [af,ac,ae,bx]) _ _ _ _:=RepS.bxM (M2:=[af,ac,ae,bx]) cE aX (fun _ h=>.inr (Nat.le_trans bh h)) (all_cons (.inr AI) (all_cons (.inr AJ) (all_cons (.inr AK) (all_cons (.inl AI) all_nil))))
  replace cF:RepS bn (nin (fo F w.heap.size) [af,ac,ae,bx]) _ _ _ _:=RepS.bxM (M2:=[af,ac,ae,bx]) cF aX (fun _ h=>.inr (Nat.le_trans bh h)) (all_cons (.inr AI) (all_cons (.inr AJ) (all_cons (.inr AK) (all_cons (.inl AI) all_nil))))
  have gD:=cz.len
  subst gD
  have gE:=cA.len
  subst gE
  have gF:=cB.len
  subst gF
  have gG:=cC.len
  subst gG
  have gH:=cD.len
  subst gH
  have gI:=cE.len
  subst gI
  have gJ:=cF.len
  subst gJ
  refine .d<|.ib 0<|.s<|.s<|.g<|.r 8<|.d<|.ct<|T.KH AA func35 results35 ?_
  rw [show (doW w_ e)=(⟨(⟨(⟨((((BA w_)).store).idx).names,((((BA w_)).store).idx).AY⟩:Idx),(((BA w_)).store).parts,(((BA w_)).store).mem⟩:Sto),(⟨(((BA w_)).disk).files,(((BA w_)).disk).list,(((BA w_)).disk).names,(((BA w_)).disk).next⟩:Dsk)⟩:Wld) from by exact Wf (by with_reducible assumption)]
  exact ⟨⟨rfl,iu,(((((BA w_)).store).idx).names).length,iw,iy,(((((BA w_)).store).idx).AY).length,iz,iA,((((BA w_)).store).parts).length,iB,iC,((((BA w_)).store).mem).length,iD,iE,((((BA w_)).disk).files).length,iF,iG,((((BA w_)).disk).list).length,iH,iI,((((BA w_)).disk).names).length,iJ,gC,(RepS.Am cz (all_cons AL all_nil)),(RepS.Am cA (all_cons AL all_nil)),(RepS.Am cB (all_cons AL all_nil)),(RepS.Am cC (all_cons AL all_nil)),(RepS.Am cD (all_cons AL all_nil)),(RepS.Am cE (all_cons AL all_nil)),(RepS.Am cF (all_cons AL all_nil))⟩,E⟩
 refine .r 1<|.d<|.cf<|.sk<|.ib 0<|.s<|.s<|.g<|.r 8<|.d<|.ct<|T.KH AA func35 results35 ?_
 rw [show (doW w_ e)=w_ from by exact LZ (by with_reducible assumption) (by with_reducible assumption) (by with_reducible assumption) (by with_reducible assumption)]
 exact ⟨⟨rfl,ab0,w_.store.idx.names.length,cb0,ab1,w_.store.idx.AY.length,cb1,ab2,w_.store.parts.length,cb2,ab3,w_.store.mem.length,cb3,ab4,w_.disk.files.length,cb4,ab5,w_.disk.list.length,cb5,ab6,w_.disk.names.length,cb6,hbx,(RepS.Am hrb0 (all_cons AL all_nil)),(RepS.Am hrb1 (all_cons AL all_nil)),(RepS.Am hrb2 (all_cons AL all_nil)),(RepS.Am hrb3 (all_cons AL all_nil)),(RepS.Am hrb4 (all_cons AL all_nil)),(RepS.Am hrb5 (all_cons AL all_nil)),(RepS.Am hrb6 (all_cons AL all_nil))⟩,E⟩
theorem JN (events:List Evt) (h1:RepS w F a1 n1 c1 events) (p0:EsD events):Calls Tryz.prog 9 [.slice a1 n1 c1].toArray w (Al fun rv w'=>(∃ v0,rv=.tuple #[v0,.bool ((Cr events).2)]∧VS (fo F w.heap.size) w' ((Cr events).1:Wld) v0)∧Ext w w'):=by
 refine goT func9 ?_
 obtain ⟨rfl,dD,h1⟩:=h1.tp
 refine .s<|.g<|.np 38 [AH,AH,AH,AH,AH,AH,AH,vI 0] fun E bT bi bj ae bU=>?_
 have dE:Cov nil w E:=Fp bi (Nat.le_refl _)
 replace h1:=(sn [] bj bi).g1 h1
 have ab:=bj
 refine .r 1<|.d<|.s<|.s<|.g<|.r 2<|.bp ((events.length:Int) > 50) (fun bV=>?_) (fun bV=>?_)
 ·refine .d<|.ct<|.s<|.g<|.r 1<|.sc [AH,AH,AH,AH,AH,AH,AH,vI 0] ae fun d5 bv bW bX=>?_
  replace ⟨h1,ab⟩:=(so [E] bv).g2 h1 ab
  exact .r 1<|.d<|.r2 func9 results9 (.bx bW) (.t (.bool false)) ⟨⟨_,(Br rfl (AG (by (rw [K1 ‹_›] <;> rfl)))),(VS.of (y:=(⟨(⟨(⟨([]:List (List Tag)),([]:List Pst)⟩:Idx),([]:List Prt),([]:List Smp)⟩:Sto),(⟨([]:List Fil),([]:List Int),([]:List (List Tag)),0⟩:Dsk)⟩:Wld)) ⟨_,rfl,⟨_,_,_,_,_,_,_,_,_,_,_,_,_,_,_,_,_,_,_,_,_,rfl,(RepS.BM _ _ none 0 AE),(RepS.BM _ _ none 0 AE),(RepS.BM _ _ none 0 AE),(RepS.BM _ _ none 0 AE),(RepS.BM _ _ none 0 AE),(RepS.BM _ _ none 0 AE),(RepS.BM _ _ none 0 AE)⟩⟩ (by (rw [K1 ‹_›] <;> rfl)))⟩,ab⟩
 refine .d<|.cf<|.sk<|.s<|.g<|.cl (GM (w:=bT) (F:=all)) ?_
 rintro d6 d7 ⟨⟨_,rfl,⟨bY,d8,bZ,b0,d9,b6,b7,ec,b8,b9,ee,cd,ce,eg,cg,ci,eh,cj,ck,ej,cm,rfl,aJ,aK,aL,aM,aN,aO,aP⟩⟩,bw⟩
 have aI:=al1 ae.lt
 have aQ:Gb w.heap.size bT.heap.size:=ab.size
 replace ⟨h1,ae,ab⟩:=(se [E] bw).g3 h1 ae ab
 have aJ:=aJ.fr aI aQ
 replace aJ:=aJ.base (G':=fo F w.heap.size) (fun _ _ h=>.inr h)
 have dF:=aJ.max
 have aK:=aK.fr aI aQ
 replace aK:=aK.base (G':=fo F w.heap.size) (fun _ _ h=>.inr h)
 have dG:=aK.max
 have aL:=aL.fr aI aQ
 replace aL:=aL.base (G':=fo F w.heap.size) (fun _ _ h=>.inr h)
 have dH:=aL.max
 have aM:=aM.fr aI aQ
 replace aM:=aM.base (G':=fo F w.heap.size) (fun _ _ h=>.inr h)
 have dI:=aM.max
 have aN:=aN.fr aI aQ
 replace aN:=aN.base (G':=fo F w.heap.size) (fun _ _ h=>.inr h)
 have dJ:=aN.max
 have aO:=aO.fr aI aQ
 replace aO:=aO.base (G':=fo F w.heap.size) (fun _ _ h=>.inr h)
 have dK:=aO.max
 have aP:=aP.fr aI aQ
 replace aP:=aP.base (G':=fo F w.heap.size) (fun _ _ h=>.inr h)
 have dL:=aP.max
 have co:=aJ.len
 subst co
 have cp:=aK.len
 subst cp
 have cq:=aL.len
 subst cq
 have cr:=aM.len
 subst cr
 have cu:=aN.len
 subst cu
 have cw:=aO.len
 subst cw
 have cx:=aP.len
 subst cx
 refine .np 38 [AH,AH,AH,AH,AH,AH,AH,vI 0] fun aa ek bg bz cy cz=>?_
 have dM:=Ab bg ae.lt
 have dN:=ab.cn bg
 replace ⟨h1,ae,aJ,aK,aL,aM,aN,aO,aP,ab⟩:=(sn [E] bz bg).g10 h1 ae aJ aK aL aM aN aO aP ab
 refine .sc [.slice bY CR.store.idx.names.length bZ,.slice b0 CR.store.idx.AY.length b6,.slice b7 CR.store.parts.length b8,.slice b9 CR.store.mem.length cd,.slice ce CR.disk.files.length cg,.slice ci CR.disk.list.length cj,.slice ck CR.disk.names.length cm,vI CR.disk.next] cy fun bB bA cA cB=>?_
 replace ⟨h1,ae,aJ,aK,aL,aM,aN,aO,aP,ab⟩:=(so [aa,E] bA).g10 h1 ae aJ aK aL aM aN aO aP ab
 refine .d<|.s<|.s<|.g<|.r 3<|.d<|.b 0<|T.loop (X:=Nat × (List (List Tag)) × (Option Addr) × Nat × Nat × (List Pst) × (Option Addr) × Nat × Nat × (List Prt) × (Option Addr) × Nat × Nat × (List Smp) × (Option Addr) × Nat × Nat × (List Fil) × (Option Addr) × Nat × Nat × (List Int) × (Option Addr) × Nat × Nat × (List (List Tag)) × (Option Addr) × Nat × Nat × Int) (0,(CR.store.idx.names:List (List Tag)),bY,CR.store.idx.names.length,bZ,(CR.store.idx.AY:List Pst),b0,CR.store.idx.AY.length,b6,(CR.store.parts:List Prt),b7,CR.store.parts.length,b8,(CR.store.mem:List Smp),b9,CR.store.mem.length,cd,(CR.disk.files:List Fil),ce,CR.disk.files.length,cg,(CR.disk.list:List Int),ci,CR.disk.list.length,cj,(CR.disk.names:List (List Tag)),ck,CR.disk.names.length,cm,CR.disk.next) (fun (k,am,a_w_0,n_w_0,c_w_0,ao,a_w_1,n_w_1,c_w_1,aq,a_w_2,n_w_2,c_w_2,ar,a_w_3,n_w_3,c_w_3,ax,a_w_4,n_w_4,c_w_4,ay,a_w_5,n_w_5,c_w_5,az,a_w_6,n_w_6,c_w_6,al)=>[(2,.pointer (some ⟨E,0,none⟩)),(4,.pointer (some ⟨aa,0,none⟩)),(12,.slice a1 events.length c1),(13,vI (events.length:Int)),(14,vI (k:Int))]) (fun (k,am,a_w_0,n_w_0,c_w_0,ao,a_w_1,n_w_1,c_w_1,aq,a_w_2,n_w_2,c_w_2,ar,a_w_3,n_w_3,c_w_3,ax,a_w_4,n_w_4,c_w_4,ay,a_w_5,n_w_5,c_w_5,az,a_w_6,n_w_6,c_w_6,al) aR=>Chg (ins [aa]) bB aR∧RepS aR (nin (fo F w.heap.size) [aa,E]) a_w_0 n_w_0 c_w_0 am∧RepS aR (nin (fo F w.heap.size) [aa,E]) a_w_1 n_w_1 c_w_1 ao∧RepS aR (nin (fo F w.heap.size) [aa,E]) a_w_2 n_w_2 c_w_2 aq∧RepS aR (nin (fo F w.heap.size) [aa,E]) a_w_3 n_w_3 c_w_3 ar∧RepS aR (nin (fo F w.heap.size) [aa,E]) a_w_4 n_w_4 c_w_4 ax∧RepS aR (nin (fo F w.heap.size) [aa,E]) a_w_5 n_w_5 c_w_5 ay∧RepS aR (nin (fo F w.heap.size) [aa,E]) a_w_6 n_w_6 c_w_6 az∧Box aR aa 38 [.slice a_w_0 n_w_0 c_w_0,.slice a_w_1 n_w_1 c_w_1,.slice a_w_2 n_w_2 c_w_2,.slice a_w_3 n_w_3 c_w_3,.slice a_w_4 n_w_4 c_w_4,.slice a_w_5 n_w_5 c_w_5,.slice a_w_6 n_w_6 c_w_6,vI al]∧(k≤events.length)∧((events.drop k).foldl doW ⟨⟨⟨am,ao⟩,aq,ar⟩,⟨ax,ay,az,al⟩⟩=CB events)∧(WV ⟨⟨⟨am,ao⟩,aq,ar⟩,⟨ax,ay,az,al⟩⟩)) (fun (k,am,a_w_0,n_w_0,c_w_0,ao,a_w_1,n_w_1,c_w_1,aq,a_w_2,n_w_2,c_w_2,ar,a_w_3,n_w_3,c_w_3,ax,a_w_4,n_w_4,c_w_4,ay,a_w_5,n_w_5,c_w_5,az,a_w_6,n_w_6,c_w_6,al)=>events.length - k) AA ⟨AA,AA,AA,AA,AA,trivial⟩ ⟨Chg.refl _ _,aJ,aK,aL,aM,aN,aO,aP,cA,AB,AF,(by exact WV.new)⟩ ?_
 rintro ⟨k,am,a_w_0,n_w_0,c_w_0,ao,a_w_1,n_w_1,c_w_1,aq,a_w_2,n_w_2,c_w_2,ar,a_w_3,n_w_3,c_w_3,ax,a_w_4,n_w_4,c_w_4,ay,a_w_5,n_w_5,c_w_5,az,a_w_6,n_w_6,c_w_6,al⟩ dO aR ⟨aE,aA,aB,af,ag,ah,ai,aj,aC,dP,dQ,dR⟩ bh
 have cT:Cov (ins [aa]) bB aa:=⟨.inl AI⟩
 have bk:Mv [aa,E] [aa,E] bB aR:=Mv.inl aE (all_cons AI all_nil) (all_cons (.inl AI) (all_cons (.inl AJ) all_nil))
 replace ⟨h1,ae,ab⟩:=(sp bk aE).g3 h1 ae ab
 refine .s<|.g<|.bp ((k:Int)< (events.length:Int)) (fun bC=>?_) (fun bC=>?_)
 ·refine .d<|.s<|.ct<|.sk<|.s<|.b 1<|.s<|.g ?_
  have bD:k< events.length:=AB
  refine .ix k 6 h1 bD ?_
  obtain ⟨ac,ba⟩:∃ y,events[k]? = some y:=⟨_,AU AB⟩
  have dm:=Be ba; have cC:=AV ba
  obtain ⟨_,⟨cD,dS,cE,rfl,aS⟩,bE⟩:=h1.elem k ac ba
  have bF:=aS.len
  subst bF
  refine .lg 0 bE<|.np 46 [vI 0,vI 0,vI 0,AH,vI 0,vI 0] fun ak dT aH bm bG bH=>?_
  have dq:=Ab aH ae.lt
  have dt:=Ab aH aC.lt
  have du:=ab.cn aH
  have dv:=aE.cn aH
  replace ⟨ae,aC,aA,aB,af,ag,ah,ai,aj,aS,ab,aE⟩:=(sn [aa,E] bm aH).g12 ae aC aA aB af ag ah ai aj aS ab aE
  refine .sc [vI ac.kind,vI ac.at_,vI ac.cut,.slice cD ac.name.length cE,vI ac.row.t,vI ac.row.v] bG fun bn bo bq bI=>?_
  replace ⟨ae,aC,aA,aB,af,ag,ah,ai,aj,aS,ab,aE⟩:=(so [ak,aa,E] bo).g12 ae aC aA aB af ag ah ai aj aS ab aE
  refine .d<|.g<|.ln bq<|.cl (Df (⟨(⟨(⟨am,ao⟩:Idx),aq,ar⟩:Sto),(⟨ax,ay,az,al⟩:Dsk)⟩:Wld) ac (RepS.toM aA (all_cons AJ all_nil)) (RepS.toM aB (all_cons AJ all_nil)) (RepS.toM af (all_cons AJ all_nil)) (RepS.toM ag (all_cons AJ all_nil)) (RepS.toM ah (all_cons AJ all_nil)) (RepS.toM ai (all_cons AJ all_nil)) (RepS.toM aj (all_cons AJ all_nil)) aC (RepS.toM aS (all_cons AJ all_nil)) (by assumption:WV ⟨⟨⟨am,ao⟩,aq,ar⟩,⟨ax,ay,az,al⟩⟩) (p0 _ ‹_›).1 (w:=bn) (F:=nin (fo F w.heap.size) [ak,aa,E])) ?_
  rintro dU aF ⟨⟨rfl,cF,dV,cG,cH,dW,cI,cJ,dX,cK,cL,dY,cM,cN,dZ,cO,cP,d0,cQ,cR,d3,cS,bJ,aT,aU,aV,aW,aX,aY,aZ⟩,bd⟩
  have aD:=al3 bq.lt aC.lt ae.lt
  have aG:Gb w.heap.size bn.heap.size:=ab.size
  have br:Mv [ak,aa,E] [ak,aa,E] bn aF:=Mv.inl bd (all_cons AJ all_nil) (all_cons (.inl AI) (all_cons (.inl AJ) (all_cons (.inl AK) all_nil)))
  replace ⟨ae,aA,aB,af,ag,ah,ai,aj,ab,aE⟩:=(sp br bd).g10 ae aA aB af ag ah ai aj ab aE
  replace aT:RepS aF (nin (fo F w.heap.size) [ak,aa,E]) _ _ _ _:=RepS.bxM (M2:=[ak,aa,E]) aT aD (fun _ h=>.inr (Nat.le_trans aG h)) (all_cons (.inr AI) (all_cons (.inl AI) (all_cons (.inr AK) all_nil)))
  replace aU:RepS aF (nin (fo F w.heap.size) [ak,aa,E]) _ _ _ _:=RepS.bxM (M2:=[ak,aa,E]) aU aD (fun _ h=>.inr (Nat.le_trans aG h)) (all_cons (.inr AI) (all_cons (.inl AI) (all_cons (.inr AK) all_nil)))
  replace aV:RepS aF (nin (fo F w.heap.size) [ak,aa,E]) _ _ _ _:=RepS.bxM (M2:=[ak,aa,E]) aV aD (fun _ h=>.inr (Nat.le_trans aG h)) (all_cons (.inr AI) (all_cons (.inl AI) (all_cons (.inr AK) all_nil)))
  replace aW:RepS aF (nin (fo F w.heap.size) [ak,aa,E]) _ _ _ _:=RepS.bxM (M2:=[ak,aa,E]) aW aD (fun _ h=>.inr (Nat.le_trans aG h)) (all_cons (.inr AI) (all_cons (.inl AI) (all_cons (.inr AK) all_nil)))
  replace aX:RepS aF (nin (fo F w.heap.size) [ak,aa,E]) _ _ _ _:=RepS.bxM (M2:=[ak,aa,E]) aX aD (fun _ h=>.inr (Nat.le_trans aG h)) (all_cons (.inr AI) (all_cons (.inl AI) (all_cons (.inr AK) all_nil)))
  replace aY:RepS aF (nin (fo F w.heap.size) [ak,aa,E]) _ _ _ _:=RepS.bxM (M2:=[ak,aa,E]) aY aD (fun _ h=>.inr (Nat.le_trans aG h)) (all_cons (.inr AI) (all_cons (.inl AI) (all_cons (.inr AK) all_nil)))
  replace aZ:RepS aF (nin (fo F w.heap.size) [ak,aa,E]) _ _ _ _:=RepS.bxM (M2:=[ak,aa,E]) aZ aD (fun _ h=>.inr (Nat.le_trans aG h)) (all_cons (.inr AI) (all_cons (.inl AI) (all_cons (.inr AK) all_nil)))
  have bK:=aT.len
  subst bK
  have bL:=aU.len
  subst bL
  have bM:=aV.len
  subst bM
  have bN:=aW.len
  subst bN
  have bO:=aX.len
  subst bO
  have bP:=aY.len
  subst bP
  have bQ:=aZ.len
  subst bQ
  refine .d<|.ib 1<|.g<|.it ((k:Int)+1)<|.r 1<|.d ?_
  have bt:Mv [ak,aa,E] [aa,E] aF aF:=Mv.less (all_cons AJ (all_cons AK all_nil))
  replace ⟨aA,aB,af,ag,ah,ai,aj,aT,aU,aV,aW,aX⟩:=(sp bt (Chg.refl nil _)).g12 aA aB af ag ah ai aj aT aU aV aW aX
  replace ⟨aY,aZ⟩:=(sp bt (Chg.refl nil _)).g2 aY aZ
  exact bh (k+1,((((doW (⟨(⟨(⟨am,ao⟩:Idx),aq,ar⟩:Sto),(⟨ax,ay,az,al⟩:Dsk)⟩:Wld) ac)).store).idx).names,cF,(((((doW (⟨(⟨(⟨am,ao⟩:Idx),aq,ar⟩:Sto),(⟨ax,ay,az,al⟩:Dsk)⟩:Wld) ac)).store).idx).names).length,cG,((((doW (⟨(⟨(⟨am,ao⟩:Idx),aq,ar⟩:Sto),(⟨ax,ay,az,al⟩:Dsk)⟩:Wld) ac)).store).idx).AY,cH,(((((doW (⟨(⟨(⟨am,ao⟩:Idx),aq,ar⟩:Sto),(⟨ax,ay,az,al⟩:Dsk)⟩:Wld) ac)).store).idx).AY).length,cI,(((doW (⟨(⟨(⟨am,ao⟩:Idx),aq,ar⟩:Sto),(⟨ax,ay,az,al⟩:Dsk)⟩:Wld) ac)).store).parts,cJ,((((doW (⟨(⟨(⟨am,ao⟩:Idx),aq,ar⟩:Sto),(⟨ax,ay,az,al⟩:Dsk)⟩:Wld) ac)).store).parts).length,cK,(((doW (⟨(⟨(⟨am,ao⟩:Idx),aq,ar⟩:Sto),(⟨ax,ay,az,al⟩:Dsk)⟩:Wld) ac)).store).mem,cL,((((doW (⟨(⟨(⟨am,ao⟩:Idx),aq,ar⟩:Sto),(⟨ax,ay,az,al⟩:Dsk)⟩:Wld) ac)).store).mem).length,cM,(((doW (⟨(⟨(⟨am,ao⟩:Idx),aq,ar⟩:Sto),(⟨ax,ay,az,al⟩:Dsk)⟩:Wld) ac)).disk).files,cN,((((doW (⟨(⟨(⟨am,ao⟩:Idx),aq,ar⟩:Sto),(⟨ax,ay,az,al⟩:Dsk)⟩:Wld) ac)).disk).files).length,cO,(((doW (⟨(⟨(⟨am,ao⟩:Idx),aq,ar⟩:Sto),(⟨ax,ay,az,al⟩:Dsk)⟩:Wld) ac)).disk).list,cP,((((doW (⟨(⟨(⟨am,ao⟩:Idx),aq,ar⟩:Sto),(⟨ax,ay,az,al⟩:Dsk)⟩:Wld) ac)).disk).list).length,cQ,(((doW (⟨(⟨(⟨am,ao⟩:Idx),aq,ar⟩:Sto),(⟨ax,ay,az,al⟩:Dsk)⟩:Wld) ac)).disk).names,cR,((((doW (⟨(⟨(⟨am,ao⟩:Idx),aq,ar⟩:Sto),(⟨ax,ay,az,al⟩:Dsk)⟩:Wld) ac)).disk).names).length,cS,(((doW (⟨(⟨(⟨am,ao⟩:Idx),aq,ar⟩:Sto),(⟨ax,ay,az,al⟩:Dsk)⟩:Wld) ac)).disk).next) _ _ ⟨AA,AA,AA,AA,AA,trivial⟩ ⟨aE,aT,aU,aV,aW,aX,aY,aZ,bJ,AB,(by exact Nw ‹_› ‹_›),(by exact WV.do ‹_› (p0 _ ‹_›).1)⟩ (by (simp only []; omega))
 refine .d<|.s<|.cf<|.x 0 rfl<|.s<|.g<|.ln aC<|.sc [.slice a_w_0 n_w_0 c_w_0,.slice a_w_1 n_w_1 c_w_1,.slice a_w_2 n_w_2 c_w_2,.slice a_w_3 n_w_3 c_w_3,.slice a_w_4 n_w_4 c_w_4,.slice a_w_5 n_w_5 c_w_5,.slice a_w_6 n_w_6 c_w_6,vI al] ae fun d4 bu bR bS=>?_
 replace ⟨aA,aB,af,ag,ah,ai,aj,ab⟩:=(so [aa,E] bu).g8 aA aB af ag ah ai aj ab
 exact .r 1<|.d<|.r2 func9 results9 (.bx bR) (.t (.bool true)) ⟨⟨_,(Br rfl (AG (by (rw [K0 ‹_›])))),(VS.of (y:=(⟨(⟨(⟨am,ao⟩:Idx),aq,ar⟩:Sto),(⟨ax,ay,az,al⟩:Dsk)⟩:Wld)) ⟨_,rfl,⟨_,_,_,_,_,_,_,_,_,_,_,_,_,_,_,_,_,_,_,_,_,rfl,aA.w1,aB.w1,af.w1,ag.w1,ah.w1,ai.w1,aj.w1⟩⟩ (by (rw [K0 ‹_›]; exact Pj ‹_› AB)))⟩,ab⟩
theorem Fm (events:List Evt) (h1:RepS w F a1 n1 c1 events) (p0:EsD events):Calls Tryz.prog 10 [.slice a1 n1 c1].toArray w (Al fun rv w'=>(∃ v0,rv=.tuple #[v0,.bool ((Cr events).2)]∧VS (fo F w.heap.size) w' ((Cr events).1:Wld) v0)∧Ext w w'):=by
 refine goT func10 ?_
 obtain ⟨rfl,eT,h1⟩:=h1.tp
 refine .s<|.g<|.np 38 [AH,AH,AH,AH,AH,AH,AH,vI 0] fun aj cJ bF bG al cK=>?_
 have eU:Cov nil w aj:=Fp bF (Nat.le_refl _)
 replace h1:=(sn [] bG bF).g1 h1
 have ai:=bG
 refine .r 1<|.d<|.s<|.s<|.g<|.r 2<|.bp ((events.length:Int) > 50) (fun cL=>?_) (fun cL=>?_)
 ·refine .d<|.ct<|.s<|.g<|.r 1<|.sc [AH,AH,AH,AH,AH,AH,AH,vI 0] al fun fK bO cM cN=>?_
  replace ⟨h1,ai⟩:=(so [aj] bO).g2 h1 ai
  exact .r 1<|.d<|.r2 func10 results10 (.bx cM) (.t (.bool false)) ⟨⟨_,(Br rfl (AG (by (rw [K1 ‹_›] <;> rfl)))),(VS.of (y:=(⟨(⟨(⟨([]:List (List Tag)),([]:List Pst)⟩:Idx),([]:List Prt),([]:List Smp)⟩:Sto),(⟨([]:List Fil),([]:List Int),([]:List (List Tag)),0⟩:Dsk)⟩:Wld)) ⟨_,rfl,⟨_,_,_,_,_,_,_,_,_,_,_,_,_,_,_,_,_,_,_,_,_,rfl,(RepS.BM _ _ none 0 AE),(RepS.BM _ _ none 0 AE),(RepS.BM _ _ none 0 AE),(RepS.BM _ _ none 0 AE),(RepS.BM _ _ none 0 AE),(RepS.BM _ _ none 0 AE),(RepS.BM _ _ none 0 AE)⟩⟩ (by (rw [K1 ‹_›] <;> rfl)))⟩,ai⟩
 refine .d<|.cf<|.sk<|.s<|.g<|.cl (GB (w:=cJ) (F:=all)) ?_
 rintro fL fM ⟨⟨_,rfl,⟨cO,fN,cP,cQ,fO,cR,cS,fP,cT,cU,fQ,cV,cW,fR,cX,cY,fS,cZ,c7,fT,c8,rfl,aU,aV,aW,aX,aY,aZ,ba⟩⟩,bP⟩
 have aT:=al1 al.lt
 have bd:Gb w.heap.size cJ.heap.size:=ai.size
 replace ⟨h1,al,ai⟩:=(se [aj] bP).g3 h1 al ai
 have aU:=aU.fr aT bd
 replace aU:=aU.base (G':=fo F w.heap.size) (fun _ _ h=>.inr h)
 have eV:=aU.max
 have aV:=aV.fr aT bd
 replace aV:=aV.base (G':=fo F w.heap.size) (fun _ _ h=>.inr h)
 have eW:=aV.max
 have aW:=aW.fr aT bd
 replace aW:=aW.base (G':=fo F w.heap.size) (fun _ _ h=>.inr h)
 have eX:=aW.max
 have aX:=aX.fr aT bd
 replace aX:=aX.base (G':=fo F w.heap.size) (fun _ _ h=>.inr h)
 have eY:=aX.max
 have aY:=aY.fr aT bd
 replace aY:=aY.base (G':=fo F w.heap.size) (fun _ _ h=>.inr h)
 have eZ:=aY.max
 have aZ:=aZ.fr aT bd
 replace aZ:=aZ.base (G':=fo F w.heap.size) (fun _ _ h=>.inr h)
 have e7:=aZ.max
 have ba:=ba.fr aT bd
 replace ba:=ba.base (G':=fo F w.heap.size) (fun _ _ h=>.inr h)
 have e8:=ba.max
 have da:=aU.len
 subst da
 have db:=aV.len
 subst db
 have de:=aW.len
 subst de
 have df:=aX.len
 subst df
 have dh:=aY.len
 subst dh
 have dj:=aZ.len
 subst dj
 have dm:=ba.len
 subst dm
 refine .np 38 [AH,AH,AH,AH,AH,AH,AH,vI 0] fun ak fU bC bQ dp dq=>?_
 have fa:=Ab bC al.lt
 have fb:=ai.cn bC
 replace ⟨h1,al,aU,aV,aW,aX,aY,aZ,ba,ai⟩:=(sn [aj] bQ bC).g10 h1 al aU aV aW aX aY aZ ba ai
 refine .sc [.slice cO ((((((⟨⟨⟨[],[]⟩,[],[]⟩,⟨[],[],[],1⟩⟩:Wld)).store).idx).names).length) cP,.slice cQ ((((((⟨⟨⟨[],[]⟩,[],[]⟩,⟨[],[],[],1⟩⟩:Wld)).store).idx).AY).length) cR,.slice cS (((((⟨⟨⟨[],[]⟩,[],[]⟩,⟨[],[],[],1⟩⟩:Wld)).store).parts).length) cT,.slice cU (((((⟨⟨⟨[],[]⟩,[],[]⟩,⟨[],[],[],1⟩⟩:Wld)).store).mem).length) cV,.slice cW (((((⟨⟨⟨[],[]⟩,[],[]⟩,⟨[],[],[],1⟩⟩:Wld)).disk).files).length) cX,.slice cY (((((⟨⟨⟨[],[]⟩,[],[]⟩,⟨[],[],[],1⟩⟩:Wld)).disk).list).length) cZ,.slice c7 (((((⟨⟨⟨[],[]⟩,[],[]⟩,⟨[],[],[],1⟩⟩:Wld)).disk).names).length) c8,vI ((((⟨⟨⟨[],[]⟩,[],[]⟩,⟨[],[],[],1⟩⟩:Wld)).disk).next)] dp fun cg bR dt du=>?_
 replace ⟨h1,al,aU,aV,aW,aX,aY,aZ,ba,ai⟩:=(so [ak,aj] bR).g10 h1 al aU aV aW aX aY aZ ba ai
 refine .d<|.s<|.s<|.g<|.r 1<|.d<|.b 0<|T.loop (X:=Nat × (List (List Tag)) × (Option Addr) × Nat × Nat × (List Pst) × (Option Addr) × Nat × Nat × (List Prt) × (Option Addr) × Nat × Nat × (List Smp) × (Option Addr) × Nat × Nat × (List Fil) × (Option Addr) × Nat × Nat × (List Int) × (Option Addr) × Nat × Nat × (List (List Tag)) × (Option Addr) × Nat × Nat × Int) (0,(((((⟨⟨⟨[],[]⟩,[],[]⟩,⟨[],[],[],1⟩⟩:Wld)).store).idx).names:List (List Tag)),cO,(((((⟨⟨⟨[],[]⟩,[],[]⟩,⟨[],[],[],1⟩⟩:Wld)).store).idx).names).length,cP,(((((⟨⟨⟨[],[]⟩,[],[]⟩,⟨[],[],[],1⟩⟩:Wld)).store).idx).AY:List Pst),cQ,(((((⟨⟨⟨[],[]⟩,[],[]⟩,⟨[],[],[],1⟩⟩:Wld)).store).idx).AY).length,cR,((((⟨⟨⟨[],[]⟩,[],[]⟩,⟨[],[],[],1⟩⟩:Wld)).store).parts:List Prt),cS,((((⟨⟨⟨[],[]⟩,[],[]⟩,⟨[],[],[],1⟩⟩:Wld)).store).parts).length,cT,((((⟨⟨⟨[],[]⟩,[],[]⟩,⟨[],[],[],1⟩⟩:Wld)).store).mem:List Smp),cU,((((⟨⟨⟨[],[]⟩,[],[]⟩,⟨[],[],[],1⟩⟩:Wld)).store).mem).length,cV,((((⟨⟨⟨[],[]⟩,[],[]⟩,⟨[],[],[],1⟩⟩:Wld)).disk).files:List Fil),cW,((((⟨⟨⟨[],[]⟩,[],[]⟩,⟨[],[],[],1⟩⟩:Wld)).disk).files).length,cX,((((⟨⟨⟨[],[]⟩,[],[]⟩,⟨[],[],[],1⟩⟩:Wld)).disk).list:List Int),cY,((((⟨⟨⟨[],[]⟩,[],[]⟩,⟨[],[],[],1⟩⟩:Wld)).disk).list).length,cZ,((((⟨⟨⟨[],[]⟩,[],[]⟩,⟨[],[],[],1⟩⟩:Wld)).disk).names:List (List Tag)),c7,((((⟨⟨⟨[],[]⟩,[],[]⟩,⟨[],[],[],1⟩⟩:Wld)).disk).names).length,c8,(((⟨⟨⟨[],[]⟩,[],[]⟩,⟨[],[],[],1⟩⟩:Wld)).disk).next) (fun (i,E,a_w_0,n_w_0,c_w_0,aa,a_w_1,n_w_1,c_w_1,ab,a_w_2,n_w_2,c_w_2,ac,a_w_3,n_w_3,c_w_3,ae,a_w_4,n_w_4,c_w_4,af,a_w_5,n_w_5,c_w_5,ag,a_w_6,n_w_6,c_w_6,ah)=>[(0,.slice a1 events.length c1),(2,.pointer (some ⟨aj,0,none⟩)),(4,.pointer (some ⟨ak,0,none⟩)),(5,vI (i:Int))]) (fun (i,E,a_w_0,n_w_0,c_w_0,aa,a_w_1,n_w_1,c_w_1,ab,a_w_2,n_w_2,c_w_2,ac,a_w_3,n_w_3,c_w_3,ae,a_w_4,n_w_4,c_w_4,af,a_w_5,n_w_5,c_w_5,ag,a_w_6,n_w_6,c_w_6,ah) aS=>Chg (ins [ak]) cg aS∧RepS aS (nin (fo F w.heap.size) [ak,aj]) a_w_0 n_w_0 c_w_0 E∧RepS aS (nin (fo F w.heap.size) [ak,aj]) a_w_1 n_w_1 c_w_1 aa∧RepS aS (nin (fo F w.heap.size) [ak,aj]) a_w_2 n_w_2 c_w_2 ab∧RepS aS (nin (fo F w.heap.size) [ak,aj]) a_w_3 n_w_3 c_w_3 ac∧RepS aS (nin (fo F w.heap.size) [ak,aj]) a_w_4 n_w_4 c_w_4 ae∧RepS aS (nin (fo F w.heap.size) [ak,aj]) a_w_5 n_w_5 c_w_5 af∧RepS aS (nin (fo F w.heap.size) [ak,aj]) a_w_6 n_w_6 c_w_6 ag∧Box aS ak 38 [.slice a_w_0 n_w_0 c_w_0,.slice a_w_1 n_w_1 c_w_1,.slice a_w_2 n_w_2 c_w_2,.slice a_w_3 n_w_3 c_w_3,.slice a_w_4 n_w_4 c_w_4,.slice a_w_5 n_w_5 c_w_5,.slice a_w_6 n_w_6 c_w_6,vI ah]∧(i≤events.length)∧((events.drop i).foldl doW ⟨⟨⟨E,aa⟩,ab,ac⟩,⟨ae,af,ag,ah⟩⟩=CB events)∧(WV ⟨⟨⟨E,aa⟩,ab,ac⟩,⟨ae,af,ag,ah⟩⟩)) (fun (i,E,a_w_0,n_w_0,c_w_0,aa,a_w_1,n_w_1,c_w_1,ab,a_w_2,n_w_2,c_w_2,ac,a_w_3,n_w_3,c_w_3,ae,a_w_4,n_w_4,c_w_4,af,a_w_5,n_w_5,c_w_5,ag,a_w_6,n_w_6,c_w_6,ah)=>events.length - i) AA ⟨AA,AA,AA,AA,trivial⟩ ⟨Chg.refl _ _,aU,aV,aW,aX,aY,aZ,ba,dt,AB,AF,(by exact WV.new)⟩ ?_
 rintro ⟨i,E,a_w_0,n_w_0,c_w_0,aa,a_w_1,n_w_1,c_w_1,ab,a_w_2,n_w_2,c_w_2,ac,a_w_3,n_w_3,c_w_3,ae,a_w_4,n_w_4,c_w_4,af,a_w_5,n_w_5,c_w_5,ag,a_w_6,n_w_6,c_w_6,ah⟩ fd aS ⟨aN,aK,aL,aA,aB,aC,aD,aE,ao,fe,ff,fg⟩ bE
 have dL:Cov (ins [ak]) cg ak:=⟨.inl AI⟩
 have bH:Mv [ak,aj] [ak,aj] cg aS:=Mv.inl aN (all_cons AI all_nil) (all_cons (.inl AI) (all_cons (.inl AJ) all_nil))
 replace ⟨h1,al,ai⟩:=(sp bH aN).g3 h1 al ai
 refine .s<|.s<|.g<|.r 3<|.bp ((i:Int)< (events.length:Int)) (fun ci=>?_) (fun ci=>?_)
 ·refine .d<|.ct<|.sk<|.s<|.b 1<|.gd nil 5 fun fi bI=>?_
  replace ⟨h1,al,ao,aK,aL,aA,aB,aC,aD,aE,ai,aN⟩:=(se [ak,aj] bI).g12 h1 al ao aK aL aA aB aC aD aE ai aN
  refine .ln 0 ao id<|.r [1,2] ?_
  have cj:i< events.length:=AB
  refine .ix 3 i 6 h1 cj ?_
  obtain ⟨am,bA⟩:∃ y,events[i]? = some y:=⟨_,AU AB⟩
  have d0:=Be bA; have dv:=AV bA
  obtain ⟨_,⟨fj,fm,fp,rfl,bw⟩,ck⟩:=h1.elem i am bA
  have cm:=bw.len
  subst cm
  refine .lg 4 0 ck id<|.d fun bS bJ=>?_
  replace ⟨al,ao,aK,aL,aA,aB,aC,aD,aE,bw,ai,aN⟩:=(se [ak,aj] bJ).g12 al ao aK aL aA aB aC aD aE bw ai aN
  refine .cl (H6 (⟨(⟨(⟨E,aa⟩:Idx),ab,ac⟩:Sto),(⟨ae,af,ag,ah⟩:Dsk)⟩:Wld) am aK aL aA aB aC aD aE bw (by assumption:WV ⟨⟨⟨E,aa⟩,ab,ac⟩,⟨ae,af,ag,ah⟩⟩).wd.wi (NmD.sz (p0 _ ‹_›).1) (w:=bS) (F:=nin (fo F w.heap.size) [ak,aj])) ?_
  rintro fq fu ⟨⟨_,rfl,⟨bT,fv,bU,bV,fw,bW,bX,fA,bY,bZ,fB,b0,b6,fC,b7,b8,fD,b9,cd,fE,ce,rfl,bg,bh,bi,bj,bk,bm,bn⟩⟩,bK⟩
  have aO:=al2 ao.lt al.lt
  have aQ:Gb w.heap.size bS.heap.size:=ai.size
  replace ⟨al,ao,aK,aL,aA,aB,aC,aD,aE,ai,aN⟩:=(se [ak,aj] bK).g11 al ao aK aL aA aB aC aD aE ai aN
  replace bg:=RepS.Bq (M:=[ak,aj]) bg aO aQ
  have d4:=bg.max
  replace bh:=RepS.Bq (M:=[ak,aj]) bh aO aQ
  have d5:=bh.max
  replace bi:=RepS.Bq (M:=[ak,aj]) bi aO aQ
  have d6:=bi.max
  replace bj:=RepS.Bq (M:=[ak,aj]) bj aO aQ
  have d7:=bj.max
  replace bk:=RepS.Bq (M:=[ak,aj]) bk aO aQ
  have d8:=bk.max
  replace bm:=RepS.Bq (M:=[ak,aj]) bm aO aQ
  have d9:=bm.max
  replace bn:=RepS.Bq (M:=[ak,aj]) bn aO aQ
  have ec:=bn.max
  have co:=bg.len
  subst co
  have cp:=bh.len
  subst cp
  have cq:=bi.len
  subst cq
  have cr:=bj.len
  subst cr
  have cu:=bk.len
  subst cu
  have cw:=bm.len
  subst cw
  have cx:=bn.len
  subst cx
  refine .sc [.slice bT (((((doW (⟨(⟨(⟨E,aa⟩:Idx),ab,ac⟩:Sto),(⟨ae,af,ag,ah⟩:Dsk)⟩:Wld) am).store).idx).names).length) bU,.slice bV (((((doW (⟨(⟨(⟨E,aa⟩:Idx),ab,ac⟩:Sto),(⟨ae,af,ag,ah⟩:Dsk)⟩:Wld) am).store).idx).AY).length) bW,.slice bX ((((doW (⟨(⟨(⟨E,aa⟩:Idx),ab,ac⟩:Sto),(⟨ae,af,ag,ah⟩:Dsk)⟩:Wld) am).store).parts).length) bY,.slice bZ ((((doW (⟨(⟨(⟨E,aa⟩:Idx),ab,ac⟩:Sto),(⟨ae,af,ag,ah⟩:Dsk)⟩:Wld) am).store).mem).length) b0,.slice b6 ((((doW (⟨(⟨(⟨E,aa⟩:Idx),ab,ac⟩:Sto),(⟨ae,af,ag,ah⟩:Dsk)⟩:Wld) am).disk).files).length) b7,.slice b8 ((((doW (⟨(⟨(⟨E,aa⟩:Idx),ab,ac⟩:Sto),(⟨ae,af,ag,ah⟩:Dsk)⟩:Wld) am).disk).list).length) b9,.slice cd ((((doW (⟨(⟨(⟨E,aa⟩:Idx),ab,ac⟩:Sto),(⟨ae,af,ag,ah⟩:Dsk)⟩:Wld) am).disk).names).length) ce,vI (((doW (⟨(⟨(⟨E,aa⟩:Idx),ab,ac⟩:Sto),(⟨ae,af,ag,ah⟩:Dsk)⟩:Wld) am).disk).next)] ao fun fF bB cy cz=>?_
  replace ⟨al,aK,aL,aA,aB,aC,aD,aE,bg,bh,bi,bj⟩:=(so [ak,aj] bB).g12 al aK aL aA aB aC aD aE bg bh bi bj
  replace ⟨bk,bm,bn,ai,aN⟩:=(so [ak,aj] bB).g5 bk bm bn ai aN
  exact .d<|.ib 1<|.g<|.r 1<|.it ((i:Int)+1)<|.r 1<|.d<|bE (i+1,(((doW (⟨(⟨(⟨E,aa⟩:Idx),ab,ac⟩:Sto),(⟨ae,af,ag,ah⟩:Dsk)⟩:Wld) am).store).idx).names,bT,((((doW (⟨(⟨(⟨E,aa⟩:Idx),ab,ac⟩:Sto),(⟨ae,af,ag,ah⟩:Dsk)⟩:Wld) am).store).idx).names).length,bU,(((doW (⟨(⟨(⟨E,aa⟩:Idx),ab,ac⟩:Sto),(⟨ae,af,ag,ah⟩:Dsk)⟩:Wld) am).store).idx).AY,bV,((((doW (⟨(⟨(⟨E,aa⟩:Idx),ab,ac⟩:Sto),(⟨ae,af,ag,ah⟩:Dsk)⟩:Wld) am).store).idx).AY).length,bW,((doW (⟨(⟨(⟨E,aa⟩:Idx),ab,ac⟩:Sto),(⟨ae,af,ag,ah⟩:Dsk)⟩:Wld) am).store).parts,bX,(((doW (⟨(⟨(⟨E,aa⟩:Idx),ab,ac⟩:Sto),(⟨ae,af,ag,ah⟩:Dsk)⟩:Wld) am).store).parts).length,bY,((doW (⟨(⟨(⟨E,aa⟩:Idx),ab,ac⟩:Sto),(⟨ae,af,ag,ah⟩:Dsk)⟩:Wld) am).store).mem,bZ,(((doW (⟨(⟨(⟨E,aa⟩:Idx),ab,ac⟩:Sto),(⟨ae,af,ag,ah⟩:Dsk)⟩:Wld) am).store).mem).length,b0,((doW (⟨(⟨(⟨E,aa⟩:Idx),ab,ac⟩:Sto),(⟨ae,af,ag,ah⟩:Dsk)⟩:Wld) am).disk).files,b6,(((doW (⟨(⟨(⟨E,aa⟩:Idx),ab,ac⟩:Sto),(⟨ae,af,ag,ah⟩:Dsk)⟩:Wld) am).disk).files).length,b7,((doW (⟨(⟨(⟨E,aa⟩:Idx),ab,ac⟩:Sto),(⟨ae,af,ag,ah⟩:Dsk)⟩:Wld) am).disk).list,b8,(((doW (⟨(⟨(⟨E,aa⟩:Idx),ab,ac⟩:Sto),(⟨ae,af,ag,ah⟩:Dsk)⟩:Wld) am).disk).list).length,b9,((doW (⟨(⟨(⟨E,aa⟩:Idx),ab,ac⟩:Sto),(⟨ae,af,ag,ah⟩:Dsk)⟩:Wld) am).disk).names,cd,(((doW (⟨(⟨(⟨E,aa⟩:Idx),ab,ac⟩:Sto),(⟨ae,af,ag,ah⟩:Dsk)⟩:Wld) am).disk).names).length,ce,((doW (⟨(⟨(⟨E,aa⟩:Idx),ab,ac⟩:Sto),(⟨ae,af,ag,ah⟩:Dsk)⟩:Wld) am).disk).next) _ _ ⟨AA,AA,AA,AA,trivial⟩ ⟨aN,bg,bh,bi,bj,bk,bm,bn,cy,AB,(by exact Nw ‹_› ‹_›),(by exact WV.do ‹_› (p0 _ ‹_›).1)⟩ (by (simp only []; omega))
 refine .d<|.cf<|.x 0 rfl<|.s<|.g<|.ln ao<|.cl (Gh (⟨(⟨(⟨E,aa⟩:Idx),ab,ac⟩:Sto),(⟨ae,af,ag,ah⟩:Dsk)⟩:Wld) aK.ta aL.ta aA.ta aB.ta aC.ta aD.ta aE.ta (by assumption:WV ⟨⟨⟨E,aa⟩,ab,ac⟩,⟨ae,af,ag,ah⟩⟩).wd.wi (w:=aS) (F:=all)) ?_
 rintro fG bo ⟨⟨dw,fH,dx,dy,fI,dz,dA,fJ,dB,aM,dC,dD,aI,dE,dF,aH,dG,dH,aF,dI,dJ,rfl,ax,ay,az,aJ,br,aG,bt,ee,ar,bu,eg,eh,aq,bv,ej,ek,en⟩,bL⟩
 have aP:=al2 ao.lt al.lt
 have aR:Gb w.heap.size aS.heap.size:=ai.size
 have eA:=CC br al.lt
 have eB:=CC br ao.lt
 have cA:=FT br ai.size
 have eC:=CC bt al.lt
 have eD:=CC bt ao.lt
 have cB:=FT bt ai.size
 have eE:=CC bu al.lt
 have eF:=CC bu ao.lt
 have cC:=FT bu ai.size
 have eG:=CC bv al.lt
 have eH:=CC bv ao.lt
 have cD:=FT bv ai.size
 replace ⟨al,ai⟩:=(se [] bL).g2 al ai
 replace ax:RepS bo (nin (ge w.heap.size) [aM,aI,aH,aF,ak,aj]) _ _ _ _:=RepS.Ch (s0:=w.heap.size) (M:=[ak,aj]) ax aP aR
 replace ax:=ax.base (G':=fo F w.heap.size) (fun _ _ h=>.inr h)
 have eI:=ax.max
 replace ay:RepS bo (nin (ge w.heap.size) [aM,aI,aH,aF,ak,aj]) _ _ _ _:=RepS.Ch (s0:=w.heap.size) (M:=[ak,aj]) ay aP aR
 replace ay:=ay.base (G':=fo F w.heap.size) (fun _ _ h=>.inr h)
 have eJ:=ay.max
 replace az:RepS bo (nin (ge w.heap.size) [aM,aI,aH,aF,ak,aj]) _ _ _ _:=RepS.Ch (s0:=w.heap.size) (M:=[ak,aj]) az aP aR
 replace az:=az.base (G':=fo F w.heap.size) (fun _ _ h=>.inr h)
 have eK:=az.max
 replace aJ:Own bo aM 107 (nin (ge w.heap.size) [aM,aI,aH,aF,ak,aj]) _ _ _:=Own.Ch (s0:=w.heap.size) (M:=[ak,aj]) aJ aP aR
 replace aJ:=aJ.base (G':=fo F w.heap.size) (fun _ _ h=>.inr h)
 replace aG:Own bo aI 110 (nin (ge w.heap.size) [aM,aI,aH,aF,ak,aj]) _ _ _:=Own.Ch (s0:=w.heap.size) (M:=[ak,aj]) aG aP aR
 replace aG:=aG.base (G':=fo F w.heap.size) (fun _ _ h=>.inr h)
 replace ar:Own bo aH 3 (nin (ge w.heap.size) [aM,aI,aH,aF,ak,aj]) _ _ _:=Own.Ch (s0:=w.heap.size) (M:=[ak,aj]) ar aP aR
 replace ar:=ar.base (G':=fo F w.heap.size) (fun _ _ h=>.inr h)
 replace aq:Own bo aF 42 (nin (ge w.heap.size) [aM,aI,aH,aF,ak,aj]) _ _ _:=Own.Ch (s0:=w.heap.size) (M:=[ak,aj]) aq aP aR
 replace aq:=aq.base (G':=fo F w.heap.size) (fun _ _ h=>.inr h)
 have cE:=ax.len
 subst cE
 have cF:=ay.len
 subst cF
 have cG:=az.len
 subst cG
 refine .sc [.slice dw ((((((Cb (⟨(⟨(⟨E,aa⟩:Idx),ab,ac⟩:Sto),(⟨ae,af,ag,ah⟩:Dsk)⟩:Wld))).store).idx).names).length) dx,.slice dy ((((((Cb (⟨(⟨(⟨E,aa⟩:Idx),ab,ac⟩:Sto),(⟨ae,af,ag,ah⟩:Dsk)⟩:Wld))).store).idx).AY).length) dz,.slice dA (((((Cb (⟨(⟨(⟨E,aa⟩:Idx),ab,ac⟩:Sto),(⟨ae,af,ag,ah⟩:Dsk)⟩:Wld))).store).parts).length) dB,vS aM dC dD,vS aI dE dF,vS aH dG dH,vS aF dI dJ,vI ((((Cb (⟨(⟨(⟨E,aa⟩:Idx),ab,ac⟩:Sto),(⟨ae,af,ag,ah⟩:Dsk)⟩:Wld))).disk).next)] al fun bD bM cH cI=>?_
 replace ⟨ax,ay,az,aJ,aG,ar,aq,ai⟩:=(so [aM,aI,aH,aF,ak,aj] bM).g8 ax ay az aJ aG ar aq ai
 refine .r 1<|.d ?_
 have bq:=aJ.sl (.inr cA)
 replace ⟨ax,ay,az,aG,ar,aq⟩:=(sd bD [aM,aI,aH,aF,ak,aj] aM).g6 ax ay az aG ar aq
 have bz:=aG.sl (.inr cB)
 replace ⟨ax,ay,az,bq,ar,aq⟩:=(sd bD [aI,aH,aF,ak,aj] aI).g6 ax ay az bq ar aq
 have bN:=ar.sl (.inr cC)
 replace ⟨ax,ay,az,bq,bz,aq⟩:=(sd bD [aH,aF,ak,aj] aH).g6 ax ay az bq bz aq
 have dK:=aq.sl (.inr cD)
 replace ⟨ax,ay,az,bq,bz,bN⟩:=(sd bD [aF,ak,aj] aF).g6 ax ay az bq bz bN
 exact .r2 func10 results10 (.bx cH) (.t (.bool true)) ⟨⟨_,(Br rfl (AG (by (rw [K0 ‹_›])))),(VS.of (y:=(⟨(⟨(⟨((((Cb (⟨(⟨(⟨E,aa⟩:Idx),ab,ac⟩:Sto),(⟨ae,af,ag,ah⟩:Dsk)⟩:Wld))).store).idx).names,((((Cb (⟨(⟨(⟨E,aa⟩:Idx),ab,ac⟩:Sto),(⟨ae,af,ag,ah⟩:Dsk)⟩:Wld))).store).idx).AY⟩:Idx),(((Cb (⟨(⟨(⟨E,aa⟩:Idx),ab,ac⟩:Sto),(⟨ae,af,ag,ah⟩:Dsk)⟩:Wld))).store).parts,(((Cb (⟨(⟨(⟨E,aa⟩:Idx),ab,ac⟩:Sto),(⟨ae,af,ag,ah⟩:Dsk)⟩:Wld))).store).mem⟩:Sto),(⟨(((Cb (⟨(⟨(⟨E,aa⟩:Idx),ab,ac⟩:Sto),(⟨ae,af,ag,ah⟩:Dsk)⟩:Wld))).disk).files,(((Cb (⟨(⟨(⟨E,aa⟩:Idx),ab,ac⟩:Sto),(⟨ae,af,ag,ah⟩:Dsk)⟩:Wld))).disk).list,(((Cb (⟨(⟨(⟨E,aa⟩:Idx),ab,ac⟩:Sto),(⟨ae,af,ag,ah⟩:Dsk)⟩:Wld))).disk).names,(((Cb (⟨(⟨(⟨E,aa⟩:Idx),ab,ac⟩:Sto),(⟨ae,af,ag,ah⟩:Dsk)⟩:Wld))).disk).next⟩:Dsk)⟩:Wld)) ⟨_,rfl,⟨_,_,_,_,_,_,_,_,_,_,_,_,_,_,_,_,_,_,_,_,_,rfl,ax.w1,ay.w1,az.w1,bq.w1,bz.w1,bN.w1,dK.w1⟩⟩ (by (rw [K0 ‹_›]; exact (WV.copy (by assumption:WV ⟨⟨⟨E,aa⟩,ab,ac⟩,⟨ae,af,ag,ah⟩⟩)).trans (Pj ‹_› AB))))⟩,ai⟩
theorem E3 (a:Wld) (b:Wld) (h1:RepS w F a1 n1 c1 a.store.idx.names) (h2:RepS w F a2 n2 c2 a.store.idx.AY) (h3:RepS w F a3 n3 c3 a.store.parts) (h4:RepS w F a4 n4 c4 a.store.mem) (h5:RepS w F a5 n5 c5 a.disk.files) (h6:RepS w F a6 n6 c6 a.disk.list) (h7:RepS w F a7 n7 c7 a.disk.names) (h8:RepS w F a8 n8 c8 b.store.idx.names) (h9:RepS w F a9 n9 c9 b.store.idx.AY) (h10:RepS w F a10 n10 c10 b.store.parts) (h11:RepS w F a11 n11 c11 b.store.mem) (h12:RepS w F a12 n12 c12 b.disk.files) (h13:RepS w F a13 n13 c13 b.disk.list) (h14:RepS w F a14 n14 c14 b.disk.names)  : Calls Tryz.prog 11 [.agg #[.slice a1 n1 c1,.slice a2 n2 c2,.slice a3 n3 c3,.slice a4 n4 c4,.slice a5 n5 c5,.slice a6 n6 c6,.slice a7 n7 c7,.int .i64 a.disk.next],.agg #[.slice a8 n8 c8,.slice a9 n9 c9,.slice a10 n10 c10,.slice a11 n11 c11,.slice a12 n12 c12,.slice a13 n13 c13,.slice a14 n14 c14,.int .i64 b.disk.next]].toArray w (Al fun rv w'=>rv=.bool ((a==b))∧Ext w w'):=by
 cases h1.len
 cases h2.len
 cases h3.len
 cases h4.len
 cases h5.len
 cases h6.len
 cases h7.len
 cases h8.len
 cases h9.len
 cases h10.len
 cases h11.len
 cases h12.len
 cases h13.len
 cases h14.len
 refine goT func11 ?_
 have Z:=((((((((((((((St.i0 F w).p h1).p h2).p h3).p h4).p h5).p h6).p h7).p h8).p h9).p h10).p h11).p h12).p h13).p h14
 refine .s<|.g<|RG.Np Z fun ar w Z=>RG.Np Z fun ax w Z=>.r 1<|.d<|.s<|.g<|.r 1<|RG.Ln 1 Z<|.r 1<|RG.Ln 0 Z<|RG.C0 (KV a.store b.store (Z.a 13) (Z.a 12) (Z.a 11) (Z.a 10) (Z.a 6) (Z.a 5) (Z.a 4) (Z.a 3)) Z fun w Z=>?_
 cases aq:(a.store==b.store)
 ·exact .r 8<|.d<|T.rt func11 results11 (.bool false) ⟨(AG (by exact VV ‹_›)),Z.xt⟩
 exact .r 2<|RG.Ln 1 Z<|.r 1<|RG.Ln 0 Z<|RG.C0 (LK a.disk b.disk (Z.a 9) (Z.a 8) (Z.a 7) (Z.a 2) (Z.a 1) (Z.a 0)) Z fun w Z=>.r 2<|.d<|T.rt func11 results11 (.bool (a.disk==b.disk)) ⟨(AG (by exact VW ‹_›)),Z.xt⟩
theorem J0  {F:Nat→Prop}{b:Nat}{ad:Option Addr}{cd p:Nat}{D:List UInt8}(hr:Box w b 121 [.slice ad D.length cd,.int .i64 (p:Int)]) (hD:RepS w (nin all [b]) ad D.length cd D) (hp:p+3000≤1000000000)  : Calls Tryz.prog 33 [.pointer (some ⟨b,0,none⟩)].toArray w (Al fun rv w'=>(∃ (es:List Evt),(∃ v0 v1,rv=.tuple #[v0,v1]∧VO 46 w.heap.size w' (es:List Evt) v0∧(∃ (a0:Option Addr) (n0 c0:Nat) (a1:Option Addr) (n1 c1:Nat) (a2:Option Addr) (n2 c2:Nat) (a3:Option Addr) (n3 c3:Nat) (a4:Option Addr) (n4 c4:Nat) (a5:Option Addr) (n5 c5:Nat) (a6:Option Addr) (n6 c6:Nat) (z7:Int),v1=.agg #[.slice a0 n0 c0,.slice a1 n1 c1,.slice a2 n2 c2,.slice a3 n3 c3,.slice a4 n4 c4,.slice a5 n5 c5,.slice a6 n6 c6,.int .i64 z7]))∧(EsD es∧es.length≤46))∧∃ p':Nat,p'≤p+3000∧Box w' b 121 [.slice ad D.length cd,.int .i64 (p':Int)]∧Chg (one b) w w'):=by
 refine goT func33 ?_
 refine .s<|.g<|.r 1<|.np 38 [AH,AH,AH,AH,AH,AH,AH,vI 0] fun ab cM bQ bW ac dA=>?_
 have gi:=Ab bQ hr.lt
 have gj:Cov (one b) w ab:=Fp bQ (Nat.le_refl _)
 replace ⟨hD,hr⟩:=(sn [b] bW bQ).g2 hD hr
 have E:Chg (one b) w cM:=Chg.GW (Chg.refl (one b) w) bW
 refine .d<|.s<|.g<|.cl (GB (w:=cM) (F:=all)) ?_
 rintro gT gU ⟨⟨_,rfl,⟨dB,gV,dC,dD,gW,dE,dF,gX,dG,dH,gY,dI,dJ,gZ,dK,dL,g0,dM,dN,hC,dO,rfl,bj,bk,bm,bn,bo,bq,br⟩⟩,ck⟩
 have bt:=al2 ac.lt hr.lt
 have bv:Gb w.heap.size cM.heap.size:=E.size
 replace ⟨hD,hr,ac,E⟩:=(se [ab,b] ck).g4 hD hr ac E
 have bj:=bj.fr bt bv
 have gk:=bj.max
 have bk:=bk.fr bt bv
 have gl:=bk.max
 have bm:=bm.fr bt bv
 have gm:=bm.max
 have bn:=bn.fr bt bv
 have gn:=bn.max
 have bo:=bo.fr bt bv
 have gp:=bo.max
 have bq:=bq.fr bt bv
 have gq:=bq.max
 have br:=br.fr bt bv
 have gr:=br.max
 have dP:=bj.len
 subst dP
 have dQ:=bk.len
 subst dQ
 have dR:=bm.len
 subst dR
 have dS:=bn.len
 subst dS
 have dT:=bo.len
 subst dT
 have dU:=bq.len
 subst dU
 have dV:=br.len
 subst dV
 refine .np 38 [AH,AH,AH,AH,AH,AH,AH,vI 0] fun aa hE bG cm dW dX=>?_
 have gs:=Ab bG hr.lt
 have gt:=Ab bG ac.lt
 have gu:=E.cn bG
 replace ⟨hD,hr,ac,bj,bk,bm,bn,bo,bq,br,E⟩:=(sn [ab,b] cm bG).g11 hD hr ac bj bk bm bn bo bq br E
 refine .sc [.slice dB ((((((⟨⟨⟨[],[]⟩,[],[]⟩,⟨[],[],[],1⟩⟩:Wld)).store).idx).names).length) dC,.slice dD ((((((⟨⟨⟨[],[]⟩,[],[]⟩,⟨[],[],[],1⟩⟩:Wld)).store).idx).AY).length) dE,.slice dF (((((⟨⟨⟨[],[]⟩,[],[]⟩,⟨[],[],[],1⟩⟩:Wld)).store).parts).length) dG,.slice dH (((((⟨⟨⟨[],[]⟩,[],[]⟩,⟨[],[],[],1⟩⟩:Wld)).store).mem).length) dI,.slice dJ (((((⟨⟨⟨[],[]⟩,[],[]⟩,⟨[],[],[],1⟩⟩:Wld)).disk).files).length) dK,.slice dL (((((⟨⟨⟨[],[]⟩,[],[]⟩,⟨[],[],[],1⟩⟩:Wld)).disk).list).length) dM,.slice dN (((((⟨⟨⟨[],[]⟩,[],[]⟩,⟨[],[],[],1⟩⟩:Wld)).disk).names).length) dO,vI ((((⟨⟨⟨[],[]⟩,[],[]⟩,⟨[],[],[],1⟩⟩:Wld)).disk).next)] dW fun hH co bw dY=>?_
 replace ⟨hD,hr,ac,bj,bk,bm,bn,bo,bq,br,E⟩:=(so [aa,ab,b] co).g11 hD hr ac bj bk bm bn bo bq br E
 refine .d<|.s<|.g<|.ns 0 46 [] fun bz dZ bA cp d0 d3=>?_
 have d4:=Ab bA hr.lt
 have d5:=Ab bA ac.lt
 have d6:=Ab bA bw.lt
 have d7:=BT bA E.size
 have d8:=E.cn bA
 replace ⟨hD,hr,ac,bj,bk,bm,bn,bo,bq,br,bw,E⟩:=(sn [aa,ab,b] cp bA).g12 hD hr ac bj bk bm bn bo bq br bw E
 have bH:Own (α:=Evt) dZ bz 46 (nin (ge w.heap.size) [bz,aa,ab,b]) 0 0 []:=Own.BM d0
 refine .r 1<|.d<|.s<|.s<|.g<|.r 1<|.cl (Ay 46 hr (hD.CN AL) AB (w:=dZ) (F:=all)) ?_
 rintro gv bB ⟨⟨d9,rfl,eK⟩,ec,eL,bX,bY⟩
 replace ⟨hD,ac,bj,bk,bm,bn,bo,bq,br,bw,bH,E⟩:=(so [bz,aa,ab,b] bY).g12 hD ac bj bk bm bn bo bq br bw bH E
 refine .r 1<|.d<|.b 0<|T.loop (X:=(List Evt) × Nat × Nat × Nat × Int × Nat × (List (List Tag)) × (Option Addr) × Nat × Nat × (List Pst) × (Option Addr) × Nat × Nat × (List Prt) × (Option Addr) × Nat × Nat × (List Smp) × (Option Addr) × Nat × Nat × (List Fil) × (Option Addr) × Nat × Nat × (List Int) × (Option Addr) × Nat × Nat × (List (List Tag)) × (Option Addr) × Nat × Nat × Int) (([]:List Evt),bz,0,0,d9,ec,(((((⟨⟨⟨[],[]⟩,[],[]⟩,⟨[],[],[],1⟩⟩:Wld)).store).idx).names:List (List Tag)),dB,(((((⟨⟨⟨[],[]⟩,[],[]⟩,⟨[],[],[],1⟩⟩:Wld)).store).idx).names).length,dC,(((((⟨⟨⟨[],[]⟩,[],[]⟩,⟨[],[],[],1⟩⟩:Wld)).store).idx).AY:List Pst),dD,(((((⟨⟨⟨[],[]⟩,[],[]⟩,⟨[],[],[],1⟩⟩:Wld)).store).idx).AY).length,dE,((((⟨⟨⟨[],[]⟩,[],[]⟩,⟨[],[],[],1⟩⟩:Wld)).store).parts:List Prt),dF,((((⟨⟨⟨[],[]⟩,[],[]⟩,⟨[],[],[],1⟩⟩:Wld)).store).parts).length,dG,((((⟨⟨⟨[],[]⟩,[],[]⟩,⟨[],[],[],1⟩⟩:Wld)).store).mem:List Smp),dH,((((⟨⟨⟨[],[]⟩,[],[]⟩,⟨[],[],[],1⟩⟩:Wld)).store).mem).length,dI,((((⟨⟨⟨[],[]⟩,[],[]⟩,⟨[],[],[],1⟩⟩:Wld)).disk).files:List Fil),dJ,((((⟨⟨⟨[],[]⟩,[],[]⟩,⟨[],[],[],1⟩⟩:Wld)).disk).files).length,dK,((((⟨⟨⟨[],[]⟩,[],[]⟩,⟨[],[],[],1⟩⟩:Wld)).disk).list:List Int),dL,((((⟨⟨⟨[],[]⟩,[],[]⟩,⟨[],[],[],1⟩⟩:Wld)).disk).list).length,dM,((((⟨⟨⟨[],[]⟩,[],[]⟩,⟨[],[],[],1⟩⟩:Wld)).disk).names:List (List Tag)),dN,((((⟨⟨⟨[],[]⟩,[],[]⟩,⟨[],[],[],1⟩⟩:Wld)).disk).names).length,dO,(((⟨⟨⟨[],[]⟩,[],[]⟩,⟨[],[],[],1⟩⟩:Wld)).disk).next) (fun (events,r_events,n_events,c_events,n,p_,ar,a_w_0,n_w_0,c_w_0,ax,a_w_1,n_w_1,c_w_1,ay,a_w_2,n_w_2,c_w_2,az,a_w_3,n_w_3,c_w_3,aA,a_w_4,n_w_4,c_w_4,aB,a_w_5,n_w_5,c_w_5,aC,a_w_6,n_w_6,c_w_6,aD)=>[(0,.pointer (some ⟨b,0,none⟩)),(3,.pointer (some ⟨ab,0,none⟩)),(4,.pointer (some ⟨aa,0,none⟩)),(5,vS r_events n_events c_events),(6,vI n)]) (fun (events,r_events,n_events,c_events,n,p_,ar,a_w_0,n_w_0,c_w_0,ax,a_w_1,n_w_1,c_w_1,ay,a_w_2,n_w_2,c_w_2,az,a_w_3,n_w_3,c_w_3,aA,a_w_4,n_w_4,c_w_4,aB,a_w_5,n_w_5,c_w_5,aC,a_w_6,n_w_6,c_w_6,aD) aG=>Chg (ins [bz,b,aa]) bB aG∧Own aG r_events 46 (nin (ge w.heap.size) [r_events,aa,ab,b]) n_events c_events events∧OrB r_events bz bB.heap.size∧RepS aG (nin (ge w.heap.size) [r_events,aa,ab,b]) a_w_0 n_w_0 c_w_0 ar∧RepS aG (nin (ge w.heap.size) [r_events,aa,ab,b]) a_w_1 n_w_1 c_w_1 ax∧RepS aG (nin (ge w.heap.size) [r_events,aa,ab,b]) a_w_2 n_w_2 c_w_2 ay∧RepS aG (nin (ge w.heap.size) [r_events,aa,ab,b]) a_w_3 n_w_3 c_w_3 az∧RepS aG (nin (ge w.heap.size) [r_events,aa,ab,b]) a_w_4 n_w_4 c_w_4 aA∧RepS aG (nin (ge w.heap.size) [r_events,aa,ab,b]) a_w_5 n_w_5 c_w_5 aB∧RepS aG (nin (ge w.heap.size) [r_events,aa,ab,b]) a_w_6 n_w_6 c_w_6 aC∧Box aG b 121 [.slice ad D.length cd,vI (p_:Int)]∧Box aG aa 38 [.slice a_w_0 n_w_0 c_w_0,.slice a_w_1 n_w_1 c_w_1,.slice a_w_2 n_w_2 c_w_2,.slice a_w_3 n_w_3 c_w_3,.slice a_w_4 n_w_4 c_w_4,.slice a_w_5 n_w_5 c_w_5,.slice a_w_6 n_w_6 c_w_6,vI aD]∧(n≤46)∧((events.length:Int)+n≤46∧0≤n∨n< 0∧events.length≤46)∧((p_:Int)+61 * n≤p+2900∨n< 0)∧(p_≤p+2900)∧(WD ⟨⟨⟨ar,ax⟩,ay,az⟩,⟨aA,aB,aC,aD⟩⟩)∧(EsD events)) (fun (events,r_events,n_events,c_events,n,p_,ar,a_w_0,n_w_0,c_w_0,ax,a_w_1,n_w_1,c_w_1,ay,a_w_2,n_w_2,c_w_2,az,a_w_3,n_w_3,c_w_3,aA,a_w_4,n_w_4,c_w_4,aB,a_w_5,n_w_5,c_w_5,aC,a_w_6,n_w_6,c_w_6,aD)=>n.toNat) AA ⟨AA,AA,AA,AA,AA,trivial⟩ ⟨Chg.refl _ _,bH,Dt,bj,bk,bm,bn,bo,bq,br,bX,bw,AB,(by (simp; omega)),AB,AB,(by exact WD.new),(by exact EsD.nil)⟩ ?_
 rintro ⟨events,r_events,n_events,c_events,n,p_,ar,a_w_0,n_w_0,c_w_0,ax,a_w_1,n_w_1,c_w_1,ay,a_w_2,n_w_2,c_w_2,az,a_w_3,n_w_3,c_w_3,aA,a_w_4,n_w_4,c_w_4,aB,a_w_5,n_w_5,c_w_5,aC,a_w_6,n_w_6,c_w_6,aD⟩ gw aG ⟨aq,ao,aL,ag,ah,ai,aj,ak,al,am,aM,af,eM,eN,eO,eP,eQ,eR⟩ bU
 have eS:=CW aL d4 bX.lt
 have eT:=CW aL d5 ac.lt
 have cN:=CW aL d6 bw.lt
 have cO:=Ih aL d7 E.size
 have eU:=Ck aL d8 E.size
 have cP:Cov (ins [bz,b,aa]) bB bz:=⟨.inl AI⟩
 have eV:Cov (ins [bz,b,aa]) bB b:=⟨.inl AJ⟩
 have eW:Cov (ins [bz,b,aa]) bB aa:=⟨.inl AK⟩
 have eX:=Ck aL cP (Nat.le_refl _)
 have bZ:Mv [bz,aa,ab,b] [r_events,aa,ab,b] bB aG:=Mv.inl aq (all_cons AI (all_cons AL (all_cons AJ all_nil))) (all_cons (E7 aL AI) (all_cons (.inl AJ) (all_cons (.inl AK) (all_cons (.inl AL) all_nil))))
 replace ⟨hD,ac,E⟩:=(sp bZ aq).g3 hD ac E
 have eY:=ao.len; have eZ:=ao.max
 have fm:=al.len; have fp:=al.max
 refine .s<|.s<|.g<|.r 1<|.bp (n > 0) (fun cQ=>?_) (fun cQ=>?_)
 ·refine .d<|.ct<|.sk<|.s<|.b 1<|.s<|.g<|.r 1<|.ln af<|.cl (Jl (⟨(⟨(⟨ar,ax⟩:Idx),ay,az⟩:Sto),(⟨aA,aB,aC,aD⟩:Dsk)⟩:Wld) aM (hD.CN AL) AB (ag.CN AL) (ah.CN AL) (ai.CN AL) (aj.CN AL) (ak.CN AL) (al.CN AL) (am.CN AL) (by have q1:WD ⟨⟨⟨ar,ax⟩,ay,az⟩,⟨aA,aB,aC,aD⟩⟩:=‹_›; have q2:=q1.wi.dsk.nl; dsimp only at q2 ⊢; omega) (w:=aG) (F:=all)) ?_
  rintro gy gz ⟨⟨ae,⟨_,rfl,⟨cq,gA,cr,rfl,aJ⟩⟩,fv⟩,ee,fw,aE,bI⟩
  have b0:=al4 ao.lt af.lt ac.lt aM.lt
  have cR:Gb w.heap.size aG.heap.size:=E.size
  replace ⟨hD,ac,af,ao,ag,ah,ai,aj,ak,al,am,E⟩:=(so [r_events,aa,ab,b] bI).g12 hD ac af ao ag ah ai aj ak al am E
  replace aq:=(so [r_events,aa,ab,b] bI).g1 aq
  have aJ:=aJ.fr b0 cR
  have fA:=aJ.max
  have cS:=aJ.len
  subst cS
  refine .np 46 [vI 0,vI 0,vI 0,AH,vI 0,vI 0] fun aF gC aK bJ cT cU=>?_
  have fB:=Ab aK aE.lt
  have fC:=Ab aK ac.lt
  have fD:=Ab aK af.lt
  have fE:=Ab aK ao.lt
  have fF:=E.cn aK
  have fG:=aq.cn aK
  replace ⟨hD,aE,ac,af,ao,ag,ah,ai,aj,ak,al,am⟩:=(sn [r_events,aa,ab,b] bJ aK).g12 hD aE ac af ao ag ah ai aj ak al am
  replace ⟨aJ,E,aq⟩:=(sn [r_events,aa,ab,b] bJ aK).g3 aJ E aq
  refine .sc [vI ae.kind,vI ae.at_,vI ae.cut,.slice cq ae.name.length cr,vI ae.row.t,vI ae.row.v] cT fun gD bK aN cV=>?_
  replace ⟨hD,aE,ac,af,ao,ag,ah,ai,aj,ak,al,am⟩:=(so [aF,r_events,aa,ab,b] bK).g12 hD aE ac af ao ag ah ai aj ak al am
  replace ⟨aJ,E,aq⟩:=(so [aF,r_events,aa,ab,b] bK).g3 aJ E aq
  refine .d<|.s<|.g<|.r 1<|.ln aN<|.ns 1 46 [vI ae.kind,vI ae.at_,vI ae.cut,.slice cq ae.name.length cr,vI ae.row.t,vI ae.row.v] fun cu gE aU bL cW cX=>?_
  have cY:=Ab aU aE.lt
  have cZ:=Ab aU ac.lt
  have c7:=Ab aU af.lt
  have b6:=Ab aU ao.lt
  have c8:=Ab aU aN.lt
  have da:=BT aU E.size
  replace ⟨hD,aE,ac,af,ao,ag,ah,ai,aj,ak,al,am⟩:=(se [aF,r_events,aa,ab,b] bL).g12 hD aE ac af ao ag ah ai aj ak al am
  replace ⟨aJ,aN,E,aq⟩:=(se [aF,r_events,aa,ab,b] bL).g4 aJ aN E aq
  have bV:nin (ge w.heap.size) [aF,r_events,aa,ab,b] cu∧cu≠r_events:=Du da (all_cons c8 (all_cons b6 (all_cons c7 (all_cons cZ (all_cons cY all_nil))))) b6
  refine RG.CU (T:=23) (ty:=23) (y:=ae) ao cW AA AA ⟨_,_,_,rfl,aJ.oi⟩ bV AB fun aI eg cw aH aX bM=>?_
  have fH:=Bd aX cN af.lt
  have db:=HX aX aL aq.size
  replace ⟨hD,aE,ac,af,ag,ah,ai,aj,ak,al,am,aJ⟩:=(sa [aF,r_events,aa,ab,b] bM aX).g12 hD aE ac af ag ah ai aj ak al am aJ
  replace ⟨aN,E,aq⟩:=(sa [aF,r_events,aa,ab,b] bM aX).g3 aN E aq
  replace aH:=aH.rn r_events
  have fI:=aH.len
  refine .r 1<|.d<|.g<|.ln af<|.ln aN<|.cl (H6 (⟨(⟨(⟨ar,ax⟩:Idx),ay,az⟩:Sto),(⟨aA,aB,aC,aD⟩:Dsk)⟩:Wld) ae ag ah ai aj ak al am aJ (by assumption:WD _).wi (NmD.sz (by assumption:EvD _).1) (w:=cw) (F:=nin (ge w.heap.size) [aF,aI,aa,ab,b])) ?_
  rintro gF gG ⟨⟨_,rfl,⟨cx,gH,cy,cz,gI,cA,cB,gJ,cC,cD,gK,cE,cF,gL,cG,cH,gM,cI,cJ,gN,cK,rfl,aY,aZ,ba,bd,bg,bh,bi⟩⟩,bN⟩
  have aO:=al5 aN.lt aH.lt af.lt ac.lt aE.lt
  have aV:Gb w.heap.size cw.heap.size:=E.size
  replace ⟨hD,aE,ac,af,aH,ag,ah,ai,aj,ak,al,am⟩:=(se [aF,aI,aa,ab,b] bN).g12 hD aE ac af aH ag ah ai aj ak al am
  replace ⟨E,aq⟩:=(se [aF,aI,aa,ab,b] bN).g2 E aq
  replace aY:=RepS.HZ (M:=[aF,aI,aa,ab,b]) aY aO (fun _ h=>Nat.le_trans aV h)
  have fK:=aY.max
  replace aZ:=RepS.HZ (M:=[aF,aI,aa,ab,b]) aZ aO (fun _ h=>Nat.le_trans aV h)
  have fL:=aZ.max
  replace ba:=RepS.HZ (M:=[aF,aI,aa,ab,b]) ba aO (fun _ h=>Nat.le_trans aV h)
  have fM:=ba.max
  replace bd:=RepS.HZ (M:=[aF,aI,aa,ab,b]) bd aO (fun _ h=>Nat.le_trans aV h)
  have fN:=bd.max
  replace bg:=RepS.HZ (M:=[aF,aI,aa,ab,b]) bg aO (fun _ h=>Nat.le_trans aV h)
  have fO:=bg.max
  replace bh:=RepS.HZ (M:=[aF,aI,aa,ab,b]) bh aO (fun _ h=>Nat.le_trans aV h)
  have fP:=bh.max
  replace bi:=RepS.HZ (M:=[aF,aI,aa,ab,b]) bi aO (fun _ h=>Nat.le_trans aV h)
  have fQ:=bi.max
  have de:=aY.len
  subst de
  have df:=aZ.len
  subst df
  have dh:=ba.len
  subst dh
  have dj:=bd.len
  subst dj
  have dm:=bg.len
  subst dm
  have dp:=bh.len
  subst dp
  have dq:=bi.len
  subst dq
  refine .sc [.slice cx (((((doW (⟨(⟨(⟨ar,ax⟩:Idx),ay,az⟩:Sto),(⟨aA,aB,aC,aD⟩:Dsk)⟩:Wld) ae).store).idx).names).length) cy,.slice cz (((((doW (⟨(⟨(⟨ar,ax⟩:Idx),ay,az⟩:Sto),(⟨aA,aB,aC,aD⟩:Dsk)⟩:Wld) ae).store).idx).AY).length) cA,.slice cB ((((doW (⟨(⟨(⟨ar,ax⟩:Idx),ay,az⟩:Sto),(⟨aA,aB,aC,aD⟩:Dsk)⟩:Wld) ae).store).parts).length) cC,.slice cD ((((doW (⟨(⟨(⟨ar,ax⟩:Idx),ay,az⟩:Sto),(⟨aA,aB,aC,aD⟩:Dsk)⟩:Wld) ae).store).mem).length) cE,.slice cF ((((doW (⟨(⟨(⟨ar,ax⟩:Idx),ay,az⟩:Sto),(⟨aA,aB,aC,aD⟩:Dsk)⟩:Wld) ae).disk).files).length) cG,.slice cH ((((doW (⟨(⟨(⟨ar,ax⟩:Idx),ay,az⟩:Sto),(⟨aA,aB,aC,aD⟩:Dsk)⟩:Wld) ae).disk).list).length) cI,.slice cJ ((((doW (⟨(⟨(⟨ar,ax⟩:Idx),ay,az⟩:Sto),(⟨aA,aB,aC,aD⟩:Dsk)⟩:Wld) ae).disk).names).length) cK,vI (((doW (⟨(⟨(⟨ar,ax⟩:Idx),ay,az⟩:Sto),(⟨aA,aB,aC,aD⟩:Dsk)⟩:Wld) ae).disk).next)] af fun cL bO dt du=>?_
  replace ⟨hD,aE,ac,aH,ag,ah,ai,aj,ak,al,am,aY⟩:=(so [aF,aI,aa,ab,b] bO).g12 hD aE ac aH ag ah ai aj ak al am aY
  replace ⟨aZ,ba,bd,bg,bh,bi,E,aq⟩:=(so [aF,aI,aa,ab,b] bO).g8 aZ ba bd bg bh bi E aq
  refine .d<|.ib 1<|.g<|.r 1<|.it (n - 1)<|.r 1<|.d ?_
  have b7:Mv [aF,aI,aa,ab,b] [aI,aa,ab,b] cL cL:=Mv.less (all_cons AJ (all_cons AK (all_cons AL (all_cons AM all_nil))))
  replace ⟨hD,aH,ag,ah,ai,aj,ak,al,am,aY,aZ,ba⟩:=(sp b7 (Chg.refl nil _)).g12 hD aH ag ah ai aj ak al am aY aZ ba
  replace ⟨bd,bg,bh,bi⟩:=(sp b7 (Chg.refl nil _)).g4 bd bg bh bi
  exact bU ((events++[ae]),aI,n_events+1,eg,n - 1,ee,(((doW (⟨(⟨(⟨ar,ax⟩:Idx),ay,az⟩:Sto),(⟨aA,aB,aC,aD⟩:Dsk)⟩:Wld) ae).store).idx).names,cx,((((doW (⟨(⟨(⟨ar,ax⟩:Idx),ay,az⟩:Sto),(⟨aA,aB,aC,aD⟩:Dsk)⟩:Wld) ae).store).idx).names).length,cy,(((doW (⟨(⟨(⟨ar,ax⟩:Idx),ay,az⟩:Sto),(⟨aA,aB,aC,aD⟩:Dsk)⟩:Wld) ae).store).idx).AY,cz,((((doW (⟨(⟨(⟨ar,ax⟩:Idx),ay,az⟩:Sto),(⟨aA,aB,aC,aD⟩:Dsk)⟩:Wld) ae).store).idx).AY).length,cA,((doW (⟨(⟨(⟨ar,ax⟩:Idx),ay,az⟩:Sto),(⟨aA,aB,aC,aD⟩:Dsk)⟩:Wld) ae).store).parts,cB,(((doW (⟨(⟨(⟨ar,ax⟩:Idx),ay,az⟩:Sto),(⟨aA,aB,aC,aD⟩:Dsk)⟩:Wld) ae).store).parts).length,cC,((doW (⟨(⟨(⟨ar,ax⟩:Idx),ay,az⟩:Sto),(⟨aA,aB,aC,aD⟩:Dsk)⟩:Wld) ae).store).mem,cD,(((doW (⟨(⟨(⟨ar,ax⟩:Idx),ay,az⟩:Sto),(⟨aA,aB,aC,aD⟩:Dsk)⟩:Wld) ae).store).mem).length,cE,((doW (⟨(⟨(⟨ar,ax⟩:Idx),ay,az⟩:Sto),(⟨aA,aB,aC,aD⟩:Dsk)⟩:Wld) ae).disk).files,cF,(((doW (⟨(⟨(⟨ar,ax⟩:Idx),ay,az⟩:Sto),(⟨aA,aB,aC,aD⟩:Dsk)⟩:Wld) ae).disk).files).length,cG,((doW (⟨(⟨(⟨ar,ax⟩:Idx),ay,az⟩:Sto),(⟨aA,aB,aC,aD⟩:Dsk)⟩:Wld) ae).disk).list,cH,(((doW (⟨(⟨(⟨ar,ax⟩:Idx),ay,az⟩:Sto),(⟨aA,aB,aC,aD⟩:Dsk)⟩:Wld) ae).disk).list).length,cI,((doW (⟨(⟨(⟨ar,ax⟩:Idx),ay,az⟩:Sto),(⟨aA,aB,aC,aD⟩:Dsk)⟩:Wld) ae).disk).names,cJ,(((doW (⟨(⟨(⟨ar,ax⟩:Idx),ay,az⟩:Sto),(⟨aA,aB,aC,aD⟩:Dsk)⟩:Wld) ae).disk).names).length,cK,((doW (⟨(⟨(⟨ar,ax⟩:Idx),ay,az⟩:Sto),(⟨aA,aB,aC,aD⟩:Dsk)⟩:Wld) ae).disk).next) _ _ ⟨AA,AA,AA,AA,AA,trivial⟩ ⟨aq,aH,db,aY,aZ,ba,bd,bg,bh,bi,aE,dt,AB,AB,AB,AB,(by exact WD.do ‹_› (by assumption:EvD _).1),(by exact EsD.snoc ‹_› ‹_›)⟩ (by (simp only []; omega))
 refine .d<|.cf<|.x 0 rfl<|.s<|.g<|.r 1<|.ln af<|.cl (Gh (⟨(⟨(⟨ar,ax⟩:Idx),ay,az⟩:Sto),(⟨aA,aB,aC,aD⟩:Dsk)⟩:Wld) ag.ta ah.ta ai.ta aj.ta ak.ta al.ta am.ta (by assumption:WD _).wi (w:=aG) (F:=all)) ?_
 rintro gO bu ⟨⟨eh,gP,ej,ek,gQ,en,eA,gR,eB,aP,eC,eD,aQ,eE,eF,aR,eG,eH,aS,eI,eJ,rfl,bR,bS,bT,bC,b8,bD,b9,fR,bE,ce,fS,fT,bF,cg,fU,fV,fW⟩,bP⟩
 have aT:=al4 ao.lt af.lt ac.lt aM.lt
 have aW:Gb w.heap.size aG.heap.size:=E.size
 have ci:Mv [r_events,aa,ab,b] [aP,aQ,aR,aS,r_events,aa,ab,b] aG bu:=Mv.cons (Mv.cons (Mv.cons (Mv.cons (Mv.ext bP) cg) ce) b9) b8
 replace ⟨hD,aM,ac,ao,E⟩:=(sp ci bP).g5 hD aM ac ao E
 replace bR:RepS bu (nin (ge w.heap.size) [aP,aQ,aR,aS,r_events,aa,ab,b]) _ _ _ _:=RepS.Ch (s0:=w.heap.size) (M:=[r_events,aa,ab,b]) bR aT aW
 have fX:=bR.max
 replace bS:RepS bu (nin (ge w.heap.size) [aP,aQ,aR,aS,r_events,aa,ab,b]) _ _ _ _:=RepS.Ch (s0:=w.heap.size) (M:=[r_events,aa,ab,b]) bS aT aW
 have fY:=bS.max
 replace bT:RepS bu (nin (ge w.heap.size) [aP,aQ,aR,aS,r_events,aa,ab,b]) _ _ _ _:=RepS.Ch (s0:=w.heap.size) (M:=[r_events,aa,ab,b]) bT aT aW
 have fZ:=bT.max
 replace bC:Own bu aP 107 (nin (ge w.heap.size) [aP,aQ,aR,aS,r_events,aa,ab,b]) _ _ _:=Own.Ch (s0:=w.heap.size) (M:=[r_events,aa,ab,b]) bC aT aW
 replace bD:Own bu aQ 110 (nin (ge w.heap.size) [aP,aQ,aR,aS,r_events,aa,ab,b]) _ _ _:=Own.Ch (s0:=w.heap.size) (M:=[r_events,aa,ab,b]) bD aT aW
 replace bE:Own bu aR 3 (nin (ge w.heap.size) [aP,aQ,aR,aS,r_events,aa,ab,b]) _ _ _:=Own.Ch (s0:=w.heap.size) (M:=[r_events,aa,ab,b]) bE aT aW
 replace bF:Own bu aS 42 (nin (ge w.heap.size) [aP,aQ,aR,aS,r_events,aa,ab,b]) _ _ _:=Own.Ch (s0:=w.heap.size) (M:=[r_events,aa,ab,b]) bF aT aW
 have dv:=bR.len
 subst dv
 have dw:=bS.len
 subst dw
 have dx:=bT.len
 subst dx
 refine .r 1<|.sc [.slice eh ((((((Cb (⟨(⟨(⟨ar,ax⟩:Idx),ay,az⟩:Sto),(⟨aA,aB,aC,aD⟩:Dsk)⟩:Wld))).store).idx).names).length) ej,.slice ek ((((((Cb (⟨(⟨(⟨ar,ax⟩:Idx),ay,az⟩:Sto),(⟨aA,aB,aC,aD⟩:Dsk)⟩:Wld))).store).idx).AY).length) en,.slice eA (((((Cb (⟨(⟨(⟨ar,ax⟩:Idx),ay,az⟩:Sto),(⟨aA,aB,aC,aD⟩:Dsk)⟩:Wld))).store).parts).length) eB,vS aP eC eD,vS aQ eE eF,vS aR eG eH,vS aS eI eJ,vI ((((Cb (⟨(⟨(⟨ar,ax⟩:Idx),ay,az⟩:Sto),(⟨aA,aB,aC,aD⟩:Dsk)⟩:Wld))).disk).next)] ac fun gS cj dy dz=>?_
 replace ⟨hD,aM,ao,E⟩:=(so [aP,aQ,aR,aS,r_events,aa,ab,b] cj).g4 hD aM ao E
 exact .d<|.r2 func33 results33 (.t (vS r_events n_events c_events)) (.bx dy) ⟨⟨(events:List Evt),⟨_,_,(Br rfl rfl),(VO.of ao AF cO),⟨_,_,_,_,_,_,_,_,_,_,_,_,_,_,_,_,_,_,_,_,_,_,rfl⟩⟩,(by exact ⟨by assumption,by omega⟩)⟩,p_,by omega,aM,E⟩
theorem Gu (code:List UInt8) (h1:RepS w F a1 n1 c1 code)  : Calls Tryz.prog 8 [.slice a1 n1 c1].toArray w (Al fun rv w'=>(∃ (es:List Evt),VL (fo F w.heap.size) w' (es:List Evt) rv∧(EsD es))∧Ext w w'):=by
 refine goT func8 ?_
 obtain ⟨rfl,ck,h1⟩:=h1.tp
 refine .s<|.g<|.r 1<|.d<|.s<|.g<|.r 1<|.cl (LD code h1 (w:=w) (F:=nin (fo F w.heap.size) [])) ?_
 rintro cC aR ⟨⟨cD,ag,cE,cF,rfl,aG,az,ab⟩,aH⟩
 have aI:∀ q_∈([]:List Nat),q_< w.heap.size:=all_nil
 have bi:Gb w.heap.size w.heap.size:=(Nat.le_refl _)
 have cm:Cov nil w ag:=KN aG (Nat.le_refl _)
 have E:=aH
 replace ab:=RepS.Un (b:=ag) (M:=[]) ab aI bi
 refine .r 1<|.d<|.s<|.g<|.r 1<|.cl (J0 az (ab.CN AI) AB (w:=aR) (F:=all)) ?_
 rintro cG bB ⟨⟨aJ,⟨cH,cI,rfl,⟨ah,bj,bk,rfl,aa,am⟩,⟨bC,bD,bE,bF,bG,bH,bI,bJ,bK,bL,bM,bN,bO,bP,bQ,bR,bS,bT,bU,bV,bW,bX,rfl⟩⟩,co⟩,cJ,cp,ak,aA⟩
 have aK:=al1 az.lt
 have bm:Gb w.heap.size aR.heap.size:=E.size
 have bn:=CC am az.lt
 have aL:=FT am E.size
 have bo:Cov nil w ah:=KN am E.size
 have aM:Mv [ag] [ah,ag] aR bB:=Mv.cons (Mv.on aA AI) am
 replace ⟨ab,E⟩:=(sp aM aA).g2 ab E
 replace aa:=Own.take (s0:=w.heap.size) (M:=[ag]) aa aK bm
 replace aa:=aa.base (G':=fo F w.heap.size) (fun _ _ h=>.inr h)
 have cq:=aa.len
 refine .r 3<|.np 38 [AH,AH,AH,AH,AH,AH,AH,vI 0] fun aB cK ao aN bq br=>?_
 have cu:=Ab ao ak.lt
 have bt:=Ab ao aa.lt
 have cw:=E.cn ao
 replace ⟨ab,ak,aa,E⟩:=(sn [ah,ag] aN ao).g4 ab ak aa E
 refine .r 1<|.sc [.slice bC bD bE,.slice bF bG bH,.slice bI bJ bK,.slice bL bM bN,.slice bO bP bQ,.slice bR bS bT,.slice bU bV bW,vI bX] bq fun bY aO al bu=>?_
 replace ⟨ab,ak,aa,E⟩:=(so [aB,ah,ag] aO).g4 ab ak aa E
 refine .d<|.s<|.s<|.g<|.r 1<|.cl (Ay 40 ak (ab.CN AK) AB (w:=bY) (F:=all)) ?_
 rintro cL aS ⟨⟨bZ,rfl,cx⟩,cM,cy,aq,aP⟩
 replace ⟨aa,al,E⟩:=(so [aB,ah,ag] aP).g3 aa al E
 refine .eq bZ 0 (fun aT=>?_) (fun aT=>?_)
 ·refine .d<|.ct<|.b 0<|T.loop (X:=(List Evt) × Nat × Nat × Nat) ((aJ:List Evt),ah,bj,bk) (fun (events,r_events,n_events,c_events)=>[(4,vS r_events n_events c_events)]) (fun (events,r_events,n_events,c_events) aC=>Chg (ins [ah]) aS aC∧Own aC r_events 46 (nin (fo F w.heap.size) [aB,r_events,ag]) n_events c_events events∧OrB r_events ah aS.heap.size∧(EsD events)∧(events.length≤51)) (fun (events,r_events,n_events,c_events)=>52 - events.length) AA ⟨AA,trivial⟩ ⟨Chg.refl _ _,aa,Dt,(by (have q1:EsD _∧_:=‹_›; exact q1.1)),(by (have q1:EsD _∧_:=‹_›; omega))⟩ ?_
  rintro ⟨events,r_events,n_events,c_events⟩ cz aC ⟨ac,ae,af,b0,b6⟩ ax
  have b7:=CW af bn aq.lt
  have b8:=CW af (Nb.symm bt) al.lt
  have aU:=Ih af aL E.size
  have b9:=Ck af bo E.size
  have aV:Cov (ins [ah]) aS ah:=⟨.inl AI⟩
  have cd:=Ck af aV (Nat.le_refl _)
  replace ⟨aq,al,E⟩:=(si ac).g3 aq al E
  have ce:=ae.len
  refine .s<|.s<|.g<|.r 2<|.bp ((n_events:Int)≤50) (fun aW=>?_) (fun aW=>?_)
  ·refine .d<|.ct<|.sk<|.b 1<|.g<|.r 2<|.ns 1 46 [vI 4,vI 0,vI 0,AH,vI 0,vI 0] fun aQ cA ai aD aX aY=>?_
   have aZ:=Ab ai aq.lt
   have aE:=Ab ai ae.lt
   have ba:=Ab ai al.lt
   have bd:=BT ai E.size
   replace ⟨ae,E,ac⟩:=(se [aB,r_events,ag] aD).g3 ae E ac
   have ay:nin (fo F w.heap.size) [aB,r_events,ag] aQ∧aQ≠r_events:=Du (.inr bd) (all_cons ba (all_cons aE (all_cons aZ all_nil))) aE
   refine RG.CU (T:=23) (ty:=23) (y:=(⟨4,0,0,([]:List Tag),(⟨0,0⟩:Row)⟩:Evt)) ae aX AA AA ⟨_,_,_,rfl,(RepS.BM _ _ none 0 AE)⟩ ay AB fun bv bw cB aj ar aF=>?_
   have bg:=HX ar af ac.size
   replace ⟨E,ac⟩:=(s1 aF).g2 E ac
   replace aj:=aj.rn r_events
   have ci:=aj.len
   exact .r 1<|.d<|.ib 1<|ax ((events++[(⟨4,0,0,([]:List Tag),(⟨0,0⟩:Row)⟩:Evt)]),bv,n_events+1,bw) _ _ ⟨AA,trivial⟩ ⟨ac,aj,bg,(by exact EsD.snoc ‹_› ⟨NmD.nil,by simp [FB]⟩),(by (simp; omega))⟩ (by (simp only []; omega))
  refine .d<|.cf<|.x 0 rfl<|.s<|.g<|.r 2<|.d ?_
  have bz:=ae.sl (.inr aU)
  exact .rt func8 results8 (vS r_events n_events c_events) ⟨⟨(events:List Evt),(bz.vl AF (fun _ _ h=>h.1)),‹_›⟩,E⟩
 refine .d<|.cf<|.sk<|.s<|.g<|.r 2<|.d ?_
 have bA:=aa.sl (.inr aL)
 exact .rt func8 results8 (vS ah bj bk) ⟨⟨(aJ:List Evt),(bA.vl AF (fun _ _ h=>h.1)),(by (have q1:EsD _∧_:=‹_›; exact q1.1))⟩,E⟩
end Go.Proofs.YtckdhcbbgmiccaaGreat
namespace Go.Proofs.YtckdhcbbgmiccaaGreat
set_option maxRecDepth 100000
set_option maxHeartbeats 4000000
variable {w:World} {F:Nat→Prop} {a1 a2 a3 a4 a5 a6 a7:Option Addr} {n1 c1 n2 c2 n3 c3 n4 c4 n5 c5 n6 c6 n7 c7:Nat}
theorem Gv (w_:Wld) (h1:RepS w F a1 n1 c1 w_.store.idx.names) (h2:RepS w F a2 n2 c2 w_.store.idx.AY) (h3:RepS w F a3 n3 c3 w_.store.parts) (h4:RepS w F a4 n4 c4 w_.store.mem) (h5:RepS w F a5 n5 c5 w_.disk.files) (h6:RepS w F a6 n6 c6 w_.disk.list) (h7:RepS w F a7 n7 c7 w_.disk.names) (p0:SG w_.store) (p1:DD w_.disk):Calls Tryz.prog 18 [.agg #[.slice a1 n1 c1,.slice a2 n2 c2,.slice a3 n3 c3,.slice a4 n4 c4,.slice a5 n5 c5,.slice a6 n6 c6,.slice a7 n7 c7,.int .i64 w_.disk.next]].toArray w (Al fun rv w'=>rv=.bool (CQ w_.disk w_.store)∧Ext w w'):=by
 cases h1.len
 cases h2.len
 cases h3.len
 cases h4.len
 cases h5.len
 cases h6.len
 cases h7.len
 refine goT func18 ?_
 have Z:=(((((((St.i0 F w).p h1).p h2).p h3).p h4).p h5).p h6).p h7
 exact .s<|.g<|RG.Np Z fun ah w Z=>.r 1<|.d<|.s<|.g<|.r 1<|RG.Ln 0 Z<|.r 1<|RG.Ln 0 Z<|RG.C0 (Gr w_.store w_.disk (Z.a 6) (Z.a 5) (Z.a 4) (Z.a 3) (Z.a 2) (Z.a 1) (Z.a 0) p0 p1) Z fun w Z=>.r 1<|.d<|T.rt func18 results18 (.bool (CQ w_.disk w_.store)) ⟨(AG AF),Z.xt⟩
end Go.Proofs.YtckdhcbbgmiccaaGreat
namespace Go.Proofs.YtckdhcbbgmiccaaGreat
theorem pv {es:List Evt}(h:EsD es) (h2:(Cr es).2=true):WV (Cr es).1∧(Cr es).1=CB es∧es.length≤50:=by
 by_cases hl:(es.length:Int) > 50
 ·rw [K1 hl] at h2; cases h2
 ·rw [K0 hl]
  exact ⟨WV.T6 h,rfl,by omega⟩
section
variable {w:Wld}
theorem Nx (h:WV w):(w.disk.files.length:Int)=w.disk.list.length∧(w.disk.list.length:Int)=w.store.parts.length:=by
 have h1:=h.v.SV
 have e:(BJ w.disk).files=w.disk.files:=by
  unfold BJ
  rw [List.filter_eq_self]
  exact fun f hf=>List.contains_iff_mem.2 (h.tf f hf)
 rw [e] at h1
 refine ⟨by omega,?_⟩
 rw [h.p,List.length_map]
theorem Mh (h:WV w):w.store.parts.length≤6∧w.store.mem.length≤20∧w.store.idx.names.length≤6:=⟨(Dr.1 h.k).1,(Dr.1 h.k).2.1,h.wd.wi.sto.nm.len⟩
theorem Ho {d:Dsk}:(Ao d).idx.names=d.names:=rfl
end
theorem EsD.take {es:List Evt}(h:EsD es) (k:Nat):EsD ((es.take k).drop 0):=fun e he=>h e (List.mem_of_mem_take (List.mem_of_mem_drop he))
end Go.Proofs.YtckdhcbbgmiccaaGreat
namespace Go.Proofs.YtckdhcbbgmiccaaGreat
section
variable {w:Wld} {e:Evt}
theorem VY (B:Int):∀ (l:List Stp) (d:Dsk),d.next≤B→(∀ x∈l,x.kind=1→x.num+1≤B)→(l.foldl doD d).next≤B:=by
 intro l
 induction l with
 | nil=>intro d h _; exact h
 | cons x xs ih =>
   intro d h hx
   rw [List.foldl_cons]
   refine ih _ ?_ (fun y hy=>hx y (by simp [hy]))
   unfold doD
   split
   ·rename_i hk; exact hx x AD hk
   ·split
    ·exact h
    ·split
     ·exact h
     ·exact h
theorem Sd (d:Dsk) (s:Sto):∀ x∈Aw d s,x.kind=1→x.num+1≤d.next+1:=by
 intro x hx hk
 unfold Aw at hx
 split at hx
 ·cases hx
 ·simp only [List.mem_cons,List.not_mem_nil,or_false] at hx
  rcases hx with rfl | rfl
  ·exact Int.le_refl _
  ·simp at hk
theorem Sf (d:Dsk) (a:Int):∀ x∈Ak d a,x.kind=1→x.num+1≤d.next+1:=by
 intro x hx hk
 unfold Ak at hx
 split at hx
 ·cases hx
 ·simp only [List.mem_cons,List.not_mem_nil,or_false] at hx
  rcases hx with rfl | rfl | rfl | rfl
  ·exact Int.le_refl _
  ·simp at hk
  ·simp at hk
  ·simp at hk
theorem Ny {st:List Stp}{c:Int}{s:Sto}(h:∀ x∈st,x.kind=1→x.num+1≤w.disk.next+1):(Bf w st c s).disk.next≤w.disk.next+1:=by
 have key:(toD w.disk st c).next≤w.disk.next+1:=VY _ _ _ AB (fun x hx=>h x (List.mem_of_mem_take hx))
 unfold Bf
 split
 ·omega
 ·split
  ·exact key
  ·exact key
theorem Sh (w:Wld) (e:Evt):(doW w e).disk.next≤w.disk.next+1:=by
 by_cases k1:e.kind=1
 ·cases hn:Aq e.name with
  | false=>rw [F1 k1 hn]; omega
  | true=>rw [HR k1 hn]; show w.disk.next≤_; omega
 ·by_cases k2:e.kind=2
  ·rw [HS k2]; exact Ny (Sd _ _)
  ·by_cases k3:e.kind=3
   ·rw [GC k3]; exact Ny (Sf _ _)
   ·by_cases k4:e.kind=4
    ·rw [NA k4]; show w.disk.next≤_; omega
    ·rw [LZ k1 k2 k3 k4]; omega
theorem T7:∀ (es:List Evt) (w:Wld),(es.foldl doW w).disk.next≤w.disk.next+es.length:=by
 intro es
 induction es with
 | nil=>intro w; simp
 | cons e es ih =>
   intro w
   have h1:=ih (doW w e)
   have h2:=Sh w e
   rw [List.foldl_cons,List.length_cons]
   omega
theorem Mi (h:WV w) (hc:(w.store.mem.length:Int)=0∨(w.store.parts.length:Int)=6) (k:e.kind=2):doW w e=w:=by
 rw [HS k]
 refine Cm (.inl ?_)
 have hl:=(Nx h).2
 rw [EH AB]
 rfl
theorem VZ (h:WV w) (hn:w.disk.next≤60) (h0:¬ (w.store.mem.length:Int)=0) (h6:¬ (w.store.parts.length:Int)=6):FlD w.disk w.store:=by
 have h1:=Nx h
 have h2:=Mh h
 exact ⟨h.v,h.sd,h.k,h.nb,h.p,fun e=>h0 (by rw [e]; rfl),by omega,by omega,by omega⟩
theorem Mj (h:WV w) (q:FlD w.disk w.store) (k:e.kind=2) (hc:¬ e.cut< 2):doW w e=⟨Cv w.store,toD w.disk (Aw w.disk w.store) e.cut⟩:=by
 rw [HS k]
 have hl:=FG q
 rw [DJ AB AB AB,(Fl h.sd h.k q.m q.parts).1]
theorem Pk (h:WV w) (k:e.kind=4):doW w e=⟨Ao w.disk,BJ w.disk⟩:=by
 rw [NA k]; exact HB h.dd h.v
theorem Gw (h:WV w) (q:FlD w.disk w.store):Bw (Cv w.store) [] 0 99=Bw w.store [] 0 99 :=
 Kw (x:=Cv w.store) (s:=w.store) rfl (h.k.trans (IJ h.sd h.k q.m q.parts).symm) (fun _ id a b=>Hf (StoK.of h.sd h.k) a (by have:=h.sd.nm.len; omega)) _ _
theorem Wg (h:WV w) (hn:w.disk.next≤60){a:Int}(h0:0≤a) (h1:a+2≤w.disk.list.length):∃ x y,MgD w.disk a.toNat x y∧Ak w.disk a=Ak w.disk a.toNat:=by
 have hl:=Nx h
 have h2:=Mh h
 have hc:¬ (!(inR a 0 ((w.disk.list.length:Int) - 2)) || decide (w.disk.next≥999) || decide (w.disk.files.length≥20))=true:=by
  have hi:inR a 0 ((w.disk.list.length:Int) - 2)=true:=by simp [inR]; omega
  have hx:decide (w.disk.next≥999)=false:=decide_eq_false AB
  have hy:decide (w.disk.files.length≥20)=false:=decide_eq_false AB
  rw [hi,hx,hy]
  decide
 obtain ⟨x,y,q,_,e,_⟩:=h.mg (i:=a) (by unfold Ak; rw [if_neg hc]; simp)
 exact ⟨x,y,q,e⟩
theorem Mk (h:WV w){x y:Int}(q:MgD w.disk e.at_.toNat x y) (es:Ak w.disk e.at_=Ak w.disk e.at_.toNat) (h0:0≤e.at_) (k:e.kind=3) (hc:¬ e.cut< 4) :
 doW w e=⟨CA w.store e.at_.toNat,toD w.disk (Ak w.disk e.at_.toNat) e.cut⟩:=by
 rw [GC k,es]
 have hl:=FH q
 have hp:e.at_.toNat+2≤w.store.parts.length:=by rw [← h.open,q.open.2.2]; exact q.l
 have em:(BC w.store e.at_).1=CA w.store e.at_.toNat:=by
  have:=Ic hp
  rw [show ((e.at_.toNat:Nat):Int)=e.at_ by omega] at this
  rw [this]
 rw [DJ AB AB AB,em]
theorem T8 (h:WV w){x y:Int}(q:MgD w.disk e.at_.toNat x y) (es:Ak w.disk e.at_=Ak w.disk e.at_.toNat) (k:e.kind=3) (h1:0≤e.cut) (hc:e.cut< 4) :
 doW w e=⟨Ao (toD w.disk (Ak w.disk e.at_.toNat) e.cut),BJ (toD w.disk (Ak w.disk e.at_.toNat) e.cut)⟩:=by
 rw [GC k,es]
 have hl:=FH q
 rw [ES AB AB AB]
 exact HB (w:=⟨w.store,toD w.disk (Ak w.disk e.at_.toNat) e.cut⟩) (by have:=Kz h e.at_ e.cut; rwa [es] at this) (q.to _).1
theorem UX (h:WV w){x y:Int}{a:Nat}(q:MgD w.disk a x y) (c:Int):Bw (Ao (toD w.disk (Ak w.disk a) c)) [] 0 99=Bw (Ao w.disk) [] 0 99:=by
 rw [(q.to c).2]
 split
 ·rfl
 ·exact Gt q.sd q.v.so (by rw [q.open.2.2]; exact q.l)
end
section
variable {w:Wld} {c:Int}
theorem Wh (h:WV w) (hn:w.disk.next≤60){a:Int}(h0:0≤a) (h1:a+2≤w.disk.list.length) (hc:0≤c∧c< 5) :
 (Bw (doW (doW w ⟨3,a,c,[],⟨0,0⟩⟩) ⟨4,0,0,[],⟨0,0⟩⟩).store [] 0 99==Bw (doW w ⟨4,0,0,[],⟨0,0⟩⟩).store [] 0 99)=true∧(Bw (doW w ⟨3,a,9,[],⟨0,0⟩⟩).store [] 0 99==Bw w.store [] 0 99)=true ∧
  ((doW w ⟨3,a,9,[],⟨0,0⟩⟩).disk.list.length:Int)=w.disk.list.length - 1:=by
 obtain ⟨x,y,q,es⟩:=Wg h hn h0 h1
 have hx:WV (doW w ⟨3,a,c,[],⟨0,0⟩⟩):=h.do NmD.nil
 have e9:=Mk (e:=⟨3,a,9,[],⟨0,0⟩⟩) h q es h0 rfl (by show ¬ (9:Int)< 4; decide)
 have hp:a.toNat+2≤w.store.parts.length:=by rw [← h.open,q.open.2.2]; exact q.l
 rw [Pk hx rfl,Pk (e:=⟨4,0,0,[],⟨0,0⟩⟩) h rfl,e9]
 refine ⟨?_,?_,?_⟩
 ·show (Bw (Ao (doW w ⟨3,a,c,[],⟨0,0⟩⟩).disk) [] 0 99==Bw (Ao w.disk) [] 0 99)=true
  by_cases h4:c< 4
  ·rw [T8 (e:=⟨3,a,c,[],⟨0,0⟩⟩) h q es rfl hc.1 h4]
   show (Bw (Ao (BJ (toD w.disk (Ak w.disk a.toNat) c))) [] 0 99==_)=true
   obtain ⟨_,eo⟩:=(q.to c).1.tidy
   rw [eo,UX h q c]
   exact beq_self_eq_true _
  ·rw [Mk (e:=⟨3,a,c,[],⟨0,0⟩⟩) h q es h0 rfl h4]
   show (Bw (Ao (toD w.disk (Ak w.disk a.toNat) c)) [] 0 99==_)=true
   rw [UX h q c]
   exact beq_self_eq_true _
 ·show (Bw (CA w.store a.toNat) [] 0 99==_)=true
  rw [Gt h.sd h.k hp]
  exact beq_self_eq_true _
 ·show (((toD w.disk (Ak w.disk a.toNat) 9).list.length:Nat):Int)=_
  rw [Ky q AE]
  have:=q.l
  have e:(mgD w.disk a.toNat x y).list=w.disk.list.take a.toNat++[w.disk.next]++w.disk.list.drop (a.toNat+2):=rfl
  show (((mgD w.disk a.toNat x y).list.length:Nat):Int)=_
  rw [e]
  simp only [List.length_append,List.length_take,List.length_drop,List.length_cons,List.length_nil]
  omega
end
end Go.Proofs.YtckdhcbbgmiccaaGreat
namespace Go.Proofs.YtckdhcbbgmiccaaGreat
theorem Qb {p:List Tag→Bool}:∀ (l m:List (List Tag)) (i:Nat),BF p i (l++m)=BF p i l++BF p (i+l.length) m:=by
 intro l
 induction l with
 | nil=>intro m i; rfl
 | cons n ns ih =>
   intro m i
   rw [List.cons_append]
   show (if p n then [(i:Int)+1] else [])++BF p (i+1) (ns++m)=((if p n then [(i:Int)+1] else [])++BF p (i+1) ns)++BF p (i+(n::ns).length) m
   rw [ih,← List.append_assoc,List.length_cons,show i+(ns.length+1)=i+1+ns.length by omega]
theorem Va {id:Int}:∀ (ps:List Prt),(∀ p∈ps,∀ i∈p.ids,i≠id)→ps.foldl (Bo id) []=[]:=by
 intro ps
 induction ps with
 | nil=>intro _; rfl
 | cons p ps ih =>
   intro h
   rw [List.foldl_cons]
   have e:Bo id [] p=[]:=by
    unfold Bo partOf
    rw [NW _ _ (h p AD)]
    rfl
   rw [e]
   exact ih (fun q hq=>h q (by simp [hq]))
section
variable {w:Wld}
theorem Vb (h:WV w):∃ l,w.store.idx.names=w.disk.names++l:=⟨w.store.idx.names.drop w.disk.names.length,by
 have:=List.take_append_drop w.disk.names.length w.store.idx.names
 rw [← h.m] at this
 exact this.symm⟩
theorem Si (h:WV w) (hm:w.store.mem=[]):Bw (Ao w.disk) [] 0 99=Bw w.store [] 0 99:=by
 obtain ⟨l,hl⟩:=Vb h
 have r1:∀ id,rowsOf w.store id=w.store.parts.foldl (Bo id) []:=fun id=>by unfold rowsOf; rw [hm]; rfl
 have r2:∀ id,rowsOf (Ao w.disk) id=w.store.parts.foldl (Bo id) []:=fun id=>by rw [← h.open]; rfl
 rw [Rs h.v.so Ng,Rs h.k Ng]
 unfold NU
 rw [hl,Ho,Qb,List.flatMap_append]
 have e1:(BF (fits []) 0 w.disk.names).flatMap (Dh (Ao w.disk) 0 99)=(BF (fits []) 0 w.disk.names).flatMap (Dh w.store 0 99):=by
  have key:∀ (q:List Int),(∀ i∈q,1≤i∧i≤w.disk.names.length)→q.flatMap (Dh (Ao w.disk) 0 99)=q.flatMap (Dh w.store 0 99):=by
   intro q
   induction q with
   | nil=>intro _; rfl
   | cons i is ih =>
     intro hq
     rw [List.flatMap_cons,List.flatMap_cons,ih (fun j hj=>hq j (by simp [hj]))]
     have h1:=hq i AD
     unfold Dh
     rw [r1,r2,hl,Ho]
     have e:(w.disk.names++l).getD (i - 1).toNat []=w.disk.names.getD (i - 1).toNat []:=by
      rw [List.getD_eq_getElem?_getD,List.getD_eq_getElem?_getD,List.getElem?_append_left AB]
     rw [e]
  exact key _ (fun i hi=>D4 hi)
 have e2:(BF (fits []) (0+w.disk.names.length) l).flatMap (Dh w.store 0 99)=[]:=by
  rw [List.flatMap_eq_nil_iff]
  intro i hi
  have h1:=Lo l _ i hi
  have h0:rowsOf w.store i=[]:=by
   rw [r1]
   refine Va _ fun p hp j hj=>?_
   rw [← h.open] at hp
   have h2:=IP ((Dr.1 h.v.so).2.2.1 p hp) j hj
   rw [Ho] at h2
   omega
  unfold Dh
  rw [h0]
  rfl
 rw [e1,e2,List.append_nil]
theorem WN (h:WV w):(doW w ⟨4,0,0,[],⟨0,0⟩⟩).store=Ao w.disk:=by rw [Pk h rfl]
structure SM (w x:Wld) (k:Nat):Prop where
 wv:WV x
 ask:Bw x.store [] 0 99=Bw w.store [] 0 99
 nx:x.disk.next≤52+k
 len:x.disk.list.length≤6 - k∨x.disk.list.length≤1
theorem SM.start (h:WV w) (hn:w.disk.next≤51):SM w (doW w ⟨2,0,9,[],⟨0,0⟩⟩) 0:=by
 have hx:WV (doW w ⟨2,0,9,[],⟨0,0⟩⟩):=h.do NmD.nil
 have h1:=Sh w ⟨2,0,9,[],⟨0,0⟩⟩
 have h2:=Nx hx
 have h3:=Mh hx
 refine ⟨hx,?_,by omega,.inl AB⟩
 by_cases hc:(w.store.mem.length:Int)=0∨(w.store.parts.length:Int)=6
 ·rw [Mi h hc rfl]
 ·have q:=VZ h AB (fun e=>hc (.inl e)) (fun e=>hc (.inr e))
  rw [Mj (e:=⟨2,0,9,[],⟨0,0⟩⟩) h q rfl AE]
  exact Gw h q
theorem SM.step {x:Wld}{k:Nat}(h:SM w x k) (hk:k< 6):SM w (doW x ⟨3,0,9,[],⟨0,0⟩⟩) (k+1):=by
 have hx:WV (doW x ⟨3,0,9,[],⟨0,0⟩⟩):=h.wv.do NmD.nil
 have h1:=Sh x ⟨3,0,9,[],⟨0,0⟩⟩
 have hn:=h.nx
 by_cases hl:2≤x.disk.list.length
 ·obtain ⟨_,e2,e3⟩:=Wh (c:=0) (a:=0) h.wv AB AB AB AB
  refine ⟨hx,(eq_of_beq e2).trans h.ask,by omega,?_⟩
  rcases h.len with h4 | h4 <;> omega
 ·have e:doW x ⟨3,0,9,[],⟨0,0⟩⟩=x:=by
   rw [GC (e:=⟨3,0,9,[],⟨0,0⟩⟩) rfl]
   refine Cm (.inl ?_)
   show ((Ak x.disk 0).length:Int)=0
   have:Ak x.disk 0=[]:=by
    unfold Ak
    rw [if_pos]
    have hi:inR 0 0 ((x.disk.list.length:Int) - 2)=false:=by simp [inR]; omega
    rw [hi]
    rfl
   rw [this]
   rfl
  rw [e]
  exact ⟨h.wv,h.ask,by omega,.inr AB⟩
theorem SM.fin {x:Wld}(h:SM w x 6):WV (doW x ⟨2,0,9,[],⟨0,0⟩⟩)∧(Bw (doW x ⟨2,0,9,[],⟨0,0⟩⟩).store [] 0 99==Bw w.store [] 0 99)=true∧(Bw (doW (doW x ⟨2,0,9,[],⟨0,0⟩⟩) ⟨4,0,0,[],⟨0,0⟩⟩).store [] 0 99==Bw w.store [] 0 99)=true ∧
 (doW x ⟨2,0,9,[],⟨0,0⟩⟩).store.mem.length=0∧(doW x ⟨2,0,9,[],⟨0,0⟩⟩).disk.list.length≤2:=by
 have hx:WV (doW x ⟨2,0,9,[],⟨0,0⟩⟩):=h.wv.do NmD.nil
 have hl:=h.len
 have hn:=h.nx
 have h2:=Nx h.wv
 have key:(doW x ⟨2,0,9,[],⟨0,0⟩⟩).store.mem=[]∧Bw (doW x ⟨2,0,9,[],⟨0,0⟩⟩).store [] 0 99=Bw w.store [] 0 99∧(doW x ⟨2,0,9,[],⟨0,0⟩⟩).disk.list.length≤2:=by
  by_cases hm:(x.store.mem.length:Int)=0
  ·rw [Mi h.wv (.inl hm) rfl]
   exact ⟨List.length_eq_zero_iff.1 AB,h.ask,by omega⟩
  ·have q:=VZ h.wv AB hm AB
   rw [Mj (e:=⟨2,0,9,[],⟨0,0⟩⟩) h.wv q rfl AE]
   refine ⟨rfl,(Gw h.wv q).trans h.ask,?_⟩
   show (toD x.disk (Aw x.disk x.store) 9).list.length≤2
   rw [(Hn q (c:=9) AE).2]
   simp only [List.length_append,List.length_cons,List.length_nil]
   omega
 obtain ⟨k1,k2,k3⟩:=key
 refine ⟨hx,by rw [k2]; exact beq_self_eq_true _,?_,by rw [k1]; rfl,k3⟩
 rw [WN hx,Si hx k1,k2]
 exact beq_self_eq_true _
end
end Go.Proofs.YtckdhcbbgmiccaaGreat
namespace Go.Proofs.YtckdhcbbgmiccaaGreat
set_option maxRecDepth 100000
set_option maxHeartbeats 4000000
variable {w:World} {F:Nat→Prop} {a1 a2 a3 a4 a5 a6 a7 a8:Option Addr} {n1 c1 n2 c2 n3 c3 n4 c4 n5 c5 n6 c6 n7 c7 n8 c8:Nat}
theorem Gx (w_:Wld) (e:Evt) (h1:RepS w F a1 n1 c1 w_.store.idx.names) (h2:RepS w F a2 n2 c2 w_.store.idx.AY) (h3:RepS w F a3 n3 c3 w_.store.parts) (h4:RepS w F a4 n4 c4 w_.store.mem) (h5:RepS w F a5 n5 c5 w_.disk.files) (h6:RepS w F a6 n6 c6 w_.disk.list) (h7:RepS w F a7 n7 c7 w_.disk.names) (h8:RepS w F a8 n8 c8 e.name) (p0:WV w_) (p1:NmD e.name):Calls Tryz.prog 14 [.agg #[.slice a1 n1 c1,.slice a2 n2 c2,.slice a3 n3 c3,.slice a4 n4 c4,.slice a5 n5 c5,.slice a6 n6 c6,.slice a7 n7 c7,.int .i64 w_.disk.next],.agg #[.int .i64 e.kind,.int .i64 e.at_,.int .i64 e.cut,.slice a8 n8 c8,.int .i64 e.row.t,.int .i64 e.row.v]].toArray w (Al fun rv w'=>VS (fo F w.heap.size) w' (doW w_ e:Wld) rv∧Ext w w'):=by
 cases h1.len
 cases h2.len
 cases h3.len
 cases h4.len
 cases h5.len
 cases h6.len
 cases h7.len
 cases h8.len
 refine goT func14 ?_
 have Z:=((((((((St.i0 F w).p h1).p h2).p h3).p h4).p h5).p h6).p h7).p h8
 refine .s<|.g<|RG.Np Z fun dS w Z=>RG.Np Z fun dT w Z=>RG.Np Z fun dU w Z=>.d<|.s<|.s<|.g<|RG.Ln 2 Z<|RG.C0 (Gv w_ (Z.a 7) (Z.a 6) (Z.a 5) (Z.a 4) (Z.a 3) (Z.a 2) (Z.a 1) (SG.of p0.sd) p0.dd) Z fun w Z=>?_
 have aW:(CQ w_.disk w_.store)=true:=p0.fits
 rw [aW]
 refine .r 1<|.d<|.cf<|.sk<|.s<|T.Gd 8 Z fun w Z=>.r [0]<|GA.Ln 1 2 Z<|.r [3]<|GA.Ln 4 2 Z<|.tw 2 7 ?_ ?_
 ·refine GE.Cg (fun w Z=>CP (w_.store) (Z.a 7) (Z.a 6) (Z.a 5) (Z.a 4) p0.wd.wi.sto.nm p0.sd.nd p0.sd.sz) Z ?_
  rintro w _ w Z ⟨⟨cy,dV,cz,cA,dW,cB,cC,dX,cD,cE,dY,cF,rfl,aX,aY,ah,aZ,ai,ba,bd⟩,aj⟩
  refine ⟨Ext.chg aj,?_⟩
  cases aX.len
  cases aY.len
  cases ah.len
  cases ai.len
  have Z:=Z.so aj [.own 0 cC 66 cD (((AZ (w_.store))).parts),.own 0 cE 107 cF (((AZ (w_.store))).mem)] [.rep cy cz ((((AZ (w_.store))).idx).names),.rep cA cB ((((AZ (w_.store))).idx).AY)] (nd2 bd) (oN ah aZ (oN ai ba o0)) (fc aX (fc aY fn_))
  refine .tw 5 7 ?_ ?_
  ·refine GE.Cg (fun w Z=>CK (w_.disk) (Z.a 5) (Z.a 4) (Z.a 3) (by exact QU p0.dd) (by exact QV p0.dd) (by exact QW p0.dd) (by exact QX p0.dd) (by exact QY p0.dd)) Z ?_
   rintro w _ w Z ⟨⟨cG,dZ,cH,cI,d0,cJ,cK,d3,cL,rfl,ak,bg,bh,bi⟩,al⟩
   refine ⟨Ext.chg al,?_⟩
   cases ak.len
   cases bh.len
   cases bi.len
   have Z:=Z.so al [.own 0 cG 110 cH (((w_.disk)).files)] [.rep cI cJ (((w_.disk)).list),.rep cK cL (((w_.disk)).names)] nd1 (oN ak bg o0) (fc bh (fc bi fn_))
   refine .r [6]<|.go 7<|GE.Np Z fun d4 w Z=>GA.Dn Z fun w Z=>RG.Ss 0 Z fun w Z=>.d<|.s<|.g<|RG.Ln 5 Z ?_
   have Z:=((Z.sl 2).sl 2).sl 1
   refine RG.cl (Df (⟨(⟨(⟨(((AZ (w_.store))).idx).names,(((AZ (w_.store))).idx).AY⟩:Idx),((AZ (w_.store))).parts,((AZ (w_.store))).mem⟩:Sto),(⟨((w_.disk)).files,((w_.disk)).list,((w_.disk)).names,((w_.disk)).next⟩:Dsk)⟩:Wld) e (Z.rm 1 0 5) (Z.rm 1 0 6) (Z.rm 1 0 2) (Z.rm 1 0 1) (Z.rm 1 0 0) (Z.rm 1 0 3) (Z.rm 1 0 4) (Z.bc 0) (Z.rm 1 0 7) (by have q1:=p0.sd.copy; (rw [q1]; exact p0)) p1) ?_
   rintro _ w ⟨⟨rfl,cM,d5,cN,cO,d6,cP,cQ,d7,cR,cS,d8,cT,cU,d9,cV,cW,ec,cX,cY,ee,cZ,bk,bm,bn,bo,bq,br,bt,bu⟩,bv⟩
   cases bm.len
   cases bn.len
   cases bo.len
   cases bq.len
   cases br.len
   cases bt.len
   cases bu.len
   have Z:=(Z.rx 0 (Ul bv) bk).aw Z AA [.rep cM cN (((((doW (⟨(⟨(⟨(((AZ (w_.store))).idx).names,(((AZ (w_.store))).idx).AY⟩:Idx),((AZ (w_.store))).parts,((AZ (w_.store))).mem⟩:Sto),(⟨((w_.disk)).files,((w_.disk)).list,((w_.disk)).names,((w_.disk)).next⟩:Dsk)⟩:Wld) e)).store).idx).names),.rep cO cP (((((doW (⟨(⟨(⟨(((AZ (w_.store))).idx).names,(((AZ (w_.store))).idx).AY⟩:Idx),((AZ (w_.store))).parts,((AZ (w_.store))).mem⟩:Sto),(⟨((w_.disk)).files,((w_.disk)).list,((w_.disk)).names,((w_.disk)).next⟩:Dsk)⟩:Wld) e)).store).idx).AY),.rep cQ cR ((((doW (⟨(⟨(⟨(((AZ (w_.store))).idx).names,(((AZ (w_.store))).idx).AY⟩:Idx),((AZ (w_.store))).parts,((AZ (w_.store))).mem⟩:Sto),(⟨((w_.disk)).files,((w_.disk)).list,((w_.disk)).names,((w_.disk)).next⟩:Dsk)⟩:Wld) e)).store).parts),.rep cS cT ((((doW (⟨(⟨(⟨(((AZ (w_.store))).idx).names,(((AZ (w_.store))).idx).AY⟩:Idx),((AZ (w_.store))).parts,((AZ (w_.store))).mem⟩:Sto),(⟨((w_.disk)).files,((w_.disk)).list,((w_.disk)).names,((w_.disk)).next⟩:Dsk)⟩:Wld) e)).store).mem),.rep cU cV ((((doW (⟨(⟨(⟨(((AZ (w_.store))).idx).names,(((AZ (w_.store))).idx).AY⟩:Idx),((AZ (w_.store))).parts,((AZ (w_.store))).mem⟩:Sto),(⟨((w_.disk)).files,((w_.disk)).list,((w_.disk)).names,((w_.disk)).next⟩:Dsk)⟩:Wld) e)).disk).files),.rep cW cX ((((doW (⟨(⟨(⟨(((AZ (w_.store))).idx).names,(((AZ (w_.store))).idx).AY⟩:Idx),((AZ (w_.store))).parts,((AZ (w_.store))).mem⟩:Sto),(⟨((w_.disk)).files,((w_.disk)).list,((w_.disk)).names,((w_.disk)).next⟩:Dsk)⟩:Wld) e)).disk).list),.rep cY cZ ((((doW (⟨(⟨(⟨(((AZ (w_.store))).idx).names,(((AZ (w_.store))).idx).AY⟩:Idx),((AZ (w_.store))).parts,((AZ (w_.store))).mem⟩:Sto),(⟨((w_.disk)).files,((w_.disk)).list,((w_.disk)).names,((w_.disk)).next⟩:Dsk)⟩:Wld) e)).disk).names)] (fc bm.w1 (fc bn.w1 (fc bo.w1 (fc bq.w1 (fc br.w1 (fc bt.w1 (fc bu.w1 fn_)))))))
   exact .d<|.s<|.g<|RG.Ln 0 Z<|RG.Ss 1 Z fun w Z=>.d<|T.Rb 1 func14 results14 Z ⟨Z.rS (g:=1) (doW (⟨(⟨(⟨(((AZ (w_.store))).idx).names,(((AZ (w_.store))).idx).AY⟩:Idx),((AZ (w_.store))).parts,((AZ (w_.store))).mem⟩:Sto),(⟨((w_.disk)).files,((w_.disk)).list,((w_.disk)).names,((w_.disk)).next⟩:Dsk)⟩:Wld) e) [0,1,2,3,4,5,6] (by rw [p0.sd.copy]),Z.xt⟩
  refine GE.Np Z fun eg w Z=>.go 5<|GE.Cg (fun w Z=>CK (w_.disk) (Z.a 5) (Z.a 4) (Z.a 3) (by exact QU p0.dd) (by exact QV p0.dd) (by exact QW p0.dd) (by exact QX p0.dd) (by exact QY p0.dd)) Z ?_
  rintro w _ w Z ⟨⟨da,dt,bw,bz,du,bA,bB,dv,bC,rfl,E,aN,am,ao⟩,aa⟩
  refine ⟨Ext.chg aa,?_⟩
  cases E.len
  cases am.len
  cases ao.len
  have Z:=Z.so aa [.own 0 da 110 bw (((w_.disk)).files)] [.rep bz bA (((w_.disk)).list),.rep bB bC (((w_.disk)).names)] nd1 (oN E aN o0) (fc am (fc ao fn_))
  refine .r [6]<|GA.Dn Z fun w Z=>RG.Ss 1 Z fun w Z=>.d<|.s<|.g<|RG.Ln 5 Z ?_
  have Z:=((Z.sl 2).sl 2).sl 0
  refine RG.cl (Df (⟨(⟨(⟨(((AZ (w_.store))).idx).names,(((AZ (w_.store))).idx).AY⟩:Idx),((AZ (w_.store))).parts,((AZ (w_.store))).mem⟩:Sto),(⟨((w_.disk)).files,((w_.disk)).list,((w_.disk)).names,((w_.disk)).next⟩:Dsk)⟩:Wld) e (Z.rm 1 0 5) (Z.rm 1 0 6) (Z.rm 1 0 2) (Z.rm 1 0 1) (Z.rm 1 0 0) (Z.rm 1 0 3) (Z.rm 1 0 4) (Z.bc 0) (Z.rm 1 0 7) (by have q1:=p0.sd.copy; (rw [q1]; exact p0)) p1) ?_
  rintro _ w ⟨⟨rfl,bD,dw,bE,bF,dx,bG,bH,dy,bI,bJ,dz,bK,bL,dA,bM,bN,dB,bO,bP,dC,bQ,aO,aq,ar,ax,ay,az,aA,aB⟩,aP⟩
  cases aq.len
  cases ar.len
  cases ax.len
  cases ay.len
  cases az.len
  cases aA.len
  cases aB.len
  have Z:=(Z.rx 0 (Ul aP) aO).aw Z AA [.rep bD bE (((((doW (⟨(⟨(⟨(((AZ (w_.store))).idx).names,(((AZ (w_.store))).idx).AY⟩:Idx),((AZ (w_.store))).parts,((AZ (w_.store))).mem⟩:Sto),(⟨((w_.disk)).files,((w_.disk)).list,((w_.disk)).names,((w_.disk)).next⟩:Dsk)⟩:Wld) e)).store).idx).names),.rep bF bG (((((doW (⟨(⟨(⟨(((AZ (w_.store))).idx).names,(((AZ (w_.store))).idx).AY⟩:Idx),((AZ (w_.store))).parts,((AZ (w_.store))).mem⟩:Sto),(⟨((w_.disk)).files,((w_.disk)).list,((w_.disk)).names,((w_.disk)).next⟩:Dsk)⟩:Wld) e)).store).idx).AY),.rep bH bI ((((doW (⟨(⟨(⟨(((AZ (w_.store))).idx).names,(((AZ (w_.store))).idx).AY⟩:Idx),((AZ (w_.store))).parts,((AZ (w_.store))).mem⟩:Sto),(⟨((w_.disk)).files,((w_.disk)).list,((w_.disk)).names,((w_.disk)).next⟩:Dsk)⟩:Wld) e)).store).parts),.rep bJ bK ((((doW (⟨(⟨(⟨(((AZ (w_.store))).idx).names,(((AZ (w_.store))).idx).AY⟩:Idx),((AZ (w_.store))).parts,((AZ (w_.store))).mem⟩:Sto),(⟨((w_.disk)).files,((w_.disk)).list,((w_.disk)).names,((w_.disk)).next⟩:Dsk)⟩:Wld) e)).store).mem),.rep bL bM ((((doW (⟨(⟨(⟨(((AZ (w_.store))).idx).names,(((AZ (w_.store))).idx).AY⟩:Idx),((AZ (w_.store))).parts,((AZ (w_.store))).mem⟩:Sto),(⟨((w_.disk)).files,((w_.disk)).list,((w_.disk)).names,((w_.disk)).next⟩:Dsk)⟩:Wld) e)).disk).files),.rep bN bO ((((doW (⟨(⟨(⟨(((AZ (w_.store))).idx).names,(((AZ (w_.store))).idx).AY⟩:Idx),((AZ (w_.store))).parts,((AZ (w_.store))).mem⟩:Sto),(⟨((w_.disk)).files,((w_.disk)).list,((w_.disk)).names,((w_.disk)).next⟩:Dsk)⟩:Wld) e)).disk).list),.rep bP bQ ((((doW (⟨(⟨(⟨(((AZ (w_.store))).idx).names,(((AZ (w_.store))).idx).AY⟩:Idx),((AZ (w_.store))).parts,((AZ (w_.store))).mem⟩:Sto),(⟨((w_.disk)).files,((w_.disk)).list,((w_.disk)).names,((w_.disk)).next⟩:Dsk)⟩:Wld) e)).disk).names)] (fc aq.w1 (fc ar.w1 (fc ax.w1 (fc ay.w1 (fc az.w1 (fc aA.w1 (fc aB.w1 fn_)))))))
  exact .d<|.s<|.g<|RG.Ln 0 Z<|RG.Ss 1 Z fun w Z=>.d<|T.Rb 1 func14 results14 Z ⟨Z.rS (g:=1) (doW (⟨(⟨(⟨(((AZ (w_.store))).idx).names,(((AZ (w_.store))).idx).AY⟩:Idx),((AZ (w_.store))).parts,((AZ (w_.store))).mem⟩:Sto),(⟨((w_.disk)).files,((w_.disk)).list,((w_.disk)).names,((w_.disk)).next⟩:Dsk)⟩:Wld) e) [0,1,2,3,4,5,6] (by rw [p0.sd.copy]),Z.xt⟩
 refine GE.Np Z fun dD w Z=>.go 2<|GE.Cg (fun w Z=>CP (w_.store) (Z.a 7) (Z.a 6) (Z.a 5) (Z.a 4) p0.wd.wi.sto.nm p0.sd.nd p0.sd.sz) Z ?_
 rintro w _ w Z ⟨⟨bR,dE,bS,bT,dF,bU,bV,dG,bW,bX,dH,bY,rfl,aC,aD,ab,aQ,ac,aR,aS⟩,ae⟩
 refine ⟨Ext.chg ae,?_⟩
 cases aC.len
 cases aD.len
 cases ab.len
 cases ac.len
 have Z:=Z.so ae [.own 0 bV 66 bW (((AZ (w_.store))).parts),.own 0 bX 107 bY (((AZ (w_.store))).mem)] [.rep bR bS ((((AZ (w_.store))).idx).names),.rep bT bU ((((AZ (w_.store))).idx).AY)] (nd2 aS) (oN ab aQ (oN ac aR o0)) (fc aC (fc aD fn_))
 refine .go 5<|GE.Cg (fun w Z=>CK (w_.disk) (Z.a 5) (Z.a 4) (Z.a 3) (by exact QU p0.dd) (by exact QV p0.dd) (by exact QW p0.dd) (by exact QX p0.dd) (by exact QY p0.dd)) Z ?_
 rintro w _ w Z ⟨⟨bZ,dI,b0,b6,dJ,b7,b8,dK,b9,rfl,af,aT,aE,aF⟩,ag⟩
 refine ⟨Ext.chg ag,?_⟩
 cases af.len
 cases aE.len
 cases aF.len
 have Z:=Z.so ag [.own 0 bZ 110 b0 (((w_.disk)).files)] [.rep b6 b7 (((w_.disk)).list),.rep b8 b9 (((w_.disk)).names)] nd1 (oN af aT o0) (fc aE (fc aF fn_))
 refine .r [6]<|GA.Dn Z fun w Z=>RG.Ss 3 Z fun w Z=>.d<|.s<|.g<|RG.Ln 5 Z ?_
 have Z:=((Z.sl 1).sl 1).sl 0
 refine RG.cl (Df (⟨(⟨(⟨(((AZ (w_.store))).idx).names,(((AZ (w_.store))).idx).AY⟩:Idx),((AZ (w_.store))).parts,((AZ (w_.store))).mem⟩:Sto),(⟨((w_.disk)).files,((w_.disk)).list,((w_.disk)).names,((w_.disk)).next⟩:Dsk)⟩:Wld) e (Z.rm 1 0 5) (Z.rm 1 0 6) (Z.rm 1 0 2) (Z.rm 1 0 1) (Z.rm 1 0 0) (Z.rm 1 0 3) (Z.rm 1 0 4) (Z.bc 0) (Z.rm 1 0 7) (by have q1:=p0.sd.copy; (rw [q1]; exact p0)) p1) ?_
 rintro _ w ⟨⟨rfl,cd,dL,ce,cg,dM,ci,cj,dN,ck,cm,dO,co,cp,dP,cq,cr,dQ,cu,cw,dR,cx,aU,aG,aH,aI,aJ,aK,aL,aM⟩,aV⟩
 cases aG.len
 cases aH.len
 cases aI.len
 cases aJ.len
 cases aK.len
 cases aL.len
 cases aM.len
 have Z:=(Z.rx 0 (Ul aV) aU).aw Z AA [.rep cd ce (((((doW (⟨(⟨(⟨(((AZ (w_.store))).idx).names,(((AZ (w_.store))).idx).AY⟩:Idx),((AZ (w_.store))).parts,((AZ (w_.store))).mem⟩:Sto),(⟨((w_.disk)).files,((w_.disk)).list,((w_.disk)).names,((w_.disk)).next⟩:Dsk)⟩:Wld) e)).store).idx).names),.rep cg ci (((((doW (⟨(⟨(⟨(((AZ (w_.store))).idx).names,(((AZ (w_.store))).idx).AY⟩:Idx),((AZ (w_.store))).parts,((AZ (w_.store))).mem⟩:Sto),(⟨((w_.disk)).files,((w_.disk)).list,((w_.disk)).names,((w_.disk)).next⟩:Dsk)⟩:Wld) e)).store).idx).AY),.rep cj ck ((((doW (⟨(⟨(⟨(((AZ (w_.store))).idx).names,(((AZ (w_.store))).idx).AY⟩:Idx),((AZ (w_.store))).parts,((AZ (w_.store))).mem⟩:Sto),(⟨((w_.disk)).files,((w_.disk)).list,((w_.disk)).names,((w_.disk)).next⟩:Dsk)⟩:Wld) e)).store).parts),.rep cm co ((((doW (⟨(⟨(⟨(((AZ (w_.store))).idx).names,(((AZ (w_.store))).idx).AY⟩:Idx),((AZ (w_.store))).parts,((AZ (w_.store))).mem⟩:Sto),(⟨((w_.disk)).files,((w_.disk)).list,((w_.disk)).names,((w_.disk)).next⟩:Dsk)⟩:Wld) e)).store).mem),.rep cp cq ((((doW (⟨(⟨(⟨(((AZ (w_.store))).idx).names,(((AZ (w_.store))).idx).AY⟩:Idx),((AZ (w_.store))).parts,((AZ (w_.store))).mem⟩:Sto),(⟨((w_.disk)).files,((w_.disk)).list,((w_.disk)).names,((w_.disk)).next⟩:Dsk)⟩:Wld) e)).disk).files),.rep cr cu ((((doW (⟨(⟨(⟨(((AZ (w_.store))).idx).names,(((AZ (w_.store))).idx).AY⟩:Idx),((AZ (w_.store))).parts,((AZ (w_.store))).mem⟩:Sto),(⟨((w_.disk)).files,((w_.disk)).list,((w_.disk)).names,((w_.disk)).next⟩:Dsk)⟩:Wld) e)).disk).list),.rep cw cx ((((doW (⟨(⟨(⟨(((AZ (w_.store))).idx).names,(((AZ (w_.store))).idx).AY⟩:Idx),((AZ (w_.store))).parts,((AZ (w_.store))).mem⟩:Sto),(⟨((w_.disk)).files,((w_.disk)).list,((w_.disk)).names,((w_.disk)).next⟩:Dsk)⟩:Wld) e)).disk).names)] (fc aG.w1 (fc aH.w1 (fc aI.w1 (fc aJ.w1 (fc aK.w1 (fc aL.w1 (fc aM.w1 fn_)))))))
 exact .d<|.s<|.g<|RG.Ln 0 Z<|RG.Ss 1 Z fun w Z=>.d<|T.Rb 1 func14 results14 Z ⟨Z.rS (g:=1) (doW (⟨(⟨(⟨(((AZ (w_.store))).idx).names,(((AZ (w_.store))).idx).AY⟩:Idx),((AZ (w_.store))).parts,((AZ (w_.store))).mem⟩:Sto),(⟨((w_.disk)).files,((w_.disk)).list,((w_.disk)).names,((w_.disk)).next⟩:Dsk)⟩:Wld) e) [0,1,2,3,4,5,6] (by rw [p0.sd.copy]),Z.xt⟩
end Go.Proofs.YtckdhcbbgmiccaaGreat
namespace Go.Proofs.YtckdhcbbgmiccaaGreat
def NB (w:Wld):Prop:=w.store.mem=[]→w.store.idx.names=w.disk.names
theorem Oq {s:Sto}{n:List Tag}{r:Row}(h:(By s n r).2=false):(By s n r).1=s:=by
 unfold By at h ⊢
 split at h
 ·rename_i hc; rw [if_pos hc]
 ·rename_i hc
  rw [if_neg hc]
  split at h
  ·rename_i hc2; rw [if_pos hc2]
  ·cases h
section
variable {w:Wld}
theorem NB.do (h:WV w) (nb:NB w) (e:Evt):NB (doW w e):=by
 by_cases k1:e.kind=1
 ·cases hn:Aq e.name with
  | false=>rw [F1 k1 hn]; exact nb
  | true =>
    rw [HR k1 hn]
    cases hb:(By w.store e.name e.row).2 with
    | false=>rw [Oq hb]; exact nb
    | true =>
      intro hm
      rw [(KA hb).2.2.2.2] at hm
      have hm2:w.store.mem++[⟨(BO w.store.idx e.name).2.1,e.row⟩]=[]:=hm
      simp at hm2
 ·by_cases k2:e.kind=2
  ·rw [HS k2]
   by_cases hs:((Aw w.disk w.store).length:Int)=0∨e.cut< 0
   ·rw [Cm hs]; exact nb
   ·have q:=h.fl (fun e0=>hs (.inl (by rw [e0]; rfl)))
    by_cases hc:e.cut< (Aw w.disk w.store).length
    ·rw [ES (fun e0=>hs (.inl e0)) (fun e0=>hs (.inr e0)) hc,HB (w:=⟨w.store,toD w.disk (Aw w.disk w.store) e.cut⟩) (Nv h q _) (q.to _).1]
     exact fun _=>rfl
    ·rw [DJ (fun e0=>hs (.inl e0)) (fun e0=>hs (.inr e0)) hc,(Fl h.sd h.k q.m q.parts).1]
     have o:=(q.to e.cut).2
     rw [FG q] at hc
     rw [if_neg hc] at o
     intro _
     exact (congrArg (fun s:Sto=>s.idx.names) o).symm
  ·by_cases k3:e.kind=3
   ·rw [GC k3]
    by_cases hs:((Ak w.disk e.at_).length:Int)=0∨e.cut< 0
    ·rw [Cm hs]; exact nb
    ·obtain ⟨x,y,q,i0,e3,_⟩:=h.mg (i:=e.at_) (fun e0=>hs (.inl (by rw [e0]; rfl)))
     have o:=(q.to e.cut).2
     by_cases hc:e.cut< (Ak w.disk e.at_).length
     ·rw [ES (fun e0=>hs (.inl e0)) (fun e0=>hs (.inr e0)) hc,HB (w:=⟨w.store,toD w.disk (Ak w.disk e.at_) e.cut⟩) (Kz h _ _) (by rw [e3]; exact (q.to _).1)]
      exact fun _=>rfl
     ·rw [DJ (fun e0=>hs (.inl e0)) (fun e0=>hs (.inr e0)) hc]
      have hp:e.at_.toNat+2≤w.store.parts.length:=by rw [← h.open,q.open.2.2]; exact q.l
      have em:(BC w.store e.at_).1=CA w.store e.at_.toNat:=by
       have:=Ic hp
       rw [← i0] at this
       rw [this]
      have hd:(toD w.disk (Ak w.disk e.at_.toNat) e.cut).names=w.disk.names:=by
       split at o
       ·exact congrArg (fun s:Sto=>s.idx.names) o
       ·exact congrArg (fun s:Sto=>s.idx.names) o
      intro hm
      rw [em] at hm ⊢
      show w.store.idx.names=(toD w.disk (Ak w.disk e.at_) e.cut).names
      rw [e3,hd]
      exact nb hm
   ·by_cases k4:e.kind=4
    ·rw [Pk h k4]; exact fun _=>rfl
    ·rw [LZ k1 k2 k3 k4]; exact nb
theorem NB.foldl:∀ (es:List Evt) (w:Wld),WV w→NB w→EsD es→NB (es.foldl doW w):=by
 intro es
 induction es with
 | nil=>intro w _ nb _; exact nb
 | cons e es ih =>
   intro w h nb he
   exact ih _ (h.do (he e AD).1) (nb.do h e) (fun x hx=>he x (by simp [hx]))
def c9 (e:Evt):Evt:=⟨e.kind,e.at_,9,e.name,e.row⟩
def nvS (p:List Evt × List Evt) (e:Evt):List Evt × List Evt:=if e.kind=1∧(p.1.length:Int)< 20 then (p.1++[c9 e],p.2++[c9 e]) else if e.kind=2∨e.kind=3 then (p.1,p.2++[c9 e]) else p
structure NV (A B:List Evt):Prop where
 ea:EsD A
 eb:EsD B
 ix:(CB B).store.idx=(CB A).store.idx
 rw:∀ id,1≤id→id≤6→rowsOf (CB B).store id=rowsOf (CB A).store id
 la:A.length≤20
 ma:(CB A).store.mem.length≤A.length
 mb:(CB B).store.mem.length≤A.length
theorem Cw (es:List Evt) (e:Evt):CB (es++[e])=doW (CB es) e:=by unfold CB; rw [List.foldl_append]; rfl
theorem NV.nil:NV [] []:=⟨EsD.nil,EsD.nil,rfl,fun _ _ _=>rfl,by simp,by simp [CB,CR],by simp [CB,CR]⟩
theorem K3 (s:Sto) (n:List Tag) (r:Row):(E4 s n r).mem.length=s.mem.length+1:=by simp [E4]
theorem add_same {s t:Sto}{n:List Tag}{r:Row}(hs:SD s) (ht:SD t) (ks:Ac s=true) (kt:Ac t=true) (hi:t.idx=s.idx) (hr:∀ id,1≤id→id≤6→rowsOf t id=rowsOf s id) (hm:s.mem.length< 20) (hm2:t.mem.length< 20) :
 (By t n r).1.idx=(By s n r).1.idx∧(∀ id,1≤id→id≤6→rowsOf (By t n r).1 id=rowsOf (By s n r).1 id)∧(By s n r).1.mem.length≤s.mem.length+1∧(By t n r).1.mem.length≤t.mem.length+1:=by
 have same:t.idx=s.idx∧(∀ id,1≤id→id≤6→rowsOf t id=rowsOf s id)∧s.mem.length≤s.mem.length+1∧t.mem.length≤t.mem.length+1:=⟨hi,hr,by omega,by omega⟩
 cases h1:(BO s.idx n).2.2 with
 | false=>rw [KW h1,KW (by rw [hi]; exact h1)]; exact same
 | true =>
   cases h2:BS r with
   | false=>rw [KX h2,KX h2]; exact same
   | true =>
     obtain ⟨_,i2,_,i4⟩:=MS hs.idx hs.nm n
     have i5:=i4 h1
     have i6:=i2.len
     have hx:∀ id,1≤id→id≤6→rowsOf (E4 t n r) id=rowsOf (E4 s n r) id:=fun id a b=>by rw [Hh ht kt,Hh hs ks,hi,hr id a b]
     have h3:=hx (BO s.idx n).2.1 i5.1 AB
     by_cases h4:((rowsOf (E4 s n r) (BO s.idx n).2.1).length:Int) > 24
     ·rw [Fy h1 h2 AB h4,Fy (by rw [hi]; exact h1) h2 AB (by rw [hi,h3]; exact h4)]; exact same
     ·rw [F0 h1 h2 AB h4,F0 (by rw [hi]; exact h1) h2 AB (by rw [hi,h3]; exact h4)]
      refine ⟨?_,hx,by rw [K3]; exact Nat.le_refl _,by rw [K3]; exact Nat.le_refl _⟩
      show (BO t.idx n).1=(BO s.idx n).1
      rw [hi]
theorem NV.add {A B:List Evt}(h:NV A B){e:Evt}(he:EvD e) (k:e.kind=1) (hl:(A.length:Int)< 20):NV (A++[c9 e]) (B++[c9 e]):=by
 have ha:=WV.T6 h.ea
 have hb:=WV.T6 h.eb
 have m1:=h.ma
 have m2:=h.mb
 have key:(doW (CB B) (c9 e)).store.idx=(doW (CB A) (c9 e)).store.idx∧(∀ id,1≤id→id≤6→rowsOf (doW (CB B) (c9 e)).store id=rowsOf (doW (CB A) (c9 e)).store id) ∧
  (doW (CB A) (c9 e)).store.mem.length≤A.length+1∧(doW (CB B) (c9 e)).store.mem.length≤A.length+1:=by
  have k9:(c9 e).kind=1:=k
  cases hn:Aq (c9 e).name with
  | false=>rw [F1 k9 hn,F1 k9 hn]; exact ⟨h.ix,h.rw,by omega,by omega⟩
  | true =>
    rw [HR k9 hn,HR k9 hn]
    obtain ⟨q1,q2,q3,q4⟩:=add_same (n:=(c9 e).name) (r:=(c9 e).row) ha.sd hb.sd ha.k hb.k h.ix h.rw AB AB
    exact ⟨q1,q2,Nat.le_trans q3 AB,Nat.le_trans q4 AB⟩
 obtain ⟨k1,k2,k3,k4⟩:=key
 refine ⟨h.ea.snoc he,h.eb.snoc he,?_,?_,?_,?_,?_⟩
 ·rw [Cw,Cw]; exact k1
 ·rw [Cw,Cw]; exact k2
 ·rw [List.length_append,List.length_cons,List.length_nil]; omega
 ·rw [Cw,List.length_append,List.length_cons,List.length_nil]; exact k3
 ·rw [Cw,List.length_append,List.length_cons,List.length_nil]; exact k4
theorem NV.flush {A B:List Evt}(h:NV A B){e:Evt}(he:EvD e) (k:e.kind=2∨e.kind=3) (hl:B.length≤50):NV A (B++[c9 e]):=by
 have hb:=WV.T6 h.eb
 have nx:(CB B).disk.next≤60:=by
  have h3:=T7 B CR
  have h4:CR.disk.next=1:=rfl
  unfold CB
  omega
 have m2:=h.mb
 have n6:=hb.sd.nm.len
 have key:(doW (CB B) (c9 e)).store.idx=(CB B).store.idx∧(∀ id,1≤id→id≤6→rowsOf (doW (CB B) (c9 e)).store id=rowsOf (CB B).store id)∧(doW (CB B) (c9 e)).store.mem.length≤A.length:=by
  rcases k with k | k
  ·by_cases hc:((CB B).store.mem.length:Int)=0∨((CB B).store.parts.length:Int)=6
   ·rw [Mi (e:=c9 e) hb hc k]; exact ⟨rfl,fun _ _ _=>rfl,m2⟩
   ·have q:=VZ hb nx (fun e=>hc (.inl e)) (fun e=>hc (.inr e))
    rw [Mj (e:=c9 e) hb q k (by show ¬ (9:Int)< 2; decide)]
    exact ⟨rfl,fun id a b=>Hf (StoK.of hb.sd hb.k) a b,by show (0:Nat)≤_; omega⟩
  ·by_cases hs:((Ak (CB B).disk e.at_).length:Int)=0
   ·rw [GC (e:=c9 e) k]
    have hs9:((Ak (CB B).disk (c9 e).at_).length:Int)=0:=hs
    rw [Cm (.inl hs9)]
    exact ⟨rfl,fun _ _ _=>rfl,m2⟩
   ·obtain ⟨x,y,q,i0,e3,_⟩:=hb.mg (i:=e.at_) (fun e0=>hs (by rw [e0]; rfl))
    have hp:e.at_.toNat+2≤(CB B).store.parts.length:=by rw [← hb.open,q.open.2.2]; exact q.l
    rw [Mk (e:=c9 e) hb q e3 (by show 0≤e.at_; omega) k (by show ¬ (9:Int)< 4; decide)]
    exact ⟨rfl,fun id a b=>(EU (StoK.of hb.sd hb.k) hp a b).2,m2⟩
 obtain ⟨k1,k2,k3⟩:=key
 refine ⟨h.ea,h.eb.snoc he,?_,?_,h.la,h.ma,?_⟩
 ·rw [Cw,k1]; exact h.ix
 ·rw [Cw]; exact fun id a b=>(k2 id a b).trans (h.rw id a b)
 ·rw [Cw]; exact k3
theorem NV.step {p:List Evt × List Evt}(h:NV p.1 p.2){e:Evt}(he:EvD e) (hl:p.2.length≤50):NV (nvS p e).1 (nvS p e).2∧(nvS p e).2.length≤p.2.length+1:=by
 unfold nvS
 split
 ·rename_i k; exact ⟨h.add he k.1 k.2,by simp⟩
 ·split
  ·rename_i k; exact ⟨h.flush he k hl,by simp⟩
  ·exact ⟨h,by omega⟩
theorem NV.foldl:∀ (es:List Evt) (p:List Evt × List Evt),NV p.1 p.2→EsD es→p.2.length+es.length≤50→NV (es.foldl nvS p).1 (es.foldl nvS p).2∧(es.foldl nvS p).2.length≤50:=by
 intro es
 induction es with
 | nil=>intro p h _ hl; exact ⟨h,by simpa using hl⟩
 | cons e es ih =>
   intro p h he hl
   rw [List.length_cons] at hl
   obtain ⟨a,b⟩:=h.step (he e AD) AB
   exact ih _ a (fun x hx=>he x (by simp [hx])) AB
end
end Go.Proofs.YtckdhcbbgmiccaaGreat
namespace Go.Proofs.YtckdhcbbgmiccaaGreat
def LsD (es:List Evt):Prop:=∀ e∈es,EvD e∧e.kind≠4∧e.cut=9
theorem LsD.nil:LsD []:=fun e h=>by cases h
theorem LsD.snoc {es:List Evt}{e:Evt}(h:LsD es) (he:EvD e) (k:e.kind≠4):LsD (es++[c9 e]):=fun x hx=>by
 rcases List.mem_append.1 hx with hx | hx
 ·exact h x hx
 ·simp at hx; subst hx; exact ⟨he,k,rfl⟩
section
variable {x y:Wld} {e:Evt}
theorem Gy (h:WV x) (he:NmD e.name) (ey:doW x e=y) (k:e.kind=1) (hl:(y.store.mem.length:Int) > x.store.mem.length) :
 atB e.row.t (Ci y.store (Bb x.store.idx e.name).2.1)=true∧atV e.row.t (Ci y.store (Bb x.store.idx e.name).2.1)=e.row.v:=by
 have hy:WV y:=by rw [← ey]; exact h.do he
 cases hn:Aq e.name with
 | false =>
   rw [F1 k hn] at ey
   subst ey
   omega
 | true =>
   rw [HR k hn] at ey
   cases hb:(By x.store e.name e.row).2 with
   | false =>
     rw [Oq hb] at ey
     subst ey
     exact absurd hl (by show ¬ (x.store.mem.length:Int) > x.store.mem.length; omega)
   | true =>
     obtain ⟨a1,a2,a3,a4,a5⟩:=KA hb
     have ey2:y.store=E4 x.store e.name e.row:=by rw [← ey,a5]
     have hid:=(MS h.sd.idx h.sd.nm e.name).2.2.2 a1
     rw [F4 hn,QM hy.sd hy.k hid.1,ey2,Hh h.sd h.k,if_pos rfl]
     exact U6 _ _
theorem KG (h:WV x) (he:NmD e.name) (ey:doW x e=y) (k4:e.kind≠4) (hc:e.cut=9) (hn:e.kind=1→¬ (y.store.mem.length:Int) > x.store.mem.length):(Bw x.store [] 0 99==Bw y.store [] 0 99)=true:=by
 rw [beq_iff_eq]
 by_cases k1:e.kind=1
 ·have hn:=hn k1
  cases ho:Aq e.name with
  | false=>rw [F1 k1 ho] at ey; rw [ey]
  | true =>
    rw [HR k1 ho] at ey
    cases hb:(By x.store e.name e.row).2 with
    | false =>
      rw [Oq hb] at ey
      rw [← ey]
    | true =>
      obtain ⟨a1,a2,a3,a4,a5⟩:=KA hb
      have ey2:y.store=E4 x.store e.name e.row:=by rw [← ey,a5]
      rw [ey2,K3] at hn
      omega
 ·by_cases k2:e.kind=2
  ·rw [HS k2] at ey
   by_cases hs:((Aw x.disk x.store).length:Int)=0∨e.cut< 0
   ·rw [Cm hs] at ey; rw [ey]
   ·have q:=h.fl (fun e0=>hs (.inl (by rw [e0]; rfl)))
    rw [DJ (fun e0=>hs (.inl e0)) (fun e0=>hs (.inr e0)) (by rw [FG q]; omega),(Fl h.sd h.k q.m q.parts).1] at ey
    rw [← ey]
    exact (Gw h q).symm
  ·by_cases k3:e.kind=3
   ·rw [GC k3] at ey
    by_cases hs:((Ak x.disk e.at_).length:Int)=0∨e.cut< 0
    ·rw [Cm hs] at ey; rw [ey]
    ·obtain ⟨a,b,q,i0,e3,_⟩:=h.mg (i:=e.at_) (fun e0=>hs (.inl (by rw [e0]; rfl)))
     have hp:e.at_.toNat+2≤x.store.parts.length:=by rw [← h.open,q.open.2.2]; exact q.l
     have em:(BC x.store e.at_).1=CA x.store e.at_.toNat:=by
      have:=Ic hp
      rw [← i0] at this
      rw [this]
     rw [DJ (fun e0=>hs (.inl e0)) (fun e0=>hs (.inr e0)) (by rw [e3,FH q]; omega),em] at ey
     rw [← ey]
     exact (Gt h.sd h.k hp).symm
   ·rw [LZ k1 k2 k3 k4] at ey; rw [ey]
end
end Go.Proofs.YtckdhcbbgmiccaaGreat
namespace Go.Proofs.YtckdhcbbgmiccaaGreat
set_option maxRecDepth 100000
set_option maxHeartbeats 4000000
variable {w:World} {F:Nat→Prop} {a1:Option Addr} {n1 c1:Nat}
theorem JO  (h1:RepS w F a1 n1 c1 ([]:List Int))  : Calls Tryz.prog 13 [].toArray w (Al fun rv w'=>VS (fo F w.heap.size) w' (CR:Wld) rv∧Ext w w'):=by
 refine (GM (F:=F)).mono ?_
 rintro r w' ⟨v,rfl,⟨cs,e,h⟩,hx⟩
 exact ⟨v,rfl,⟨cs,e,Rep.frame h (fun b _ hF=>⟨.inr hF,rfl⟩)⟩,hx⟩
theorem Hp (code:List UInt8) (h1:RepS w F a1 n1 c1 code)  : Calls Tryz.prog 4 [.slice a1 n1 c1].toArray w (Al fun rv w'=>rv=.bool (true)∧Ext w w'):=by
 cases h1.len
 refine goT func4 ?_
 have Z:=(St.i0 F w).p h1
 refine .s<|.g<|.r 1<|.d<|.s<|.s<|.g<|.r 2<|.bp ((code.length:Int) > 1048576) (fun bG=>.d<|.ct<|.s<|.g<|.r 1<|.d<|T.rt func4 results4 (.bool true) ⟨(AG AF),Z.xt⟩) fun bG=>.d<|.cf<|.sk<|.s<|.g<|.r 1<|RG.cl (Gu code (Z.mg 1 0)) ?_
 rintro ej w ⟨⟨aj,b6,dp⟩,bH⟩
 refine RG.vL Z b6 bH ?_
 intro b7 b8 Z
 have dq:=Z.mf 0 aj
 refine .r 1<|.d<|.s<|.g<|.r 1<|RG.CT (us:=[.bool ((Cr aj).2)]) (JN aj (Z.mg 1 0) (by have q1:EsD aj:=‹_›; exact q1)) Z fun ek en eA eB eC eD eE eF eG eH eI eJ eK eL w Z=>.r 2 ?_
 cases bh:(Cr aj).2
 ·refine .r 1<|RG.Np Z fun eM w Z=>RG.Ss 0 Z fun w Z=>.r 1<|.d<|.s<|.g<|.r 1<|RG.CT (us:=[.bool ((Cr aj).2)]) (Fm aj (Z.mg 1 7) (by have q1:EsD aj:=‹_›; exact q1)) Z fun eN eO eP eQ eR eS eT eU eV eW eX eY eZ e7 w Z=>?_
  rw [bh]
  refine .r 3<|RG.Np Z fun e8 w Z=>RG.Ss 0 Z fun w Z=>.r 1<|.d<|.s<|.s<|.g<|.r 2<|RG.eqv (v:=.bool false) (v':=.bool (false != false)) AA AD<|.r 1<|RG.Ln 1 Z<|RG.Ln 0 Z<|RG.C0 (E3 ((Cr aj).1) ((Cr aj).1) (Z.a 7) (Z.a 8) (Z.a 9) (Z.a 10) (Z.a 11) (Z.a 12) (Z.a 13) (Z.a 0) (Z.a 1) (Z.a 2) (Z.a 3) (Z.a 4) (Z.a 5) (Z.a 6)) Z fun w Z=>?_
  rw [show ((((Cr aj).1)==((Cr aj).1)))=true from beq_self_eq_true _]
  refine .r 6<|.d<|.ct<|.s<|.g<|.r 2<|RG.eqv (v:=.bool true) (v':=.bool (false==false)) AA AD<|.r 1<|RG.Ln 1 Z<|RG.Ln 0 Z<|RG.C0 (E3 ((Cr aj).1) ((Cr aj).1) (Z.a 7) (Z.a 8) (Z.a 9) (Z.a 10) (Z.a 11) (Z.a 12) (Z.a 13) (Z.a 0) (Z.a 1) (Z.a 2) (Z.a 3) (Z.a 4) (Z.a 5) (Z.a 6)) Z fun w Z=>?_
  rw [show ((((Cr aj).1)==((Cr aj).1)))=true from beq_self_eq_true _]
  exact .r 2<|.d<|T.rt func4 results4 (.bool true) ⟨(AG AF),Z.xt⟩
 refine .r 1<|RG.Np Z fun bI w Z=>RG.Ss 0 Z fun w Z=>.r 1<|.d<|.s<|.g<|.r 1<|RG.CT (us:=[.bool ((Cr aj).2)]) (Fm aj (Z.mg 1 7) (by have q1:EsD aj:=‹_›; exact q1)) Z fun fa fb fd fe ff fg fi fj fm fp fq fu fv fw w Z=>?_
 rw [bh]
 refine .r 3<|RG.Np Z fun bJ w Z=>RG.Ss 0 Z fun w Z=>.r 1<|.d<|.s<|.s<|.g<|.r 2<|RG.eqv (v:=.bool false) (v':=.bool (true != true)) AA AD<|.r 1<|RG.Ln 1 Z<|RG.Ln 0 Z<|RG.C0 (E3 ((Cr aj).1) ((Cr aj).1) (Z.a 7) (Z.a 8) (Z.a 9) (Z.a 10) (Z.a 11) (Z.a 12) (Z.a 13) (Z.a 0) (Z.a 1) (Z.a 2) (Z.a 3) (Z.a 4) (Z.a 5) (Z.a 6)) Z fun w Z=>?_
 rw [show ((((Cr aj).1)==((Cr aj).1)))=true from beq_self_eq_true _]
 refine .r 6<|.d<|.cf<|.sk<|.s<|.g<|RG.N0 Evt 1 Z fun b9 w Z=>.r 1<|.d<|.s<|.s<|.g<|.r 1<|.d<|.b 0<|T.Lp (([]:List Evt),b9,(0:Nat),(0:Nat)) (fun (k,r_k,c_k,k1)=>([(3,.slice b7 aj.length b8),(8,vS r_k k.length c_k),(9,vI (k1:Int))],[(0,.own 1 r_k 46 c_k k)],[],aj.length - k1,(k1≤aj.length)∧(LsD k)∧(k.length≤k1))) [] Z ⟨AB,(by exact LsD.nil),AD⟩ ?_
 rintro ⟨k,r_k,c_k,k1⟩ fA w Z ⟨dA,dB,dC⟩ ax
 have dD:=Z.mo 0 k
 refine .s<|.s<|.g<|.r 3<|.bp ((k1:Int)< (aj.length:Int)) (fun bK=>?_) (fun bK=>?_)
 ·refine .d<|.ct<|.sk<|.s<|.b 1<|.s<|.g<|.r 2<|gxm (h:=AB) aj k1 fun ao ay b0=>RG.Ix 14 ay Z<|Z.el 14 ay fun fB fC Z=>RG.Lg 0 0 Z<|RG.Np Z fun fD w Z=>RG.Ss 0 Z fun w Z=>.d<|.s<|.g<|.r 1<|RG.Ss 0 Z fun w Z=>.d<|.s<|.g<|.r 1<|RG.Lb 0 Z<|.ne ao.kind 4 (fun bL=>?_) (fun bL=>.d<|.cf<|.sk<|.ib 1<|.g<|.r 1<|.it ((k1:Int)+1)<|.r 1<|.d<|ax (k,r_k,c_k,k1+1) _ _ AA (Z.to 1 [] 2) ⟨AB,(by have q1:EsD aj:=‹_›; assumption),AB⟩ (by (simp only []; omega)))
  exact .d<|.ct<|.g<|.r 1<|RG.Ln 0 Z<|RG.Nb 1 Z fun fE w Z=>RG.Ap (hs:=by exact (by have q1:EsD aj:=‹_›; have q2:=(pv q1 ‹_›).2.2; omega)) 1 0 k (⟨ao.kind,ao.at_,9,ao.name,(⟨ao.row.t,ao.row.v⟩:Row)⟩:Evt) [1] Z fun ce cg w Z=>.r 1<|.d<|.ib 1<|.g<|.r 1<|.it ((k1:Int)+1)<|.r 1<|.d<|ax ((k++[(⟨ao.kind,ao.at_,9,ao.name,(⟨ao.row.t,ao.row.v⟩:Row)⟩:Evt)]),ce,cg,k1+1) _ _ AA (Z.to 1 [] 2) ⟨AB,(by have q1:EsD aj:=‹_›; exact LsD.snoc ‹_› (q1 _ ‹_›) ‹_›),(by (simp; omega))⟩ (by (simp only []; omega))
 refine .d<|.cf<|.x 0 rfl<|.s<|.g<|RG.CS (JO (Z.ng 1)) Z fun ci cj ck bM bN bO bP bQ bR bS bT bU bV bW w Z=>RG.Np Z fun az w Z=>RG.Ss 0 Z fun w Z=>.d<|.s<|.s<|.g<|.r 1<|.d<|.b 2 ?_
 have Z:=Z.sl 1
 refine T.Lp ((0:Nat),(CR.store.idx.names:List (List Tag)),ci,cj,(CR.store.idx.AY:List Pst),ck,bM,(CR.store.parts:List Prt),bN,bO,(CR.store.mem:List Smp),bP,bQ,(CR.disk.files:List Fil),bR,bS,(CR.disk.list:List Int),bT,bU,(CR.disk.names:List (List Tag)),bV,bW,CR.disk.next) (fun (k2,aa,a_k_0,c_k_0,ab,a_k_1,c_k_1,ae,a_k_2,c_k_2,ac,a_k_3,c_k_3,af,a_k_4,c_k_4,ag,a_k_5,c_k_5,ah,a_k_6,c_k_6,ai)=>([(8,vS r_k k.length c_k),(11,vP az),(12,vI (k2:Int))],[(0,.box az 38 [.slice a_k_0 aa.length c_k_0,.slice a_k_1 ab.length c_k_1,.slice a_k_2 ae.length c_k_2,.slice a_k_3 ac.length c_k_3,.slice a_k_4 af.length c_k_4,.slice a_k_5 ag.length c_k_5,.slice a_k_6 ah.length c_k_6,vI ai])],[⟨1,none,.rep a_k_0 c_k_0 aa⟩,⟨1,none,.rep a_k_1 c_k_1 ab⟩,⟨1,none,.rep a_k_2 c_k_2 ae⟩,⟨1,none,.rep a_k_3 c_k_3 ac⟩,⟨1,none,.rep a_k_4 c_k_4 af⟩,⟨1,none,.rep a_k_5 c_k_5 ag⟩,⟨1,none,.rep a_k_6 c_k_6 ah⟩],k.length - k2,(k2≤k.length)∧(WV ⟨⟨⟨aa,ab⟩,ae,ac⟩,⟨af,ag,ah,ai⟩⟩))) [1,2,3,4,5,6,7] Z ⟨AB,(by exact WV.new)⟩ ?_
 rintro ⟨k2,aa,a_k_0,c_k_0,ab,a_k_1,c_k_1,ae,a_k_2,c_k_2,ac,a_k_3,c_k_3,af,a_k_4,c_k_4,ag,a_k_5,c_k_5,ah,a_k_6,c_k_6,ai⟩ dH w Z ⟨cx,cy⟩ am
 refine .s<|.s<|.g<|.r 3<|.bp ((k2:Int)< (k.length:Int)) (fun bi=>?_) (fun bi=>?_)
 ·refine .d<|.ct<|.sk<|.s<|.b 3<|.s<|T.Gd 7 Z fun w Z=>GA.Ln 0 0 Z<|.r [1,2]<|gxm (h:=AB) k k2 fun E ak bX=>GA.Ix 3 7 ak Z<|Z.el 7 ak fun dI dJ Z=>GA.Lg 4 0 0 Z<|.tw 5 6 ?_ ?_
  ·refine GE.CS (fun w Z=>Gx (⟨(⟨(⟨aa,ab⟩:Idx),ae,ac⟩:Sto),(⟨af,ag,ah,ai⟩:Dsk)⟩:Wld) E (Z.mg 1 2) (Z.mg 1 3) (Z.mg 1 4) (Z.mg 1 5) (Z.mg 1 6) (Z.mg 1 7) (Z.mg 1 8) (Z.mg 1 1) (by assumption:WV ⟨⟨⟨aa,ab⟩,ae,ac⟩,⟨af,ag,ah,ai⟩⟩) ((by assumption:LsD _) _ ‹_›).1.1) Z fun aA aB aC aD aE aF aG aH aI aJ aK aL aM aN w Z=>.go 6<|GE.Np Z fun bY w Z=>GA.Dn Z fun w Z=>RG.Ss 0 Z fun w Z=>.d<|.s<|.s<|.g<|.r 2<|RG.Ix 16 ak Z<|.r 1<|RG.Lh 7 0 Z<|.eq E.kind 1 (fun bj=>?_) (fun bj=>?_)
   ·refine .r 3<|RG.Lb 0 Z<|.r 3<|RG.Lb 1 Z<|.r 1<|.bp ((((((doW (⟨(⟨(⟨aa,ab⟩:Idx),ae,ac⟩:Sto),(⟨af,ag,ah,ai⟩:Dsk)⟩:Wld) E).store).mem).length):Int) > (ac.length:Int)) (fun bk=>?_) (fun bk=>?_)
    ·refine .r 1<|.d<|.ct<|.s<|T.GS 16 [bY,az,bJ,bI] Z fun _ w Z=>.r [0,1]<|GA.Ln (q:=1) 2 1 Z<|.r [3,4]<|GA.Ix 5 16 ak Z<|.r [6]<|GA.Lh 7 7 3 Z<|.tw 8 13 ?_ ?_
     ·refine GE.CT (us:=[vI ((Bb (⟨aa,ab⟩:Idx) E.name).2.1),.bool ((Bb (⟨aa,ab⟩:Idx) E.name).2.2)]) (fun w Z=>C1 (⟨aa,ab⟩:Idx) E.name (Z.mg 1 9) (Z.mg 1 10) (Z.mg 1 8) (by assumption:WV ⟨⟨⟨aa,ab⟩,ae,ac⟩,⟨af,ag,ah,ai⟩⟩).sd.ix (by assumption:WV ⟨⟨⟨aa,ab⟩,ae,ac⟩,⟨af,ag,ah,ai⟩⟩).sd.nd ((by assumption:LsD _) _ ‹_›).1.1) Z fun dK dL dM dN w Z=>.r [9,10,11,12]<|.go 13<|GE.Np Z fun dO w Z=>.go 14<|GE.Ss 0 [1,2,3,4] Z fun w Z=>.r [15]<|GA.Do Z fun w Z=>.r 1<|.d<|.s<|T.Gd 15 Z fun w Z=>.r [0]<|GA.Ln 1 1 Z<|.r [2,4,5]<|GA.Ix 6 18 ak Z<|.r [7,8]<|GA.Lh 9 9 4 Z<|.go 3<|GE.CL (fun w Z=>DO ((doW (⟨(⟨(⟨aa,ab⟩:Idx),ae,ac⟩:Sto),(⟨af,ag,ah,ai⟩:Dsk)⟩:Wld) E).store) ((Bb (⟨aa,ab⟩:Idx) E.name).2.1) (Z.a 2) (Z.a 3) (Z.a 4) (Z.a 5) (WV.do ‹_› ((by assumption:LsD _) _ ‹_›).1.1).sd) Z fun dP dQ w Z=>.go 10<|GE.C0 (fun w Z=>E8 (Ci ((doW (⟨(⟨(⟨aa,ab⟩:Idx),ae,ac⟩:Sto),(⟨af,ag,ah,ai⟩:Dsk)⟩:Wld) E).store) ((Bb (⟨aa,ab⟩:Idx) E.name).2.1)) E.row.t (Z.a 0)) Z fun w Z=>?_
      have bm:(atB E.row.t (Ci ((doW (⟨(⟨(⟨aa,ab⟩:Idx),ae,ac⟩:Sto),(⟨af,ag,ah,ai⟩:Dsk)⟩:Wld) E).store) ((Bb (⟨aa,ab⟩:Idx) E.name).2.1)))=true:=(by exact (Gy (by assumption:WV ⟨⟨⟨aa,ab⟩,ae,ac⟩,⟨af,ag,ah,ai⟩⟩) ((by assumption:LsD _) _ ‹_›).1.1 rfl ‹_› ‹_›).1)
      rw [bm]
      exact .r [11,12,13,14]<|GA.Dn Z fun w Z=>.r 1<|.d<|.s<|.g<|.r 6<|RG.Ix 19 ak Z<|.r 2<|RG.Lh 10 5 Z<|.ne (atV E.row.t (Ci ((doW (⟨(⟨(⟨aa,ab⟩:Idx),ae,ac⟩:Sto),(⟨af,ag,ah,ai⟩:Dsk)⟩:Wld) E).store) ((Bb (⟨aa,ab⟩:Idx) E.name).2.1))) E.row.v (fun bn=>.r 1<|.d<|.ct<|.s<|.g<|.r 1<|.d<|T.rt func4 results4 (.bool false) ⟨(AG (by exfalso; exact (by assumption:¬ (atV _ _=_)) (Gy (by assumption:WV ⟨⟨⟨aa,ab⟩,ae,ac⟩,⟨af,ag,ah,ai⟩⟩) ((by assumption:LsD _) _ ‹_›).1.1 rfl ‹_› ‹_›).2)),Z.xt⟩) fun bn=>.r 1<|.d<|.cf<|.sk<|.g<|RG.Ln 1 Z<|RG.Ss 2 Z fun w Z=>.d<|.ib 3<|.g<|.r 1<|.it ((k2:Int)+1)<|.r 1<|.d<|am (k2+1,(((doW (⟨(⟨(⟨aa,ab⟩:Idx),ae,ac⟩:Sto),(⟨af,ag,ah,ai⟩:Dsk)⟩:Wld) E).store).idx).names,aA,aB,(((doW (⟨(⟨(⟨aa,ab⟩:Idx),ae,ac⟩:Sto),(⟨af,ag,ah,ai⟩:Dsk)⟩:Wld) E).store).idx).AY,aC,aD,((doW (⟨(⟨(⟨aa,ab⟩:Idx),ae,ac⟩:Sto),(⟨af,ag,ah,ai⟩:Dsk)⟩:Wld) E).store).parts,aE,aF,((doW (⟨(⟨(⟨aa,ab⟩:Idx),ae,ac⟩:Sto),(⟨af,ag,ah,ai⟩:Dsk)⟩:Wld) E).store).mem,aG,aH,((doW (⟨(⟨(⟨aa,ab⟩:Idx),ae,ac⟩:Sto),(⟨af,ag,ah,ai⟩:Dsk)⟩:Wld) E).disk).files,aI,aJ,((doW (⟨(⟨(⟨aa,ab⟩:Idx),ae,ac⟩:Sto),(⟨af,ag,ah,ai⟩:Dsk)⟩:Wld) E).disk).list,aK,aL,((doW (⟨(⟨(⟨aa,ab⟩:Idx),ae,ac⟩:Sto),(⟨af,ag,ah,ai⟩:Dsk)⟩:Wld) E).disk).names,aM,aN,((doW (⟨(⟨(⟨aa,ab⟩:Idx),ae,ac⟩:Sto),(⟨af,ag,ah,ai⟩:Dsk)⟩:Wld) E).disk).next) _ _ AA (Z.to 2 [3,4,5,6,7,8,9] 19) ⟨AB,(by exact WV.do ‹_› ((by assumption:LsD _) _ ‹_›).1.1)⟩ (by (simp only []; omega))
     refine GE.Np Z fun dR w Z=>.go 8<|GE.CT (us:=[vI ((Bb (⟨aa,ab⟩:Idx) E.name).2.1),.bool ((Bb (⟨aa,ab⟩:Idx) E.name).2.2)]) (fun w Z=>C1 (⟨aa,ab⟩:Idx) E.name (Z.mg 1 9) (Z.mg 1 10) (Z.mg 1 8) (by assumption:WV ⟨⟨⟨aa,ab⟩,ae,ac⟩,⟨af,ag,ah,ai⟩⟩).sd.ix (by assumption:WV ⟨⟨⟨aa,ab⟩,ae,ac⟩,⟨af,ag,ah,ai⟩⟩).sd.nd ((by assumption:LsD _) _ ‹_›).1.1) Z fun dS dT dU dV w Z=>.r [9,10,11,12]<|.go 14<|GE.Ss 0 [1,2,3,4] Z fun w Z=>.r [15]<|GA.Do Z fun w Z=>.r 1<|.d<|.s<|T.Gd 15 Z fun w Z=>.r [0]<|GA.Ln 1 1 Z<|.r [2,4,5]<|GA.Ix 6 18 ak Z<|.r [7,8]<|GA.Lh 9 9 4 Z<|.go 3<|GE.CL (fun w Z=>DO ((doW (⟨(⟨(⟨aa,ab⟩:Idx),ae,ac⟩:Sto),(⟨af,ag,ah,ai⟩:Dsk)⟩:Wld) E).store) ((Bb (⟨aa,ab⟩:Idx) E.name).2.1) (Z.a 2) (Z.a 3) (Z.a 4) (Z.a 5) (WV.do ‹_› ((by assumption:LsD _) _ ‹_›).1.1).sd) Z fun dW dX w Z=>.go 10<|GE.C0 (fun w Z=>E8 (Ci ((doW (⟨(⟨(⟨aa,ab⟩:Idx),ae,ac⟩:Sto),(⟨af,ag,ah,ai⟩:Dsk)⟩:Wld) E).store) ((Bb (⟨aa,ab⟩:Idx) E.name).2.1)) E.row.t (Z.a 0)) Z fun w Z=>?_
     have bo:(atB E.row.t (Ci ((doW (⟨(⟨(⟨aa,ab⟩:Idx),ae,ac⟩:Sto),(⟨af,ag,ah,ai⟩:Dsk)⟩:Wld) E).store) ((Bb (⟨aa,ab⟩:Idx) E.name).2.1)))=true:=(by exact (Gy (by assumption:WV ⟨⟨⟨aa,ab⟩,ae,ac⟩,⟨af,ag,ah,ai⟩⟩) ((by assumption:LsD _) _ ‹_›).1.1 rfl ‹_› ‹_›).1)
     rw [bo]
     exact .r [11,12,13,14]<|GA.Dn Z fun w Z=>.r 1<|.d<|.s<|.g<|.r 6<|RG.Ix 19 ak Z<|.r 2<|RG.Lh 10 5 Z<|.ne (atV E.row.t (Ci ((doW (⟨(⟨(⟨aa,ab⟩:Idx),ae,ac⟩:Sto),(⟨af,ag,ah,ai⟩:Dsk)⟩:Wld) E).store) ((Bb (⟨aa,ab⟩:Idx) E.name).2.1))) E.row.v (fun bq=>.r 1<|.d<|.ct<|.s<|.g<|.r 1<|.d<|T.rt func4 results4 (.bool false) ⟨(AG (by exfalso; exact (by assumption:¬ (atV _ _=_)) (Gy (by assumption:WV ⟨⟨⟨aa,ab⟩,ae,ac⟩,⟨af,ag,ah,ai⟩⟩) ((by assumption:LsD _) _ ‹_›).1.1 rfl ‹_› ‹_›).2)),Z.xt⟩) fun bq=>.r 1<|.d<|.cf<|.sk<|.g<|RG.Ln 1 Z<|RG.Ss 2 Z fun w Z=>.d<|.ib 3<|.g<|.r 1<|.it ((k2:Int)+1)<|.r 1<|.d<|am (k2+1,(((doW (⟨(⟨(⟨aa,ab⟩:Idx),ae,ac⟩:Sto),(⟨af,ag,ah,ai⟩:Dsk)⟩:Wld) E).store).idx).names,aA,aB,(((doW (⟨(⟨(⟨aa,ab⟩:Idx),ae,ac⟩:Sto),(⟨af,ag,ah,ai⟩:Dsk)⟩:Wld) E).store).idx).AY,aC,aD,((doW (⟨(⟨(⟨aa,ab⟩:Idx),ae,ac⟩:Sto),(⟨af,ag,ah,ai⟩:Dsk)⟩:Wld) E).store).parts,aE,aF,((doW (⟨(⟨(⟨aa,ab⟩:Idx),ae,ac⟩:Sto),(⟨af,ag,ah,ai⟩:Dsk)⟩:Wld) E).store).mem,aG,aH,((doW (⟨(⟨(⟨aa,ab⟩:Idx),ae,ac⟩:Sto),(⟨af,ag,ah,ai⟩:Dsk)⟩:Wld) E).disk).files,aI,aJ,((doW (⟨(⟨(⟨aa,ab⟩:Idx),ae,ac⟩:Sto),(⟨af,ag,ah,ai⟩:Dsk)⟩:Wld) E).disk).list,aK,aL,((doW (⟨(⟨(⟨aa,ab⟩:Idx),ae,ac⟩:Sto),(⟨af,ag,ah,ai⟩:Dsk)⟩:Wld) E).disk).names,aM,aN,((doW (⟨(⟨(⟨aa,ab⟩:Idx),ae,ac⟩:Sto),(⟨af,ag,ah,ai⟩:Dsk)⟩:Wld) E).disk).next) _ _ AA (Z.to 2 [3,4,5,6,7,8,9] 19) ⟨AB,(by exact WV.do ‹_› ((by assumption:LsD _) _ ‹_›).1.1)⟩ (by (simp only []; omega))
    refine .r 1<|.d<|.cf<|.s<|.g<|.r 1<|RG.Ln 1 Z<|.r 1<|RG.Ln 0 Z<|RG.C0 (EN (⟨(⟨aa,ab⟩:Idx),ae,ac⟩:Sto) ((doW (⟨(⟨(⟨aa,ab⟩:Idx),ae,ac⟩:Sto),(⟨af,ag,ah,ai⟩:Dsk)⟩:Wld) E).store) (Z.a 9) (Z.a 10) (Z.a 11) (Z.a 12) (Z.a 0) (Z.a 1) (Z.a 2) (Z.a 3) (by assumption:WV ⟨⟨⟨aa,ab⟩,ae,ac⟩,⟨af,ag,ah,ai⟩⟩).sd (WV.do ‹_› ((by assumption:LsD _) _ ‹_›).1.1).sd) Z fun w Z=>?_
    have br:(Bw (⟨(⟨aa,ab⟩:Idx),ae,ac⟩:Sto) [] 0 99==Bw ((doW (⟨(⟨(⟨aa,ab⟩:Idx),ae,ac⟩:Sto),(⟨af,ag,ah,ai⟩:Dsk)⟩:Wld) E).store) [] 0 99)=true:=(by exact KG (by assumption:WV ⟨⟨⟨aa,ab⟩,ae,ac⟩,⟨af,ag,ah,ai⟩⟩) ((by assumption:LsD _) _ ‹_›).1.1 rfl ((by assumption:LsD _) _ ‹_›).2.1 ((by assumption:LsD _) _ ‹_›).2.2 (fun _=>by omega))
    rw [br]
    exact .r 1<|.d<|.cf<|.sk<|.g<|RG.Ln 0 Z<|RG.Ss 1 Z fun w Z=>.d<|.ib 3<|.g<|.r 1<|.it ((k2:Int)+1)<|.r 1<|.d<|am (k2+1,(((doW (⟨(⟨(⟨aa,ab⟩:Idx),ae,ac⟩:Sto),(⟨af,ag,ah,ai⟩:Dsk)⟩:Wld) E).store).idx).names,aA,aB,(((doW (⟨(⟨(⟨aa,ab⟩:Idx),ae,ac⟩:Sto),(⟨af,ag,ah,ai⟩:Dsk)⟩:Wld) E).store).idx).AY,aC,aD,((doW (⟨(⟨(⟨aa,ab⟩:Idx),ae,ac⟩:Sto),(⟨af,ag,ah,ai⟩:Dsk)⟩:Wld) E).store).parts,aE,aF,((doW (⟨(⟨(⟨aa,ab⟩:Idx),ae,ac⟩:Sto),(⟨af,ag,ah,ai⟩:Dsk)⟩:Wld) E).store).mem,aG,aH,((doW (⟨(⟨(⟨aa,ab⟩:Idx),ae,ac⟩:Sto),(⟨af,ag,ah,ai⟩:Dsk)⟩:Wld) E).disk).files,aI,aJ,((doW (⟨(⟨(⟨aa,ab⟩:Idx),ae,ac⟩:Sto),(⟨af,ag,ah,ai⟩:Dsk)⟩:Wld) E).disk).list,aK,aL,((doW (⟨(⟨(⟨aa,ab⟩:Idx),ae,ac⟩:Sto),(⟨af,ag,ah,ai⟩:Dsk)⟩:Wld) E).disk).names,aM,aN,((doW (⟨(⟨(⟨aa,ab⟩:Idx),ae,ac⟩:Sto),(⟨af,ag,ah,ai⟩:Dsk)⟩:Wld) E).disk).next) _ _ AA (Z.to 1 [0,1,2,3,4,5,6] 16) ⟨AB,(by exact WV.do ‹_› ((by assumption:LsD _) _ ‹_›).1.1)⟩ (by (simp only []; omega))
   refine .r 11<|.d<|.cf<|.s<|.g<|.r 1<|RG.Ln 1 Z<|.r 1<|RG.Ln 0 Z<|RG.C0 (EN (⟨(⟨aa,ab⟩:Idx),ae,ac⟩:Sto) ((doW (⟨(⟨(⟨aa,ab⟩:Idx),ae,ac⟩:Sto),(⟨af,ag,ah,ai⟩:Dsk)⟩:Wld) E).store) (Z.a 9) (Z.a 10) (Z.a 11) (Z.a 12) (Z.a 0) (Z.a 1) (Z.a 2) (Z.a 3) (by assumption:WV ⟨⟨⟨aa,ab⟩,ae,ac⟩,⟨af,ag,ah,ai⟩⟩).sd (WV.do ‹_› ((by assumption:LsD _) _ ‹_›).1.1).sd) Z fun w Z=>?_
   have bu:(Bw (⟨(⟨aa,ab⟩:Idx),ae,ac⟩:Sto) [] 0 99==Bw ((doW (⟨(⟨(⟨aa,ab⟩:Idx),ae,ac⟩:Sto),(⟨af,ag,ah,ai⟩:Dsk)⟩:Wld) E).store) [] 0 99)=true:=(by exact KG (by assumption:WV ⟨⟨⟨aa,ab⟩,ae,ac⟩,⟨af,ag,ah,ai⟩⟩) ((by assumption:LsD _) _ ‹_›).1.1 rfl ((by assumption:LsD _) _ ‹_›).2.1 ((by assumption:LsD _) _ ‹_›).2.2 (fun _=>by omega))
   rw [bu]
   exact .r 1<|.d<|.cf<|.sk<|.g<|RG.Ln 0 Z<|RG.Ss 1 Z fun w Z=>.d<|.ib 3<|.g<|.r 1<|.it ((k2:Int)+1)<|.r 1<|.d<|am (k2+1,(((doW (⟨(⟨(⟨aa,ab⟩:Idx),ae,ac⟩:Sto),(⟨af,ag,ah,ai⟩:Dsk)⟩:Wld) E).store).idx).names,aA,aB,(((doW (⟨(⟨(⟨aa,ab⟩:Idx),ae,ac⟩:Sto),(⟨af,ag,ah,ai⟩:Dsk)⟩:Wld) E).store).idx).AY,aC,aD,((doW (⟨(⟨(⟨aa,ab⟩:Idx),ae,ac⟩:Sto),(⟨af,ag,ah,ai⟩:Dsk)⟩:Wld) E).store).parts,aE,aF,((doW (⟨(⟨(⟨aa,ab⟩:Idx),ae,ac⟩:Sto),(⟨af,ag,ah,ai⟩:Dsk)⟩:Wld) E).store).mem,aG,aH,((doW (⟨(⟨(⟨aa,ab⟩:Idx),ae,ac⟩:Sto),(⟨af,ag,ah,ai⟩:Dsk)⟩:Wld) E).disk).files,aI,aJ,((doW (⟨(⟨(⟨aa,ab⟩:Idx),ae,ac⟩:Sto),(⟨af,ag,ah,ai⟩:Dsk)⟩:Wld) E).disk).list,aK,aL,((doW (⟨(⟨(⟨aa,ab⟩:Idx),ae,ac⟩:Sto),(⟨af,ag,ah,ai⟩:Dsk)⟩:Wld) E).disk).names,aM,aN,((doW (⟨(⟨(⟨aa,ab⟩:Idx),ae,ac⟩:Sto),(⟨af,ag,ah,ai⟩:Dsk)⟩:Wld) E).disk).next) _ _ AA (Z.to 1 [0,1,2,3,4,5,6] 16) ⟨AB,(by exact WV.do ‹_› ((by assumption:LsD _) _ ‹_›).1.1)⟩ (by (simp only []; omega))
  refine GE.Np Z fun bZ w Z=>.go 5<|GE.CS (fun w Z=>Gx (⟨(⟨(⟨aa,ab⟩:Idx),ae,ac⟩:Sto),(⟨af,ag,ah,ai⟩:Dsk)⟩:Wld) E (Z.mg 1 2) (Z.mg 1 3) (Z.mg 1 4) (Z.mg 1 5) (Z.mg 1 6) (Z.mg 1 7) (Z.mg 1 8) (Z.mg 1 1) (by assumption:WV ⟨⟨⟨aa,ab⟩,ae,ac⟩,⟨af,ag,ah,ai⟩⟩) ((by assumption:LsD _) _ ‹_›).1.1) Z fun aO aP aQ aR aS aT aU aV aW aX aY aZ ba bd w Z=>GA.Dn Z fun w Z=>RG.Ss 0 Z fun w Z=>.d<|.s<|.s<|.g<|.r 2<|RG.Ix 16 ak Z<|.r 1<|RG.Lh 7 0 Z<|.eq E.kind 1 (fun bv=>?_) (fun bv=>?_)
  ·refine .r 3<|RG.Lb 0 Z<|.r 3<|RG.Lb 1 Z<|.r 1<|.bp ((((((doW (⟨(⟨(⟨aa,ab⟩:Idx),ae,ac⟩:Sto),(⟨af,ag,ah,ai⟩:Dsk)⟩:Wld) E).store).mem).length):Int) > (ac.length:Int)) (fun bw=>?_) (fun bw=>?_)
   ·refine .r 1<|.d<|.ct<|.s<|T.GS 16 [bZ,az,bJ,bI] Z fun _ w Z=>.r [0,1]<|GA.Ln (q:=1) 2 1 Z<|.r [3,4]<|GA.Ix 5 16 ak Z<|.r [6]<|GA.Lh 7 7 3 Z<|.tw 8 13 ?_ ?_
    ·refine GE.CT (us:=[vI ((Bb (⟨aa,ab⟩:Idx) E.name).2.1),.bool ((Bb (⟨aa,ab⟩:Idx) E.name).2.2)]) (fun w Z=>C1 (⟨aa,ab⟩:Idx) E.name (Z.mg 1 9) (Z.mg 1 10) (Z.mg 1 8) (by assumption:WV ⟨⟨⟨aa,ab⟩,ae,ac⟩,⟨af,ag,ah,ai⟩⟩).sd.ix (by assumption:WV ⟨⟨⟨aa,ab⟩,ae,ac⟩,⟨af,ag,ah,ai⟩⟩).sd.nd ((by assumption:LsD _) _ ‹_›).1.1) Z fun dY dZ d0 d3 w Z=>.r [9,10,11,12]<|.go 13<|GE.Np Z fun d4 w Z=>.go 14<|GE.Ss 0 [1,2,3,4] Z fun w Z=>.r [15]<|GA.Do Z fun w Z=>.r 1<|.d<|.s<|T.Gd 15 Z fun w Z=>.r [0]<|GA.Ln 1 1 Z<|.r [2,4,5]<|GA.Ix 6 18 ak Z<|.r [7,8]<|GA.Lh 9 9 4 Z<|.go 3<|GE.CL (fun w Z=>DO ((doW (⟨(⟨(⟨aa,ab⟩:Idx),ae,ac⟩:Sto),(⟨af,ag,ah,ai⟩:Dsk)⟩:Wld) E).store) ((Bb (⟨aa,ab⟩:Idx) E.name).2.1) (Z.a 2) (Z.a 3) (Z.a 4) (Z.a 5) (WV.do ‹_› ((by assumption:LsD _) _ ‹_›).1.1).sd) Z fun d5 d6 w Z=>.go 10<|GE.C0 (fun w Z=>E8 (Ci ((doW (⟨(⟨(⟨aa,ab⟩:Idx),ae,ac⟩:Sto),(⟨af,ag,ah,ai⟩:Dsk)⟩:Wld) E).store) ((Bb (⟨aa,ab⟩:Idx) E.name).2.1)) E.row.t (Z.a 0)) Z fun w Z=>?_
     have bz:(atB E.row.t (Ci ((doW (⟨(⟨(⟨aa,ab⟩:Idx),ae,ac⟩:Sto),(⟨af,ag,ah,ai⟩:Dsk)⟩:Wld) E).store) ((Bb (⟨aa,ab⟩:Idx) E.name).2.1)))=true:=(by exact (Gy (by assumption:WV ⟨⟨⟨aa,ab⟩,ae,ac⟩,⟨af,ag,ah,ai⟩⟩) ((by assumption:LsD _) _ ‹_›).1.1 rfl ‹_› ‹_›).1)
     rw [bz]
     exact .r [11,12,13,14]<|GA.Dn Z fun w Z=>.r 1<|.d<|.s<|.g<|.r 6<|RG.Ix 19 ak Z<|.r 2<|RG.Lh 10 5 Z<|.ne (atV E.row.t (Ci ((doW (⟨(⟨(⟨aa,ab⟩:Idx),ae,ac⟩:Sto),(⟨af,ag,ah,ai⟩:Dsk)⟩:Wld) E).store) ((Bb (⟨aa,ab⟩:Idx) E.name).2.1))) E.row.v (fun bA=>.r 1<|.d<|.ct<|.s<|.g<|.r 1<|.d<|T.rt func4 results4 (.bool false) ⟨(AG (by exfalso; exact (by assumption:¬ (atV _ _=_)) (Gy (by assumption:WV ⟨⟨⟨aa,ab⟩,ae,ac⟩,⟨af,ag,ah,ai⟩⟩) ((by assumption:LsD _) _ ‹_›).1.1 rfl ‹_› ‹_›).2)),Z.xt⟩) fun bA=>.r 1<|.d<|.cf<|.sk<|.g<|RG.Ln 1 Z<|RG.Ss 2 Z fun w Z=>.d<|.ib 3<|.g<|.r 1<|.it ((k2:Int)+1)<|.r 1<|.d<|am (k2+1,(((doW (⟨(⟨(⟨aa,ab⟩:Idx),ae,ac⟩:Sto),(⟨af,ag,ah,ai⟩:Dsk)⟩:Wld) E).store).idx).names,aO,aP,(((doW (⟨(⟨(⟨aa,ab⟩:Idx),ae,ac⟩:Sto),(⟨af,ag,ah,ai⟩:Dsk)⟩:Wld) E).store).idx).AY,aQ,aR,((doW (⟨(⟨(⟨aa,ab⟩:Idx),ae,ac⟩:Sto),(⟨af,ag,ah,ai⟩:Dsk)⟩:Wld) E).store).parts,aS,aT,((doW (⟨(⟨(⟨aa,ab⟩:Idx),ae,ac⟩:Sto),(⟨af,ag,ah,ai⟩:Dsk)⟩:Wld) E).store).mem,aU,aV,((doW (⟨(⟨(⟨aa,ab⟩:Idx),ae,ac⟩:Sto),(⟨af,ag,ah,ai⟩:Dsk)⟩:Wld) E).disk).files,aW,aX,((doW (⟨(⟨(⟨aa,ab⟩:Idx),ae,ac⟩:Sto),(⟨af,ag,ah,ai⟩:Dsk)⟩:Wld) E).disk).list,aY,aZ,((doW (⟨(⟨(⟨aa,ab⟩:Idx),ae,ac⟩:Sto),(⟨af,ag,ah,ai⟩:Dsk)⟩:Wld) E).disk).names,ba,bd,((doW (⟨(⟨(⟨aa,ab⟩:Idx),ae,ac⟩:Sto),(⟨af,ag,ah,ai⟩:Dsk)⟩:Wld) E).disk).next) _ _ AA (Z.to 2 [3,4,5,6,7,8,9] 19) ⟨AB,(by exact WV.do ‹_› ((by assumption:LsD _) _ ‹_›).1.1)⟩ (by (simp only []; omega))
    refine GE.Np Z fun d7 w Z=>.go 8<|GE.CT (us:=[vI ((Bb (⟨aa,ab⟩:Idx) E.name).2.1),.bool ((Bb (⟨aa,ab⟩:Idx) E.name).2.2)]) (fun w Z=>C1 (⟨aa,ab⟩:Idx) E.name (Z.mg 1 9) (Z.mg 1 10) (Z.mg 1 8) (by assumption:WV ⟨⟨⟨aa,ab⟩,ae,ac⟩,⟨af,ag,ah,ai⟩⟩).sd.ix (by assumption:WV ⟨⟨⟨aa,ab⟩,ae,ac⟩,⟨af,ag,ah,ai⟩⟩).sd.nd ((by assumption:LsD _) _ ‹_›).1.1) Z fun d8 d9 ec ee w Z=>.r [9,10,11,12]<|.go 14<|GE.Ss 0 [1,2,3,4] Z fun w Z=>.r [15]<|GA.Do Z fun w Z=>.r 1<|.d<|.s<|T.Gd 15 Z fun w Z=>.r [0]<|GA.Ln 1 1 Z<|.r [2,4,5]<|GA.Ix 6 18 ak Z<|.r [7,8]<|GA.Lh 9 9 4 Z<|.go 3<|GE.CL (fun w Z=>DO ((doW (⟨(⟨(⟨aa,ab⟩:Idx),ae,ac⟩:Sto),(⟨af,ag,ah,ai⟩:Dsk)⟩:Wld) E).store) ((Bb (⟨aa,ab⟩:Idx) E.name).2.1) (Z.a 2) (Z.a 3) (Z.a 4) (Z.a 5) (WV.do ‹_› ((by assumption:LsD _) _ ‹_›).1.1).sd) Z fun eg eh w Z=>.go 10<|GE.C0 (fun w Z=>E8 (Ci ((doW (⟨(⟨(⟨aa,ab⟩:Idx),ae,ac⟩:Sto),(⟨af,ag,ah,ai⟩:Dsk)⟩:Wld) E).store) ((Bb (⟨aa,ab⟩:Idx) E.name).2.1)) E.row.t (Z.a 0)) Z fun w Z=>?_
    have bB:(atB E.row.t (Ci ((doW (⟨(⟨(⟨aa,ab⟩:Idx),ae,ac⟩:Sto),(⟨af,ag,ah,ai⟩:Dsk)⟩:Wld) E).store) ((Bb (⟨aa,ab⟩:Idx) E.name).2.1)))=true:=(by exact (Gy (by assumption:WV ⟨⟨⟨aa,ab⟩,ae,ac⟩,⟨af,ag,ah,ai⟩⟩) ((by assumption:LsD _) _ ‹_›).1.1 rfl ‹_› ‹_›).1)
    rw [bB]
    exact .r [11,12,13,14]<|GA.Dn Z fun w Z=>.r 1<|.d<|.s<|.g<|.r 6<|RG.Ix 19 ak Z<|.r 2<|RG.Lh 10 5 Z<|.ne (atV E.row.t (Ci ((doW (⟨(⟨(⟨aa,ab⟩:Idx),ae,ac⟩:Sto),(⟨af,ag,ah,ai⟩:Dsk)⟩:Wld) E).store) ((Bb (⟨aa,ab⟩:Idx) E.name).2.1))) E.row.v (fun bC=>.r 1<|.d<|.ct<|.s<|.g<|.r 1<|.d<|T.rt func4 results4 (.bool false) ⟨(AG (by exfalso; exact (by assumption:¬ (atV _ _=_)) (Gy (by assumption:WV ⟨⟨⟨aa,ab⟩,ae,ac⟩,⟨af,ag,ah,ai⟩⟩) ((by assumption:LsD _) _ ‹_›).1.1 rfl ‹_› ‹_›).2)),Z.xt⟩) fun bC=>.r 1<|.d<|.cf<|.sk<|.g<|RG.Ln 1 Z<|RG.Ss 2 Z fun w Z=>.d<|.ib 3<|.g<|.r 1<|.it ((k2:Int)+1)<|.r 1<|.d<|am (k2+1,(((doW (⟨(⟨(⟨aa,ab⟩:Idx),ae,ac⟩:Sto),(⟨af,ag,ah,ai⟩:Dsk)⟩:Wld) E).store).idx).names,aO,aP,(((doW (⟨(⟨(⟨aa,ab⟩:Idx),ae,ac⟩:Sto),(⟨af,ag,ah,ai⟩:Dsk)⟩:Wld) E).store).idx).AY,aQ,aR,((doW (⟨(⟨(⟨aa,ab⟩:Idx),ae,ac⟩:Sto),(⟨af,ag,ah,ai⟩:Dsk)⟩:Wld) E).store).parts,aS,aT,((doW (⟨(⟨(⟨aa,ab⟩:Idx),ae,ac⟩:Sto),(⟨af,ag,ah,ai⟩:Dsk)⟩:Wld) E).store).mem,aU,aV,((doW (⟨(⟨(⟨aa,ab⟩:Idx),ae,ac⟩:Sto),(⟨af,ag,ah,ai⟩:Dsk)⟩:Wld) E).disk).files,aW,aX,((doW (⟨(⟨(⟨aa,ab⟩:Idx),ae,ac⟩:Sto),(⟨af,ag,ah,ai⟩:Dsk)⟩:Wld) E).disk).list,aY,aZ,((doW (⟨(⟨(⟨aa,ab⟩:Idx),ae,ac⟩:Sto),(⟨af,ag,ah,ai⟩:Dsk)⟩:Wld) E).disk).names,ba,bd,((doW (⟨(⟨(⟨aa,ab⟩:Idx),ae,ac⟩:Sto),(⟨af,ag,ah,ai⟩:Dsk)⟩:Wld) E).disk).next) _ _ AA (Z.to 2 [3,4,5,6,7,8,9] 19) ⟨AB,(by exact WV.do ‹_› ((by assumption:LsD _) _ ‹_›).1.1)⟩ (by (simp only []; omega))
   refine .r 1<|.d<|.cf<|.s<|.g<|.r 1<|RG.Ln 1 Z<|.r 1<|RG.Ln 0 Z<|RG.C0 (EN (⟨(⟨aa,ab⟩:Idx),ae,ac⟩:Sto) ((doW (⟨(⟨(⟨aa,ab⟩:Idx),ae,ac⟩:Sto),(⟨af,ag,ah,ai⟩:Dsk)⟩:Wld) E).store) (Z.a 9) (Z.a 10) (Z.a 11) (Z.a 12) (Z.a 0) (Z.a 1) (Z.a 2) (Z.a 3) (by assumption:WV ⟨⟨⟨aa,ab⟩,ae,ac⟩,⟨af,ag,ah,ai⟩⟩).sd (WV.do ‹_› ((by assumption:LsD _) _ ‹_›).1.1).sd) Z fun w Z=>?_
   have bD:(Bw (⟨(⟨aa,ab⟩:Idx),ae,ac⟩:Sto) [] 0 99==Bw ((doW (⟨(⟨(⟨aa,ab⟩:Idx),ae,ac⟩:Sto),(⟨af,ag,ah,ai⟩:Dsk)⟩:Wld) E).store) [] 0 99)=true:=(by exact KG (by assumption:WV ⟨⟨⟨aa,ab⟩,ae,ac⟩,⟨af,ag,ah,ai⟩⟩) ((by assumption:LsD _) _ ‹_›).1.1 rfl ((by assumption:LsD _) _ ‹_›).2.1 ((by assumption:LsD _) _ ‹_›).2.2 (fun _=>by omega))
   rw [bD]
   exact .r 1<|.d<|.cf<|.sk<|.g<|RG.Ln 0 Z<|RG.Ss 1 Z fun w Z=>.d<|.ib 3<|.g<|.r 1<|.it ((k2:Int)+1)<|.r 1<|.d<|am (k2+1,(((doW (⟨(⟨(⟨aa,ab⟩:Idx),ae,ac⟩:Sto),(⟨af,ag,ah,ai⟩:Dsk)⟩:Wld) E).store).idx).names,aO,aP,(((doW (⟨(⟨(⟨aa,ab⟩:Idx),ae,ac⟩:Sto),(⟨af,ag,ah,ai⟩:Dsk)⟩:Wld) E).store).idx).AY,aQ,aR,((doW (⟨(⟨(⟨aa,ab⟩:Idx),ae,ac⟩:Sto),(⟨af,ag,ah,ai⟩:Dsk)⟩:Wld) E).store).parts,aS,aT,((doW (⟨(⟨(⟨aa,ab⟩:Idx),ae,ac⟩:Sto),(⟨af,ag,ah,ai⟩:Dsk)⟩:Wld) E).store).mem,aU,aV,((doW (⟨(⟨(⟨aa,ab⟩:Idx),ae,ac⟩:Sto),(⟨af,ag,ah,ai⟩:Dsk)⟩:Wld) E).disk).files,aW,aX,((doW (⟨(⟨(⟨aa,ab⟩:Idx),ae,ac⟩:Sto),(⟨af,ag,ah,ai⟩:Dsk)⟩:Wld) E).disk).list,aY,aZ,((doW (⟨(⟨(⟨aa,ab⟩:Idx),ae,ac⟩:Sto),(⟨af,ag,ah,ai⟩:Dsk)⟩:Wld) E).disk).names,ba,bd,((doW (⟨(⟨(⟨aa,ab⟩:Idx),ae,ac⟩:Sto),(⟨af,ag,ah,ai⟩:Dsk)⟩:Wld) E).disk).next) _ _ AA (Z.to 1 [0,1,2,3,4,5,6] 16) ⟨AB,(by exact WV.do ‹_› ((by assumption:LsD _) _ ‹_›).1.1)⟩ (by (simp only []; omega))
  refine .r 11<|.d<|.cf<|.s<|.g<|.r 1<|RG.Ln 1 Z<|.r 1<|RG.Ln 0 Z<|RG.C0 (EN (⟨(⟨aa,ab⟩:Idx),ae,ac⟩:Sto) ((doW (⟨(⟨(⟨aa,ab⟩:Idx),ae,ac⟩:Sto),(⟨af,ag,ah,ai⟩:Dsk)⟩:Wld) E).store) (Z.a 9) (Z.a 10) (Z.a 11) (Z.a 12) (Z.a 0) (Z.a 1) (Z.a 2) (Z.a 3) (by assumption:WV ⟨⟨⟨aa,ab⟩,ae,ac⟩,⟨af,ag,ah,ai⟩⟩).sd (WV.do ‹_› ((by assumption:LsD _) _ ‹_›).1.1).sd) Z fun w Z=>?_
  have bE:(Bw (⟨(⟨aa,ab⟩:Idx),ae,ac⟩:Sto) [] 0 99==Bw ((doW (⟨(⟨(⟨aa,ab⟩:Idx),ae,ac⟩:Sto),(⟨af,ag,ah,ai⟩:Dsk)⟩:Wld) E).store) [] 0 99)=true:=(by exact KG (by assumption:WV ⟨⟨⟨aa,ab⟩,ae,ac⟩,⟨af,ag,ah,ai⟩⟩) ((by assumption:LsD _) _ ‹_›).1.1 rfl ((by assumption:LsD _) _ ‹_›).2.1 ((by assumption:LsD _) _ ‹_›).2.2 (fun _=>by omega))
  rw [bE]
  exact .r 1<|.d<|.cf<|.sk<|.g<|RG.Ln 0 Z<|RG.Ss 1 Z fun w Z=>.d<|.ib 3<|.g<|.r 1<|.it ((k2:Int)+1)<|.r 1<|.d<|am (k2+1,(((doW (⟨(⟨(⟨aa,ab⟩:Idx),ae,ac⟩:Sto),(⟨af,ag,ah,ai⟩:Dsk)⟩:Wld) E).store).idx).names,aO,aP,(((doW (⟨(⟨(⟨aa,ab⟩:Idx),ae,ac⟩:Sto),(⟨af,ag,ah,ai⟩:Dsk)⟩:Wld) E).store).idx).AY,aQ,aR,((doW (⟨(⟨(⟨aa,ab⟩:Idx),ae,ac⟩:Sto),(⟨af,ag,ah,ai⟩:Dsk)⟩:Wld) E).store).parts,aS,aT,((doW (⟨(⟨(⟨aa,ab⟩:Idx),ae,ac⟩:Sto),(⟨af,ag,ah,ai⟩:Dsk)⟩:Wld) E).store).mem,aU,aV,((doW (⟨(⟨(⟨aa,ab⟩:Idx),ae,ac⟩:Sto),(⟨af,ag,ah,ai⟩:Dsk)⟩:Wld) E).disk).files,aW,aX,((doW (⟨(⟨(⟨aa,ab⟩:Idx),ae,ac⟩:Sto),(⟨af,ag,ah,ai⟩:Dsk)⟩:Wld) E).disk).list,aY,aZ,((doW (⟨(⟨(⟨aa,ab⟩:Idx),ae,ac⟩:Sto),(⟨af,ag,ah,ai⟩:Dsk)⟩:Wld) E).disk).names,ba,bd,((doW (⟨(⟨(⟨aa,ab⟩:Idx),ae,ac⟩:Sto),(⟨af,ag,ah,ai⟩:Dsk)⟩:Wld) E).disk).next) _ _ AA (Z.to 1 [0,1,2,3,4,5,6] 16) ⟨AB,(by exact WV.do ‹_› ((by assumption:LsD _) _ ‹_›).1.1)⟩ (by (simp only []; omega))
 refine .d<|.cf<|.x 2 rfl<|.s<|.g<|RG.Ln 0 Z<|RG.C0 (Gv (⟨(⟨(⟨aa,ab⟩:Idx),ae,ac⟩:Sto),(⟨af,ag,ah,ai⟩:Dsk)⟩:Wld) (Z.a 0) (Z.a 1) (Z.a 2) (Z.a 3) (Z.a 4) (Z.a 5) (Z.a 6) (SG.of (by assumption:WV ⟨⟨⟨aa,ab⟩,ae,ac⟩,⟨af,ag,ah,ai⟩⟩).sd) (by assumption:WV ⟨⟨⟨aa,ab⟩,ae,ac⟩,⟨af,ag,ah,ai⟩⟩).dd) Z fun w Z=>?_
 have bF:(CQ (⟨(⟨(⟨aa,ab⟩:Idx),ae,ac⟩:Sto),(⟨af,ag,ah,ai⟩:Dsk)⟩:Wld).disk (⟨(⟨(⟨aa,ab⟩:Idx),ae,ac⟩:Sto),(⟨af,ag,ah,ai⟩:Dsk)⟩:Wld).store)=true:=(by assumption:WV ⟨⟨⟨aa,ab⟩,ae,ac⟩,⟨af,ag,ah,ai⟩⟩).fits
 rw [bF]
 exact .r 1<|.d<|T.rt func4 results4 (.bool true) ⟨(AG AF),Z.xt⟩
end Go.Proofs.YtckdhcbbgmiccaaGreat
