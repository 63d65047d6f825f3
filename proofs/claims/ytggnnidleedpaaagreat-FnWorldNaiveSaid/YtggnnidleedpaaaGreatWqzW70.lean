/- walks; pruned haves; hints pruned; squeezed -/
import Derived.Test.YtggnnidleedpaaaGreatWqzW60
open Go.Proofs.Tryz
set_option linter.unusedVariables false
set_option linter.unusedSimpArgs false
namespace Go.Proofs.YtggnnidleedpaaaGreat
set_option maxRecDepth 100000
set_option maxHeartbeats 4000000
variable {w:World} {F:Nat→Prop} {a1 a2 a3 a4 a5 a6 a7 a8 a9 a10 a11 a12 a13 a14:Option Addr} {n1 c1 n2 c2 n3 c3 n4 c4 n5 c5 n6 c6 n7 c7 n8 c8 n9 c9 n10 c10 n11 c11 n12 c12 n13 c13 n14 c14:Nat}
theorem K2  {F:Nat→Prop}   : Calls Tryz.prog 53 [].toArray w (Am fun rv w'=>VS (ge w.heap.size) w' ((⟨[],[],[],1⟩:Dsk):Dsk) rv∧Ext w w'):=by
 refine goT func53 ?_
 have Z:=St.i0 F w
 refine .s<|.g<|RG.Np Z fun E w Z=>.d<|.s<|.g<|RG.N0 Fil 0 Z fun aa w Z=>RG.N0 Int 0 Z fun ab w Z=>RG.N0 (List Tag) 0 Z fun ac w Z=>.r 1<|RG.Ss 3 Z fun w Z=>.d ?_
 have Z:=((Z.sl 2).sl 1).sl 0
 exact T.Rb 0 func53 results53 Z ⟨Z.rS (⟨([]:List Fil),([]:List Int),([]:List (List Tag)),1⟩:Dsk) [2,1,0] AF,Z.xt⟩
theorem Jz  {F:Nat→Prop}   : Calls Tryz.prog 33 [].toArray w (Am fun rv w'=>VS (ge w.heap.size) w' (Cu:Wld) rv∧Ext w w'):=by
 refine goT func33 ?_
 have Z:=St.i0 F w
 refine .s<|.g<|RG.Np Z fun au w Z=>.d<|.s<|.g<|.r 1<|RG.cl (CV (⟨(⟨([]:List (List Tag)),([]:List Pst)⟩:Idx),([]:List Prt),([]:List Smp)⟩:Sto) Z.na Z.na Z.na Z.na WV.new.wd.wi.sto.nm NsD.nil WV.new.sd.sz) ?_
 rintro _ w ⟨⟨ai,ax,aj,ak,ay,al,am,az,ao,aq,aA,ar,rfl,ab,ac,E,ae,aa,af,ag⟩,ah⟩
 cases ab.len
 cases ac.len
 cases E.len
 cases aa.len
 have Z:=Z.so ah [.own 0 am 48 ao (((AZ (⟨(⟨([]:List (List Tag)),([]:List Pst)⟩:Idx),([]:List Prt),([]:List Smp)⟩:Sto))).parts),.own 0 aq 85 ar (((AZ (⟨(⟨([]:List (List Tag)),([]:List Pst)⟩:Idx),([]:List Prt),([]:List Smp)⟩:Sto))).mem)] [.rep ai aj ((((AZ (⟨(⟨([]:List (List Tag)),([]:List Pst)⟩:Idx),([]:List Prt),([]:List Smp)⟩:Sto))).idx).names),.rep ak al ((((AZ (⟨(⟨([]:List (List Tag)),([]:List Pst)⟩:Idx),([]:List Prt),([]:List Smp)⟩:Sto))).idx).AY)] (nd2 ag) (oN E ae (oN aa af o0)) (fc ab (fc ac fn_))
 refine RG.CS (K2 (F:=all)) Z fun aB aC aD aE aF aG w Z=>.r 1<|RG.Ss 2 Z fun w Z=>.d ?_
 have Z:=(Z.sl 0).sl 0
 exact T.Rb 0 func33 results33 Z ⟨Z.rS (⟨(⟨(⟨(((AZ (⟨(⟨([]:List (List Tag)),([]:List Pst)⟩:Idx),([]:List Prt),([]:List Smp)⟩:Sto))).idx).names,(((AZ (⟨(⟨([]:List (List Tag)),([]:List Pst)⟩:Idx),([]:List Prt),([]:List Smp)⟩:Sto))).idx).AY⟩:Idx),((AZ (⟨(⟨([]:List (List Tag)),([]:List Pst)⟩:Idx),([]:List Prt),([]:List Smp)⟩:Sto))).parts,((AZ (⟨(⟨([]:List (List Tag)),([]:List Pst)⟩:Idx),([]:List Prt),([]:List Smp)⟩:Sto))).mem⟩:Sto),(⟨((⟨[],[],[],1⟩:Dsk)).files,((⟨[],[],[],1⟩:Dsk)).list,((⟨[],[],[],1⟩:Dsk)).names,((⟨[],[],[],1⟩:Dsk)).next⟩:Dsk)⟩:Wld) [5,6,1,0,2,3,4] AF,Z.xt⟩
theorem EC (w_:Wld){bx:Nat}{ab0:Option Addr}{nb0 cb0:Nat}(hrb0:RepS w (nin F [bx]) ab0 nb0 cb0 w_.store.idx.names){ab1:Option Addr}{nb1 cb1:Nat}(hrb1:RepS w (nin F [bx]) ab1 nb1 cb1 w_.store.idx.AY){ab2:Option Addr}{nb2 cb2:Nat}(hrb2:RepS w (nin F [bx]) ab2 nb2 cb2 w_.store.parts){ab3:Option Addr}{nb3 cb3:Nat}(hrb3:RepS w (nin F [bx]) ab3 nb3 cb3 w_.store.mem){ab4:Option Addr}{nb4 cb4:Nat}(hrb4:RepS w (nin F [bx]) ab4 nb4 cb4 w_.disk.files){ab5:Option Addr}{nb5 cb5:Nat}(hrb5:RepS w (nin F [bx]) ab5 nb5 cb5 w_.disk.list){ab6:Option Addr}{nb6 cb6:Nat}(hrb6:RepS w (nin F [bx]) ab6 nb6 cb6 w_.disk.names) (hbx:Box w bx 38 [.slice ab0 nb0 cb0,.slice ab1 nb1 cb1,.slice ab2 nb2 cb2,.slice ab3 nb3 cb3,.slice ab4 nb4 cb4,.slice ab5 nb5 cb5,.slice ab6 nb6 cb6,.int .i64 w_.disk.next]) (p0:DD w_.disk) (p1:Ax w_.disk=true):Calls Tryz.prog 59 [.pointer (some ⟨bx,0,none⟩)].toArray w (Am fun rv w'=>(rv=.tuple #[]∧(∃ (ao0:Option Addr) (no0 co0:Nat) (ao1:Option Addr) (no1 co1:Nat) (ao2:Option Addr) (no2 co2:Nat) (ao3:Option Addr) (no3 co3:Nat) (ao4:Option Addr) (no4 co4:Nat) (ao5:Option Addr) (no5 co5:Nat) (ao6:Option Addr) (no6 co6:Nat),Box w' bx 38 [.slice ao0 no0 co0,.slice ao1 no1 co1,.slice ao2 no2 co2,.slice ao3 no3 co3,.slice ao4 no4 co4,.slice ao5 no5 co5,.slice ao6 no6 co6,.int .i64 ((((BB w_)).disk).next)]∧RepS w' (nin (fo F w.heap.size) [bx]) ao0 no0 co0 (((((BB w_)).store).idx).names)∧RepS w' (nin (fo F w.heap.size) [bx]) ao1 no1 co1 (((((BB w_)).store).idx).AY)∧RepS w' (nin (fo F w.heap.size) [bx]) ao2 no2 co2 ((((BB w_)).store).parts)∧RepS w' (nin (fo F w.heap.size) [bx]) ao3 no3 co3 ((((BB w_)).store).mem)∧RepS w' (nin (fo F w.heap.size) [bx]) ao4 no4 co4 ((((BB w_)).disk).files)∧RepS w' (nin (fo F w.heap.size) [bx]) ao5 no5 co5 ((((BB w_)).disk).list)∧RepS w' (nin (fo F w.heap.size) [bx]) ao6 no6 co6 ((((BB w_)).disk).names)))∧Chg (ins [bx]) w w'):=by
 cases hrb0.len
 cases hrb1.len
 cases hrb2.len
 cases hrb3.len
 cases hrb4.len
 cases hrb5.len
 cases hrb6.len
 refine goT func59 ?_
 have Z:=(((((((St.i2 F hbx).p1 hrb0).p1 hrb1).p1 hrb2).p1 hrb3).p1 hrb4).p1 hrb5).p1 hrb6
 refine .s<|.g<|.r 4<|RG.Ln 0 Z<|RG.CS (Jy w_.disk (Z.a 2) (Z.a 1) (Z.a 0) p0) Z fun E aa ab ac ae af w Z=>.r 2<|RG.Ss 0 Z fun w Z=>.d<|.g<|.r 4<|RG.Ln 0 Z<|RG.CS (CJ (CF w_.disk) (Z.mg 1 0) (Z.mg 1 1) (Z.mg 1 2) (UC p0)) Z fun ag ah ai aj ak al am ao w Z=>.r 2<|RG.Ss 0 Z fun w Z=>.d<|T.FR func59 results59 ?_
 rw [show (BB w_)=(⟨(⟨(⟨((Bg (CF w_.disk)).idx).names,((Bg (CF w_.disk)).idx).AY⟩:Idx),(Bg (CF w_.disk)).parts,(Bg (CF w_.disk)).mem⟩:Sto),(⟨(CF w_.disk).files,(CF w_.disk).list,(CF w_.disk).names,(CF w_.disk).next⟩:Dsk)⟩:Wld) from by exact Vg p0 p1]
 exact ⟨⟨rfl,ag,(((Bg (CF w_.disk)).idx).names).length,ah,ai,(((Bg (CF w_.disk)).idx).AY).length,aj,ak,((Bg (CF w_.disk)).parts).length,al,am,((Bg (CF w_.disk)).mem).length,ao,E,(CF w_.disk).files.length,aa,ab,(CF w_.disk).list.length,ac,ae,(CF w_.disk).names.length,af,Z.bc 0,Z.qr (g:=1) [0] 0 (((Bg (CF w_.disk)).idx).names) rfl,Z.qr (g:=1) [0] 1 (((Bg (CF w_.disk)).idx).AY) rfl,Z.qr (g:=1) [0] 2 ((Bg (CF w_.disk)).parts) rfl,Z.qr (g:=1) [0] 3 ((Bg (CF w_.disk)).mem) rfl,Z.qr (g:=1) [0] 4 ((CF w_.disk).files) rfl,Z.qr (g:=1) [0] 5 ((CF w_.disk).list) rfl,Z.qr (g:=1) [0] 6 ((CF w_.disk).names) rfl⟩,Z.ch⟩
theorem Di (w_:Wld) (e:Evt){bx:Nat}{ab0:Option Addr}{nb0 cb0:Nat}(hrb0:RepS w (nin F [bx]) ab0 nb0 cb0 w_.store.idx.names){ab1:Option Addr}{nb1 cb1:Nat}(hrb1:RepS w (nin F [bx]) ab1 nb1 cb1 w_.store.idx.AY){ab2:Option Addr}{nb2 cb2:Nat}(hrb2:RepS w (nin F [bx]) ab2 nb2 cb2 w_.store.parts){ab3:Option Addr}{nb3 cb3:Nat}(hrb3:RepS w (nin F [bx]) ab3 nb3 cb3 w_.store.mem){ab4:Option Addr}{nb4 cb4:Nat}(hrb4:RepS w (nin F [bx]) ab4 nb4 cb4 w_.disk.files){ab5:Option Addr}{nb5 cb5:Nat}(hrb5:RepS w (nin F [bx]) ab5 nb5 cb5 w_.disk.list){ab6:Option Addr}{nb6 cb6:Nat}(hrb6:RepS w (nin F [bx]) ab6 nb6 cb6 w_.disk.names) (hbx:Box w bx 38 [.slice ab0 nb0 cb0,.slice ab1 nb1 cb1,.slice ab2 nb2 cb2,.slice ab3 nb3 cb3,.slice ab4 nb4 cb4,.slice ab5 nb5 cb5,.slice ab6 nb6 cb6,.int .i64 w_.disk.next]) (h1:RepS w (nin F [bx]) a1 n1 c1 e.name) (p0:WV w_) (p1:NmD e.name):Calls Tryz.prog 34 [.pointer (some ⟨bx,0,none⟩),.agg #[.int .i64 e.kind,.int .i64 e.at_,.int .i64 e.cut,.slice a1 n1 c1,.int .i64 e.row.t,.int .i64 e.row.v]].toArray w (Am fun rv w'=>(rv=.tuple #[]∧(∃ (ao0:Option Addr) (no0 co0:Nat) (ao1:Option Addr) (no1 co1:Nat) (ao2:Option Addr) (no2 co2:Nat) (ao3:Option Addr) (no3 co3:Nat) (ao4:Option Addr) (no4 co4:Nat) (ao5:Option Addr) (no5 co5:Nat) (ao6:Option Addr) (no6 co6:Nat),Box w' bx 38 [.slice ao0 no0 co0,.slice ao1 no1 co1,.slice ao2 no2 co2,.slice ao3 no3 co3,.slice ao4 no4 co4,.slice ao5 no5 co5,.slice ao6 no6 co6,.int .i64 ((((doW w_ e)).disk).next)]∧RepS w' (nin (fo F w.heap.size) [bx]) ao0 no0 co0 (((((doW w_ e)).store).idx).names)∧RepS w' (nin (fo F w.heap.size) [bx]) ao1 no1 co1 (((((doW w_ e)).store).idx).AY)∧RepS w' (nin (fo F w.heap.size) [bx]) ao2 no2 co2 ((((doW w_ e)).store).parts)∧RepS w' (nin (fo F w.heap.size) [bx]) ao3 no3 co3 ((((doW w_ e)).store).mem)∧RepS w' (nin (fo F w.heap.size) [bx]) ao4 no4 co4 ((((doW w_ e)).disk).files)∧RepS w' (nin (fo F w.heap.size) [bx]) ao5 no5 co5 ((((doW w_ e)).disk).list)∧RepS w' (nin (fo F w.heap.size) [bx]) ao6 no6 co6 ((((doW w_ e)).disk).names)))∧Chg (ins [bx]) w w'):=by
 refine goT func34 ?_
 have hcv_bx:Cov (ins [bx]) w bx:=Cov.mkI AI
 obtain rfl:=hrb0.len
 replace hrb0:=hrb0.IZ (s:=w.heap.size)
 obtain rfl:=hrb1.len
 replace hrb1:=hrb1.IZ (s:=w.heap.size)
 obtain rfl:=hrb2.len
 replace hrb2:=hrb2.IZ (s:=w.heap.size)
 obtain rfl:=hrb3.len
 replace hrb3:=hrb3.IZ (s:=w.heap.size)
 obtain rfl:=hrb4.len
 replace hrb4:=hrb4.IZ (s:=w.heap.size)
 obtain rfl:=hrb5.len
 replace hrb5:=hrb5.IZ (s:=w.heap.size)
 obtain rfl:=hrb6.len
 replace hrb6:=hrb6.IZ (s:=w.heap.size)
 obtain rfl:=h1.len
 replace h1:=h1.IZ (s:=w.heap.size)
 refine .s<|.g<|.np 58 [vI e.kind,vI e.at_,vI e.cut,.slice a1 e.name.length c1,vI e.row.t,vI e.row.v] fun ae iF d6 d7 aa gF=>?_
 have j0:=Ab d6 hbx.lt
 replace ⟨hrb0,hrb1,hrb2,hrb3,hrb4,hrb5,hrb6,hbx,h1⟩:=(sn [bx] d7 d6).g9 hrb0 hrb1 hrb2 hrb3 hrb4 hrb5 hrb6 hbx h1
 have E:Chg (ins [bx]) w iF:=Chg.GX (Chg.refl (ins [bx]) w) d7
 refine .d<|.s<|.g<|.ns 0 137 [] fun ac iG dG eF gG gH=>?_
 have eG:=Ab dG hbx.lt
 have d8:=Ab dG aa.lt
 replace ⟨hrb0,hrb1,hrb2,hrb3,hrb4,hrb5,hrb6,hbx,h1,aa,E⟩:=(sn [ae,bx] eF dG).g11 hrb0 hrb1 hrb2 hrb3 hrb4 hrb5 hrb6 hbx h1 aa E
 have ab:Own (α:=Stp) iG ac 137 (nin (fo F w.heap.size) [ac,ae,bx]) 0 0 []:=Own.BN gG
 refine .r 1<|.d<|.s<|.g<|.r 3<|.ln hbx<|.np 32 [AH,AH,AH,AH] fun af lV bD eH gI gJ=>?_
 have gK:=Ab bD hbx.lt
 have gL:=Ab bD aa.lt
 have j1:=Ab bD ab.lt
 have j2:=E.cn bD
 replace ⟨hrb0,hrb1,hrb2,hrb3,hrb4,hrb5,hrb6,hbx,h1,aa,ab,E⟩:=(sn [ac,ae,bx] eH bD).g12 hrb0 hrb1 hrb2 hrb3 hrb4 hrb5 hrb6 hbx h1 aa ab E
 refine .sc [.slice ab0 w_.store.idx.names.length cb0,.slice ab1 w_.store.idx.AY.length cb1,.slice ab2 w_.store.parts.length cb2,.slice ab3 w_.store.mem.length cb3] gI fun bC eI ag gM=>?_
 replace ⟨hrb0,hrb1,hrb2,hrb3,hrb4,hrb5,hrb6,hbx,h1,aa,ab,E⟩:=(so [af,ac,ae,bx] eI).g12 hrb0 hrb1 hrb2 hrb3 hrb4 hrb5 hrb6 hbx h1 aa ab E
 refine .d<|.s<|.s<|.g<|.r 1<|.lb aa<|.d<|.b 0<|.s<|.g<|.eq e.kind 1 (fun gN=>?_) (fun gN=>?_)
 ·refine .r 1<|.d<|.ct<|.s ?_
  replace hrb0:=hrb0.Cn
  replace hrb1:=hrb1.Cn
  replace hrb2:=hrb2.Cn
  replace hrb3:=hrb3.Cn
  replace hrb4:=hrb4.Cn
  replace hrb5:=hrb5.Cn
  replace hrb6:=hrb6.Cn
  replace h1:=h1.Cn
  have gO:Gb (bx+1) bC.heap.size:=hbx.lt
  have eJ:Gb (ae+1) bC.heap.size:=aa.lt
  refine .gd (mtb [ac] bC.heap.size) 14 fun iH dH=>?_
  replace ⟨hrb0,hrb1,hrb2,hrb3,hrb4,hrb5,hrb6,hbx,h1,aa,ab,ag⟩:=(se [af,ac,ae,bx] dH).g12 hrb0 hrb1 hrb2 hrb3 hrb4 hrb5 hrb6 hbx h1 aa ab ag
  replace E:=(se [af,ac,ae,bx] dH).g1 E
  have ah:Chg (mtb [ac] bC.heap.size) bC iH:=Chg.GX (Chg.refl (mtb [ac] bC.heap.size) bC) dH
  refine .r [0,1,2]<|.ln 3 hbx (Cz (all_cons (Nb.symm eG) all_nil) gO)<|.r [4]<|.lb 5 aa (Cz (all_cons (Nb.symm d8) all_nil) eJ)<|.r [6]<|.ln 7 aa (Cz (all_cons (Nb.symm d8) all_nil) eJ)<|.tw 8 12 ?_ ?_
  ·refine .cl (fun eN bh=>GJ w_.store e.name e.row ((hrb0.base (fun _ _ h=>h.1)).ext bh) ((hrb1.base (fun _ _ h=>h.1)).ext bh) ((hrb2.base (fun _ _ h=>h.1)).ext bh) ((hrb3.base (fun _ _ h=>h.1)).ext bh) ((h1.base (fun _ _ h=>h.1)).ext bh) p0.sd p1 (w:=eN) (F:=nin (fo F w.heap.size) [af,ac,ae,bx])) ?_
   intro eN bh
   replace ⟨hrb0,hrb1,hrb2,hrb3,hrb4,hrb5,hrb6,hbx,h1,aa,ab,ag⟩:=(se [af,ac,ae,bx] bh).g12 hrb0 hrb1 hrb2 hrb3 hrb4 hrb5 hrb6 hbx h1 aa ab ag
   replace ⟨E,ah⟩:=(se [af,ac,ae,bx] bh).g2 E ah
   rintro lW lX ⟨⟨lY,rfl,⟨_,rfl,⟨cF,lZ,cG,cH,l0,cI,cJ,l3,cK,cL,l4,cM,rfl,aE,aF,aG,aH⟩⟩⟩,dI⟩
   have bV:=al4 ag.lt ab.lt aa.lt hbx.lt
   have dJ:Gb w.heap.size eN.heap.size:=E.size
   have hkeep_:=dI
   replace ⟨hrb0,hrb1,hrb2,hrb3,hrb4,hrb5,hrb6,hbx,h1,aa,ab,ag⟩:=(se [af,ac,ae,bx] dI).g12 hrb0 hrb1 hrb2 hrb3 hrb4 hrb5 hrb6 hbx h1 aa ab ag
   replace ⟨E,ah⟩:=(se [af,ac,ae,bx] dI).g2 E ah
   refine ⟨Ext.chg hkeep_,?_⟩
   replace aE:=RepS.Bs (M:=[af,ac,ae,bx]) aE bV dJ
   have j3:=aE.max
   replace aF:=RepS.Bs (M:=[af,ac,ae,bx]) aF bV dJ
   have j4:=aF.max
   replace aG:=RepS.Bs (M:=[af,ac,ae,bx]) aG bV dJ
   have j5:=aG.max
   replace aH:=RepS.Bs (M:=[af,ac,ae,bx]) aH bV dJ
   have iI:=aH.max
   have eO:=aE.len
   subst eO
   have eP:=aF.len
   subst eP
   have eQ:=aG.len
   subst eQ
   have eR:=aH.len
   subst eR
   refine .r [9,10] ?_
   cases iJ:(BS w_.store e.name e.row).2
   ·refine .r [11]<|.go 12<|.nw (fun b=>.pointer (some ⟨b,0,none⟩)) 32 [AH,AH,AH,AH] fun j6 cN=>?_
    replace ⟨hrb0,hrb1,hrb2,hrb3,hrb4,hrb5,hrb6,hbx,h1,aa,ab,ag⟩:=(se [af,ac,ae,bx] cN).g12 hrb0 hrb1 hrb2 hrb3 hrb4 hrb5 hrb6 hbx h1 aa ab ag
    replace ⟨aE,aF,aG,aH,E,ah⟩:=(se [af,ac,ae,bx] cN).g6 aE aF aG aH E ah
    intro bE j7 aO cO eS eT
    have iK:=Ab aO hbx.lt
    have iL:=Ab aO aa.lt
    have iM:=Ab aO ab.lt
    have iN:=Ab aO ag.lt
    have iO:=E.cn aO
    have eU:=ah.cn aO
    replace ⟨hrb0,hrb1,hrb2,hrb3,hrb4,hrb5,hrb6,hbx,h1,aa,ab,ag⟩:=(sn [af,ac,ae,bx] cO aO).g12 hrb0 hrb1 hrb2 hrb3 hrb4 hrb5 hrb6 hbx h1 aa ab ag
    replace ⟨aE,aF,aG,aH,E,ah⟩:=(sn [af,ac,ae,bx] cO aO).g6 aE aF aG aH E ah
    refine .go 13<|GE.Ew (t':=32) (o:=0) (v:=.agg #[.slice cF ((BS w_.store e.name e.row).1.idx.names.length) cG,.slice cH ((((BS w_.store e.name e.row).1.idx).AY).length) cI,.slice cJ ((BS w_.store e.name e.row).1.parts.length) cK,.slice cL ((BS w_.store e.name e.row).1.mem.length) cM]) [.slice cF ((BS w_.store e.name e.row).1.idx.names.length) cG,.slice cH ((((BS w_.store e.name e.row).1.idx).AY).length) cI,.slice cJ ((BS w_.store e.name e.row).1.parts.length) cK,.slice cL ((BS w_.store e.name e.row).1.mem.length) cM] eS AA AA AA fun j8 cP=>?_
    replace ⟨hrb0,hrb1,hrb2,hrb3,hrb4,hrb5,hrb6,hbx,h1,aa,ab,ag⟩:=(se [bE,af,ac,ae,bx] cP).g12 hrb0 hrb1 hrb2 hrb3 hrb4 hrb5 hrb6 hbx h1 aa ab ag
    replace ⟨aE,aF,aG,aH,E,ah⟩:=(se [bE,af,ac,ae,bx] cP).g6 aE aF aG aH E ah
    intro j9 bF iP eV
    have hkeep_:=Chg.toS bF (Cov.toS eU)
    replace ⟨hrb0,hrb1,hrb2,hrb3,hrb4,hrb5,hrb6,hbx,h1,aa,ab,ag⟩:=(so [bE,af,ac,ae,bx] bF).g12 hrb0 hrb1 hrb2 hrb3 hrb4 hrb5 hrb6 hbx h1 aa ab ag
    replace ⟨aE,aF,aG,aH,E,ah⟩:=(so [bE,af,ac,ae,bx] bF).g6 aE aF aG aH E ah
    refine ⟨hkeep_,?_⟩
    refine .d fun ka cQ=>?_
    replace ⟨hrb0,hrb1,hrb2,hrb3,hrb4,hrb5,hrb6,hbx,h1,aa,ab,ag⟩:=(se [bE,af,ac,ae,bx] cQ).g12 hrb0 hrb1 hrb2 hrb3 hrb4 hrb5 hrb6 hbx h1 aa ab ag
    replace ⟨aE,aF,aG,aH,E,ah⟩:=(se [bE,af,ac,ae,bx] cQ).g6 aE aF aG aH E ah
    replace hrb0:=hrb0.BL
    replace hrb1:=hrb1.BL
    replace hrb2:=hrb2.BL
    replace hrb3:=hrb3.BL
    replace hrb4:=hrb4.BL
    replace hrb5:=hrb5.BL
    replace hrb6:=hrb6.BL
    replace h1:=h1.BL
    refine .r 1<|.d<|.s<|.g<|.r 1<|.d<|.cf<|.sk<|.ib 0<|.s<|.s<|.g<|.r 8<|.d<|.ct<|T.KH AA func34 results34 ?_
    rw [show (doW w_ e)=w_ from by exact Ue p0 (by with_reducible assumption) (by with_reducible assumption)]
    exact ⟨⟨rfl,ab0,w_.store.idx.names.length,cb0,ab1,w_.store.idx.AY.length,cb1,ab2,w_.store.parts.length,cb2,ab3,w_.store.mem.length,cb3,ab4,w_.disk.files.length,cb4,ab5,w_.disk.list.length,cb5,ab6,w_.disk.names.length,cb6,hbx,(RepS.Ao hrb0 (all_cons AM all_nil)),(RepS.Ao hrb1 (all_cons AM all_nil)),(RepS.Ao hrb2 (all_cons AM all_nil)),(RepS.Ao hrb3 (all_cons AM all_nil)),(RepS.Ao hrb4 (all_cons AM all_nil)),(RepS.Ao hrb5 (all_cons AM all_nil)),(RepS.Ao hrb6 (all_cons AM all_nil))⟩,E⟩
   refine .r [11]<|.go 12<|.nw (fun b=>.pointer (some ⟨b,0,none⟩)) 32 [AH,AH,AH,AH] fun kb cR=>?_
   replace ⟨hrb0,hrb1,hrb2,hrb3,hrb4,hrb5,hrb6,hbx,h1,aa,ab,ag⟩:=(se [af,ac,ae,bx] cR).g12 hrb0 hrb1 hrb2 hrb3 hrb4 hrb5 hrb6 hbx h1 aa ab ag
   replace ⟨aE,aF,aG,aH,E,ah⟩:=(se [af,ac,ae,bx] cR).g6 aE aF aG aH E ah
   intro bi kd aP cS eW eX
   have iQ:=Ab aP hbx.lt
   have iR:=Ab aP aa.lt
   have iS:=Ab aP ab.lt
   have iT:=Ab aP ag.lt
   have iU:=E.cn aP
   have eY:=ah.cn aP
   replace ⟨hrb0,hrb1,hrb2,hrb3,hrb4,hrb5,hrb6,hbx,h1,aa,ab,ag⟩:=(sn [af,ac,ae,bx] cS aP).g12 hrb0 hrb1 hrb2 hrb3 hrb4 hrb5 hrb6 hbx h1 aa ab ag
   replace ⟨aE,aF,aG,aH,E,ah⟩:=(sn [af,ac,ae,bx] cS aP).g6 aE aF aG aH E ah
   refine .go 13<|GE.Ew (t':=32) (o:=0) (v:=.agg #[.slice cF ((BS w_.store e.name e.row).1.idx.names.length) cG,.slice cH ((((BS w_.store e.name e.row).1.idx).AY).length) cI,.slice cJ ((BS w_.store e.name e.row).1.parts.length) cK,.slice cL ((BS w_.store e.name e.row).1.mem.length) cM]) [.slice cF ((BS w_.store e.name e.row).1.idx.names.length) cG,.slice cH ((((BS w_.store e.name e.row).1.idx).AY).length) cI,.slice cJ ((BS w_.store e.name e.row).1.parts.length) cK,.slice cL ((BS w_.store e.name e.row).1.mem.length) cM] eW AA AA AA fun ke cT=>?_
   replace ⟨hrb0,hrb1,hrb2,hrb3,hrb4,hrb5,hrb6,hbx,h1,aa,ab,ag⟩:=(se [bi,af,ac,ae,bx] cT).g12 hrb0 hrb1 hrb2 hrb3 hrb4 hrb5 hrb6 hbx h1 aa ab ag
   replace ⟨aE,aF,aG,aH,E,ah⟩:=(se [bi,af,ac,ae,bx] cT).g6 aE aF aG aH E ah
   intro kf bG cU eZ
   have hkeep_:=Chg.toS bG (Cov.toS eY)
   replace ⟨hrb0,hrb1,hrb2,hrb3,hrb4,hrb5,hrb6,hbx,h1,aa,ab,ag⟩:=(so [bi,af,ac,ae,bx] bG).g12 hrb0 hrb1 hrb2 hrb3 hrb4 hrb5 hrb6 hbx h1 aa ab ag
   replace ⟨aE,aF,aG,aH,E,ah⟩:=(so [bi,af,ac,ae,bx] bG).g6 aE aF aG aH E ah
   refine ⟨hkeep_,?_⟩
   refine .d fun kg cV=>?_
   replace ⟨hrb0,hrb1,hrb2,hrb3,hrb4,hrb5,hrb6,hbx,h1,aa,ab,ag⟩:=(se [bi,af,ac,ae,bx] cV).g12 hrb0 hrb1 hrb2 hrb3 hrb4 hrb5 hrb6 hbx h1 aa ab ag
   replace ⟨aE,aF,aG,aH,cU,E,ah⟩:=(se [bi,af,ac,ae,bx] cV).g7 aE aF aG aH cU E ah
   replace hrb0:=hrb0.BL
   replace hrb1:=hrb1.BL
   replace hrb2:=hrb2.BL
   replace hrb3:=hrb3.BL
   replace hrb4:=hrb4.BL
   replace hrb5:=hrb5.BL
   replace hrb6:=hrb6.BL
   replace h1:=h1.BL
   refine .r 1<|.d<|.s<|.g<|.r 1<|.d<|.ct<|.g<|.r 1<|.ln cU<|.r 2<|.sb 0 (.agg #[.slice cF ((BS w_.store e.name e.row).1.idx.names.length) cG,.slice cH ((((BS w_.store e.name e.row).1.idx).AY).length) cI,.slice cJ ((BS w_.store e.name e.row).1.parts.length) cK,.slice cL ((BS w_.store e.name e.row).1.mem.length) cM]) [.slice cF ((BS w_.store e.name e.row).1.idx.names.length) cG,.slice cH ((((BS w_.store e.name e.row).1.idx).AY).length) cI,.slice cJ ((BS w_.store e.name e.row).1.parts.length) cK,.slice cL ((BS w_.store e.name e.row).1.mem.length) cM,.slice ab4 w_.disk.files.length cb4,.slice ab5 w_.disk.list.length cb5,.slice ab6 w_.disk.names.length cb6,vI w_.disk.next] hbx fun kh cW e7 e8=>?_
   replace ⟨hrb0,hrb1,hrb2,hrb3,hrb4,hrb5,hrb6,h1,aa,ab,ag,aE⟩:=(so [bi,af,ac,ae,bx] cW).g12 hrb0 hrb1 hrb2 hrb3 hrb4 hrb5 hrb6 h1 aa ab ag aE
   replace ⟨aF,aG,aH,E⟩:=(so [bi,af,ac,ae,bx] cW).g4 aF aG aH E
   refine .d<|.ib 0<|.s<|.s<|.g<|.r 8<|.d<|.ct<|T.KH AA func34 results34 ?_
   rw [show (doW w_ e)=(⟨(⟨(⟨(BS w_.store e.name e.row).1.idx.names,((BS w_.store e.name e.row).1.idx).AY⟩:Idx),(BS w_.store e.name e.row).1.parts,(BS w_.store e.name e.row).1.mem⟩:Sto),(⟨w_.disk.files,w_.disk.list,w_.disk.names,w_.disk.next⟩:Dsk)⟩:Wld) from by exact do_1 p0 (by with_reducible assumption) (by with_reducible assumption)]
   exact ⟨⟨rfl,cF,(BS w_.store e.name e.row).1.idx.names.length,cG,cH,(((BS w_.store e.name e.row).1.idx).AY).length,cI,cJ,(BS w_.store e.name e.row).1.parts.length,cK,cL,(BS w_.store e.name e.row).1.mem.length,cM,ab4,w_.disk.files.length,cb4,ab5,w_.disk.list.length,cb5,ab6,w_.disk.names.length,cb6,e7,(RepS.Ao aE (all_cons AM all_nil)),(RepS.Ao aF (all_cons AM all_nil)),(RepS.Ao aG (all_cons AM all_nil)),(RepS.Ao aH (all_cons AM all_nil)),(RepS.Ao hrb4 (all_cons AM all_nil)),(RepS.Ao hrb5 (all_cons AM all_nil)),(RepS.Ao hrb6 (all_cons AM all_nil))⟩,E⟩
  refine .nw (fun b=>.pointer (some ⟨b,0,none⟩)) 32 [AH,AH,AH,AH] fun ki cX=>?_
  replace ⟨hrb0,hrb1,hrb2,hrb3,hrb4,hrb5,hrb6,hbx,h1,aa,ab,ag⟩:=(se [af,ac,ae,bx] cX).g12 hrb0 hrb1 hrb2 hrb3 hrb4 hrb5 hrb6 hbx h1 aa ab ag
  replace ⟨E,ah⟩:=(se [af,ac,ae,bx] cX).g2 E ah
  intro ao kj aQ cY aR fa
  have iV:=Ab aQ hbx.lt
  have iW:=Ab aQ aa.lt
  have iX:=Ab aQ ab.lt
  have iY:=Ab aQ ag.lt
  have iZ:=E.cn aQ
  have d9:=ah.cn aQ
  replace ⟨hrb0,hrb1,hrb2,hrb3,hrb4,hrb5,hrb6,hbx,h1,aa,ab,ag⟩:=(sn [af,ac,ae,bx] cY aQ).g12 hrb0 hrb1 hrb2 hrb3 hrb4 hrb5 hrb6 hbx h1 aa ab ag
  replace E:=(sn [af,ac,ae,bx] cY aQ).g1 E
  refine .go 8<|.cl (fun ec aT=>GJ w_.store e.name e.row ((hrb0.base (fun _ _ h=>h.1)).ext aT) ((hrb1.base (fun _ _ h=>h.1)).ext aT) ((hrb2.base (fun _ _ h=>h.1)).ext aT) ((hrb3.base (fun _ _ h=>h.1)).ext aT) ((h1.base (fun _ _ h=>h.1)).ext aT) p0.sd p1 (w:=ec) (F:=nin (fo F w.heap.size) [ao,af,ac,ae,bx])) ?_
  intro ec aT
  replace ⟨hrb0,hrb1,hrb2,hrb3,hrb4,hrb5,hrb6,hbx,aa,ab,ag,aR⟩:=(se [ao,af,ac,ae,bx] aT).g12 hrb0 hrb1 hrb2 hrb3 hrb4 hrb5 hrb6 hbx aa ab ag aR
  replace E:=(se [ao,af,ac,ae,bx] aT).g1 E
  rintro kk kl ⟨⟨km,rfl,⟨_,rfl,⟨bn,ko,bo,bq,kr,br,bt,ks,bu,bv,kt,bw,rfl,aA,aB,aC,aD⟩⟩⟩,bH⟩
  have bz:=al5 aR.lt ag.lt ab.lt aa.lt hbx.lt
  have bI:Gb w.heap.size ec.heap.size:=E.size
  have hkeep_:=bH
  replace ⟨hrb0,hrb1,hrb2,hrb3,hrb4,hrb5,hrb6,hbx,aa,ab,ag,aR⟩:=(se [ao,af,ac,ae,bx] bH).g12 hrb0 hrb1 hrb2 hrb3 hrb4 hrb5 hrb6 hbx aa ab ag aR
  replace E:=(se [ao,af,ac,ae,bx] bH).g1 E
  refine ⟨Ext.chg hkeep_,?_⟩
  replace aA:=RepS.Bs (M:=[ao,af,ac,ae,bx]) aA bz bI
  have ja:=aA.max
  replace aB:=RepS.Bs (M:=[ao,af,ac,ae,bx]) aB bz bI
  have jb:=aB.max
  replace aC:=RepS.Bs (M:=[ao,af,ac,ae,bx]) aC bz bI
  have jc:=aC.max
  replace aD:=RepS.Bs (M:=[ao,af,ac,ae,bx]) aD bz bI
  have jd:=aD.max
  have fb:=aA.len
  subst fb
  have fd:=aB.len
  subst fd
  have fe:=aC.len
  subst fe
  have ff:=aD.len
  subst ff
  refine .r [9,10] ?_
  cases je:(BS w_.store e.name e.row).2
  ·refine .r [11]<|.go 13<|GE.Ew (t':=32) (o:=0) (v:=.agg #[.slice bn ((BS w_.store e.name e.row).1.idx.names.length) bo,.slice bq ((((BS w_.store e.name e.row).1.idx).AY).length) br,.slice bt ((BS w_.store e.name e.row).1.parts.length) bu,.slice bv ((BS w_.store e.name e.row).1.mem.length) bw]) [.slice bn ((BS w_.store e.name e.row).1.idx.names.length) bo,.slice bq ((((BS w_.store e.name e.row).1.idx).AY).length) br,.slice bt ((BS w_.store e.name e.row).1.parts.length) bu,.slice bv ((BS w_.store e.name e.row).1.mem.length) bw] aR AA AA AA fun ku cZ=>?_
   replace ⟨hrb0,hrb1,hrb2,hrb3,hrb4,hrb5,hrb6,hbx,aa,ab,ag,aR⟩:=(se [ao,af,ac,ae,bx] cZ).g12 hrb0 hrb1 hrb2 hrb3 hrb4 hrb5 hrb6 hbx aa ab ag aR
   replace ⟨aA,aB,aC,aD,E⟩:=(se [ao,af,ac,ae,bx] cZ).g5 aA aB aC aD E
   intro kv bJ jf fg
   have hkeep_:=Chg.toS bJ (Cov.toS d9)
   replace ⟨hrb0,hrb1,hrb2,hrb3,hrb4,hrb5,hrb6,hbx,aa,ab,ag,aA⟩:=(so [ao,af,ac,ae,bx] bJ).g12 hrb0 hrb1 hrb2 hrb3 hrb4 hrb5 hrb6 hbx aa ab ag aA
   replace ⟨aB,aC,aD,E⟩:=(so [ao,af,ac,ae,bx] bJ).g4 aB aC aD E
   refine ⟨hkeep_,?_⟩
   refine .d fun kw c7=>?_
   replace ⟨hrb0,hrb1,hrb2,hrb3,hrb4,hrb5,hrb6,hbx,aa,ab,ag,aA⟩:=(se [ao,af,ac,ae,bx] c7).g12 hrb0 hrb1 hrb2 hrb3 hrb4 hrb5 hrb6 hbx aa ab ag aA
   replace ⟨aB,aC,aD,E⟩:=(se [ao,af,ac,ae,bx] c7).g4 aB aC aD E
   replace hrb0:=hrb0.BL
   replace hrb1:=hrb1.BL
   replace hrb2:=hrb2.BL
   replace hrb3:=hrb3.BL
   replace hrb4:=hrb4.BL
   replace hrb5:=hrb5.BL
   replace hrb6:=hrb6.BL
   refine .r 1<|.d<|.s<|.g<|.r 1<|.d<|.cf<|.sk<|.ib 0<|.s<|.s<|.g<|.r 8<|.d<|.ct<|T.KH AA func34 results34 ?_
   rw [show (doW w_ e)=w_ from by exact Ue p0 (by with_reducible assumption) (by with_reducible assumption)]
   exact ⟨⟨rfl,ab0,w_.store.idx.names.length,cb0,ab1,w_.store.idx.AY.length,cb1,ab2,w_.store.parts.length,cb2,ab3,w_.store.mem.length,cb3,ab4,w_.disk.files.length,cb4,ab5,w_.disk.list.length,cb5,ab6,w_.disk.names.length,cb6,hbx,(RepS.Ao hrb0 (all_cons AM all_nil)),(RepS.Ao hrb1 (all_cons AM all_nil)),(RepS.Ao hrb2 (all_cons AM all_nil)),(RepS.Ao hrb3 (all_cons AM all_nil)),(RepS.Ao hrb4 (all_cons AM all_nil)),(RepS.Ao hrb5 (all_cons AM all_nil)),(RepS.Ao hrb6 (all_cons AM all_nil))⟩,E⟩
  refine .r [11]<|.go 13<|GE.Ew (t':=32) (o:=0) (v:=.agg #[.slice bn ((BS w_.store e.name e.row).1.idx.names.length) bo,.slice bq ((((BS w_.store e.name e.row).1.idx).AY).length) br,.slice bt ((BS w_.store e.name e.row).1.parts.length) bu,.slice bv ((BS w_.store e.name e.row).1.mem.length) bw]) [.slice bn ((BS w_.store e.name e.row).1.idx.names.length) bo,.slice bq ((((BS w_.store e.name e.row).1.idx).AY).length) br,.slice bt ((BS w_.store e.name e.row).1.parts.length) bu,.slice bv ((BS w_.store e.name e.row).1.mem.length) bw] aR AA AA AA fun kx c8=>?_
  replace ⟨hrb0,hrb1,hrb2,hrb3,hrb4,hrb5,hrb6,hbx,aa,ab,ag,aA⟩:=(se [ao,af,ac,ae,bx] c8).g12 hrb0 hrb1 hrb2 hrb3 hrb4 hrb5 hrb6 hbx aa ab ag aA
  replace ⟨aB,aC,aD,E⟩:=(se [ao,af,ac,ae,bx] c8).g4 aB aC aD E
  intro ky bK c9 fi
  have hkeep_:=Chg.toS bK (Cov.toS d9)
  replace ⟨hrb0,hrb1,hrb2,hrb3,hrb4,hrb5,hrb6,hbx,aa,ab,ag,aA⟩:=(so [ao,af,ac,ae,bx] bK).g12 hrb0 hrb1 hrb2 hrb3 hrb4 hrb5 hrb6 hbx aa ab ag aA
  replace ⟨aB,aC,aD,E⟩:=(so [ao,af,ac,ae,bx] bK).g4 aB aC aD E
  refine ⟨hkeep_,?_⟩
  refine .d fun kz da=>?_
  replace ⟨hrb0,hrb1,hrb2,hrb3,hrb4,hrb5,hrb6,hbx,aa,ab,ag,c9⟩:=(se [ao,af,ac,ae,bx] da).g12 hrb0 hrb1 hrb2 hrb3 hrb4 hrb5 hrb6 hbx aa ab ag c9
  replace ⟨aA,aB,aC,aD,E⟩:=(se [ao,af,ac,ae,bx] da).g5 aA aB aC aD E
  replace hrb0:=hrb0.BL
  replace hrb1:=hrb1.BL
  replace hrb2:=hrb2.BL
  replace hrb3:=hrb3.BL
  replace hrb4:=hrb4.BL
  replace hrb5:=hrb5.BL
  replace hrb6:=hrb6.BL
  refine .r 1<|.d<|.s<|.g<|.r 1<|.d<|.ct<|.g<|.r 1<|.ln c9<|.r 2<|.sb 0 (.agg #[.slice bn ((BS w_.store e.name e.row).1.idx.names.length) bo,.slice bq ((((BS w_.store e.name e.row).1.idx).AY).length) br,.slice bt ((BS w_.store e.name e.row).1.parts.length) bu,.slice bv ((BS w_.store e.name e.row).1.mem.length) bw]) [.slice bn ((BS w_.store e.name e.row).1.idx.names.length) bo,.slice bq ((((BS w_.store e.name e.row).1.idx).AY).length) br,.slice bt ((BS w_.store e.name e.row).1.parts.length) bu,.slice bv ((BS w_.store e.name e.row).1.mem.length) bw,.slice ab4 w_.disk.files.length cb4,.slice ab5 w_.disk.list.length cb5,.slice ab6 w_.disk.names.length cb6,vI w_.disk.next] hbx fun kA db fj fm=>?_
  replace ⟨hrb0,hrb1,hrb2,hrb3,hrb4,hrb5,hrb6,aa,ab,ag,aA,aB⟩:=(so [ao,af,ac,ae,bx] db).g12 hrb0 hrb1 hrb2 hrb3 hrb4 hrb5 hrb6 aa ab ag aA aB
  replace ⟨aC,aD,E⟩:=(so [ao,af,ac,ae,bx] db).g3 aC aD E
  refine .d<|.ib 0<|.s<|.s<|.g<|.r 8<|.d<|.ct<|T.KH AA func34 results34 ?_
  rw [show (doW w_ e)=(⟨(⟨(⟨(BS w_.store e.name e.row).1.idx.names,((BS w_.store e.name e.row).1.idx).AY⟩:Idx),(BS w_.store e.name e.row).1.parts,(BS w_.store e.name e.row).1.mem⟩:Sto),(⟨w_.disk.files,w_.disk.list,w_.disk.names,w_.disk.next⟩:Dsk)⟩:Wld) from by exact do_1 p0 (by with_reducible assumption) (by with_reducible assumption)]
  exact ⟨⟨rfl,bn,(BS w_.store e.name e.row).1.idx.names.length,bo,bq,(((BS w_.store e.name e.row).1.idx).AY).length,br,bt,(BS w_.store e.name e.row).1.parts.length,bu,bv,(BS w_.store e.name e.row).1.mem.length,bw,ab4,w_.disk.files.length,cb4,ab5,w_.disk.list.length,cb5,ab6,w_.disk.names.length,cb6,fj,(RepS.Ao aA (all_cons AM all_nil)),(RepS.Ao aB (all_cons AM all_nil)),(RepS.Ao aC (all_cons AM all_nil)),(RepS.Ao aD (all_cons AM all_nil)),(RepS.Ao hrb4 (all_cons AM all_nil)),(RepS.Ao hrb5 (all_cons AM all_nil)),(RepS.Ao hrb6 (all_cons AM all_nil))⟩,E⟩
 refine .r 1<|.d<|.cf<|.s<|.g<|.eq e.kind 2 (fun fp=>?_) (fun fp=>?_)
 ·refine .r 1<|.d<|.ct<|.s<|.gd nil 8 fun kB ee=>?_
  replace ⟨hrb0,hrb1,hrb2,hrb3,hrb4,hrb5,hrb6,hbx,aa,ab,ag,E⟩:=(se [af,ac,ae,bx] ee).g12 hrb0 hrb1 hrb2 hrb3 hrb4 hrb5 hrb6 hbx aa ab ag E
  refine .r [0,1,2]<|.ln 3 hbx id<|.r [4,5,6]<|.ln 7 hbx id<|.d fun eK ef=>?_
  replace ⟨hrb0,hrb1,hrb2,hrb3,hrb4,hrb5,hrb6,hbx,aa,ab,ag,E⟩:=(se [af,ac,ae,bx] ef).g12 hrb0 hrb1 hrb2 hrb3 hrb4 hrb5 hrb6 hbx aa ab ag E
  refine .cl (IY w_.disk w_.store hrb4.ta hrb5.ta hrb6.ta hrb0.ta hrb1.ta hrb2.ta hrb3.ta p0.dd (SG.of p0.sd) (w:=eK) (F:=all)) ?_
  rintro kC eL ⟨⟨kD,kE,rfl,aS⟩,eg⟩
  have eh:=al4 ag.lt ab.lt aa.lt hbx.lt
  have fq:Gb w.heap.size eK.heap.size:=E.size
  replace ⟨hrb0,hrb1,hrb2,hrb3,hrb4,hrb5,hrb6,hbx,aa,ab,ag,E⟩:=(se [af,ac,ae,bx] eg).g12 hrb0 hrb1 hrb2 hrb3 hrb4 hrb5 hrb6 hbx aa ab ag E
  have aS:=aS.fr eh fq
  replace aS:=aS.base (G':=fo F w.heap.size) (fun _ _ h=>.inr h)
  refine .r 1<|.d<|.g<|.r 3<|.ln hbx<|.cl (IM w_.store hrb0 hrb1 hrb2 hrb3 p0.sd (w:=eL) (F:=nin (fo F w.heap.size) [af,ac,ae,bx])) ?_
  rintro kF kG ⟨⟨kH,rfl,⟨_,rfl,⟨dK,kI,dL,dM,kJ,dN,dO,kK,dP,dQ,kL,dR,rfl,ar,au,ax,ay⟩⟩⟩,de⟩
  have bA:=al4 ag.lt ab.lt aa.lt hbx.lt
  have bL:Gb w.heap.size eL.heap.size:=E.size
  replace ⟨hrb0,hrb1,hrb2,hrb3,hrb4,hrb5,hrb6,hbx,aa,ab,ag,aS⟩:=(se [af,ac,ae,bx] de).g12 hrb0 hrb1 hrb2 hrb3 hrb4 hrb5 hrb6 hbx aa ab ag aS
  replace E:=(se [af,ac,ae,bx] de).g1 E
  replace ar:=RepS.Bs (M:=[af,ac,ae,bx]) ar bA bL
  have jh:=ar.max
  replace au:=RepS.Bs (M:=[af,ac,ae,bx]) au bA bL
  have ji:=au.max
  replace ax:=RepS.Bs (M:=[af,ac,ae,bx]) ax bA bL
  have jj:=ax.max
  replace ay:=RepS.Bs (M:=[af,ac,ae,bx]) ay bA bL
  have jk:=ay.max
  have fu:=ar.len
  subst fu
  have fv:=au.len
  subst fv
  have fw:=ax.len
  subst fw
  have fA:=ay.len
  subst fA
  refine .r 3<|.sc [.slice dK ((Bj w_.store).1.idx.names.length) dL,.slice dM ((((Bj w_.store).1.idx).AY).length) dN,.slice dO ((Bj w_.store).1.parts.length) dP,.slice dQ ((Bj w_.store).1.mem.length) dR] ag fun kM df az fB=>?_
  replace ⟨hrb0,hrb1,hrb2,hrb3,hrb4,hrb5,hrb6,hbx,aa,ab,aS,ar⟩:=(so [af,ac,ae,bx] df).g12 hrb0 hrb1 hrb2 hrb3 hrb4 hrb5 hrb6 hbx aa ab aS ar
  replace ⟨au,ax,ay,E⟩:=(so [af,ac,ae,bx] df).g4 au ax ay E
  refine .d<|.ib 0<|.s<|.s<|.g<|.r 2<|.eq (((Af w_.disk w_.store).length):Int) 0 (fun fC=>?_) (fun fC=>?_)
  ·refine .r 5<|.d<|.ct<|T.KH AA func34 results34 ?_
   rw [show (doW w_ e)=w_ from by exact Uf p0 (by with_reducible assumption) (.inl (by with_reducible assumption))]
   exact ⟨⟨rfl,ab0,w_.store.idx.names.length,cb0,ab1,w_.store.idx.AY.length,cb1,ab2,w_.store.parts.length,cb2,ab3,w_.store.mem.length,cb3,ab4,w_.disk.files.length,cb4,ab5,w_.disk.list.length,cb5,ab6,w_.disk.names.length,cb6,hbx,(RepS.Ao hrb0 (all_cons AL all_nil)),(RepS.Ao hrb1 (all_cons AL all_nil)),(RepS.Ao hrb2 (all_cons AL all_nil)),(RepS.Ao hrb3 (all_cons AL all_nil)),(RepS.Ao hrb4 (all_cons AL all_nil)),(RepS.Ao hrb5 (all_cons AL all_nil)),(RepS.Ao hrb6 (all_cons AL all_nil))⟩,E⟩
  refine .r 2<|.lb aa<|.bp (e.cut< 0) (fun fD=>?_) (fun fD=>?_)
  ·refine .r 1<|.d<|.ct<|T.KH AA func34 results34 ?_
   rw [show (doW w_ e)=w_ from by exact Uf p0 (by with_reducible assumption) (.inr (by with_reducible assumption))]
   exact ⟨⟨rfl,ab0,w_.store.idx.names.length,cb0,ab1,w_.store.idx.AY.length,cb1,ab2,w_.store.parts.length,cb2,ab3,w_.store.mem.length,cb3,ab4,w_.disk.files.length,cb4,ab5,w_.disk.list.length,cb5,ab6,w_.disk.names.length,cb6,hbx,(RepS.Ao hrb0 (all_cons AL all_nil)),(RepS.Ao hrb1 (all_cons AL all_nil)),(RepS.Ao hrb2 (all_cons AL all_nil)),(RepS.Ao hrb3 (all_cons AL all_nil)),(RepS.Ao hrb4 (all_cons AL all_nil)),(RepS.Ao hrb5 (all_cons AL all_nil)),(RepS.Ao hrb6 (all_cons AL all_nil))⟩,E⟩
  refine .r 1<|.d<|.cf<|.sk<|.s<|.gd nil 9 fun kN dh=>?_
  replace ⟨hrb0,hrb1,hrb2,hrb3,hrb4,hrb5,hrb6,hbx,aa,ab,az,aS⟩:=(se [af,ac,ae,bx] dh).g12 hrb0 hrb1 hrb2 hrb3 hrb4 hrb5 hrb6 hbx aa ab az aS
  replace ⟨ar,au,ax,ay,E⟩:=(se [af,ac,ae,bx] dh).g5 ar au ax ay E
  refine .r [0,1,2,3]<|.ln 4 hbx id<|.r [5,6]<|.lb 7 aa id<|.go 8<|.cl (fun ej aX=>HV w_.disk (Af w_.disk w_.store) e.cut (hrb4.ext aX) (hrb5.ext aX) (hrb6.ext aX) (aS.ext aX) p0.dd (fun _=>by exact (JH p0.dd p0.sd).1) (w:=ej) (F:=nin (fo F w.heap.size) [af,ac,ae,bx])) ?_
  intro ej aX
  replace ⟨hrb0,hrb1,hrb2,hrb3,hrb4,hrb5,hrb6,hbx,aa,ab,az,ar⟩:=(se [af,ac,ae,bx] aX).g12 hrb0 hrb1 hrb2 hrb3 hrb4 hrb5 hrb6 hbx aa ab az ar
  replace ⟨au,ax,ay,E⟩:=(se [af,ac,ae,bx] aX).g4 au ax ay E
  rintro kO kP ⟨⟨_,rfl,⟨dS,kQ,dT,dU,kR,dV,dW,kS,dX,rfl,aI,aJ,aK⟩⟩,bM⟩
  have bN:=al4 az.lt ab.lt aa.lt hbx.lt
  have dj:Gb w.heap.size ej.heap.size:=E.size
  have hkeep_:=bM
  replace ⟨hrb0,hrb1,hrb2,hrb3,hrb4,hrb5,hrb6,hbx,aa,ab,az,ar⟩:=(se [af,ac,ae,bx] bM).g12 hrb0 hrb1 hrb2 hrb3 hrb4 hrb5 hrb6 hbx aa ab az ar
  replace ⟨au,ax,ay,E⟩:=(se [af,ac,ae,bx] bM).g4 au ax ay E
  refine ⟨Ext.chg hkeep_,?_⟩
  replace aI:=RepS.Bs (M:=[af,ac,ae,bx]) aI bN dj
  have jl:=aI.max
  replace aJ:=RepS.Bs (M:=[af,ac,ae,bx]) aJ bN dj
  have jm:=aJ.max
  replace aK:=RepS.Bs (M:=[af,ac,ae,bx]) aK bN dj
  have jn:=aK.max
  have fE:=aI.len
  subst fE
  have fF:=aJ.len
  subst fF
  have fG:=aK.len
  subst fG
  refine .d fun kT dm=>?_
  replace ⟨hrb0,hrb1,hrb2,hrb3,hrb4,hrb5,hrb6,hbx,aa,ab,az,ar⟩:=(se [af,ac,ae,bx] dm).g12 hrb0 hrb1 hrb2 hrb3 hrb4 hrb5 hrb6 hbx aa ab az ar
  replace ⟨au,ax,ay,aI,aJ,aK,E⟩:=(se [af,ac,ae,bx] dm).g7 au ax ay aI aJ aK E
  refine .r 2<|.sb 4 (.agg #[.slice dS (((Ak w_.disk (Af w_.disk w_.store) e.cut).files).length) dT,.slice dU (((Ak w_.disk (Af w_.disk w_.store) e.cut).list).length) dV,.slice dW (((Ak w_.disk (Af w_.disk w_.store) e.cut).names).length) dX,vI ((Ak w_.disk (Af w_.disk w_.store) e.cut).next)]) [.slice ab0 w_.store.idx.names.length cb0,.slice ab1 w_.store.idx.AY.length cb1,.slice ab2 w_.store.parts.length cb2,.slice ab3 w_.store.mem.length cb3,.slice dS (((Ak w_.disk (Af w_.disk w_.store) e.cut).files).length) dT,.slice dU (((Ak w_.disk (Af w_.disk w_.store) e.cut).list).length) dV,.slice dW (((Ak w_.disk (Af w_.disk w_.store) e.cut).names).length) dX,vI ((Ak w_.disk (Af w_.disk w_.store) e.cut).next)] hbx fun ek dp dq fH=>?_
  replace ⟨hrb0,hrb1,hrb2,hrb3,hrb4,hrb5,hrb6,aa,ab,az,ar,au⟩:=(so [af,ac,ae,bx] dp).g12 hrb0 hrb1 hrb2 hrb3 hrb4 hrb5 hrb6 aa ab az ar au
  replace ⟨ax,ay,aI,aJ,aK,E⟩:=(so [af,ac,ae,bx] dp).g6 ax ay aI aJ aK E
  refine .d<|.s<|.g<|.r 1<|.lb aa<|.r 2<|.bp (e.cut< (((Af w_.disk w_.store).length):Int)) (fun fI=>?_) (fun fI=>?_)
  ·refine .d<|.ct<|.g<|.r 1<|.cl (EC (⟨(⟨(⟨w_.store.idx.names,w_.store.idx.AY⟩:Idx),w_.store.parts,w_.store.mem⟩:Sto),(⟨(Ak w_.disk (Af w_.disk w_.store) e.cut).files,(Ak w_.disk (Af w_.disk w_.store) e.cut).list,(Ak w_.disk (Af w_.disk w_.store) e.cut).names,(Ak w_.disk (Af w_.disk w_.store) e.cut).next⟩:Dsk)⟩:Wld) (RepS.toM hrb0 (all_cons AL all_nil)) (RepS.toM hrb1 (all_cons AL all_nil)) (RepS.toM hrb2 (all_cons AL all_nil)) (RepS.toM hrb3 (all_cons AL all_nil)) (RepS.toM aI (all_cons AL all_nil)) (RepS.toM aJ (all_cons AL all_nil)) (RepS.toM aK (all_cons AL all_nil)) dq (by exact (Mj (e:=e) p0 (by with_reducible assumption) (by with_reducible assumption)).2.1) (by exact (Mj (e:=e) p0 (by with_reducible assumption) (by with_reducible assumption)).2.2) (w:=ek) (F:=nin (fo F w.heap.size) [af,ac,ae,bx])) ?_
   rintro kU bj ⟨⟨rfl,gP,kV,gQ,gR,kW,gS,gT,kX,gU,gV,kY,gW,gX,kZ,gY,gZ,k5,g0,hC,k6,hE,fJ,bW,bX,bY,bZ,b0,b6,b7⟩,bO⟩
   have aU:=al4 az.lt ab.lt aa.lt dq.lt
   have aY:Gb w.heap.size ek.heap.size:=E.size
   have dt:Mv [af,ac,ae,bx] [af,ac,ae,bx] ek bj:=Mv.inl bO (all_cons AL all_nil) (all_cons (.inl AI) (all_cons (.inl AJ) (all_cons (.inl AK) (all_cons (.inl AL) all_nil))))
   replace ⟨hrb0,hrb1,hrb2,hrb3,hrb4,hrb5,hrb6,aa,ab,az,ar,au⟩:=(sp dt bO).g12 hrb0 hrb1 hrb2 hrb3 hrb4 hrb5 hrb6 aa ab az ar au
   replace ⟨ax,ay,aI,aJ,aK,E⟩:=(sp dt bO).g6 ax ay aI aJ aK E
   replace bW:RepS bj (nin (fo F w.heap.size) [af,ac,ae,bx]) _ _ _ _:=RepS.bxM (M2:=[af,ac,ae,bx]) bW aU (fun _ h=>.inr (Nat.le_trans aY h)) (all_cons (.inr AI) (all_cons (.inr AJ) (all_cons (.inr AK) (all_cons (.inl AI) all_nil))))
   replace bX:RepS bj (nin (fo F w.heap.size) [af,ac,ae,bx]) _ _ _ _:=RepS.bxM (M2:=[af,ac,ae,bx]) bX aU (fun _ h=>.inr (Nat.le_trans aY h)) (all_cons (.inr AI) (all_cons (.inr AJ) (all_cons (.inr AK) (all_cons (.inl AI) all_nil))))
   replace bY:RepS bj (nin (fo F w.heap.size) [af,ac,ae,bx]) _ _ _ _:=RepS.bxM (M2:=[af,ac,ae,bx]) bY aU (fun _ h=>.inr (Nat.le_trans aY h)) (all_cons (.inr AI) (all_cons (.inr AJ) (all_cons (.inr AK) (all_cons (.inl AI) all_nil))))
   replace bZ:RepS bj (nin (fo F w.heap.size) [af,ac,ae,bx]) _ _ _ _:=RepS.bxM (M2:=[af,ac,ae,bx]) bZ aU (fun _ h=>.inr (Nat.le_trans aY h)) (all_cons (.inr AI) (all_cons (.inr AJ) (all_cons (.inr AK) (all_cons (.inl AI) all_nil))))
   replace b0:RepS bj (nin (fo F w.heap.size) [af,ac,ae,bx]) _ _ _ _:=RepS.bxM (M2:=[af,ac,ae,bx]) b0 aU (fun _ h=>.inr (Nat.le_trans aY h)) (all_cons (.inr AI) (all_cons (.inr AJ) (all_cons (.inr AK) (all_cons (.inl AI) all_nil))))
   replace b6:RepS bj (nin (fo F w.heap.size) [af,ac,ae,bx]) _ _ _ _:=RepS.bxM (M2:=[af,ac,ae,bx]) b6 aU (fun _ h=>.inr (Nat.le_trans aY h)) (all_cons (.inr AI) (all_cons (.inr AJ) (all_cons (.inr AK) (all_cons (.inl AI) all_nil))))
   replace b7:RepS bj (nin (fo F w.heap.size) [af,ac,ae,bx]) _ _ _ _:=RepS.bxM (M2:=[af,ac,ae,bx]) b7 aU (fun _ h=>.inr (Nat.le_trans aY h)) (all_cons (.inr AI) (all_cons (.inr AJ) (all_cons (.inr AK) (all_cons (.inl AI) all_nil))))
   have fK:=bW.len
   subst fK
   have fL:=bX.len
   subst fL
   have fM:=bY.len
   subst fM
   have fN:=bZ.len
   subst fN
   have fO:=b0.len
   subst fO
   have fP:=b6.len
   subst fP
   have fQ:=b7.len
   subst fQ
   refine .d<|T.FR func34 results34 ?_
   rw [show (doW w_ e)=(⟨(⟨(⟨((((BB (⟨(⟨(⟨w_.store.idx.names,w_.store.idx.AY⟩:Idx),w_.store.parts,w_.store.mem⟩:Sto),(⟨(Ak w_.disk (Af w_.disk w_.store) e.cut).files,(Ak w_.disk (Af w_.disk w_.store) e.cut).list,(Ak w_.disk (Af w_.disk w_.store) e.cut).names,(Ak w_.disk (Af w_.disk w_.store) e.cut).next⟩:Dsk)⟩:Wld))).store).idx).names,((((BB (⟨(⟨(⟨w_.store.idx.names,w_.store.idx.AY⟩:Idx),w_.store.parts,w_.store.mem⟩:Sto),(⟨(Ak w_.disk (Af w_.disk w_.store) e.cut).files,(Ak w_.disk (Af w_.disk w_.store) e.cut).list,(Ak w_.disk (Af w_.disk w_.store) e.cut).names,(Ak w_.disk (Af w_.disk w_.store) e.cut).next⟩:Dsk)⟩:Wld))).store).idx).AY⟩:Idx),(((BB (⟨(⟨(⟨w_.store.idx.names,w_.store.idx.AY⟩:Idx),w_.store.parts,w_.store.mem⟩:Sto),(⟨(Ak w_.disk (Af w_.disk w_.store) e.cut).files,(Ak w_.disk (Af w_.disk w_.store) e.cut).list,(Ak w_.disk (Af w_.disk w_.store) e.cut).names,(Ak w_.disk (Af w_.disk w_.store) e.cut).next⟩:Dsk)⟩:Wld))).store).parts,(((BB (⟨(⟨(⟨w_.store.idx.names,w_.store.idx.AY⟩:Idx),w_.store.parts,w_.store.mem⟩:Sto),(⟨(Ak w_.disk (Af w_.disk w_.store) e.cut).files,(Ak w_.disk (Af w_.disk w_.store) e.cut).list,(Ak w_.disk (Af w_.disk w_.store) e.cut).names,(Ak w_.disk (Af w_.disk w_.store) e.cut).next⟩:Dsk)⟩:Wld))).store).mem⟩:Sto),(⟨(((BB (⟨(⟨(⟨w_.store.idx.names,w_.store.idx.AY⟩:Idx),w_.store.parts,w_.store.mem⟩:Sto),(⟨(Ak w_.disk (Af w_.disk w_.store) e.cut).files,(Ak w_.disk (Af w_.disk w_.store) e.cut).list,(Ak w_.disk (Af w_.disk w_.store) e.cut).names,(Ak w_.disk (Af w_.disk w_.store) e.cut).next⟩:Dsk)⟩:Wld))).disk).files,(((BB (⟨(⟨(⟨w_.store.idx.names,w_.store.idx.AY⟩:Idx),w_.store.parts,w_.store.mem⟩:Sto),(⟨(Ak w_.disk (Af w_.disk w_.store) e.cut).files,(Ak w_.disk (Af w_.disk w_.store) e.cut).list,(Ak w_.disk (Af w_.disk w_.store) e.cut).names,(Ak w_.disk (Af w_.disk w_.store) e.cut).next⟩:Dsk)⟩:Wld))).disk).list,(((BB (⟨(⟨(⟨w_.store.idx.names,w_.store.idx.AY⟩:Idx),w_.store.parts,w_.store.mem⟩:Sto),(⟨(Ak w_.disk (Af w_.disk w_.store) e.cut).files,(Ak w_.disk (Af w_.disk w_.store) e.cut).list,(Ak w_.disk (Af w_.disk w_.store) e.cut).names,(Ak w_.disk (Af w_.disk w_.store) e.cut).next⟩:Dsk)⟩:Wld))).disk).names,(((BB (⟨(⟨(⟨w_.store.idx.names,w_.store.idx.AY⟩:Idx),w_.store.parts,w_.store.mem⟩:Sto),(⟨(Ak w_.disk (Af w_.disk w_.store) e.cut).files,(Ak w_.disk (Af w_.disk w_.store) e.cut).list,(Ak w_.disk (Af w_.disk w_.store) e.cut).names,(Ak w_.disk (Af w_.disk w_.store) e.cut).next⟩:Dsk)⟩:Wld))).disk).next⟩:Dsk)⟩:Wld) from by exact WU p0 (by with_reducible assumption) (by with_reducible assumption) (by with_reducible assumption) (by with_reducible assumption)]
   exact ⟨⟨rfl,gP,(((((BB (⟨(⟨(⟨w_.store.idx.names,w_.store.idx.AY⟩:Idx),w_.store.parts,w_.store.mem⟩:Sto),(⟨(Ak w_.disk (Af w_.disk w_.store) e.cut).files,(Ak w_.disk (Af w_.disk w_.store) e.cut).list,(Ak w_.disk (Af w_.disk w_.store) e.cut).names,(Ak w_.disk (Af w_.disk w_.store) e.cut).next⟩:Dsk)⟩:Wld))).store).idx).names).length,gQ,gR,(((((BB (⟨(⟨(⟨w_.store.idx.names,w_.store.idx.AY⟩:Idx),w_.store.parts,w_.store.mem⟩:Sto),(⟨(Ak w_.disk (Af w_.disk w_.store) e.cut).files,(Ak w_.disk (Af w_.disk w_.store) e.cut).list,(Ak w_.disk (Af w_.disk w_.store) e.cut).names,(Ak w_.disk (Af w_.disk w_.store) e.cut).next⟩:Dsk)⟩:Wld))).store).idx).AY).length,gS,gT,((((BB (⟨(⟨(⟨w_.store.idx.names,w_.store.idx.AY⟩:Idx),w_.store.parts,w_.store.mem⟩:Sto),(⟨(Ak w_.disk (Af w_.disk w_.store) e.cut).files,(Ak w_.disk (Af w_.disk w_.store) e.cut).list,(Ak w_.disk (Af w_.disk w_.store) e.cut).names,(Ak w_.disk (Af w_.disk w_.store) e.cut).next⟩:Dsk)⟩:Wld))).store).parts).length,gU,gV,((((BB (⟨(⟨(⟨w_.store.idx.names,w_.store.idx.AY⟩:Idx),w_.store.parts,w_.store.mem⟩:Sto),(⟨(Ak w_.disk (Af w_.disk w_.store) e.cut).files,(Ak w_.disk (Af w_.disk w_.store) e.cut).list,(Ak w_.disk (Af w_.disk w_.store) e.cut).names,(Ak w_.disk (Af w_.disk w_.store) e.cut).next⟩:Dsk)⟩:Wld))).store).mem).length,gW,gX,((((BB (⟨(⟨(⟨w_.store.idx.names,w_.store.idx.AY⟩:Idx),w_.store.parts,w_.store.mem⟩:Sto),(⟨(Ak w_.disk (Af w_.disk w_.store) e.cut).files,(Ak w_.disk (Af w_.disk w_.store) e.cut).list,(Ak w_.disk (Af w_.disk w_.store) e.cut).names,(Ak w_.disk (Af w_.disk w_.store) e.cut).next⟩:Dsk)⟩:Wld))).disk).files).length,gY,gZ,((((BB (⟨(⟨(⟨w_.store.idx.names,w_.store.idx.AY⟩:Idx),w_.store.parts,w_.store.mem⟩:Sto),(⟨(Ak w_.disk (Af w_.disk w_.store) e.cut).files,(Ak w_.disk (Af w_.disk w_.store) e.cut).list,(Ak w_.disk (Af w_.disk w_.store) e.cut).names,(Ak w_.disk (Af w_.disk w_.store) e.cut).next⟩:Dsk)⟩:Wld))).disk).list).length,g0,hC,((((BB (⟨(⟨(⟨w_.store.idx.names,w_.store.idx.AY⟩:Idx),w_.store.parts,w_.store.mem⟩:Sto),(⟨(Ak w_.disk (Af w_.disk w_.store) e.cut).files,(Ak w_.disk (Af w_.disk w_.store) e.cut).list,(Ak w_.disk (Af w_.disk w_.store) e.cut).names,(Ak w_.disk (Af w_.disk w_.store) e.cut).next⟩:Dsk)⟩:Wld))).disk).names).length,hE,fJ,(RepS.Ao bW (all_cons AL all_nil)),(RepS.Ao bX (all_cons AL all_nil)),(RepS.Ao bY (all_cons AL all_nil)),(RepS.Ao bZ (all_cons AL all_nil)),(RepS.Ao b0 (all_cons AL all_nil)),(RepS.Ao b6 (all_cons AL all_nil)),(RepS.Ao b7 (all_cons AL all_nil))⟩,E⟩
  refine .d<|.cf<|.g<|.r 1<|.ln az<|.r 2<|.sb 0 (.agg #[.slice dK ((Bj w_.store).1.idx.names.length) dL,.slice dM ((((Bj w_.store).1.idx).AY).length) dN,.slice dO ((Bj w_.store).1.parts.length) dP,.slice dQ ((Bj w_.store).1.mem.length) dR]) [.slice dK ((Bj w_.store).1.idx.names.length) dL,.slice dM ((((Bj w_.store).1.idx).AY).length) dN,.slice dO ((Bj w_.store).1.parts.length) dP,.slice dQ ((Bj w_.store).1.mem.length) dR,.slice dS (((Ak w_.disk (Af w_.disk w_.store) e.cut).files).length) dT,.slice dU (((Ak w_.disk (Af w_.disk w_.store) e.cut).list).length) dV,.slice dW (((Ak w_.disk (Af w_.disk w_.store) e.cut).names).length) dX,vI ((Ak w_.disk (Af w_.disk w_.store) e.cut).next)] dq fun k7 du fR fS=>?_
  replace ⟨hrb0,hrb1,hrb2,hrb3,hrb4,hrb5,hrb6,aa,ab,ar,au,ax⟩:=(so [af,ac,ae,bx] du).g12 hrb0 hrb1 hrb2 hrb3 hrb4 hrb5 hrb6 aa ab ar au ax
  replace ⟨ay,aI,aJ,aK,E⟩:=(so [af,ac,ae,bx] du).g5 ay aI aJ aK E
  refine .d<|T.FR func34 results34 ?_
  rw [show (doW w_ e)=(⟨(⟨(⟨(Bj w_.store).1.idx.names,((Bj w_.store).1.idx).AY⟩:Idx),(Bj w_.store).1.parts,(Bj w_.store).1.mem⟩:Sto),(⟨(Ak w_.disk (Af w_.disk w_.store) e.cut).files,(Ak w_.disk (Af w_.disk w_.store) e.cut).list,(Ak w_.disk (Af w_.disk w_.store) e.cut).names,(Ak w_.disk (Af w_.disk w_.store) e.cut).next⟩:Dsk)⟩:Wld) from by exact WW p0 (by with_reducible assumption) (by with_reducible assumption) (by with_reducible assumption) (by with_reducible assumption)]
  exact ⟨⟨rfl,dK,(Bj w_.store).1.idx.names.length,dL,dM,(((Bj w_.store).1.idx).AY).length,dN,dO,(Bj w_.store).1.parts.length,dP,dQ,(Bj w_.store).1.mem.length,dR,dS,((Ak w_.disk (Af w_.disk w_.store) e.cut).files).length,dT,dU,((Ak w_.disk (Af w_.disk w_.store) e.cut).list).length,dV,dW,((Ak w_.disk (Af w_.disk w_.store) e.cut).names).length,dX,fR,(RepS.Ao ar (all_cons AL all_nil)),(RepS.Ao au (all_cons AL all_nil)),(RepS.Ao ax (all_cons AL all_nil)),(RepS.Ao ay (all_cons AL all_nil)),(RepS.Ao aI (all_cons AL all_nil)),(RepS.Ao aJ (all_cons AL all_nil)),(RepS.Ao aK (all_cons AL all_nil))⟩,E⟩
 refine .r 1<|.d<|.cf<|.s<|.g<|.eq e.kind 3 (fun fT=>?_) (fun fT=>?_)
 ·refine .r 1<|.d<|.ct<|.s<|.gd nil 6 fun k8 en=>?_
  replace ⟨hrb0,hrb1,hrb2,hrb3,hrb4,hrb5,hrb6,hbx,aa,ab,ag,E⟩:=(se [af,ac,ae,bx] en).g12 hrb0 hrb1 hrb2 hrb3 hrb4 hrb5 hrb6 hbx aa ab ag E
  refine .r [0,1,2]<|.ln 3 hbx id<|.r [4]<|.lb 5 aa id<|.d fun eM ey=>?_
  replace ⟨hrb0,hrb1,hrb2,hrb3,hrb4,hrb5,hrb6,hbx,aa,ab,ag,E⟩:=(se [af,ac,ae,bx] ey).g12 hrb0 hrb1 hrb2 hrb3 hrb4 hrb5 hrb6 hbx aa ab ag E
  refine .cl (Ic w_.disk e.at_ hrb4.ta hrb5.ta hrb6.ta p0.dd (w:=eM) (F:=all)) ?_
  rintro k9 b8 ⟨⟨lc,ld,rfl,am⟩,ez⟩
  have eA:=al4 ag.lt ab.lt aa.lt hbx.lt
  have fU:Gb w.heap.size eM.heap.size:=E.size
  replace ⟨hrb0,hrb1,hrb2,hrb3,hrb4,hrb5,hrb6,hbx,aa,ab,ag,E⟩:=(se [af,ac,ae,bx] ez).g12 hrb0 hrb1 hrb2 hrb3 hrb4 hrb5 hrb6 hbx aa ab ag E
  have am:=am.fr eA fU
  replace am:=am.base (G':=fo F w.heap.size) (fun _ _ h=>.inr h)
  refine .r 1<|.d ?_
  replace hrb0:=hrb0.Cn
  replace hrb1:=hrb1.Cn
  replace hrb2:=hrb2.Cn
  replace hrb3:=hrb3.Cn
  replace hrb4:=hrb4.Cn
  replace hrb5:=hrb5.Cn
  replace hrb6:=hrb6.Cn
  replace am:=am.Cn
  have fV:Gb (bx+1) b8.heap.size:=hbx.lt
  have fW:Gb (ae+1) b8.heap.size:=aa.lt
  have fX:Cov (mtb [ac,af] b8.heap.size) b8 af:=⟨.inl (.inl AJ)⟩
  refine .gd (mtb [ac,af] b8.heap.size) 11 fun lf dv=>?_
  replace ⟨hrb0,hrb1,hrb2,hrb3,hrb4,hrb5,hrb6,hbx,aa,ab,ag,am⟩:=(se [af,ac,ae,bx] dv).g12 hrb0 hrb1 hrb2 hrb3 hrb4 hrb5 hrb6 hbx aa ab ag am
  replace E:=(se [af,ac,ae,bx] dv).g1 E
  refine .r [0,1,2]<|.ln 3 hbx (Cz (all_cons (Nb.symm eG) (all_cons (Nb.symm gK) all_nil)) fV)<|.r [4]<|.lb 5 aa (Cz (all_cons (Nb.symm d8) (all_cons (Nb.symm gL) all_nil)) fW)<|.go 6<|.cl (fun eB aZ=>IQ w_.store e.at_ ((hrb0.base (fun _ _ h=>h.1)).ext aZ) ((hrb1.base (fun _ _ h=>h.1)).ext aZ) ((hrb2.base (fun _ _ h=>h.1)).ext aZ) ((hrb3.base (fun _ _ h=>h.1)).ext aZ) p0.sd (w:=eB) (F:=nin (fo F w.heap.size) [af,ac,ae,bx])) ?_
  intro eB aZ
  replace ⟨hrb0,hrb1,hrb2,hrb3,hrb4,hrb5,hrb6,hbx,aa,ab,ag,am⟩:=(se [af,ac,ae,bx] aZ).g12 hrb0 hrb1 hrb2 hrb3 hrb4 hrb5 hrb6 hbx aa ab ag am
  replace E:=(se [af,ac,ae,bx] aZ).g1 E
  rintro li lj ⟨⟨lk,rfl,⟨_,rfl,⟨b9,ll,cd,ce,lm,cg,ci,lp,cj,ck,lq,cm,rfl,ai,aj,ak,al⟩⟩⟩,bP⟩
  have bB:=al4 ag.lt ab.lt aa.lt hbx.lt
  have bQ:Gb w.heap.size eB.heap.size:=E.size
  have hkeep_:=bP
  replace ⟨hrb0,hrb1,hrb2,hrb3,hrb4,hrb5,hrb6,hbx,aa,ab,ag,am⟩:=(se [af,ac,ae,bx] bP).g12 hrb0 hrb1 hrb2 hrb3 hrb4 hrb5 hrb6 hbx aa ab ag am
  replace E:=(se [af,ac,ae,bx] bP).g1 E
  refine ⟨Ext.chg hkeep_,?_⟩
  replace ai:=RepS.Bs (M:=[af,ac,ae,bx]) ai bB bQ
  have jx:=ai.max
  replace aj:=RepS.Bs (M:=[af,ac,ae,bx]) aj bB bQ
  have jy:=aj.max
  replace ak:=RepS.Bs (M:=[af,ac,ae,bx]) ak bB bQ
  have jz:=ak.max
  replace al:=RepS.Bs (M:=[af,ac,ae,bx]) al bB bQ
  have jA:=al.max
  have fY:=ai.len
  subst fY
  have fZ:=aj.len
  subst fZ
  have f0:=ak.len
  subst f0
  have f5:=al.len
  subst f5
  refine .r [7,8,9]<|.go 10<|GE.Ew (t':=32) (o:=0) (v:=.agg #[.slice b9 ((BM w_.store e.at_).1.idx.names.length) cd,.slice ce ((((BM w_.store e.at_).1.idx).AY).length) cg,.slice ci ((BM w_.store e.at_).1.parts.length) cj,.slice ck ((BM w_.store e.at_).1.mem.length) cm]) [.slice b9 ((BM w_.store e.at_).1.idx.names.length) cd,.slice ce ((((BM w_.store e.at_).1.idx).AY).length) cg,.slice ci ((BM w_.store e.at_).1.parts.length) cj,.slice ck ((BM w_.store e.at_).1.mem.length) cm] ag AA AA AA fun ls dw=>?_
  replace ⟨hrb0,hrb1,hrb2,hrb3,hrb4,hrb5,hrb6,hbx,aa,ab,ag,am⟩:=(se [af,ac,ae,bx] dw).g12 hrb0 hrb1 hrb2 hrb3 hrb4 hrb5 hrb6 hbx aa ab ag am
  replace ⟨ai,aj,ak,al,E⟩:=(se [af,ac,ae,bx] dw).g5 ai aj ak al E
  intro lu bR aq f6
  have hkeep_:=Chg.toS bR (Cov.toS fX)
  replace ⟨hrb0,hrb1,hrb2,hrb3,hrb4,hrb5,hrb6,hbx,aa,ab,am,ai⟩:=(so [af,ac,ae,bx] bR).g12 hrb0 hrb1 hrb2 hrb3 hrb4 hrb5 hrb6 hbx aa ab am ai
  replace ⟨aj,ak,al,E⟩:=(so [af,ac,ae,bx] bR).g4 aj ak al E
  refine ⟨hkeep_,?_⟩
  refine .d fun lv dx=>?_
  replace ⟨hrb0,hrb1,hrb2,hrb3,hrb4,hrb5,hrb6,hbx,aa,ab,aq,am⟩:=(se [af,ac,ae,bx] dx).g12 hrb0 hrb1 hrb2 hrb3 hrb4 hrb5 hrb6 hbx aa ab aq am
  replace ⟨ai,aj,ak,al,E⟩:=(se [af,ac,ae,bx] dx).g5 ai aj ak al E
  replace hrb0:=hrb0.BL
  replace hrb1:=hrb1.BL
  replace hrb2:=hrb2.BL
  replace hrb3:=hrb3.BL
  replace hrb4:=hrb4.BL
  replace hrb5:=hrb5.BL
  replace hrb6:=hrb6.BL
  replace am:=am.BL
  refine .d<|.ib 0<|.s<|.s<|.g<|.r 2<|.eq (((Ag w_.disk e.at_).length):Int) 0 (fun f7=>?_) (fun f7=>?_)
  ·refine .r 5<|.d<|.ct<|T.KH AA func34 results34 ?_
   rw [show (doW w_ e)=w_ from by exact Ug p0 (by with_reducible assumption) (.inl (by with_reducible assumption))]
   exact ⟨⟨rfl,ab0,w_.store.idx.names.length,cb0,ab1,w_.store.idx.AY.length,cb1,ab2,w_.store.parts.length,cb2,ab3,w_.store.mem.length,cb3,ab4,w_.disk.files.length,cb4,ab5,w_.disk.list.length,cb5,ab6,w_.disk.names.length,cb6,hbx,(RepS.Ao hrb0 (all_cons AL all_nil)),(RepS.Ao hrb1 (all_cons AL all_nil)),(RepS.Ao hrb2 (all_cons AL all_nil)),(RepS.Ao hrb3 (all_cons AL all_nil)),(RepS.Ao hrb4 (all_cons AL all_nil)),(RepS.Ao hrb5 (all_cons AL all_nil)),(RepS.Ao hrb6 (all_cons AL all_nil))⟩,E⟩
  refine .r 2<|.lb aa<|.bp (e.cut< 0) (fun f8=>?_) (fun f8=>?_)
  ·refine .r 1<|.d<|.ct<|T.KH AA func34 results34 ?_
   rw [show (doW w_ e)=w_ from by exact Ug p0 (by with_reducible assumption) (.inr (by with_reducible assumption))]
   exact ⟨⟨rfl,ab0,w_.store.idx.names.length,cb0,ab1,w_.store.idx.AY.length,cb1,ab2,w_.store.parts.length,cb2,ab3,w_.store.mem.length,cb3,ab4,w_.disk.files.length,cb4,ab5,w_.disk.list.length,cb5,ab6,w_.disk.names.length,cb6,hbx,(RepS.Ao hrb0 (all_cons AL all_nil)),(RepS.Ao hrb1 (all_cons AL all_nil)),(RepS.Ao hrb2 (all_cons AL all_nil)),(RepS.Ao hrb3 (all_cons AL all_nil)),(RepS.Ao hrb4 (all_cons AL all_nil)),(RepS.Ao hrb5 (all_cons AL all_nil)),(RepS.Ao hrb6 (all_cons AL all_nil))⟩,E⟩
  refine .r 1<|.d<|.cf<|.sk<|.s<|.gd nil 9 fun lw dy=>?_
  replace ⟨hrb0,hrb1,hrb2,hrb3,hrb4,hrb5,hrb6,hbx,aa,ab,aq,am⟩:=(se [af,ac,ae,bx] dy).g12 hrb0 hrb1 hrb2 hrb3 hrb4 hrb5 hrb6 hbx aa ab aq am
  replace ⟨ai,aj,ak,al,E⟩:=(se [af,ac,ae,bx] dy).g5 ai aj ak al E
  refine .r [0,1,2,3]<|.ln 4 hbx id<|.r [5,6]<|.lb 7 aa id<|.go 8<|.cl (fun eC ba=>HV w_.disk (Ag w_.disk e.at_) e.cut (hrb4.ext ba) (hrb5.ext ba) (hrb6.ext ba) (am.ext ba) p0.dd (fun _=>by exact (JI p0.dd _).1) (w:=eC) (F:=nin (fo F w.heap.size) [af,ac,ae,bx])) ?_
  intro eC ba
  replace ⟨hrb0,hrb1,hrb2,hrb3,hrb4,hrb5,hrb6,hbx,aa,ab,aq,ai⟩:=(se [af,ac,ae,bx] ba).g12 hrb0 hrb1 hrb2 hrb3 hrb4 hrb5 hrb6 hbx aa ab aq ai
  replace ⟨aj,ak,al,E⟩:=(se [af,ac,ae,bx] ba).g4 aj ak al E
  rintro ly lz ⟨⟨_,rfl,⟨dY,lA,dZ,d0,lB,d3,d4,lC,d5,rfl,aL,aM,aN⟩⟩,bS⟩
  have bT:=al4 aq.lt ab.lt aa.lt hbx.lt
  have dz:Gb w.heap.size eC.heap.size:=E.size
  have hkeep_:=bS
  replace ⟨hrb0,hrb1,hrb2,hrb3,hrb4,hrb5,hrb6,hbx,aa,ab,aq,ai⟩:=(se [af,ac,ae,bx] bS).g12 hrb0 hrb1 hrb2 hrb3 hrb4 hrb5 hrb6 hbx aa ab aq ai
  replace ⟨aj,ak,al,E⟩:=(se [af,ac,ae,bx] bS).g4 aj ak al E
  refine ⟨Ext.chg hkeep_,?_⟩
  replace aL:=RepS.Bs (M:=[af,ac,ae,bx]) aL bT dz
  have jB:=aL.max
  replace aM:=RepS.Bs (M:=[af,ac,ae,bx]) aM bT dz
  have jC:=aM.max
  replace aN:=RepS.Bs (M:=[af,ac,ae,bx]) aN bT dz
  have jD:=aN.max
  have f9:=aL.len
  subst f9
  have gb:=aM.len
  subst gb
  have gf:=aN.len
  subst gf
  refine .d fun lD dA=>?_
  replace ⟨hrb0,hrb1,hrb2,hrb3,hrb4,hrb5,hrb6,hbx,aa,ab,aq,ai⟩:=(se [af,ac,ae,bx] dA).g12 hrb0 hrb1 hrb2 hrb3 hrb4 hrb5 hrb6 hbx aa ab aq ai
  replace ⟨aj,ak,al,aL,aM,aN,E⟩:=(se [af,ac,ae,bx] dA).g7 aj ak al aL aM aN E
  refine .r 2<|.sb 4 (.agg #[.slice dY (((Ak w_.disk (Ag w_.disk e.at_) e.cut).files).length) dZ,.slice d0 (((Ak w_.disk (Ag w_.disk e.at_) e.cut).list).length) d3,.slice d4 (((Ak w_.disk (Ag w_.disk e.at_) e.cut).names).length) d5,vI ((Ak w_.disk (Ag w_.disk e.at_) e.cut).next)]) [.slice ab0 w_.store.idx.names.length cb0,.slice ab1 w_.store.idx.AY.length cb1,.slice ab2 w_.store.parts.length cb2,.slice ab3 w_.store.mem.length cb3,.slice dY (((Ak w_.disk (Ag w_.disk e.at_) e.cut).files).length) dZ,.slice d0 (((Ak w_.disk (Ag w_.disk e.at_) e.cut).list).length) d3,.slice d4 (((Ak w_.disk (Ag w_.disk e.at_) e.cut).names).length) d5,vI ((Ak w_.disk (Ag w_.disk e.at_) e.cut).next)] hbx fun eD dB dC gh=>?_
  replace ⟨hrb0,hrb1,hrb2,hrb3,hrb4,hrb5,hrb6,aa,ab,aq,ai,aj⟩:=(so [af,ac,ae,bx] dB).g12 hrb0 hrb1 hrb2 hrb3 hrb4 hrb5 hrb6 aa ab aq ai aj
  replace ⟨ak,al,aL,aM,aN,E⟩:=(so [af,ac,ae,bx] dB).g6 ak al aL aM aN E
  refine .d<|.s<|.g<|.r 1<|.lb aa<|.r 2<|.bp (e.cut< (((Ag w_.disk e.at_).length):Int)) (fun gi=>?_) (fun gi=>?_)
  ·refine .d<|.ct<|.g<|.r 1<|.cl (EC (⟨(⟨(⟨w_.store.idx.names,w_.store.idx.AY⟩:Idx),w_.store.parts,w_.store.mem⟩:Sto),(⟨(Ak w_.disk (Ag w_.disk e.at_) e.cut).files,(Ak w_.disk (Ag w_.disk e.at_) e.cut).list,(Ak w_.disk (Ag w_.disk e.at_) e.cut).names,(Ak w_.disk (Ag w_.disk e.at_) e.cut).next⟩:Dsk)⟩:Wld) (RepS.toM hrb0 (all_cons AL all_nil)) (RepS.toM hrb1 (all_cons AL all_nil)) (RepS.toM hrb2 (all_cons AL all_nil)) (RepS.toM hrb3 (all_cons AL all_nil)) (RepS.toM aL (all_cons AL all_nil)) (RepS.toM aM (all_cons AL all_nil)) (RepS.toM aN (all_cons AL all_nil)) dC (by exact (Mk (e:=e) p0 (by with_reducible assumption) (by with_reducible assumption)).2.1) (by exact (Mk (e:=e) p0 (by with_reducible assumption) (by with_reducible assumption)).2.2) (w:=eD) (F:=nin (fo F w.heap.size) [af,ac,ae,bx])) ?_
   rintro lE bk ⟨⟨rfl,hH,lF,hN,hO,lG,hQ,hV,lH,hW,ia,lI,ic,ie,lJ,ig,ii,lK,ij,ik,lL,il,gj,co,cp,cq,cr,cu,cw,cx⟩,bU⟩
   have aV:=al4 aq.lt ab.lt aa.lt dC.lt
   have bd:Gb w.heap.size eD.heap.size:=E.size
   have dD:Mv [af,ac,ae,bx] [af,ac,ae,bx] eD bk:=Mv.inl bU (all_cons AL all_nil) (all_cons (.inl AI) (all_cons (.inl AJ) (all_cons (.inl AK) (all_cons (.inl AL) all_nil))))
   replace ⟨hrb0,hrb1,hrb2,hrb3,hrb4,hrb5,hrb6,aa,ab,aq,ai,aj⟩:=(sp dD bU).g12 hrb0 hrb1 hrb2 hrb3 hrb4 hrb5 hrb6 aa ab aq ai aj
   replace ⟨ak,al,aL,aM,aN,E⟩:=(sp dD bU).g6 ak al aL aM aN E
   replace co:RepS bk (nin (fo F w.heap.size) [af,ac,ae,bx]) _ _ _ _:=RepS.bxM (M2:=[af,ac,ae,bx]) co aV (fun _ h=>.inr (Nat.le_trans bd h)) (all_cons (.inr AI) (all_cons (.inr AJ) (all_cons (.inr AK) (all_cons (.inl AI) all_nil))))
   replace cp:RepS bk (nin (fo F w.heap.size) [af,ac,ae,bx]) _ _ _ _:=RepS.bxM (M2:=[af,ac,ae,bx]) cp aV (fun _ h=>.inr (Nat.le_trans bd h)) (all_cons (.inr AI) (all_cons (.inr AJ) (all_cons (.inr AK) (all_cons (.inl AI) all_nil))))
   replace cq:RepS bk (nin (fo F w.heap.size) [af,ac,ae,bx]) _ _ _ _:=RepS.bxM (M2:=[af,ac,ae,bx]) cq aV (fun _ h=>.inr (Nat.le_trans bd h)) (all_cons (.inr AI) (all_cons (.inr AJ) (all_cons (.inr AK) (all_cons (.inl AI) all_nil))))
   replace cr:RepS bk (nin (fo F w.heap.size) [af,ac,ae,bx]) _ _ _ _:=RepS.bxM (M2:=[af,ac,ae,bx]) cr aV (fun _ h=>.inr (Nat.le_trans bd h)) (all_cons (.inr AI) (all_cons (.inr AJ) (all_cons (.inr AK) (all_cons (.inl AI) all_nil))))
   replace cu:RepS bk (nin (fo F w.heap.size) [af,ac,ae,bx]) _ _ _ _:=RepS.bxM (M2:=[af,ac,ae,bx]) cu aV (fun _ h=>.inr (Nat.le_trans bd h)) (all_cons (.inr AI) (all_cons (.inr AJ) (all_cons (.inr AK) (all_cons (.inl AI) all_nil))))
   replace cw:RepS bk (nin (fo F w.heap.size) [af,ac,ae,bx]) _ _ _ _:=RepS.bxM (M2:=[af,ac,ae,bx]) cw aV (fun _ h=>.inr (Nat.le_trans bd h)) (all_cons (.inr AI) (all_cons (.inr AJ) (all_cons (.inr AK) (all_cons (.inl AI) all_nil))))
   replace cx:RepS bk (nin (fo F w.heap.size) [af,ac,ae,bx]) _ _ _ _:=RepS.bxM (M2:=[af,ac,ae,bx]) cx aV (fun _ h=>.inr (Nat.le_trans bd h)) (all_cons (.inr AI) (all_cons (.inr AJ) (all_cons (.inr AK) (all_cons (.inl AI) all_nil))))
   have gk:=co.len
   subst gk
   have gl:=cp.len
   subst gl
   have gm:=cq.len
   subst gm
   have gn:=cr.len
   subst gn
   have gp:=cu.len
   subst gp
   have gq:=cw.len
   subst gq
   have gr:=cx.len
   subst gr
   refine .d<|T.FR func34 results34 ?_
   rw [show (doW w_ e)=(⟨(⟨(⟨((((BB (⟨(⟨(⟨w_.store.idx.names,w_.store.idx.AY⟩:Idx),w_.store.parts,w_.store.mem⟩:Sto),(⟨(Ak w_.disk (Ag w_.disk e.at_) e.cut).files,(Ak w_.disk (Ag w_.disk e.at_) e.cut).list,(Ak w_.disk (Ag w_.disk e.at_) e.cut).names,(Ak w_.disk (Ag w_.disk e.at_) e.cut).next⟩:Dsk)⟩:Wld))).store).idx).names,((((BB (⟨(⟨(⟨w_.store.idx.names,w_.store.idx.AY⟩:Idx),w_.store.parts,w_.store.mem⟩:Sto),(⟨(Ak w_.disk (Ag w_.disk e.at_) e.cut).files,(Ak w_.disk (Ag w_.disk e.at_) e.cut).list,(Ak w_.disk (Ag w_.disk e.at_) e.cut).names,(Ak w_.disk (Ag w_.disk e.at_) e.cut).next⟩:Dsk)⟩:Wld))).store).idx).AY⟩:Idx),(((BB (⟨(⟨(⟨w_.store.idx.names,w_.store.idx.AY⟩:Idx),w_.store.parts,w_.store.mem⟩:Sto),(⟨(Ak w_.disk (Ag w_.disk e.at_) e.cut).files,(Ak w_.disk (Ag w_.disk e.at_) e.cut).list,(Ak w_.disk (Ag w_.disk e.at_) e.cut).names,(Ak w_.disk (Ag w_.disk e.at_) e.cut).next⟩:Dsk)⟩:Wld))).store).parts,(((BB (⟨(⟨(⟨w_.store.idx.names,w_.store.idx.AY⟩:Idx),w_.store.parts,w_.store.mem⟩:Sto),(⟨(Ak w_.disk (Ag w_.disk e.at_) e.cut).files,(Ak w_.disk (Ag w_.disk e.at_) e.cut).list,(Ak w_.disk (Ag w_.disk e.at_) e.cut).names,(Ak w_.disk (Ag w_.disk e.at_) e.cut).next⟩:Dsk)⟩:Wld))).store).mem⟩:Sto),(⟨(((BB (⟨(⟨(⟨w_.store.idx.names,w_.store.idx.AY⟩:Idx),w_.store.parts,w_.store.mem⟩:Sto),(⟨(Ak w_.disk (Ag w_.disk e.at_) e.cut).files,(Ak w_.disk (Ag w_.disk e.at_) e.cut).list,(Ak w_.disk (Ag w_.disk e.at_) e.cut).names,(Ak w_.disk (Ag w_.disk e.at_) e.cut).next⟩:Dsk)⟩:Wld))).disk).files,(((BB (⟨(⟨(⟨w_.store.idx.names,w_.store.idx.AY⟩:Idx),w_.store.parts,w_.store.mem⟩:Sto),(⟨(Ak w_.disk (Ag w_.disk e.at_) e.cut).files,(Ak w_.disk (Ag w_.disk e.at_) e.cut).list,(Ak w_.disk (Ag w_.disk e.at_) e.cut).names,(Ak w_.disk (Ag w_.disk e.at_) e.cut).next⟩:Dsk)⟩:Wld))).disk).list,(((BB (⟨(⟨(⟨w_.store.idx.names,w_.store.idx.AY⟩:Idx),w_.store.parts,w_.store.mem⟩:Sto),(⟨(Ak w_.disk (Ag w_.disk e.at_) e.cut).files,(Ak w_.disk (Ag w_.disk e.at_) e.cut).list,(Ak w_.disk (Ag w_.disk e.at_) e.cut).names,(Ak w_.disk (Ag w_.disk e.at_) e.cut).next⟩:Dsk)⟩:Wld))).disk).names,(((BB (⟨(⟨(⟨w_.store.idx.names,w_.store.idx.AY⟩:Idx),w_.store.parts,w_.store.mem⟩:Sto),(⟨(Ak w_.disk (Ag w_.disk e.at_) e.cut).files,(Ak w_.disk (Ag w_.disk e.at_) e.cut).list,(Ak w_.disk (Ag w_.disk e.at_) e.cut).names,(Ak w_.disk (Ag w_.disk e.at_) e.cut).next⟩:Dsk)⟩:Wld))).disk).next⟩:Dsk)⟩:Wld) from by exact WX p0 (by with_reducible assumption) (by with_reducible assumption) (by with_reducible assumption) (by with_reducible assumption)]
   exact ⟨⟨rfl,hH,(((((BB (⟨(⟨(⟨w_.store.idx.names,w_.store.idx.AY⟩:Idx),w_.store.parts,w_.store.mem⟩:Sto),(⟨(Ak w_.disk (Ag w_.disk e.at_) e.cut).files,(Ak w_.disk (Ag w_.disk e.at_) e.cut).list,(Ak w_.disk (Ag w_.disk e.at_) e.cut).names,(Ak w_.disk (Ag w_.disk e.at_) e.cut).next⟩:Dsk)⟩:Wld))).store).idx).names).length,hN,hO,(((((BB (⟨(⟨(⟨w_.store.idx.names,w_.store.idx.AY⟩:Idx),w_.store.parts,w_.store.mem⟩:Sto),(⟨(Ak w_.disk (Ag w_.disk e.at_) e.cut).files,(Ak w_.disk (Ag w_.disk e.at_) e.cut).list,(Ak w_.disk (Ag w_.disk e.at_) e.cut).names,(Ak w_.disk (Ag w_.disk e.at_) e.cut).next⟩:Dsk)⟩:Wld))).store).idx).AY).length,hQ,hV,((((BB (⟨(⟨(⟨w_.store.idx.names,w_.store.idx.AY⟩:Idx),w_.store.parts,w_.store.mem⟩:Sto),(⟨(Ak w_.disk (Ag w_.disk e.at_) e.cut).files,(Ak w_.disk (Ag w_.disk e.at_) e.cut).list,(Ak w_.disk (Ag w_.disk e.at_) e.cut).names,(Ak w_.disk (Ag w_.disk e.at_) e.cut).next⟩:Dsk)⟩:Wld))).store).parts).length,hW,ia,((((BB (⟨(⟨(⟨w_.store.idx.names,w_.store.idx.AY⟩:Idx),w_.store.parts,w_.store.mem⟩:Sto),(⟨(Ak w_.disk (Ag w_.disk e.at_) e.cut).files,(Ak w_.disk (Ag w_.disk e.at_) e.cut).list,(Ak w_.disk (Ag w_.disk e.at_) e.cut).names,(Ak w_.disk (Ag w_.disk e.at_) e.cut).next⟩:Dsk)⟩:Wld))).store).mem).length,ic,ie,((((BB (⟨(⟨(⟨w_.store.idx.names,w_.store.idx.AY⟩:Idx),w_.store.parts,w_.store.mem⟩:Sto),(⟨(Ak w_.disk (Ag w_.disk e.at_) e.cut).files,(Ak w_.disk (Ag w_.disk e.at_) e.cut).list,(Ak w_.disk (Ag w_.disk e.at_) e.cut).names,(Ak w_.disk (Ag w_.disk e.at_) e.cut).next⟩:Dsk)⟩:Wld))).disk).files).length,ig,ii,((((BB (⟨(⟨(⟨w_.store.idx.names,w_.store.idx.AY⟩:Idx),w_.store.parts,w_.store.mem⟩:Sto),(⟨(Ak w_.disk (Ag w_.disk e.at_) e.cut).files,(Ak w_.disk (Ag w_.disk e.at_) e.cut).list,(Ak w_.disk (Ag w_.disk e.at_) e.cut).names,(Ak w_.disk (Ag w_.disk e.at_) e.cut).next⟩:Dsk)⟩:Wld))).disk).list).length,ij,ik,((((BB (⟨(⟨(⟨w_.store.idx.names,w_.store.idx.AY⟩:Idx),w_.store.parts,w_.store.mem⟩:Sto),(⟨(Ak w_.disk (Ag w_.disk e.at_) e.cut).files,(Ak w_.disk (Ag w_.disk e.at_) e.cut).list,(Ak w_.disk (Ag w_.disk e.at_) e.cut).names,(Ak w_.disk (Ag w_.disk e.at_) e.cut).next⟩:Dsk)⟩:Wld))).disk).names).length,il,gj,(RepS.Ao co (all_cons AL all_nil)),(RepS.Ao cp (all_cons AL all_nil)),(RepS.Ao cq (all_cons AL all_nil)),(RepS.Ao cr (all_cons AL all_nil)),(RepS.Ao cu (all_cons AL all_nil)),(RepS.Ao cw (all_cons AL all_nil)),(RepS.Ao cx (all_cons AL all_nil))⟩,E⟩
  refine .d<|.cf<|.g<|.r 1<|.ln aq<|.r 2<|.sb 0 (.agg #[.slice b9 ((BM w_.store e.at_).1.idx.names.length) cd,.slice ce ((((BM w_.store e.at_).1.idx).AY).length) cg,.slice ci ((BM w_.store e.at_).1.parts.length) cj,.slice ck ((BM w_.store e.at_).1.mem.length) cm]) [.slice b9 ((BM w_.store e.at_).1.idx.names.length) cd,.slice ce ((((BM w_.store e.at_).1.idx).AY).length) cg,.slice ci ((BM w_.store e.at_).1.parts.length) cj,.slice ck ((BM w_.store e.at_).1.mem.length) cm,.slice dY (((Ak w_.disk (Ag w_.disk e.at_) e.cut).files).length) dZ,.slice d0 (((Ak w_.disk (Ag w_.disk e.at_) e.cut).list).length) d3,.slice d4 (((Ak w_.disk (Ag w_.disk e.at_) e.cut).names).length) d5,vI ((Ak w_.disk (Ag w_.disk e.at_) e.cut).next)] dC fun lM dE gs gt=>?_
  replace ⟨hrb0,hrb1,hrb2,hrb3,hrb4,hrb5,hrb6,aa,ab,ai,aj,ak⟩:=(so [af,ac,ae,bx] dE).g12 hrb0 hrb1 hrb2 hrb3 hrb4 hrb5 hrb6 aa ab ai aj ak
  replace ⟨al,aL,aM,aN,E⟩:=(so [af,ac,ae,bx] dE).g5 al aL aM aN E
  refine .d<|T.FR func34 results34 ?_
  rw [show (doW w_ e)=(⟨(⟨(⟨(BM w_.store e.at_).1.idx.names,((BM w_.store e.at_).1.idx).AY⟩:Idx),(BM w_.store e.at_).1.parts,(BM w_.store e.at_).1.mem⟩:Sto),(⟨(Ak w_.disk (Ag w_.disk e.at_) e.cut).files,(Ak w_.disk (Ag w_.disk e.at_) e.cut).list,(Ak w_.disk (Ag w_.disk e.at_) e.cut).names,(Ak w_.disk (Ag w_.disk e.at_) e.cut).next⟩:Dsk)⟩:Wld) from by exact WY p0 (by with_reducible assumption) (by with_reducible assumption) (by with_reducible assumption) (by with_reducible assumption)]
  exact ⟨⟨rfl,b9,(BM w_.store e.at_).1.idx.names.length,cd,ce,(((BM w_.store e.at_).1.idx).AY).length,cg,ci,(BM w_.store e.at_).1.parts.length,cj,ck,(BM w_.store e.at_).1.mem.length,cm,dY,((Ak w_.disk (Ag w_.disk e.at_) e.cut).files).length,dZ,d0,((Ak w_.disk (Ag w_.disk e.at_) e.cut).list).length,d3,d4,((Ak w_.disk (Ag w_.disk e.at_) e.cut).names).length,d5,gs,(RepS.Ao ai (all_cons AL all_nil)),(RepS.Ao aj (all_cons AL all_nil)),(RepS.Ao ak (all_cons AL all_nil)),(RepS.Ao al (all_cons AL all_nil)),(RepS.Ao aL (all_cons AL all_nil)),(RepS.Ao aM (all_cons AL all_nil)),(RepS.Ao aN (all_cons AL all_nil))⟩,E⟩
 refine .r 1<|.d<|.cf<|.s<|.g<|.eq e.kind 4 (fun gu=>?_) (fun gu=>?_)
 ·refine .r 1<|.d<|.ct<|.g<|.r 1<|.cl (EC w_ (RepS.toM hrb0 (all_cons AL all_nil)) (RepS.toM hrb1 (all_cons AL all_nil)) (RepS.toM hrb2 (all_cons AL all_nil)) (RepS.toM hrb3 (all_cons AL all_nil)) (RepS.toM hrb4 (all_cons AL all_nil)) (RepS.toM hrb5 (all_cons AL all_nil)) (RepS.toM hrb6 (all_cons AL all_nil)) hbx (by exact p0.dd) (by exact p0.dk) (w:=bC) (F:=nin (fo F w.heap.size) [af,ac,ae,bx])) ?_
  rintro lN bm ⟨⟨rfl,im,lO,io,ip,lP,iq,ir,lQ,iu,iw,lR,iy,iz,lS,iA,iB,lT,iC,iD,lU,iE,gv,cy,cz,cA,cB,cC,cD,cE⟩,dF⟩
  have aW:=al4 ag.lt ab.lt aa.lt hbx.lt
  have bg:Gb w.heap.size bC.heap.size:=E.size
  have eE:Mv [af,ac,ae,bx] [af,ac,ae,bx] bC bm:=Mv.inl dF (all_cons AL all_nil) (all_cons (.inl AI) (all_cons (.inl AJ) (all_cons (.inl AK) (all_cons (.inl AL) all_nil))))
  replace ⟨hrb0,hrb1,hrb2,hrb3,hrb4,hrb5,hrb6,E⟩:=(sp eE dF).g8 hrb0 hrb1 hrb2 hrb3 hrb4 hrb5 hrb6 E
  replace cy:RepS bm (nin (fo F w.heap.size) [af,ac,ae,bx]) _ _ _ _:=RepS.bxM (M2:=[af,ac,ae,bx]) cy aW (fun _ h=>.inr (Nat.le_trans bg h)) (all_cons (.inr AI) (all_cons (.inr AJ) (all_cons (.inr AK) (all_cons (.inl AI) all_nil))))
  replace cz:RepS bm (nin (fo F w.heap.size) [af,ac,ae,bx]) _ _ _ _:=RepS.bxM (M2:=[af,ac,ae,bx]) cz aW (fun _ h=>.inr (Nat.le_trans bg h)) (all_cons (.inr AI) (all_cons (.inr AJ) (all_cons (.inr AK) (all_cons (.inl AI) all_nil))))
  replace cA:RepS bm (nin (fo F w.heap.size) [af,ac,ae,bx]) _ _ _ _:=RepS.bxM (M2:=[af,ac,ae,bx]) cA aW (fun _ h=>.inr (Nat.le_trans bg h)) (all_cons (.inr AI) (all_cons (.inr AJ) (all_cons (.inr AK) (all_cons (.inl AI) all_nil))))
  replace cB:RepS bm (nin (fo F w.heap.size) [af,ac,ae,bx]) _ _ _ _:=RepS.bxM (M2:=[af,ac,ae,bx]) cB aW (fun _ h=>.inr (Nat.le_trans bg h)) (all_cons (.inr AI) (all_cons (.inr AJ) (all_cons (.inr AK) (all_cons (.inl AI) all_nil))))
  replace cC:RepS bm (nin (fo F w.heap.size) [af,ac,ae,bx]) _ _ _ _:=RepS.bxM (M2:=[af,ac,ae,bx]) cC aW (fun _ h=>.inr (Nat.le_trans bg h)) (all_cons (.inr AI) (all_cons (.inr AJ) (all_cons (.inr AK) (all_cons (.inl AI) all_nil))))
  replace cD:RepS bm (nin (fo F w.heap.size) [af,ac,ae,bx]) _ _ _ _:=RepS.bxM (M2:=[af,ac,ae,bx]) cD aW (fun _ h=>.inr (Nat.le_trans bg h)) (all_cons (.inr AI) (all_cons (.inr AJ) (all_cons (.inr AK) (all_cons (.inl AI) all_nil))))
  replace cE:RepS bm (nin (fo F w.heap.size) [af,ac,ae,bx]) _ _ _ _:=RepS.bxM (M2:=[af,ac,ae,bx]) cE aW (fun _ h=>.inr (Nat.le_trans bg h)) (all_cons (.inr AI) (all_cons (.inr AJ) (all_cons (.inr AK) (all_cons (.inl AI) all_nil))))
  have gw:=cy.len
  subst gw
  have gy:=cz.len
  subst gy
  have gz:=cA.len
  subst gz
  have gA:=cB.len
  subst gA
  have gC:=cC.len
  subst gC
  have gD:=cD.len
  subst gD
  have gE:=cE.len
  subst gE
  refine .d<|.ib 0<|.s<|.s<|.g<|.r 8<|.d<|.ct<|T.KH AA func34 results34 ?_
  rw [show (doW w_ e)=(⟨(⟨(⟨((((BB w_)).store).idx).names,((((BB w_)).store).idx).AY⟩:Idx),(((BB w_)).store).parts,(((BB w_)).store).mem⟩:Sto),(⟨(((BB w_)).disk).files,(((BB w_)).disk).list,(((BB w_)).disk).names,(((BB w_)).disk).next⟩:Dsk)⟩:Wld) from by exact Wp (by with_reducible assumption)]
  exact ⟨⟨rfl,im,(((((BB w_)).store).idx).names).length,io,ip,(((((BB w_)).store).idx).AY).length,iq,ir,((((BB w_)).store).parts).length,iu,iw,((((BB w_)).store).mem).length,iy,iz,((((BB w_)).disk).files).length,iA,iB,((((BB w_)).disk).list).length,iC,iD,((((BB w_)).disk).names).length,iE,gv,(RepS.Ao cy (all_cons AL all_nil)),(RepS.Ao cz (all_cons AL all_nil)),(RepS.Ao cA (all_cons AL all_nil)),(RepS.Ao cB (all_cons AL all_nil)),(RepS.Ao cC (all_cons AL all_nil)),(RepS.Ao cD (all_cons AL all_nil)),(RepS.Ao cE (all_cons AL all_nil))⟩,E⟩
 refine .r 1<|.d<|.cf<|.sk<|.ib 0<|.s<|.s<|.g<|.r 8<|.d<|.ct<|T.KH AA func34 results34 ?_
 rw [show (doW w_ e)=w_ from by exact Ld (by with_reducible assumption) (by with_reducible assumption) (by with_reducible assumption) (by with_reducible assumption)]
 exact ⟨⟨rfl,ab0,w_.store.idx.names.length,cb0,ab1,w_.store.idx.AY.length,cb1,ab2,w_.store.parts.length,cb2,ab3,w_.store.mem.length,cb3,ab4,w_.disk.files.length,cb4,ab5,w_.disk.list.length,cb5,ab6,w_.disk.names.length,cb6,hbx,(RepS.Ao hrb0 (all_cons AL all_nil)),(RepS.Ao hrb1 (all_cons AL all_nil)),(RepS.Ao hrb2 (all_cons AL all_nil)),(RepS.Ao hrb3 (all_cons AL all_nil)),(RepS.Ao hrb4 (all_cons AL all_nil)),(RepS.Ao hrb5 (all_cons AL all_nil)),(RepS.Ao hrb6 (all_cons AL all_nil))⟩,E⟩
theorem DQ (events:List Evt) (h1:RepS w F a1 n1 c1 events) (p0:EsD events):Calls Tryz.prog 16 [.slice a1 n1 c1].toArray w (Am fun rv w'=>(∃ v0,rv=.tuple #[v0,.bool ((Ay events).2)]∧VS (fo F w.heap.size) w' ((Ay events).1:Wld) v0)∧Ext w w'):=by
 refine goT func16 ?_
 obtain ⟨rfl,dB,h1⟩:=h1.tp
 refine .s<|.g<|.np 38 [AH,AH,AH,AH,AH,AH,AH,vI 0] fun E bS bh bi ae bT=>?_
 have dC:Cov nil w E:=Fp bh (Nat.le_refl _)
 replace h1:=(sn [] bi bh).g1 h1
 have ab:=bi
 refine .r 1<|.d<|.s<|.s<|.g<|.r 2<|.bp ((events.length:Int) > 50) (fun bU=>?_) (fun bU=>?_)
 ·refine .d<|.ct<|.s<|.g<|.r 1<|.sc [AH,AH,AH,AH,AH,AH,AH,vI 0] ae fun d3 bu bV bW=>?_
  replace ⟨h1,ab⟩:=(so [E] bu).g2 h1 ab
  exact .r 1<|.d<|.r2 func16 results16 (.bx bV) (.t (.bool false)) ⟨⟨_,(Bx rfl (AG (by (rw [K1 ‹_›] <;> rfl)))),(VS.of (y:=(⟨(⟨(⟨([]:List (List Tag)),([]:List Pst)⟩:Idx),([]:List Prt),([]:List Smp)⟩:Sto),(⟨([]:List Fil),([]:List Int),([]:List (List Tag)),0⟩:Dsk)⟩:Wld)) ⟨_,rfl,⟨_,_,_,_,_,_,_,_,_,_,_,_,_,_,_,_,_,_,_,_,_,rfl,(RepS.BN _ _ none 0 AE),(RepS.BN _ _ none 0 AE),(RepS.BN _ _ none 0 AE),(RepS.BN _ _ none 0 AE),(RepS.BN _ _ none 0 AE),(RepS.BN _ _ none 0 AE),(RepS.BN _ _ none 0 AE)⟩⟩ (by (rw [K1 ‹_›] <;> rfl)))⟩,ab⟩
 refine .d<|.cf<|.sk<|.s<|.g<|.cl (Jz (w:=bS) (F:=all)) ?_
 rintro d4 d5 ⟨⟨_,rfl,⟨bX,d6,bY,bZ,d7,b0,b6,d8,b7,b8,d9,b9,cd,ec,ce,cg,ee,ci,cj,ef,ck,rfl,aI,aJ,aK,aL,aM,aN,aO⟩⟩,bv⟩
 have aH:=al1 ae.lt
 have aP:Gb w.heap.size bS.heap.size:=ab.size
 replace ⟨h1,ae,ab⟩:=(se [E] bv).g3 h1 ae ab
 have aI:=aI.fr aH aP
 replace aI:=aI.base (G':=fo F w.heap.size) (fun _ _ h=>.inr h)
 have dD:=aI.max
 have aJ:=aJ.fr aH aP
 replace aJ:=aJ.base (G':=fo F w.heap.size) (fun _ _ h=>.inr h)
 have dE:=aJ.max
 have aK:=aK.fr aH aP
 replace aK:=aK.base (G':=fo F w.heap.size) (fun _ _ h=>.inr h)
 have dF:=aK.max
 have aL:=aL.fr aH aP
 replace aL:=aL.base (G':=fo F w.heap.size) (fun _ _ h=>.inr h)
 have dG:=aL.max
 have aM:=aM.fr aH aP
 replace aM:=aM.base (G':=fo F w.heap.size) (fun _ _ h=>.inr h)
 have dH:=aM.max
 have aN:=aN.fr aH aP
 replace aN:=aN.base (G':=fo F w.heap.size) (fun _ _ h=>.inr h)
 have dI:=aN.max
 have aO:=aO.fr aH aP
 replace aO:=aO.base (G':=fo F w.heap.size) (fun _ _ h=>.inr h)
 have dJ:=aO.max
 have cm:=aI.len
 subst cm
 have co:=aJ.len
 subst co
 have cp:=aK.len
 subst cp
 have cq:=aL.len
 subst cq
 have cr:=aM.len
 subst cr
 have cu:=aN.len
 subst cu
 have cw:=aO.len
 subst cw
 refine .np 38 [AH,AH,AH,AH,AH,AH,AH,vI 0] fun aa eg bd bw cx cy=>?_
 have dK:=Ab bd ae.lt
 have dL:=ab.cn bd
 replace ⟨h1,ae,aI,aJ,aK,aL,aM,aN,aO,ab⟩:=(sn [E] bw bd).g10 h1 ae aI aJ aK aL aM aN aO ab
 refine .sc [.slice bX Cu.store.idx.names.length bY,.slice bZ Cu.store.idx.AY.length b0,.slice b6 Cu.store.parts.length b7,.slice b8 Cu.store.mem.length b9,.slice cd Cu.disk.files.length ce,.slice cg Cu.disk.list.length ci,.slice cj Cu.disk.names.length ck,vI Cu.disk.next] cx fun bA bz cz cA=>?_
 replace ⟨h1,ae,aI,aJ,aK,aL,aM,aN,aO,ab⟩:=(so [aa,E] bz).g10 h1 ae aI aJ aK aL aM aN aO ab
 refine .d<|.s<|.s<|.g<|.r 3<|.d<|.b 0<|T.loop (X:=Nat × (List (List Tag)) × (Option Addr) × Nat × Nat × (List Pst) × (Option Addr) × Nat × Nat × (List Prt) × (Option Addr) × Nat × Nat × (List Smp) × (Option Addr) × Nat × Nat × (List Fil) × (Option Addr) × Nat × Nat × (List Int) × (Option Addr) × Nat × Nat × (List (List Tag)) × (Option Addr) × Nat × Nat × Int) (0,(Cu.store.idx.names:List (List Tag)),bX,Cu.store.idx.names.length,bY,(Cu.store.idx.AY:List Pst),bZ,Cu.store.idx.AY.length,b0,(Cu.store.parts:List Prt),b6,Cu.store.parts.length,b7,(Cu.store.mem:List Smp),b8,Cu.store.mem.length,b9,(Cu.disk.files:List Fil),cd,Cu.disk.files.length,ce,(Cu.disk.list:List Int),cg,Cu.disk.list.length,ci,(Cu.disk.names:List (List Tag)),cj,Cu.disk.names.length,ck,Cu.disk.next) (fun (k,am,a_w_0,n_w_0,c_w_0,ao,a_w_1,n_w_1,c_w_1,aq,a_w_2,n_w_2,c_w_2,ar,a_w_3,n_w_3,c_w_3,au,a_w_4,n_w_4,c_w_4,ax,a_w_5,n_w_5,c_w_5,ay,a_w_6,n_w_6,c_w_6,al)=>[(2,.pointer (some ⟨E,0,none⟩)),(4,.pointer (some ⟨aa,0,none⟩)),(12,.slice a1 events.length c1),(13,vI (events.length:Int)),(14,vI (k:Int))]) (fun (k,am,a_w_0,n_w_0,c_w_0,ao,a_w_1,n_w_1,c_w_1,aq,a_w_2,n_w_2,c_w_2,ar,a_w_3,n_w_3,c_w_3,au,a_w_4,n_w_4,c_w_4,ax,a_w_5,n_w_5,c_w_5,ay,a_w_6,n_w_6,c_w_6,al) aQ=>Chg (ins [aa]) bA aQ∧RepS aQ (nin (fo F w.heap.size) [aa,E]) a_w_0 n_w_0 c_w_0 am∧RepS aQ (nin (fo F w.heap.size) [aa,E]) a_w_1 n_w_1 c_w_1 ao∧RepS aQ (nin (fo F w.heap.size) [aa,E]) a_w_2 n_w_2 c_w_2 aq∧RepS aQ (nin (fo F w.heap.size) [aa,E]) a_w_3 n_w_3 c_w_3 ar∧RepS aQ (nin (fo F w.heap.size) [aa,E]) a_w_4 n_w_4 c_w_4 au∧RepS aQ (nin (fo F w.heap.size) [aa,E]) a_w_5 n_w_5 c_w_5 ax∧RepS aQ (nin (fo F w.heap.size) [aa,E]) a_w_6 n_w_6 c_w_6 ay∧Box aQ aa 38 [.slice a_w_0 n_w_0 c_w_0,.slice a_w_1 n_w_1 c_w_1,.slice a_w_2 n_w_2 c_w_2,.slice a_w_3 n_w_3 c_w_3,.slice a_w_4 n_w_4 c_w_4,.slice a_w_5 n_w_5 c_w_5,.slice a_w_6 n_w_6 c_w_6,vI al]∧(k≤events.length)∧((events.drop k).foldl doW ⟨⟨⟨am,ao⟩,aq,ar⟩,⟨au,ax,ay,al⟩⟩=Bu events)∧(WV ⟨⟨⟨am,ao⟩,aq,ar⟩,⟨au,ax,ay,al⟩⟩)) (fun (k,am,a_w_0,n_w_0,c_w_0,ao,a_w_1,n_w_1,c_w_1,aq,a_w_2,n_w_2,c_w_2,ar,a_w_3,n_w_3,c_w_3,au,a_w_4,n_w_4,c_w_4,ax,a_w_5,n_w_5,c_w_5,ay,a_w_6,n_w_6,c_w_6,al)=>events.length - k) AA ⟨AA,AA,AA,AA,AA,trivial⟩ ⟨Chg.refl _ _,aI,aJ,aK,aL,aM,aN,aO,cz,AB,AF,(by exact WV.new)⟩ ?_
 rintro ⟨k,am,a_w_0,n_w_0,c_w_0,ao,a_w_1,n_w_1,c_w_1,aq,a_w_2,n_w_2,c_w_2,ar,a_w_3,n_w_3,c_w_3,au,a_w_4,n_w_4,c_w_4,ax,a_w_5,n_w_5,c_w_5,ay,a_w_6,n_w_6,c_w_6,al⟩ dM aQ ⟨aD,az,aA,af,ag,ah,ai,aj,aB,dN,dO,dP⟩ bg
 have cS:Cov (ins [aa]) bA aa:=⟨.inl AI⟩
 have bj:Mv [aa,E] [aa,E] bA aQ:=Mv.inl aD (all_cons AI all_nil) (all_cons (.inl AI) (all_cons (.inl AJ) all_nil))
 replace ⟨h1,ae,ab⟩:=(sp bj aD).g3 h1 ae ab
 refine .s<|.g<|.bp ((k:Int)< (events.length:Int)) (fun bB=>?_) (fun bB=>?_)
 ·refine .d<|.s<|.ct<|.sk<|.s<|.b 1<|.s<|.g ?_
  have bC:k< events.length:=AB
  refine .ix k 6 h1 bC ?_
  obtain ⟨ac,aZ⟩:∃ y,events[k]? = some y:=⟨_,AU AB⟩
  have dh:=Be aZ; have cB:=AV aZ
  obtain ⟨_,⟨cC,dQ,cD,rfl,aR⟩,bD⟩:=h1.elem k ac aZ
  have bE:=aR.len
  subst bE
  refine .lg 0 bD<|.np 58 [vI 0,vI 0,vI 0,AH,vI 0,vI 0] fun ak dR aG bk bF bG=>?_
  have dm:=Ab aG ae.lt
  have dp:=Ab aG aB.lt
  have dq:=ab.cn aG
  have dt:=aD.cn aG
  replace ⟨ae,aB,az,aA,af,ag,ah,ai,aj,aR,ab,aD⟩:=(sn [aa,E] bk aG).g12 ae aB az aA af ag ah ai aj aR ab aD
  refine .sc [vI ac.kind,vI ac.at_,vI ac.cut,.slice cC ac.name.length cD,vI ac.row.t,vI ac.row.v] bF fun bm bn bo bH=>?_
  replace ⟨ae,aB,az,aA,af,ag,ah,ai,aj,aR,ab,aD⟩:=(so [ak,aa,E] bn).g12 ae aB az aA af ag ah ai aj aR ab aD
  refine .d<|.g<|.ln bo<|.cl (Di (⟨(⟨(⟨am,ao⟩:Idx),aq,ar⟩:Sto),(⟨au,ax,ay,al⟩:Dsk)⟩:Wld) ac (RepS.toM az (all_cons AJ all_nil)) (RepS.toM aA (all_cons AJ all_nil)) (RepS.toM af (all_cons AJ all_nil)) (RepS.toM ag (all_cons AJ all_nil)) (RepS.toM ah (all_cons AJ all_nil)) (RepS.toM ai (all_cons AJ all_nil)) (RepS.toM aj (all_cons AJ all_nil)) aB (RepS.toM aR (all_cons AJ all_nil)) (by assumption:WV ⟨⟨⟨am,ao⟩,aq,ar⟩,⟨au,ax,ay,al⟩⟩) (p0 _ ‹_›).1 (w:=bm) (F:=nin (fo F w.heap.size) [ak,aa,E])) ?_
  rintro dS aE ⟨⟨rfl,cE,dT,cF,cG,dU,cH,cI,dV,cJ,cK,dW,cL,cM,dX,cN,cO,dY,cP,cQ,dZ,cR,bI,aS,aT,aU,aV,aW,aX,aY⟩,ba⟩
  have aC:=al3 bo.lt aB.lt ae.lt
  have aF:Gb w.heap.size bm.heap.size:=ab.size
  have bq:Mv [ak,aa,E] [ak,aa,E] bm aE:=Mv.inl ba (all_cons AJ all_nil) (all_cons (.inl AI) (all_cons (.inl AJ) (all_cons (.inl AK) all_nil)))
  replace ⟨ae,az,aA,af,ag,ah,ai,aj,ab,aD⟩:=(sp bq ba).g10 ae az aA af ag ah ai aj ab aD
  replace aS:RepS aE (nin (fo F w.heap.size) [ak,aa,E]) _ _ _ _:=RepS.bxM (M2:=[ak,aa,E]) aS aC (fun _ h=>.inr (Nat.le_trans aF h)) (all_cons (.inr AI) (all_cons (.inl AI) (all_cons (.inr AK) all_nil)))
  replace aT:RepS aE (nin (fo F w.heap.size) [ak,aa,E]) _ _ _ _:=RepS.bxM (M2:=[ak,aa,E]) aT aC (fun _ h=>.inr (Nat.le_trans aF h)) (all_cons (.inr AI) (all_cons (.inl AI) (all_cons (.inr AK) all_nil)))
  replace aU:RepS aE (nin (fo F w.heap.size) [ak,aa,E]) _ _ _ _:=RepS.bxM (M2:=[ak,aa,E]) aU aC (fun _ h=>.inr (Nat.le_trans aF h)) (all_cons (.inr AI) (all_cons (.inl AI) (all_cons (.inr AK) all_nil)))
  replace aV:RepS aE (nin (fo F w.heap.size) [ak,aa,E]) _ _ _ _:=RepS.bxM (M2:=[ak,aa,E]) aV aC (fun _ h=>.inr (Nat.le_trans aF h)) (all_cons (.inr AI) (all_cons (.inl AI) (all_cons (.inr AK) all_nil)))
  replace aW:RepS aE (nin (fo F w.heap.size) [ak,aa,E]) _ _ _ _:=RepS.bxM (M2:=[ak,aa,E]) aW aC (fun _ h=>.inr (Nat.le_trans aF h)) (all_cons (.inr AI) (all_cons (.inl AI) (all_cons (.inr AK) all_nil)))
  replace aX:RepS aE (nin (fo F w.heap.size) [ak,aa,E]) _ _ _ _:=RepS.bxM (M2:=[ak,aa,E]) aX aC (fun _ h=>.inr (Nat.le_trans aF h)) (all_cons (.inr AI) (all_cons (.inl AI) (all_cons (.inr AK) all_nil)))
  replace aY:RepS aE (nin (fo F w.heap.size) [ak,aa,E]) _ _ _ _:=RepS.bxM (M2:=[ak,aa,E]) aY aC (fun _ h=>.inr (Nat.le_trans aF h)) (all_cons (.inr AI) (all_cons (.inl AI) (all_cons (.inr AK) all_nil)))
  have bJ:=aS.len
  subst bJ
  have bK:=aT.len
  subst bK
  have bL:=aU.len
  subst bL
  have bM:=aV.len
  subst bM
  have bN:=aW.len
  subst bN
  have bO:=aX.len
  subst bO
  have bP:=aY.len
  subst bP
  refine .d<|.ib 1<|.g<|.it ((k:Int)+1)<|.r 1<|.d ?_
  have br:Mv [ak,aa,E] [aa,E] aE aE:=Mv.less (all_cons AJ (all_cons AK all_nil))
  replace ⟨az,aA,af,ag,ah,ai,aj,aS,aT,aU,aV,aW⟩:=(sp br (Chg.refl nil _)).g12 az aA af ag ah ai aj aS aT aU aV aW
  replace ⟨aX,aY⟩:=(sp br (Chg.refl nil _)).g2 aX aY
  exact bg (k+1,((((doW (⟨(⟨(⟨am,ao⟩:Idx),aq,ar⟩:Sto),(⟨au,ax,ay,al⟩:Dsk)⟩:Wld) ac)).store).idx).names,cE,(((((doW (⟨(⟨(⟨am,ao⟩:Idx),aq,ar⟩:Sto),(⟨au,ax,ay,al⟩:Dsk)⟩:Wld) ac)).store).idx).names).length,cF,((((doW (⟨(⟨(⟨am,ao⟩:Idx),aq,ar⟩:Sto),(⟨au,ax,ay,al⟩:Dsk)⟩:Wld) ac)).store).idx).AY,cG,(((((doW (⟨(⟨(⟨am,ao⟩:Idx),aq,ar⟩:Sto),(⟨au,ax,ay,al⟩:Dsk)⟩:Wld) ac)).store).idx).AY).length,cH,(((doW (⟨(⟨(⟨am,ao⟩:Idx),aq,ar⟩:Sto),(⟨au,ax,ay,al⟩:Dsk)⟩:Wld) ac)).store).parts,cI,((((doW (⟨(⟨(⟨am,ao⟩:Idx),aq,ar⟩:Sto),(⟨au,ax,ay,al⟩:Dsk)⟩:Wld) ac)).store).parts).length,cJ,(((doW (⟨(⟨(⟨am,ao⟩:Idx),aq,ar⟩:Sto),(⟨au,ax,ay,al⟩:Dsk)⟩:Wld) ac)).store).mem,cK,((((doW (⟨(⟨(⟨am,ao⟩:Idx),aq,ar⟩:Sto),(⟨au,ax,ay,al⟩:Dsk)⟩:Wld) ac)).store).mem).length,cL,(((doW (⟨(⟨(⟨am,ao⟩:Idx),aq,ar⟩:Sto),(⟨au,ax,ay,al⟩:Dsk)⟩:Wld) ac)).disk).files,cM,((((doW (⟨(⟨(⟨am,ao⟩:Idx),aq,ar⟩:Sto),(⟨au,ax,ay,al⟩:Dsk)⟩:Wld) ac)).disk).files).length,cN,(((doW (⟨(⟨(⟨am,ao⟩:Idx),aq,ar⟩:Sto),(⟨au,ax,ay,al⟩:Dsk)⟩:Wld) ac)).disk).list,cO,((((doW (⟨(⟨(⟨am,ao⟩:Idx),aq,ar⟩:Sto),(⟨au,ax,ay,al⟩:Dsk)⟩:Wld) ac)).disk).list).length,cP,(((doW (⟨(⟨(⟨am,ao⟩:Idx),aq,ar⟩:Sto),(⟨au,ax,ay,al⟩:Dsk)⟩:Wld) ac)).disk).names,cQ,((((doW (⟨(⟨(⟨am,ao⟩:Idx),aq,ar⟩:Sto),(⟨au,ax,ay,al⟩:Dsk)⟩:Wld) ac)).disk).names).length,cR,(((doW (⟨(⟨(⟨am,ao⟩:Idx),aq,ar⟩:Sto),(⟨au,ax,ay,al⟩:Dsk)⟩:Wld) ac)).disk).next) _ _ ⟨AA,AA,AA,AA,AA,trivial⟩ ⟨aD,aS,aT,aU,aV,aW,aX,aY,bI,AB,(by exact N1 ‹_› ‹_›),(by exact WV.do ‹_› (p0 _ ‹_›).1)⟩ (by (simp only []; omega))
 refine .d<|.s<|.cf<|.x 0 rfl<|.s<|.g<|.ln aB<|.sc [.slice a_w_0 n_w_0 c_w_0,.slice a_w_1 n_w_1 c_w_1,.slice a_w_2 n_w_2 c_w_2,.slice a_w_3 n_w_3 c_w_3,.slice a_w_4 n_w_4 c_w_4,.slice a_w_5 n_w_5 c_w_5,.slice a_w_6 n_w_6 c_w_6,vI al] ae fun d0 bt bQ bR=>?_
 replace ⟨az,aA,af,ag,ah,ai,aj,ab⟩:=(so [aa,E] bt).g8 az aA af ag ah ai aj ab
 exact .r 1<|.d<|.r2 func16 results16 (.bx bQ) (.t (.bool true)) ⟨⟨_,(Bx rfl (AG (by (rw [Gz ‹_›])))),(VS.of (y:=(⟨(⟨(⟨am,ao⟩:Idx),aq,ar⟩:Sto),(⟨au,ax,ay,al⟩:Dsk)⟩:Wld)) ⟨_,rfl,⟨_,_,_,_,_,_,_,_,_,_,_,_,_,_,_,_,_,_,_,_,_,rfl,az.w1,aA.w1,af.w1,ag.w1,ah.w1,ai.w1,aj.w1⟩⟩ (by (rw [Gz ‹_›]; exact Pq ‹_› AB)))⟩,ab⟩
theorem DR (events:List Evt) (h1:RepS w F a1 n1 c1 events) (p0:EsD events):Calls Tryz.prog 17 [.slice a1 n1 c1].toArray w (Am fun rv w'=>(∃ v0,rv=.tuple #[v0,.bool ((Ay events).2)]∧VS (fo F w.heap.size) w' ((Ay events).1:Wld) v0)∧Ext w w'):=by
 refine goT func17 ?_
 obtain ⟨rfl,eO,h1⟩:=h1.tp
 refine .s<|.g<|.np 38 [AH,AH,AH,AH,AH,AH,AH,vI 0] fun aj cI bE bF al cJ=>?_
 have eP:Cov nil w aj:=Fp bE (Nat.le_refl _)
 replace h1:=(sn [] bF bE).g1 h1
 have ai:=bF
 refine .r 1<|.d<|.s<|.s<|.g<|.r 2<|.bp ((events.length:Int) > 50) (fun cK=>?_) (fun cK=>?_)
 ·refine .d<|.ct<|.s<|.g<|.r 1<|.sc [AH,AH,AH,AH,AH,AH,AH,vI 0] al fun fF bN cL cM=>?_
  replace ⟨h1,ai⟩:=(so [aj] bN).g2 h1 ai
  exact .r 1<|.d<|.r2 func17 results17 (.bx cL) (.t (.bool false)) ⟨⟨_,(Bx rfl (AG (by (rw [K1 ‹_›] <;> rfl)))),(VS.of (y:=(⟨(⟨(⟨([]:List (List Tag)),([]:List Pst)⟩:Idx),([]:List Prt),([]:List Smp)⟩:Sto),(⟨([]:List Fil),([]:List Int),([]:List (List Tag)),0⟩:Dsk)⟩:Wld)) ⟨_,rfl,⟨_,_,_,_,_,_,_,_,_,_,_,_,_,_,_,_,_,_,_,_,_,rfl,(RepS.BN _ _ none 0 AE),(RepS.BN _ _ none 0 AE),(RepS.BN _ _ none 0 AE),(RepS.BN _ _ none 0 AE),(RepS.BN _ _ none 0 AE),(RepS.BN _ _ none 0 AE),(RepS.BN _ _ none 0 AE)⟩⟩ (by (rw [K1 ‹_›] <;> rfl)))⟩,ai⟩
 refine .d<|.cf<|.sk<|.s<|.g<|.cl (GB (w:=cI) (F:=all)) ?_
 rintro fG fH ⟨⟨_,rfl,⟨cN,fI,cO,cP,fJ,cQ,cR,fK,cS,cT,fL,cU,cV,fM,cW,cX,fN,cY,cZ,fO,c7,rfl,aT,aU,aV,aW,aX,aY,aZ⟩⟩,bO⟩
 have aS:=al1 al.lt
 have ba:Gb w.heap.size cI.heap.size:=ai.size
 replace ⟨h1,al,ai⟩:=(se [aj] bO).g3 h1 al ai
 have aT:=aT.fr aS ba
 replace aT:=aT.base (G':=fo F w.heap.size) (fun _ _ h=>.inr h)
 have eQ:=aT.max
 have aU:=aU.fr aS ba
 replace aU:=aU.base (G':=fo F w.heap.size) (fun _ _ h=>.inr h)
 have eR:=aU.max
 have aV:=aV.fr aS ba
 replace aV:=aV.base (G':=fo F w.heap.size) (fun _ _ h=>.inr h)
 have eS:=aV.max
 have aW:=aW.fr aS ba
 replace aW:=aW.base (G':=fo F w.heap.size) (fun _ _ h=>.inr h)
 have eT:=aW.max
 have aX:=aX.fr aS ba
 replace aX:=aX.base (G':=fo F w.heap.size) (fun _ _ h=>.inr h)
 have eU:=aX.max
 have aY:=aY.fr aS ba
 replace aY:=aY.base (G':=fo F w.heap.size) (fun _ _ h=>.inr h)
 have eV:=aY.max
 have aZ:=aZ.fr aS ba
 replace aZ:=aZ.base (G':=fo F w.heap.size) (fun _ _ h=>.inr h)
 have eW:=aZ.max
 have c8:=aT.len
 subst c8
 have c9:=aU.len
 subst c9
 have da:=aV.len
 subst da
 have db:=aW.len
 subst db
 have de:=aX.len
 subst de
 have df:=aY.len
 subst df
 have dh:=aZ.len
 subst dh
 refine .np 38 [AH,AH,AH,AH,AH,AH,AH,vI 0] fun ak fP bB bP dj dm=>?_
 have eX:=Ab bB al.lt
 have eY:=ai.cn bB
 replace ⟨h1,al,aT,aU,aV,aW,aX,aY,aZ,ai⟩:=(sn [aj] bP bB).g10 h1 al aT aU aV aW aX aY aZ ai
 refine .sc [.slice cN ((((((⟨⟨⟨[],[]⟩,[],[]⟩,⟨[],[],[],1⟩⟩:Wld)).store).idx).names).length) cO,.slice cP ((((((⟨⟨⟨[],[]⟩,[],[]⟩,⟨[],[],[],1⟩⟩:Wld)).store).idx).AY).length) cQ,.slice cR (((((⟨⟨⟨[],[]⟩,[],[]⟩,⟨[],[],[],1⟩⟩:Wld)).store).parts).length) cS,.slice cT (((((⟨⟨⟨[],[]⟩,[],[]⟩,⟨[],[],[],1⟩⟩:Wld)).store).mem).length) cU,.slice cV (((((⟨⟨⟨[],[]⟩,[],[]⟩,⟨[],[],[],1⟩⟩:Wld)).disk).files).length) cW,.slice cX (((((⟨⟨⟨[],[]⟩,[],[]⟩,⟨[],[],[],1⟩⟩:Wld)).disk).list).length) cY,.slice cZ (((((⟨⟨⟨[],[]⟩,[],[]⟩,⟨[],[],[],1⟩⟩:Wld)).disk).names).length) c7,vI ((((⟨⟨⟨[],[]⟩,[],[]⟩,⟨[],[],[],1⟩⟩:Wld)).disk).next)] dj fun ce bQ dp dq=>?_
 replace ⟨h1,al,aT,aU,aV,aW,aX,aY,aZ,ai⟩:=(so [ak,aj] bQ).g10 h1 al aT aU aV aW aX aY aZ ai
 refine .d<|.s<|.s<|.g<|.r 1<|.d<|.b 0<|T.loop (X:=Nat × (List (List Tag)) × (Option Addr) × Nat × Nat × (List Pst) × (Option Addr) × Nat × Nat × (List Prt) × (Option Addr) × Nat × Nat × (List Smp) × (Option Addr) × Nat × Nat × (List Fil) × (Option Addr) × Nat × Nat × (List Int) × (Option Addr) × Nat × Nat × (List (List Tag)) × (Option Addr) × Nat × Nat × Int) (0,(((((⟨⟨⟨[],[]⟩,[],[]⟩,⟨[],[],[],1⟩⟩:Wld)).store).idx).names:List (List Tag)),cN,(((((⟨⟨⟨[],[]⟩,[],[]⟩,⟨[],[],[],1⟩⟩:Wld)).store).idx).names).length,cO,(((((⟨⟨⟨[],[]⟩,[],[]⟩,⟨[],[],[],1⟩⟩:Wld)).store).idx).AY:List Pst),cP,(((((⟨⟨⟨[],[]⟩,[],[]⟩,⟨[],[],[],1⟩⟩:Wld)).store).idx).AY).length,cQ,((((⟨⟨⟨[],[]⟩,[],[]⟩,⟨[],[],[],1⟩⟩:Wld)).store).parts:List Prt),cR,((((⟨⟨⟨[],[]⟩,[],[]⟩,⟨[],[],[],1⟩⟩:Wld)).store).parts).length,cS,((((⟨⟨⟨[],[]⟩,[],[]⟩,⟨[],[],[],1⟩⟩:Wld)).store).mem:List Smp),cT,((((⟨⟨⟨[],[]⟩,[],[]⟩,⟨[],[],[],1⟩⟩:Wld)).store).mem).length,cU,((((⟨⟨⟨[],[]⟩,[],[]⟩,⟨[],[],[],1⟩⟩:Wld)).disk).files:List Fil),cV,((((⟨⟨⟨[],[]⟩,[],[]⟩,⟨[],[],[],1⟩⟩:Wld)).disk).files).length,cW,((((⟨⟨⟨[],[]⟩,[],[]⟩,⟨[],[],[],1⟩⟩:Wld)).disk).list:List Int),cX,((((⟨⟨⟨[],[]⟩,[],[]⟩,⟨[],[],[],1⟩⟩:Wld)).disk).list).length,cY,((((⟨⟨⟨[],[]⟩,[],[]⟩,⟨[],[],[],1⟩⟩:Wld)).disk).names:List (List Tag)),cZ,((((⟨⟨⟨[],[]⟩,[],[]⟩,⟨[],[],[],1⟩⟩:Wld)).disk).names).length,c7,(((⟨⟨⟨[],[]⟩,[],[]⟩,⟨[],[],[],1⟩⟩:Wld)).disk).next) (fun (i,E,a_w_0,n_w_0,c_w_0,aa,a_w_1,n_w_1,c_w_1,ab,a_w_2,n_w_2,c_w_2,ac,a_w_3,n_w_3,c_w_3,ae,a_w_4,n_w_4,c_w_4,af,a_w_5,n_w_5,c_w_5,ag,a_w_6,n_w_6,c_w_6,ah)=>[(0,.slice a1 events.length c1),(2,.pointer (some ⟨aj,0,none⟩)),(4,.pointer (some ⟨ak,0,none⟩)),(5,vI (i:Int))]) (fun (i,E,a_w_0,n_w_0,c_w_0,aa,a_w_1,n_w_1,c_w_1,ab,a_w_2,n_w_2,c_w_2,ac,a_w_3,n_w_3,c_w_3,ae,a_w_4,n_w_4,c_w_4,af,a_w_5,n_w_5,c_w_5,ag,a_w_6,n_w_6,c_w_6,ah) aR=>Chg (ins [ak]) ce aR∧RepS aR (nin (fo F w.heap.size) [ak,aj]) a_w_0 n_w_0 c_w_0 E∧RepS aR (nin (fo F w.heap.size) [ak,aj]) a_w_1 n_w_1 c_w_1 aa∧RepS aR (nin (fo F w.heap.size) [ak,aj]) a_w_2 n_w_2 c_w_2 ab∧RepS aR (nin (fo F w.heap.size) [ak,aj]) a_w_3 n_w_3 c_w_3 ac∧RepS aR (nin (fo F w.heap.size) [ak,aj]) a_w_4 n_w_4 c_w_4 ae∧RepS aR (nin (fo F w.heap.size) [ak,aj]) a_w_5 n_w_5 c_w_5 af∧RepS aR (nin (fo F w.heap.size) [ak,aj]) a_w_6 n_w_6 c_w_6 ag∧Box aR ak 38 [.slice a_w_0 n_w_0 c_w_0,.slice a_w_1 n_w_1 c_w_1,.slice a_w_2 n_w_2 c_w_2,.slice a_w_3 n_w_3 c_w_3,.slice a_w_4 n_w_4 c_w_4,.slice a_w_5 n_w_5 c_w_5,.slice a_w_6 n_w_6 c_w_6,vI ah]∧(i≤events.length)∧((events.drop i).foldl doW ⟨⟨⟨E,aa⟩,ab,ac⟩,⟨ae,af,ag,ah⟩⟩=Bu events)∧(WV ⟨⟨⟨E,aa⟩,ab,ac⟩,⟨ae,af,ag,ah⟩⟩)) (fun (i,E,a_w_0,n_w_0,c_w_0,aa,a_w_1,n_w_1,c_w_1,ab,a_w_2,n_w_2,c_w_2,ac,a_w_3,n_w_3,c_w_3,ae,a_w_4,n_w_4,c_w_4,af,a_w_5,n_w_5,c_w_5,ag,a_w_6,n_w_6,c_w_6,ah)=>events.length - i) AA ⟨AA,AA,AA,AA,trivial⟩ ⟨Chg.refl _ _,aT,aU,aV,aW,aX,aY,aZ,dp,AB,AF,(by exact WV.new)⟩ ?_
 rintro ⟨i,E,a_w_0,n_w_0,c_w_0,aa,a_w_1,n_w_1,c_w_1,ab,a_w_2,n_w_2,c_w_2,ac,a_w_3,n_w_3,c_w_3,ae,a_w_4,n_w_4,c_w_4,af,a_w_5,n_w_5,c_w_5,ag,a_w_6,n_w_6,c_w_6,ah⟩ eZ aR ⟨aM,aJ,aK,az,aA,aB,aC,aD,ao,e7,e8,fa⟩ bD
 have dJ:Cov (ins [ak]) ce ak:=⟨.inl AI⟩
 have bG:Mv [ak,aj] [ak,aj] ce aR:=Mv.inl aM (all_cons AI all_nil) (all_cons (.inl AI) (all_cons (.inl AJ) all_nil))
 replace ⟨h1,al,ai⟩:=(sp bG aM).g3 h1 al ai
 refine .s<|.s<|.g<|.r 3<|.bp ((i:Int)< (events.length:Int)) (fun cg=>?_) (fun cg=>?_)
 ·refine .d<|.ct<|.sk<|.s<|.b 1<|.gd nil 5 fun fb bH=>?_
  replace ⟨h1,al,ao,aJ,aK,az,aA,aB,aC,aD,ai,aM⟩:=(se [ak,aj] bH).g12 h1 al ao aJ aK az aA aB aC aD ai aM
  refine .ln 0 ao id<|.r [1,2] ?_
  have ci:i< events.length:=AB
  refine .ix 3 i 6 h1 ci ?_
  obtain ⟨am,bz⟩:∃ y,events[i]? = some y:=⟨_,AU AB⟩
  have dY:=Be bz; have dt:=AV bz
  obtain ⟨_,⟨fd,fe,ff,rfl,bv⟩,cj⟩:=h1.elem i am bz
  have ck:=bv.len
  subst ck
  refine .lg 4 0 cj id<|.d fun bR bI=>?_
  replace ⟨al,ao,aJ,aK,az,aA,aB,aC,aD,bv,ai,aM⟩:=(se [ak,aj] bI).g12 al ao aJ aK az aA aB aC aD bv ai aM
  refine .cl (H6 (⟨(⟨(⟨E,aa⟩:Idx),ab,ac⟩:Sto),(⟨ae,af,ag,ah⟩:Dsk)⟩:Wld) am aJ aK az aA aB aC aD bv (by assumption:WV ⟨⟨⟨E,aa⟩,ab,ac⟩,⟨ae,af,ag,ah⟩⟩).wd.wi (NmD.sz (p0 _ ‹_›).1) (w:=bR) (F:=nin (fo F w.heap.size) [ak,aj])) ?_
  rintro fg fi ⟨⟨_,rfl,⟨bS,fj,bT,bU,fm,bV,bW,fp,bX,bY,fq,bZ,b0,fu,b6,b7,fv,b8,b9,fw,cd,rfl,bd,bg,bh,bi,bj,bk,bm⟩⟩,bJ⟩
  have aN:=al2 ao.lt al.lt
  have aP:Gb w.heap.size bR.heap.size:=ai.size
  replace ⟨al,ao,aJ,aK,az,aA,aB,aC,aD,ai,aM⟩:=(se [ak,aj] bJ).g11 al ao aJ aK az aA aB aC aD ai aM
  replace bd:=RepS.Bs (M:=[ak,aj]) bd aN aP
  have d0:=bd.max
  replace bg:=RepS.Bs (M:=[ak,aj]) bg aN aP
  have d3:=bg.max
  replace bh:=RepS.Bs (M:=[ak,aj]) bh aN aP
  have d4:=bh.max
  replace bi:=RepS.Bs (M:=[ak,aj]) bi aN aP
  have d5:=bi.max
  replace bj:=RepS.Bs (M:=[ak,aj]) bj aN aP
  have d6:=bj.max
  replace bk:=RepS.Bs (M:=[ak,aj]) bk aN aP
  have d7:=bk.max
  replace bm:=RepS.Bs (M:=[ak,aj]) bm aN aP
  have d8:=bm.max
  have cm:=bd.len
  subst cm
  have co:=bg.len
  subst co
  have cp:=bh.len
  subst cp
  have cq:=bi.len
  subst cq
  have cr:=bj.len
  subst cr
  have cu:=bk.len
  subst cu
  have cw:=bm.len
  subst cw
  refine .sc [.slice bS (((((doW (⟨(⟨(⟨E,aa⟩:Idx),ab,ac⟩:Sto),(⟨ae,af,ag,ah⟩:Dsk)⟩:Wld) am).store).idx).names).length) bT,.slice bU (((((doW (⟨(⟨(⟨E,aa⟩:Idx),ab,ac⟩:Sto),(⟨ae,af,ag,ah⟩:Dsk)⟩:Wld) am).store).idx).AY).length) bV,.slice bW ((((doW (⟨(⟨(⟨E,aa⟩:Idx),ab,ac⟩:Sto),(⟨ae,af,ag,ah⟩:Dsk)⟩:Wld) am).store).parts).length) bX,.slice bY ((((doW (⟨(⟨(⟨E,aa⟩:Idx),ab,ac⟩:Sto),(⟨ae,af,ag,ah⟩:Dsk)⟩:Wld) am).store).mem).length) bZ,.slice b0 ((((doW (⟨(⟨(⟨E,aa⟩:Idx),ab,ac⟩:Sto),(⟨ae,af,ag,ah⟩:Dsk)⟩:Wld) am).disk).files).length) b6,.slice b7 ((((doW (⟨(⟨(⟨E,aa⟩:Idx),ab,ac⟩:Sto),(⟨ae,af,ag,ah⟩:Dsk)⟩:Wld) am).disk).list).length) b8,.slice b9 ((((doW (⟨(⟨(⟨E,aa⟩:Idx),ab,ac⟩:Sto),(⟨ae,af,ag,ah⟩:Dsk)⟩:Wld) am).disk).names).length) cd,vI (((doW (⟨(⟨(⟨E,aa⟩:Idx),ab,ac⟩:Sto),(⟨ae,af,ag,ah⟩:Dsk)⟩:Wld) am).disk).next)] ao fun fA bA cx cy=>?_
  replace ⟨al,aJ,aK,az,aA,aB,aC,aD,bd,bg,bh,bi⟩:=(so [ak,aj] bA).g12 al aJ aK az aA aB aC aD bd bg bh bi
  replace ⟨bj,bk,bm,ai,aM⟩:=(so [ak,aj] bA).g5 bj bk bm ai aM
  exact .d<|.ib 1<|.g<|.r 1<|.it ((i:Int)+1)<|.r 1<|.d<|bD (i+1,(((doW (⟨(⟨(⟨E,aa⟩:Idx),ab,ac⟩:Sto),(⟨ae,af,ag,ah⟩:Dsk)⟩:Wld) am).store).idx).names,bS,((((doW (⟨(⟨(⟨E,aa⟩:Idx),ab,ac⟩:Sto),(⟨ae,af,ag,ah⟩:Dsk)⟩:Wld) am).store).idx).names).length,bT,(((doW (⟨(⟨(⟨E,aa⟩:Idx),ab,ac⟩:Sto),(⟨ae,af,ag,ah⟩:Dsk)⟩:Wld) am).store).idx).AY,bU,((((doW (⟨(⟨(⟨E,aa⟩:Idx),ab,ac⟩:Sto),(⟨ae,af,ag,ah⟩:Dsk)⟩:Wld) am).store).idx).AY).length,bV,((doW (⟨(⟨(⟨E,aa⟩:Idx),ab,ac⟩:Sto),(⟨ae,af,ag,ah⟩:Dsk)⟩:Wld) am).store).parts,bW,(((doW (⟨(⟨(⟨E,aa⟩:Idx),ab,ac⟩:Sto),(⟨ae,af,ag,ah⟩:Dsk)⟩:Wld) am).store).parts).length,bX,((doW (⟨(⟨(⟨E,aa⟩:Idx),ab,ac⟩:Sto),(⟨ae,af,ag,ah⟩:Dsk)⟩:Wld) am).store).mem,bY,(((doW (⟨(⟨(⟨E,aa⟩:Idx),ab,ac⟩:Sto),(⟨ae,af,ag,ah⟩:Dsk)⟩:Wld) am).store).mem).length,bZ,((doW (⟨(⟨(⟨E,aa⟩:Idx),ab,ac⟩:Sto),(⟨ae,af,ag,ah⟩:Dsk)⟩:Wld) am).disk).files,b0,(((doW (⟨(⟨(⟨E,aa⟩:Idx),ab,ac⟩:Sto),(⟨ae,af,ag,ah⟩:Dsk)⟩:Wld) am).disk).files).length,b6,((doW (⟨(⟨(⟨E,aa⟩:Idx),ab,ac⟩:Sto),(⟨ae,af,ag,ah⟩:Dsk)⟩:Wld) am).disk).list,b7,(((doW (⟨(⟨(⟨E,aa⟩:Idx),ab,ac⟩:Sto),(⟨ae,af,ag,ah⟩:Dsk)⟩:Wld) am).disk).list).length,b8,((doW (⟨(⟨(⟨E,aa⟩:Idx),ab,ac⟩:Sto),(⟨ae,af,ag,ah⟩:Dsk)⟩:Wld) am).disk).names,b9,(((doW (⟨(⟨(⟨E,aa⟩:Idx),ab,ac⟩:Sto),(⟨ae,af,ag,ah⟩:Dsk)⟩:Wld) am).disk).names).length,cd,((doW (⟨(⟨(⟨E,aa⟩:Idx),ab,ac⟩:Sto),(⟨ae,af,ag,ah⟩:Dsk)⟩:Wld) am).disk).next) _ _ ⟨AA,AA,AA,AA,trivial⟩ ⟨aM,bd,bg,bh,bi,bj,bk,bm,cx,AB,(by exact N1 ‹_› ‹_›),(by exact WV.do ‹_› (p0 _ ‹_›).1)⟩ (by (simp only []; omega))
 refine .d<|.cf<|.x 0 rfl<|.s<|.g<|.ln ao<|.cl (Gl (⟨(⟨(⟨E,aa⟩:Idx),ab,ac⟩:Sto),(⟨ae,af,ag,ah⟩:Dsk)⟩:Wld) aJ.ta aK.ta az.ta aA.ta aB.ta aC.ta aD.ta (by assumption:WV ⟨⟨⟨E,aa⟩,ab,ac⟩,⟨ae,af,ag,ah⟩⟩).wd.wi (w:=aR) (F:=all)) ?_
 rintro fB bn ⟨⟨du,fC,dv,dw,fD,dx,dy,fE,dz,aL,dA,dB,aH,dC,dD,aG,dE,dF,aE,dG,dH,rfl,au,ax,ay,aI,bq,aF,br,d9,ar,bt,ec,ee,aq,bu,ef,eg,eh⟩,bK⟩
 have aO:=al2 ao.lt al.lt
 have aQ:Gb w.heap.size aR.heap.size:=ai.size
 have ej:=CD bq al.lt
 have ek:=CD bq ao.lt
 have cz:=FV bq ai.size
 have en:=CD br al.lt
 have ey:=CD br ao.lt
 have cA:=FV br ai.size
 have ez:=CD bt al.lt
 have eA:=CD bt ao.lt
 have cB:=FV bt ai.size
 have eB:=CD bu al.lt
 have eC:=CD bu ao.lt
 have cC:=FV bu ai.size
 replace ⟨al,ai⟩:=(se [] bK).g2 al ai
 replace au:RepS bn (nin (ge w.heap.size) [aL,aH,aG,aE,ak,aj]) _ _ _ _:=RepS.Ck (s0:=w.heap.size) (M:=[ak,aj]) au aO aQ
 replace au:=au.base (G':=fo F w.heap.size) (fun _ _ h=>.inr h)
 have eD:=au.max
 replace ax:RepS bn (nin (ge w.heap.size) [aL,aH,aG,aE,ak,aj]) _ _ _ _:=RepS.Ck (s0:=w.heap.size) (M:=[ak,aj]) ax aO aQ
 replace ax:=ax.base (G':=fo F w.heap.size) (fun _ _ h=>.inr h)
 have eE:=ax.max
 replace ay:RepS bn (nin (ge w.heap.size) [aL,aH,aG,aE,ak,aj]) _ _ _ _:=RepS.Ck (s0:=w.heap.size) (M:=[ak,aj]) ay aO aQ
 replace ay:=ay.base (G':=fo F w.heap.size) (fun _ _ h=>.inr h)
 have eF:=ay.max
 replace aI:Own bn aL 85 (nin (ge w.heap.size) [aL,aH,aG,aE,ak,aj]) _ _ _:=Own.Ck (s0:=w.heap.size) (M:=[ak,aj]) aI aO aQ
 replace aI:=aI.base (G':=fo F w.heap.size) (fun _ _ h=>.inr h)
 replace aF:Own bn aH 50 (nin (ge w.heap.size) [aL,aH,aG,aE,ak,aj]) _ _ _:=Own.Ck (s0:=w.heap.size) (M:=[ak,aj]) aF aO aQ
 replace aF:=aF.base (G':=fo F w.heap.size) (fun _ _ h=>.inr h)
 replace ar:Own bn aG 3 (nin (ge w.heap.size) [aL,aH,aG,aE,ak,aj]) _ _ _:=Own.Ck (s0:=w.heap.size) (M:=[ak,aj]) ar aO aQ
 replace ar:=ar.base (G':=fo F w.heap.size) (fun _ _ h=>.inr h)
 replace aq:Own bn aE 43 (nin (ge w.heap.size) [aL,aH,aG,aE,ak,aj]) _ _ _:=Own.Ck (s0:=w.heap.size) (M:=[ak,aj]) aq aO aQ
 replace aq:=aq.base (G':=fo F w.heap.size) (fun _ _ h=>.inr h)
 have cD:=au.len
 subst cD
 have cE:=ax.len
 subst cE
 have cF:=ay.len
 subst cF
 refine .sc [.slice du ((((((Ce (⟨(⟨(⟨E,aa⟩:Idx),ab,ac⟩:Sto),(⟨ae,af,ag,ah⟩:Dsk)⟩:Wld))).store).idx).names).length) dv,.slice dw ((((((Ce (⟨(⟨(⟨E,aa⟩:Idx),ab,ac⟩:Sto),(⟨ae,af,ag,ah⟩:Dsk)⟩:Wld))).store).idx).AY).length) dx,.slice dy (((((Ce (⟨(⟨(⟨E,aa⟩:Idx),ab,ac⟩:Sto),(⟨ae,af,ag,ah⟩:Dsk)⟩:Wld))).store).parts).length) dz,vS aL dA dB,vS aH dC dD,vS aG dE dF,vS aE dG dH,vI ((((Ce (⟨(⟨(⟨E,aa⟩:Idx),ab,ac⟩:Sto),(⟨ae,af,ag,ah⟩:Dsk)⟩:Wld))).disk).next)] al fun bC bL cG cH=>?_
 replace ⟨au,ax,ay,aI,aF,ar,aq,ai⟩:=(so [aL,aH,aG,aE,ak,aj] bL).g8 au ax ay aI aF ar aq ai
 refine .r 1<|.d ?_
 have bo:=aI.sl (.inr cz)
 replace ⟨au,ax,ay,aF,ar,aq⟩:=(sd bC [aL,aH,aG,aE,ak,aj] aL).g6 au ax ay aF ar aq
 have bw:=aF.sl (.inr cA)
 replace ⟨au,ax,ay,bo,ar,aq⟩:=(sd bC [aH,aG,aE,ak,aj] aH).g6 au ax ay bo ar aq
 have bM:=ar.sl (.inr cB)
 replace ⟨au,ax,ay,bo,bw,aq⟩:=(sd bC [aG,aE,ak,aj] aG).g6 au ax ay bo bw aq
 have dI:=aq.sl (.inr cC)
 replace ⟨au,ax,ay,bo,bw,bM⟩:=(sd bC [aE,ak,aj] aE).g6 au ax ay bo bw bM
 exact .r2 func17 results17 (.bx cG) (.t (.bool true)) ⟨⟨_,(Bx rfl (AG (by (rw [Gz ‹_›])))),(VS.of (y:=(⟨(⟨(⟨((((Ce (⟨(⟨(⟨E,aa⟩:Idx),ab,ac⟩:Sto),(⟨ae,af,ag,ah⟩:Dsk)⟩:Wld))).store).idx).names,((((Ce (⟨(⟨(⟨E,aa⟩:Idx),ab,ac⟩:Sto),(⟨ae,af,ag,ah⟩:Dsk)⟩:Wld))).store).idx).AY⟩:Idx),(((Ce (⟨(⟨(⟨E,aa⟩:Idx),ab,ac⟩:Sto),(⟨ae,af,ag,ah⟩:Dsk)⟩:Wld))).store).parts,(((Ce (⟨(⟨(⟨E,aa⟩:Idx),ab,ac⟩:Sto),(⟨ae,af,ag,ah⟩:Dsk)⟩:Wld))).store).mem⟩:Sto),(⟨(((Ce (⟨(⟨(⟨E,aa⟩:Idx),ab,ac⟩:Sto),(⟨ae,af,ag,ah⟩:Dsk)⟩:Wld))).disk).files,(((Ce (⟨(⟨(⟨E,aa⟩:Idx),ab,ac⟩:Sto),(⟨ae,af,ag,ah⟩:Dsk)⟩:Wld))).disk).list,(((Ce (⟨(⟨(⟨E,aa⟩:Idx),ab,ac⟩:Sto),(⟨ae,af,ag,ah⟩:Dsk)⟩:Wld))).disk).names,(((Ce (⟨(⟨(⟨E,aa⟩:Idx),ab,ac⟩:Sto),(⟨ae,af,ag,ah⟩:Dsk)⟩:Wld))).disk).next⟩:Dsk)⟩:Wld)) ⟨_,rfl,⟨_,_,_,_,_,_,_,_,_,_,_,_,_,_,_,_,_,_,_,_,_,rfl,au.w1,ax.w1,ay.w1,bo.w1,bw.w1,bM.w1,dI.w1⟩⟩ (by (rw [Gz ‹_›]; exact (WV.copy (by assumption:WV ⟨⟨⟨E,aa⟩,ab,ac⟩,⟨ae,af,ag,ah⟩⟩)).trans (Pq ‹_› AB))))⟩,ai⟩
theorem Ct (a:Wld) (b:Wld) (h1:RepS w F a1 n1 c1 a.store.idx.names) (h2:RepS w F a2 n2 c2 a.store.idx.AY) (h3:RepS w F a3 n3 c3 a.store.parts) (h4:RepS w F a4 n4 c4 a.store.mem) (h5:RepS w F a5 n5 c5 a.disk.files) (h6:RepS w F a6 n6 c6 a.disk.list) (h7:RepS w F a7 n7 c7 a.disk.names) (h8:RepS w F a8 n8 c8 b.store.idx.names) (h9:RepS w F a9 n9 c9 b.store.idx.AY) (h10:RepS w F a10 n10 c10 b.store.parts) (h11:RepS w F a11 n11 c11 b.store.mem) (h12:RepS w F a12 n12 c12 b.disk.files) (h13:RepS w F a13 n13 c13 b.disk.list) (h14:RepS w F a14 n14 c14 b.disk.names)  : Calls Tryz.prog 18 [.agg #[.slice a1 n1 c1,.slice a2 n2 c2,.slice a3 n3 c3,.slice a4 n4 c4,.slice a5 n5 c5,.slice a6 n6 c6,.slice a7 n7 c7,.int .i64 a.disk.next],.agg #[.slice a8 n8 c8,.slice a9 n9 c9,.slice a10 n10 c10,.slice a11 n11 c11,.slice a12 n12 c12,.slice a13 n13 c13,.slice a14 n14 c14,.int .i64 b.disk.next]].toArray w (Am fun rv w'=>rv=.bool ((a==b))∧Ext w w'):=by
 cases h1.len
 cases h2.len
 cases h3.len
 cases h4.len
 cases h5.len
 cases h6.len
 cases h7.len
 cases h8.len
 cases h9.len
 cases h10.len
 cases h11.len
 cases h12.len
 cases h13.len
 cases h14.len
 refine goT func18 ?_
 have Z:=((((((((((((((St.i0 F w).p h1).p h2).p h3).p h4).p h5).p h6).p h7).p h8).p h9).p h10).p h11).p h12).p h13).p h14
 refine .s<|.g<|RG.Np Z fun ar w Z=>RG.Np Z fun au w Z=>.r 1<|.d<|.s<|.g<|.r 1<|RG.Ln 1 Z<|.r 1<|RG.Ln 0 Z<|RG.C0 (KV a.store b.store (Z.a 13) (Z.a 12) (Z.a 11) (Z.a 10) (Z.a 6) (Z.a 5) (Z.a 4) (Z.a 3)) Z fun w Z=>?_
 cases aq:(a.store==b.store)
 ·exact .r 8<|.d<|T.rt func18 results18 (.bool false) ⟨(AG (by exact Ve ‹_›)),Z.xt⟩
 exact .r 2<|RG.Ln 1 Z<|.r 1<|RG.Ln 0 Z<|RG.C0 (LM a.disk b.disk (Z.a 9) (Z.a 8) (Z.a 7) (Z.a 2) (Z.a 1) (Z.a 0)) Z fun w Z=>.r 2<|.d<|T.rt func18 results18 (.bool (a.disk==b.disk)) ⟨(AG (by exact Vf ‹_›)),Z.xt⟩
theorem J0  {F:Nat→Prop}{b:Nat}{ad:Option Addr}{cd p:Nat}{D:List UInt8}(hr:Box w b 95 [.slice ad D.length cd,.int .i64 (p:Int)]) (hD:RepS w (nin all [b]) ad D.length cd D) (hp:p+3000≤1000000000)  : Calls Tryz.prog 31 [.pointer (some ⟨b,0,none⟩)].toArray w (Am fun rv w'=>(∃ (es:List Evt),(∃ v0 v1,rv=.tuple #[v0,v1]∧VO 58 w.heap.size w' (es:List Evt) v0∧(∃ (a0:Option Addr) (n0 c0:Nat) (a1:Option Addr) (n1 c1:Nat) (a2:Option Addr) (n2 c2:Nat) (a3:Option Addr) (n3 c3:Nat) (a4:Option Addr) (n4 c4:Nat) (a5:Option Addr) (n5 c5:Nat) (a6:Option Addr) (n6 c6:Nat) (z7:Int),v1=.agg #[.slice a0 n0 c0,.slice a1 n1 c1,.slice a2 n2 c2,.slice a3 n3 c3,.slice a4 n4 c4,.slice a5 n5 c5,.slice a6 n6 c6,.int .i64 z7]))∧(EsD es∧es.length≤46))∧∃ p':Nat,p'≤p+3000∧Box w' b 95 [.slice ad D.length cd,.int .i64 (p':Int)]∧Chg (one b) w w'):=by
 refine goT func31 ?_
 refine .s<|.g<|.r 1<|.np 38 [AH,AH,AH,AH,AH,AH,AH,vI 0] fun ab cL bP bV ac dy=>?_
 have f8:=Ab bP hr.lt
 have f9:Cov (one b) w ab:=Fp bP (Nat.le_refl _)
 replace ⟨hD,hr⟩:=(sn [b] bV bP).g2 hD hr
 have E:Chg (one b) w cL:=Chg.GX (Chg.refl (one b) w) bV
 refine .d<|.s<|.g<|.cl (GB (w:=cL) (F:=all)) ?_
 rintro gO gP ⟨⟨_,rfl,⟨dz,gQ,dA,dB,gR,dC,dD,gS,dE,dF,gT,dG,dH,gU,dI,dJ,gV,dK,dL,gW,dM,rfl,bi,bj,bk,bm,bn,bo,bq⟩⟩,cj⟩
 have br:=al2 ac.lt hr.lt
 have bu:Gb w.heap.size cL.heap.size:=E.size
 replace ⟨hD,hr,ac,E⟩:=(se [ab,b] cj).g4 hD hr ac E
 have bi:=bi.fr br bu
 have gb:=bi.max
 have bj:=bj.fr br bu
 have gf:=bj.max
 have bk:=bk.fr br bu
 have gh:=bk.max
 have bm:=bm.fr br bu
 have gi:=bm.max
 have bn:=bn.fr br bu
 have gj:=bn.max
 have bo:=bo.fr br bu
 have gk:=bo.max
 have bq:=bq.fr br bu
 have gl:=bq.max
 have dN:=bi.len
 subst dN
 have dO:=bj.len
 subst dO
 have dP:=bk.len
 subst dP
 have dQ:=bm.len
 subst dQ
 have dR:=bn.len
 subst dR
 have dS:=bo.len
 subst dS
 have dT:=bq.len
 subst dT
 refine .np 38 [AH,AH,AH,AH,AH,AH,AH,vI 0] fun aa gX bF ck dU dV=>?_
 have gm:=Ab bF hr.lt
 have gn:=Ab bF ac.lt
 have gp:=E.cn bF
 replace ⟨hD,hr,ac,bi,bj,bk,bm,bn,bo,bq,E⟩:=(sn [ab,b] ck bF).g11 hD hr ac bi bj bk bm bn bo bq E
 refine .sc [.slice dz ((((((⟨⟨⟨[],[]⟩,[],[]⟩,⟨[],[],[],1⟩⟩:Wld)).store).idx).names).length) dA,.slice dB ((((((⟨⟨⟨[],[]⟩,[],[]⟩,⟨[],[],[],1⟩⟩:Wld)).store).idx).AY).length) dC,.slice dD (((((⟨⟨⟨[],[]⟩,[],[]⟩,⟨[],[],[],1⟩⟩:Wld)).store).parts).length) dE,.slice dF (((((⟨⟨⟨[],[]⟩,[],[]⟩,⟨[],[],[],1⟩⟩:Wld)).store).mem).length) dG,.slice dH (((((⟨⟨⟨[],[]⟩,[],[]⟩,⟨[],[],[],1⟩⟩:Wld)).disk).files).length) dI,.slice dJ (((((⟨⟨⟨[],[]⟩,[],[]⟩,⟨[],[],[],1⟩⟩:Wld)).disk).list).length) dK,.slice dL (((((⟨⟨⟨[],[]⟩,[],[]⟩,⟨[],[],[],1⟩⟩:Wld)).disk).names).length) dM,vI ((((⟨⟨⟨[],[]⟩,[],[]⟩,⟨[],[],[],1⟩⟩:Wld)).disk).next)] dU fun gY cm bv dW=>?_
 replace ⟨hD,hr,ac,bi,bj,bk,bm,bn,bo,bq,E⟩:=(so [aa,ab,b] cm).g11 hD hr ac bi bj bk bm bn bo bq E
 refine .d<|.s<|.g<|.ns 0 58 [] fun bw dX bz co dY dZ=>?_
 have d0:=Ab bz hr.lt
 have d3:=Ab bz ac.lt
 have d4:=Ab bz bv.lt
 have d5:=BV bz E.size
 have d6:=E.cn bz
 replace ⟨hD,hr,ac,bi,bj,bk,bm,bn,bo,bq,bv,E⟩:=(sn [aa,ab,b] co bz).g12 hD hr ac bi bj bk bm bn bo bq bv E
 have bG:Own (α:=Evt) dX bw 58 (nin (ge w.heap.size) [bw,aa,ab,b]) 0 0 []:=Own.BN dY
 refine .r 1<|.d<|.s<|.s<|.g<|.r 1<|.cl (Az 46 hr (hD.CU AL) AB (w:=dX) (F:=all)) ?_
 rintro gq bA ⟨⟨d7,rfl,eF⟩,d8,eG,bW,bX⟩
 replace ⟨hD,ac,bi,bj,bk,bm,bn,bo,bq,bv,bG,E⟩:=(so [bw,aa,ab,b] bX).g12 hD ac bi bj bk bm bn bo bq bv bG E
 refine .r 1<|.d<|.b 0<|T.loop (X:=(List Evt) × Nat × Nat × Nat × Int × Nat × (List (List Tag)) × (Option Addr) × Nat × Nat × (List Pst) × (Option Addr) × Nat × Nat × (List Prt) × (Option Addr) × Nat × Nat × (List Smp) × (Option Addr) × Nat × Nat × (List Fil) × (Option Addr) × Nat × Nat × (List Int) × (Option Addr) × Nat × Nat × (List (List Tag)) × (Option Addr) × Nat × Nat × Int) (([]:List Evt),bw,0,0,d7,d8,(((((⟨⟨⟨[],[]⟩,[],[]⟩,⟨[],[],[],1⟩⟩:Wld)).store).idx).names:List (List Tag)),dz,(((((⟨⟨⟨[],[]⟩,[],[]⟩,⟨[],[],[],1⟩⟩:Wld)).store).idx).names).length,dA,(((((⟨⟨⟨[],[]⟩,[],[]⟩,⟨[],[],[],1⟩⟩:Wld)).store).idx).AY:List Pst),dB,(((((⟨⟨⟨[],[]⟩,[],[]⟩,⟨[],[],[],1⟩⟩:Wld)).store).idx).AY).length,dC,((((⟨⟨⟨[],[]⟩,[],[]⟩,⟨[],[],[],1⟩⟩:Wld)).store).parts:List Prt),dD,((((⟨⟨⟨[],[]⟩,[],[]⟩,⟨[],[],[],1⟩⟩:Wld)).store).parts).length,dE,((((⟨⟨⟨[],[]⟩,[],[]⟩,⟨[],[],[],1⟩⟩:Wld)).store).mem:List Smp),dF,((((⟨⟨⟨[],[]⟩,[],[]⟩,⟨[],[],[],1⟩⟩:Wld)).store).mem).length,dG,((((⟨⟨⟨[],[]⟩,[],[]⟩,⟨[],[],[],1⟩⟩:Wld)).disk).files:List Fil),dH,((((⟨⟨⟨[],[]⟩,[],[]⟩,⟨[],[],[],1⟩⟩:Wld)).disk).files).length,dI,((((⟨⟨⟨[],[]⟩,[],[]⟩,⟨[],[],[],1⟩⟩:Wld)).disk).list:List Int),dJ,((((⟨⟨⟨[],[]⟩,[],[]⟩,⟨[],[],[],1⟩⟩:Wld)).disk).list).length,dK,((((⟨⟨⟨[],[]⟩,[],[]⟩,⟨[],[],[],1⟩⟩:Wld)).disk).names:List (List Tag)),dL,((((⟨⟨⟨[],[]⟩,[],[]⟩,⟨[],[],[],1⟩⟩:Wld)).disk).names).length,dM,(((⟨⟨⟨[],[]⟩,[],[]⟩,⟨[],[],[],1⟩⟩:Wld)).disk).next) (fun (events,r_events,n_events,c_events,n,p_,ar,a_w_0,n_w_0,c_w_0,au,a_w_1,n_w_1,c_w_1,ax,a_w_2,n_w_2,c_w_2,ay,a_w_3,n_w_3,c_w_3,az,a_w_4,n_w_4,c_w_4,aA,a_w_5,n_w_5,c_w_5,aB,a_w_6,n_w_6,c_w_6,aC)=>[(0,.pointer (some ⟨b,0,none⟩)),(3,.pointer (some ⟨ab,0,none⟩)),(4,.pointer (some ⟨aa,0,none⟩)),(5,vS r_events n_events c_events),(6,vI n)]) (fun (events,r_events,n_events,c_events,n,p_,ar,a_w_0,n_w_0,c_w_0,au,a_w_1,n_w_1,c_w_1,ax,a_w_2,n_w_2,c_w_2,ay,a_w_3,n_w_3,c_w_3,az,a_w_4,n_w_4,c_w_4,aA,a_w_5,n_w_5,c_w_5,aB,a_w_6,n_w_6,c_w_6,aC) aF=>Chg (ins [bw,b,aa]) bA aF∧Own aF r_events 58 (nin (ge w.heap.size) [r_events,aa,ab,b]) n_events c_events events∧OrB r_events bw bA.heap.size∧RepS aF (nin (ge w.heap.size) [r_events,aa,ab,b]) a_w_0 n_w_0 c_w_0 ar∧RepS aF (nin (ge w.heap.size) [r_events,aa,ab,b]) a_w_1 n_w_1 c_w_1 au∧RepS aF (nin (ge w.heap.size) [r_events,aa,ab,b]) a_w_2 n_w_2 c_w_2 ax∧RepS aF (nin (ge w.heap.size) [r_events,aa,ab,b]) a_w_3 n_w_3 c_w_3 ay∧RepS aF (nin (ge w.heap.size) [r_events,aa,ab,b]) a_w_4 n_w_4 c_w_4 az∧RepS aF (nin (ge w.heap.size) [r_events,aa,ab,b]) a_w_5 n_w_5 c_w_5 aA∧RepS aF (nin (ge w.heap.size) [r_events,aa,ab,b]) a_w_6 n_w_6 c_w_6 aB∧Box aF b 95 [.slice ad D.length cd,vI (p_:Int)]∧Box aF aa 38 [.slice a_w_0 n_w_0 c_w_0,.slice a_w_1 n_w_1 c_w_1,.slice a_w_2 n_w_2 c_w_2,.slice a_w_3 n_w_3 c_w_3,.slice a_w_4 n_w_4 c_w_4,.slice a_w_5 n_w_5 c_w_5,.slice a_w_6 n_w_6 c_w_6,vI aC]∧(n≤46)∧((events.length:Int)+n≤46∧0≤n∨n< 0∧events.length≤46)∧((p_:Int)+61 * n≤p+2900∨n< 0)∧(p_≤p+2900)∧(WD ⟨⟨⟨ar,au⟩,ax,ay⟩,⟨az,aA,aB,aC⟩⟩)∧(EsD events)) (fun (events,r_events,n_events,c_events,n,p_,ar,a_w_0,n_w_0,c_w_0,au,a_w_1,n_w_1,c_w_1,ax,a_w_2,n_w_2,c_w_2,ay,a_w_3,n_w_3,c_w_3,az,a_w_4,n_w_4,c_w_4,aA,a_w_5,n_w_5,c_w_5,aB,a_w_6,n_w_6,c_w_6,aC)=>n.toNat) AA ⟨AA,AA,AA,AA,AA,trivial⟩ ⟨Chg.refl _ _,bG,Dv,bi,bj,bk,bm,bn,bo,bq,bW,bv,AB,(by (simp; omega)),AB,AB,(by exact WD.new),(by exact EsD.nil)⟩ ?_
 rintro ⟨events,r_events,n_events,c_events,n,p_,ar,a_w_0,n_w_0,c_w_0,au,a_w_1,n_w_1,c_w_1,ax,a_w_2,n_w_2,c_w_2,ay,a_w_3,n_w_3,c_w_3,az,a_w_4,n_w_4,c_w_4,aA,a_w_5,n_w_5,c_w_5,aB,a_w_6,n_w_6,c_w_6,aC⟩ gr aF ⟨aq,ao,aK,ag,ah,ai,aj,ak,al,am,aL,af,eH,eI,eJ,eK,eL,eM⟩ bT
 have eN:=CZ aK d0 bW.lt
 have eO:=CZ aK d3 ac.lt
 have cM:=CZ aK d4 bv.lt
 have cN:=Ii aK d5 E.size
 have eP:=Cm aK d6 E.size
 have cO:Cov (ins [bw,b,aa]) bA bw:=⟨.inl AI⟩
 have eQ:Cov (ins [bw,b,aa]) bA b:=⟨.inl AJ⟩
 have eR:Cov (ins [bw,b,aa]) bA aa:=⟨.inl AK⟩
 have eS:=Cm aK cO (Nat.le_refl _)
 have bY:Mv [bw,aa,ab,b] [r_events,aa,ab,b] bA aF:=Mv.inl aq (all_cons AI (all_cons AL (all_cons AJ all_nil))) (all_cons (FA aK AI) (all_cons (.inl AJ) (all_cons (.inl AK) (all_cons (.inl AL) all_nil))))
 replace ⟨hD,ac,E⟩:=(sp bY aq).g3 hD ac E
 have eT:=ao.len; have eU:=ao.max
 have fe:=al.len; have ff:=al.max
 refine .s<|.s<|.g<|.r 1<|.bp (n > 0) (fun cP=>?_) (fun cP=>?_)
 ·refine .d<|.ct<|.sk<|.s<|.b 1<|.s<|.g<|.r 1<|.ln af<|.cl (Jk (⟨(⟨(⟨ar,au⟩:Idx),ax,ay⟩:Sto),(⟨az,aA,aB,aC⟩:Dsk)⟩:Wld) aL (hD.CU AL) AB (ag.CU AL) (ah.CU AL) (ai.CU AL) (aj.CU AL) (ak.CU AL) (al.CU AL) (am.CU AL) (by have q1:WD ⟨⟨⟨ar,au⟩,ax,ay⟩,⟨az,aA,aB,aC⟩⟩:=‹_›; have q2:=q1.wi.dsk.nl; dsimp only at q2 ⊢; omega) (w:=aF) (F:=all)) ?_
  rintro gs gt ⟨⟨ae,⟨_,rfl,⟨cp,gu,cq,rfl,aI⟩⟩,fj⟩,d9,fm,aD,bH⟩
  have bZ:=al4 ao.lt af.lt ac.lt aL.lt
  have cQ:Gb w.heap.size aF.heap.size:=E.size
  replace ⟨hD,ac,af,ao,ag,ah,ai,aj,ak,al,am,E⟩:=(so [r_events,aa,ab,b] bH).g12 hD ac af ao ag ah ai aj ak al am E
  replace aq:=(so [r_events,aa,ab,b] bH).g1 aq
  have aI:=aI.fr bZ cQ
  have fp:=aI.max
  have cR:=aI.len
  subst cR
  refine .np 58 [vI 0,vI 0,vI 0,AH,vI 0,vI 0] fun aE gv aJ bI cS cT=>?_
  have fq:=Ab aJ aD.lt
  have fu:=Ab aJ ac.lt
  have fv:=Ab aJ af.lt
  have fw:=Ab aJ ao.lt
  have fA:=E.cn aJ
  have fB:=aq.cn aJ
  replace ⟨hD,aD,ac,af,ao,ag,ah,ai,aj,ak,al,am⟩:=(sn [r_events,aa,ab,b] bI aJ).g12 hD aD ac af ao ag ah ai aj ak al am
  replace ⟨aI,E,aq⟩:=(sn [r_events,aa,ab,b] bI aJ).g3 aI E aq
  refine .sc [vI ae.kind,vI ae.at_,vI ae.cut,.slice cp ae.name.length cq,vI ae.row.t,vI ae.row.v] cS fun gw bJ aM cU=>?_
  replace ⟨hD,aD,ac,af,ao,ag,ah,ai,aj,ak,al,am⟩:=(so [aE,r_events,aa,ab,b] bJ).g12 hD aD ac af ao ag ah ai aj ak al am
  replace ⟨aI,E,aq⟩:=(so [aE,r_events,aa,ab,b] bJ).g3 aI E aq
  refine .d<|.s<|.g<|.r 1<|.ln aM<|.ns 1 58 [vI ae.kind,vI ae.at_,vI ae.cut,.slice cp ae.name.length cq,vI ae.row.t,vI ae.row.v] fun cr gy aT bK cV cW=>?_
  have cX:=Ab aT aD.lt
  have cY:=Ab aT ac.lt
  have cZ:=Ab aT af.lt
  have b0:=Ab aT ao.lt
  have c7:=Ab aT aM.lt
  have c8:=BV aT E.size
  replace ⟨hD,aD,ac,af,ao,ag,ah,ai,aj,ak,al,am⟩:=(se [aE,r_events,aa,ab,b] bK).g12 hD aD ac af ao ag ah ai aj ak al am
  replace ⟨aI,aM,E,aq⟩:=(se [aE,r_events,aa,ab,b] bK).g4 aI aM E aq
  have bU:nin (ge w.heap.size) [aE,r_events,aa,ab,b] cr∧cr≠r_events:=Dw c8 (all_cons c7 (all_cons b0 (all_cons cZ (all_cons cY (all_cons cX all_nil))))) b0
  refine RG.CW (T:=23) (ty:=23) (y:=ae) ao cV AA AA ⟨_,_,_,rfl,aI.oi⟩ bU AB fun aH ec cu aG aW bL=>?_
  have fC:=Bh aW cM af.lt
  have c9:=HZ aW aK aq.size
  replace ⟨hD,aD,ac,af,ag,ah,ai,aj,ak,al,am,aI⟩:=(sa [aE,r_events,aa,ab,b] bL aW).g12 hD aD ac af ag ah ai aj ak al am aI
  replace ⟨aM,E,aq⟩:=(sa [aE,r_events,aa,ab,b] bL aW).g3 aM E aq
  replace aG:=aG.rn r_events
  have fD:=aG.len
  refine .r 1<|.d<|.g<|.ln af<|.ln aM<|.cl (H6 (⟨(⟨(⟨ar,au⟩:Idx),ax,ay⟩:Sto),(⟨az,aA,aB,aC⟩:Dsk)⟩:Wld) ae ag ah ai aj ak al am aI (by assumption:WD _).wi (NmD.sz (by assumption:EvD _).1) (w:=cu) (F:=nin (ge w.heap.size) [aE,aH,aa,ab,b])) ?_
  rintro gz gA ⟨⟨_,rfl,⟨cw,gC,cx,cy,gD,cz,cA,gE,cB,cC,gF,cD,cE,gG,cF,cG,gH,cH,cI,gI,cJ,rfl,aX,aY,aZ,ba,bd,bg,bh⟩⟩,bM⟩
  have aN:=al5 aM.lt aG.lt af.lt ac.lt aD.lt
  have aU:Gb w.heap.size cu.heap.size:=E.size
  replace ⟨hD,aD,ac,af,aG,ag,ah,ai,aj,ak,al,am⟩:=(se [aE,aH,aa,ab,b] bM).g12 hD aD ac af aG ag ah ai aj ak al am
  replace ⟨E,aq⟩:=(se [aE,aH,aa,ab,b] bM).g2 E aq
  replace aX:=RepS.Hb (M:=[aE,aH,aa,ab,b]) aX aN (fun _ h=>Nat.le_trans aU h)
  have fF:=aX.max
  replace aY:=RepS.Hb (M:=[aE,aH,aa,ab,b]) aY aN (fun _ h=>Nat.le_trans aU h)
  have fG:=aY.max
  replace aZ:=RepS.Hb (M:=[aE,aH,aa,ab,b]) aZ aN (fun _ h=>Nat.le_trans aU h)
  have fH:=aZ.max
  replace ba:=RepS.Hb (M:=[aE,aH,aa,ab,b]) ba aN (fun _ h=>Nat.le_trans aU h)
  have fI:=ba.max
  replace bd:=RepS.Hb (M:=[aE,aH,aa,ab,b]) bd aN (fun _ h=>Nat.le_trans aU h)
  have fJ:=bd.max
  replace bg:=RepS.Hb (M:=[aE,aH,aa,ab,b]) bg aN (fun _ h=>Nat.le_trans aU h)
  have fK:=bg.max
  replace bh:=RepS.Hb (M:=[aE,aH,aa,ab,b]) bh aN (fun _ h=>Nat.le_trans aU h)
  have fL:=bh.max
  have da:=aX.len
  subst da
  have db:=aY.len
  subst db
  have de:=aZ.len
  subst de
  have df:=ba.len
  subst df
  have dh:=bd.len
  subst dh
  have dj:=bg.len
  subst dj
  have dm:=bh.len
  subst dm
  refine .sc [.slice cw (((((doW (⟨(⟨(⟨ar,au⟩:Idx),ax,ay⟩:Sto),(⟨az,aA,aB,aC⟩:Dsk)⟩:Wld) ae).store).idx).names).length) cx,.slice cy (((((doW (⟨(⟨(⟨ar,au⟩:Idx),ax,ay⟩:Sto),(⟨az,aA,aB,aC⟩:Dsk)⟩:Wld) ae).store).idx).AY).length) cz,.slice cA ((((doW (⟨(⟨(⟨ar,au⟩:Idx),ax,ay⟩:Sto),(⟨az,aA,aB,aC⟩:Dsk)⟩:Wld) ae).store).parts).length) cB,.slice cC ((((doW (⟨(⟨(⟨ar,au⟩:Idx),ax,ay⟩:Sto),(⟨az,aA,aB,aC⟩:Dsk)⟩:Wld) ae).store).mem).length) cD,.slice cE ((((doW (⟨(⟨(⟨ar,au⟩:Idx),ax,ay⟩:Sto),(⟨az,aA,aB,aC⟩:Dsk)⟩:Wld) ae).disk).files).length) cF,.slice cG ((((doW (⟨(⟨(⟨ar,au⟩:Idx),ax,ay⟩:Sto),(⟨az,aA,aB,aC⟩:Dsk)⟩:Wld) ae).disk).list).length) cH,.slice cI ((((doW (⟨(⟨(⟨ar,au⟩:Idx),ax,ay⟩:Sto),(⟨az,aA,aB,aC⟩:Dsk)⟩:Wld) ae).disk).names).length) cJ,vI (((doW (⟨(⟨(⟨ar,au⟩:Idx),ax,ay⟩:Sto),(⟨az,aA,aB,aC⟩:Dsk)⟩:Wld) ae).disk).next)] af fun cK bN dp dq=>?_
  replace ⟨hD,aD,ac,aG,ag,ah,ai,aj,ak,al,am,aX⟩:=(so [aE,aH,aa,ab,b] bN).g12 hD aD ac aG ag ah ai aj ak al am aX
  replace ⟨aY,aZ,ba,bd,bg,bh,E,aq⟩:=(so [aE,aH,aa,ab,b] bN).g8 aY aZ ba bd bg bh E aq
  refine .d<|.ib 1<|.g<|.r 1<|.it (n - 1)<|.r 1<|.d ?_
  have b6:Mv [aE,aH,aa,ab,b] [aH,aa,ab,b] cK cK:=Mv.less (all_cons AJ (all_cons AK (all_cons AL (all_cons AM all_nil))))
  replace ⟨hD,aG,ag,ah,ai,aj,ak,al,am,aX,aY,aZ⟩:=(sp b6 (Chg.refl nil _)).g12 hD aG ag ah ai aj ak al am aX aY aZ
  replace ⟨ba,bd,bg,bh⟩:=(sp b6 (Chg.refl nil _)).g4 ba bd bg bh
  exact bT ((events++[ae]),aH,n_events+1,ec,n - 1,d9,(((doW (⟨(⟨(⟨ar,au⟩:Idx),ax,ay⟩:Sto),(⟨az,aA,aB,aC⟩:Dsk)⟩:Wld) ae).store).idx).names,cw,((((doW (⟨(⟨(⟨ar,au⟩:Idx),ax,ay⟩:Sto),(⟨az,aA,aB,aC⟩:Dsk)⟩:Wld) ae).store).idx).names).length,cx,(((doW (⟨(⟨(⟨ar,au⟩:Idx),ax,ay⟩:Sto),(⟨az,aA,aB,aC⟩:Dsk)⟩:Wld) ae).store).idx).AY,cy,((((doW (⟨(⟨(⟨ar,au⟩:Idx),ax,ay⟩:Sto),(⟨az,aA,aB,aC⟩:Dsk)⟩:Wld) ae).store).idx).AY).length,cz,((doW (⟨(⟨(⟨ar,au⟩:Idx),ax,ay⟩:Sto),(⟨az,aA,aB,aC⟩:Dsk)⟩:Wld) ae).store).parts,cA,(((doW (⟨(⟨(⟨ar,au⟩:Idx),ax,ay⟩:Sto),(⟨az,aA,aB,aC⟩:Dsk)⟩:Wld) ae).store).parts).length,cB,((doW (⟨(⟨(⟨ar,au⟩:Idx),ax,ay⟩:Sto),(⟨az,aA,aB,aC⟩:Dsk)⟩:Wld) ae).store).mem,cC,(((doW (⟨(⟨(⟨ar,au⟩:Idx),ax,ay⟩:Sto),(⟨az,aA,aB,aC⟩:Dsk)⟩:Wld) ae).store).mem).length,cD,((doW (⟨(⟨(⟨ar,au⟩:Idx),ax,ay⟩:Sto),(⟨az,aA,aB,aC⟩:Dsk)⟩:Wld) ae).disk).files,cE,(((doW (⟨(⟨(⟨ar,au⟩:Idx),ax,ay⟩:Sto),(⟨az,aA,aB,aC⟩:Dsk)⟩:Wld) ae).disk).files).length,cF,((doW (⟨(⟨(⟨ar,au⟩:Idx),ax,ay⟩:Sto),(⟨az,aA,aB,aC⟩:Dsk)⟩:Wld) ae).disk).list,cG,(((doW (⟨(⟨(⟨ar,au⟩:Idx),ax,ay⟩:Sto),(⟨az,aA,aB,aC⟩:Dsk)⟩:Wld) ae).disk).list).length,cH,((doW (⟨(⟨(⟨ar,au⟩:Idx),ax,ay⟩:Sto),(⟨az,aA,aB,aC⟩:Dsk)⟩:Wld) ae).disk).names,cI,(((doW (⟨(⟨(⟨ar,au⟩:Idx),ax,ay⟩:Sto),(⟨az,aA,aB,aC⟩:Dsk)⟩:Wld) ae).disk).names).length,cJ,((doW (⟨(⟨(⟨ar,au⟩:Idx),ax,ay⟩:Sto),(⟨az,aA,aB,aC⟩:Dsk)⟩:Wld) ae).disk).next) _ _ ⟨AA,AA,AA,AA,AA,trivial⟩ ⟨aq,aG,c9,aX,aY,aZ,ba,bd,bg,bh,aD,dp,AB,AB,AB,AB,(by exact WD.do ‹_› (by assumption:EvD _).1),(by exact EsD.snoc ‹_› ‹_›)⟩ (by (simp only []; omega))
 refine .d<|.cf<|.x 0 rfl<|.s<|.g<|.r 1<|.ln af<|.cl (Gl (⟨(⟨(⟨ar,au⟩:Idx),ax,ay⟩:Sto),(⟨az,aA,aB,aC⟩:Dsk)⟩:Wld) ag.ta ah.ta ai.ta aj.ta ak.ta al.ta am.ta (by assumption:WD _).wi (w:=aF) (F:=all)) ?_
 rintro gJ bt ⟨⟨ee,gK,ef,eg,gL,eh,ej,gM,ek,aO,en,ey,aP,ez,eA,aQ,eB,eC,aR,eD,eE,rfl,bQ,bR,bS,bB,b7,bC,b8,fM,bD,b9,fN,fO,bE,ce,fP,fQ,fR⟩,bO⟩
 have aS:=al4 ao.lt af.lt ac.lt aL.lt
 have aV:Gb w.heap.size aF.heap.size:=E.size
 have cg:Mv [r_events,aa,ab,b] [aO,aP,aQ,aR,r_events,aa,ab,b] aF bt:=Mv.cons (Mv.cons (Mv.cons (Mv.cons (Mv.ext bO) ce) b9) b8) b7
 replace ⟨hD,aL,ac,ao,E⟩:=(sp cg bO).g5 hD aL ac ao E
 replace bQ:RepS bt (nin (ge w.heap.size) [aO,aP,aQ,aR,r_events,aa,ab,b]) _ _ _ _:=RepS.Ck (s0:=w.heap.size) (M:=[r_events,aa,ab,b]) bQ aS aV
 have fS:=bQ.max
 replace bR:RepS bt (nin (ge w.heap.size) [aO,aP,aQ,aR,r_events,aa,ab,b]) _ _ _ _:=RepS.Ck (s0:=w.heap.size) (M:=[r_events,aa,ab,b]) bR aS aV
 have fT:=bR.max
 replace bS:RepS bt (nin (ge w.heap.size) [aO,aP,aQ,aR,r_events,aa,ab,b]) _ _ _ _:=RepS.Ck (s0:=w.heap.size) (M:=[r_events,aa,ab,b]) bS aS aV
 have fU:=bS.max
 replace bB:Own bt aO 85 (nin (ge w.heap.size) [aO,aP,aQ,aR,r_events,aa,ab,b]) _ _ _:=Own.Ck (s0:=w.heap.size) (M:=[r_events,aa,ab,b]) bB aS aV
 replace bC:Own bt aP 50 (nin (ge w.heap.size) [aO,aP,aQ,aR,r_events,aa,ab,b]) _ _ _:=Own.Ck (s0:=w.heap.size) (M:=[r_events,aa,ab,b]) bC aS aV
 replace bD:Own bt aQ 3 (nin (ge w.heap.size) [aO,aP,aQ,aR,r_events,aa,ab,b]) _ _ _:=Own.Ck (s0:=w.heap.size) (M:=[r_events,aa,ab,b]) bD aS aV
 replace bE:Own bt aR 43 (nin (ge w.heap.size) [aO,aP,aQ,aR,r_events,aa,ab,b]) _ _ _:=Own.Ck (s0:=w.heap.size) (M:=[r_events,aa,ab,b]) bE aS aV
 have dt:=bQ.len
 subst dt
 have du:=bR.len
 subst du
 have dv:=bS.len
 subst dv
 refine .r 1<|.sc [.slice ee ((((((Ce (⟨(⟨(⟨ar,au⟩:Idx),ax,ay⟩:Sto),(⟨az,aA,aB,aC⟩:Dsk)⟩:Wld))).store).idx).names).length) ef,.slice eg ((((((Ce (⟨(⟨(⟨ar,au⟩:Idx),ax,ay⟩:Sto),(⟨az,aA,aB,aC⟩:Dsk)⟩:Wld))).store).idx).AY).length) eh,.slice ej (((((Ce (⟨(⟨(⟨ar,au⟩:Idx),ax,ay⟩:Sto),(⟨az,aA,aB,aC⟩:Dsk)⟩:Wld))).store).parts).length) ek,vS aO en ey,vS aP ez eA,vS aQ eB eC,vS aR eD eE,vI ((((Ce (⟨(⟨(⟨ar,au⟩:Idx),ax,ay⟩:Sto),(⟨az,aA,aB,aC⟩:Dsk)⟩:Wld))).disk).next)] ac fun gN ci dw dx=>?_
 replace ⟨hD,aL,ao,E⟩:=(so [aO,aP,aQ,aR,r_events,aa,ab,b] ci).g4 hD aL ao E
 exact .d<|.r2 func31 results31 (.t (vS r_events n_events c_events)) (.bx dw) ⟨⟨(events:List Evt),⟨_,_,(Bx rfl rfl),(VO.of ao AF cN),⟨_,_,_,_,_,_,_,_,_,_,_,_,_,_,_,_,_,_,_,_,_,_,rfl⟩⟩,(by exact ⟨by assumption,by omega⟩)⟩,p_,by omega,aL,E⟩
theorem Ea (code:List UInt8) (h1:RepS w F a1 n1 c1 code)  : Calls Tryz.prog 15 [.slice a1 n1 c1].toArray w (Am fun rv w'=>(∃ (es:List Evt),VL (fo F w.heap.size) w' (es:List Evt) rv∧(EsD es))∧Ext w w'):=by
 refine goT func15 ?_
 obtain ⟨rfl,cj,h1⟩:=h1.tp
 refine .s<|.g<|.r 1<|.d<|.s<|.g<|.r 1<|.cl (LG code h1 (w:=w) (F:=nin (fo F w.heap.size) [])) ?_
 rintro cB aQ ⟨⟨cC,ag,cD,cE,rfl,aF,ay,ab⟩,aG⟩
 have aH:∀ q_∈([]:List Nat),q_< w.heap.size:=all_nil
 have bh:Gb w.heap.size w.heap.size:=(Nat.le_refl _)
 have ck:Cov nil w ag:=KN aF (Nat.le_refl _)
 have E:=aG
 replace ab:=RepS.Ux (b:=ag) (M:=[]) ab aH bh
 refine .r 1<|.d<|.s<|.g<|.r 1<|.cl (J0 ay (ab.CU AI) AB (w:=aQ) (F:=all)) ?_
 rintro cF bA ⟨⟨aI,⟨cG,cH,rfl,⟨ah,bi,bj,rfl,aa,am⟩,⟨bB,bC,bD,bE,bF,bG,bH,bI,bJ,bK,bL,bM,bN,bO,bP,bQ,bR,bS,bT,bU,bV,bW,rfl⟩⟩,cm⟩,cI,co,ak,az⟩
 have aJ:=al1 ay.lt
 have bk:Gb w.heap.size aQ.heap.size:=E.size
 have bm:=CD am ay.lt
 have aK:=FV am E.size
 have bn:Cov nil w ah:=KN am E.size
 have aL:Mv [ag] [ah,ag] aQ bA:=Mv.cons (Mv.on az AI) am
 replace ⟨ab,E⟩:=(sp aL az).g2 ab E
 replace aa:=Own.take (s0:=w.heap.size) (M:=[ag]) aa aJ bk
 replace aa:=aa.base (G':=fo F w.heap.size) (fun _ _ h=>.inr h)
 have cp:=aa.len
 refine .r 3<|.np 38 [AH,AH,AH,AH,AH,AH,AH,vI 0] fun aA cJ ao aM bo bq=>?_
 have cr:=Ab ao ak.lt
 have br:=Ab ao aa.lt
 have cu:=E.cn ao
 replace ⟨ab,ak,aa,E⟩:=(sn [ah,ag] aM ao).g4 ab ak aa E
 refine .r 1<|.sc [.slice bB bC bD,.slice bE bF bG,.slice bH bI bJ,.slice bK bL bM,.slice bN bO bP,.slice bQ bR bS,.slice bT bU bV,vI bW] bo fun bX aN al bt=>?_
 replace ⟨ab,ak,aa,E⟩:=(so [aA,ah,ag] aN).g4 ab ak aa E
 refine .d<|.s<|.s<|.g<|.r 1<|.cl (Az 40 ak (ab.CU AK) AB (w:=bX) (F:=all)) ?_
 rintro cK aR ⟨⟨bY,rfl,cw⟩,cL,cx,aq,aO⟩
 replace ⟨aa,al,E⟩:=(so [aA,ah,ag] aO).g3 aa al E
 refine .eq bY 0 (fun aS=>?_) (fun aS=>?_)
 ·refine .d<|.ct<|.b 0<|T.loop (X:=(List Evt) × Nat × Nat × Nat) ((aI:List Evt),ah,bi,bj) (fun (events,r_events,n_events,c_events)=>[(4,vS r_events n_events c_events)]) (fun (events,r_events,n_events,c_events) aB=>Chg (ins [ah]) aR aB∧Own aB r_events 58 (nin (fo F w.heap.size) [aA,r_events,ag]) n_events c_events events∧OrB r_events ah aR.heap.size∧(EsD events)∧(events.length≤51)) (fun (events,r_events,n_events,c_events)=>52 - events.length) AA ⟨AA,trivial⟩ ⟨Chg.refl _ _,aa,Dv,(by (have q1:EsD _∧_:=‹_›; exact q1.1)),(by (have q1:EsD _∧_:=‹_›; omega))⟩ ?_
  rintro ⟨events,r_events,n_events,c_events⟩ cy aB ⟨ac,ae,af,bZ,b0⟩ au
  have b6:=CZ af bm aq.lt
  have b7:=CZ af (Nb.symm br) al.lt
  have aT:=Ii af aK E.size
  have b8:=Cm af bn E.size
  have aU:Cov (ins [ah]) aR ah:=⟨.inl AI⟩
  have b9:=Cm af aU (Nat.le_refl _)
  replace ⟨aq,al,E⟩:=(si ac).g3 aq al E
  have cd:=ae.len
  refine .s<|.s<|.g<|.r 2<|.bp ((n_events:Int)≤50) (fun aV=>?_) (fun aV=>?_)
  ·refine .d<|.ct<|.sk<|.b 1<|.g<|.r 2<|.ns 1 58 [vI 4,vI 0,vI 0,AH,vI 0,vI 0] fun aP cz ai aC aW aX=>?_
   have aY:=Ab ai aq.lt
   have aD:=Ab ai ae.lt
   have aZ:=Ab ai al.lt
   have ba:=BV ai E.size
   replace ⟨ae,E,ac⟩:=(se [aA,r_events,ag] aC).g3 ae E ac
   have ax:nin (fo F w.heap.size) [aA,r_events,ag] aP∧aP≠r_events:=Dw (.inr ba) (all_cons aZ (all_cons aD (all_cons aY all_nil))) aD
   refine RG.CW (T:=23) (ty:=23) (y:=(⟨4,0,0,([]:List Tag),(⟨0,0⟩:Row)⟩:Evt)) ae aW AA AA ⟨_,_,_,rfl,(RepS.BN _ _ none 0 AE)⟩ ax AB fun bu bv cA aj ar aE=>?_
   have bd:=HZ ar af ac.size
   replace ⟨E,ac⟩:=(s1 aE).g2 E ac
   replace aj:=aj.rn r_events
   have cg:=aj.len
   exact .r 1<|.d<|.ib 1<|au ((events++[(⟨4,0,0,([]:List Tag),(⟨0,0⟩:Row)⟩:Evt)]),bu,n_events+1,bv) _ _ ⟨AA,trivial⟩ ⟨ac,aj,bd,(by exact EsD.snoc ‹_› ⟨NmD.nil,by simp [FD]⟩),(by (simp; omega))⟩ (by (simp only []; omega))
  refine .d<|.cf<|.x 0 rfl<|.s<|.g<|.r 2<|.d ?_
  have bw:=ae.sl (.inr aT)
  exact .rt func15 results15 (vS r_events n_events c_events) ⟨⟨(events:List Evt),(bw.vl AF (fun _ _ h=>h.1)),‹_›⟩,E⟩
 refine .d<|.cf<|.sk<|.s<|.g<|.r 2<|.d ?_
 have bz:=aa.sl (.inr aK)
 exact .rt func15 results15 (vS ah bi bj) ⟨⟨(aI:List Evt),(bz.vl AF (fun _ _ h=>h.1)),(by (have q1:EsD _∧_:=‹_›; exact q1.1))⟩,E⟩
end Go.Proofs.YtggnnidleedpaaaGreat
namespace Go.Proofs.YtggnnidleedpaaaGreat
theorem pv {es:List Evt}(h:EsD es) (h2:(Ay es).2=true):WV (Ay es).1∧(Ay es).1=Bu es∧es.length≤50:=by
 by_cases hl:(es.length:Int) > 50
 ·rw [K1 hl] at h2; cases h2
 ·rw [Gz hl]
  exact ⟨WV.Oz h,rfl,by omega⟩
section
variable {w:Wld}
theorem N2 (h:WV w):(w.disk.files.length:Int)=w.disk.list.length∧(w.disk.list.length:Int)=w.store.parts.length:=by
 have h1:=h.v.Sf
 have e:(BK w.disk).files=w.disk.files:=by
  unfold BK
  rw [List.filter_eq_self]
  exact fun f hf=>List.contains_iff_mem.2 (h.tf f hf)
 rw [e] at h1
 refine ⟨by omega,?_⟩
 rw [h.p,List.length_map]
theorem Ml (h:WV w):w.store.parts.length≤6∧w.store.mem.length≤20∧w.store.idx.names.length≤6:=⟨(EW.1 h.k).1,(EW.1 h.k).2.1,h.wd.wi.sto.nm.len⟩
theorem Hp {d:Dsk}:(Al d).idx.names=d.names:=rfl
end
theorem EsD.take {es:List Evt}(h:EsD es) (k:Nat):EsD ((es.take k).drop 0):=fun e he=>h e (List.mem_of_mem_take (List.mem_of_mem_drop he))
end Go.Proofs.YtggnnidleedpaaaGreat
namespace Go.Proofs.YtggnnidleedpaaaGreat
section
variable {w:Wld} {e:Evt}
theorem Vj (B:Int):∀ (l:List Stp) (d:Dsk),d.next≤B→(∀ x∈l,x.kind=1→x.num+1≤B)→(l.foldl doD d).next≤B:=by
 intro l
 induction l with
 | nil=>intro d h _; exact h
 | cons x xs ih =>
   intro d h hx
   rw [List.foldl_cons]
   refine ih _ ?_ (fun y hy=>hx y (by simp [hy]))
   unfold doD
   split
   ·rename_i hk; exact hx x AD hk
   ·split
    ·exact h
    ·split
     ·exact h
     ·exact h
theorem Sq (d:Dsk) (s:Sto):∀ x∈As d s,x.kind=1→x.num+1≤d.next+1:=by
 intro x hx hk
 unfold As at hx
 split at hx
 ·cases hx
 ·simp only [List.mem_cons,List.not_mem_nil,or_false] at hx
  rcases hx with rfl | rfl
  ·exact Int.le_refl _
  ·simp at hk
theorem Sr (d:Dsk) (a:Int):∀ x∈Aj d a,x.kind=1→x.num+1≤d.next+1:=by
 intro x hx hk
 unfold Aj at hx
 split at hx
 ·cases hx
 ·simp only [List.mem_cons,List.not_mem_nil,or_false] at hx
  rcases hx with rfl | rfl | rfl | rfl
  ·exact Int.le_refl _
  ·simp at hk
  ·simp at hk
  ·simp at hk
theorem N4 {st:List Stp}{c:Int}{s:Sto}(h:∀ x∈st,x.kind=1→x.num+1≤w.disk.next+1):(Bi w st c s).disk.next≤w.disk.next+1:=by
 have key:(toD w.disk st c).next≤w.disk.next+1:=Vj _ _ _ AB (fun x hx=>h x (List.mem_of_mem_take hx))
 unfold Bi
 split
 ·omega
 ·split
  ·exact key
  ·exact key
theorem K4 (w:Wld) (e:Evt):(doW w e).disk.next≤w.disk.next+1:=by
 by_cases k1:e.kind=1
 ·cases hn:Aq e.name with
  | false=>rw [Gj k1 hn]; omega
  | true=>rw [Gi k1 hn]; show w.disk.next≤_; omega
 ·by_cases k2:e.kind=2
  ·rw [Gk k2]; exact N4 (Sq _ _)
  ·by_cases k3:e.kind=3
   ·rw [GC k3]; exact N4 (Sr _ _)
   ·by_cases k4:e.kind=4
    ·rw [Lc k4]; show w.disk.next≤_; omega
    ·rw [Ld k1 k2 k3 k4]; omega
theorem Pr:∀ (es:List Evt) (w:Wld),(es.foldl doW w).disk.next≤w.disk.next+es.length:=by
 intro es
 induction es with
 | nil=>intro w; simp
 | cons e es ih =>
   intro w
   have h1:=ih (doW w e)
   have h2:=K4 w e
   rw [List.foldl_cons,List.length_cons]
   omega
theorem KG (h:WV w) (hc:(w.store.mem.length:Int)=0∨(w.store.parts.length:Int)=6) (k:e.kind=2):doW w e=w:=by
 rw [Gk k]
 refine Co (.inl ?_)
 have hl:=(N2 h).2
 rw [EK AB]
 rfl
theorem Su (h:WV w) (hn:w.disk.next≤60) (h0:¬ (w.store.mem.length:Int)=0) (h6:¬ (w.store.parts.length:Int)=6):FlD w.disk w.store:=by
 have h1:=N2 h
 have h2:=Ml h
 exact ⟨h.v,h.sd,h.k,h.nb,h.p,fun e=>h0 (by rw [e]; rfl),by omega,by omega,by omega⟩
theorem Ie (h:WV w) (q:FlD w.disk w.store) (k:e.kind=2) (hc:¬ e.cut< 2):doW w e=⟨Ci w.store,toD w.disk (As w.disk w.store) e.cut⟩:=by
 rw [Gk k]
 have hl:=FI q
 rw [DM AB AB AB,(Gx h.sd h.k q.m q.parts).1]
theorem Ps (h:WV w) (k:e.kind=4):doW w e=⟨Al w.disk,BK w.disk⟩:=by
 rw [Lc k]; exact F5 h.dd h.v
theorem JZ (h:WV w) (q:FlD w.disk w.store):Bd (Ci w.store) [] 0 99=Bd w.store [] 0 99 :=
 IS (x:=Ci w.store) (s:=w.store) rfl (h.k.trans (IJ h.sd h.k q.m q.parts).symm) (fun _ id a b=>Hh (StoK.of h.sd h.k) a (by have:=h.sd.nm.len; omega)) _ _
theorem Wr (h:WV w) (hn:w.disk.next≤60){a:Int}(h0:0≤a) (h1:a+2≤w.disk.list.length):∃ x y,MgD w.disk a.toNat x y∧Aj w.disk a=Aj w.disk a.toNat:=by
 have hl:=N2 h
 have h2:=Ml h
 have hc:¬ (!(inR a 0 ((w.disk.list.length:Int) - 2)) || decide (w.disk.next≥999) || decide (w.disk.files.length≥20))=true:=by
  have hi:inR a 0 ((w.disk.list.length:Int) - 2)=true:=by simp [inR]; omega
  have hx:decide (w.disk.next≥999)=false:=decide_eq_false AB
  have hy:decide (w.disk.files.length≥20)=false:=decide_eq_false AB
  rw [hi,hx,hy]
  decide
 obtain ⟨x,y,q,_,e,_⟩:=h.mg (i:=a) (by unfold Aj; rw [if_neg hc]; simp)
 exact ⟨x,y,q,e⟩
theorem Mm (h:WV w){x y:Int}(q:MgD w.disk e.at_.toNat x y) (es:Aj w.disk e.at_=Aj w.disk e.at_.toNat) (h0:0≤e.at_) (k:e.kind=3) (hc:¬ e.cut< 4) :
 doW w e=⟨CI w.store e.at_.toNat,toD w.disk (Aj w.disk e.at_.toNat) e.cut⟩:=by
 rw [GC k,es]
 have hl:=Gy q
 have hp:e.at_.toNat+2≤w.store.parts.length:=by rw [← h.open,q.open.2.2]; exact q.l
 have em:(BD w.store e.at_).1=CI w.store e.at_.toNat:=by
  have:=Kx hp
  rw [show ((e.at_.toNat:Nat):Int)=e.at_ by omega] at this
  rw [this]
 rw [DM AB AB AB,em]
theorem UI (h:WV w){x y:Int}(q:MgD w.disk e.at_.toNat x y) (es:Aj w.disk e.at_=Aj w.disk e.at_.toNat) (k:e.kind=3) (h1:0≤e.cut) (hc:e.cut< 4) :
 doW w e=⟨Al (toD w.disk (Aj w.disk e.at_.toNat) e.cut),BK (toD w.disk (Aj w.disk e.at_.toNat) e.cut)⟩:=by
 rw [GC k,es]
 have hl:=Gy q
 rw [DL AB AB AB]
 exact F5 (w:=⟨w.store,toD w.disk (Aj w.disk e.at_.toNat) e.cut⟩) (by have:=K0 h e.at_ e.cut; rwa [es] at this) (q.to _).1
theorem Uh (h:WV w){x y:Int}{a:Nat}(q:MgD w.disk a x y) (c:Int):Bd (Al (toD w.disk (Aj w.disk a) c)) [] 0 99=Bd (Al w.disk) [] 0 99:=by
 rw [(q.to c).2]
 split
 ·rfl
 ·exact JY q.sd q.v.so (by rw [q.open.2.2]; exact q.l)
end
section
variable {w:Wld} {c:Int}
theorem Ws (h:WV w) (hn:w.disk.next≤60){a:Int}(h0:0≤a) (h1:a+2≤w.disk.list.length) (hc:0≤c∧c< 5) :
 (Bd (doW (doW w ⟨3,a,c,[],⟨0,0⟩⟩) ⟨4,0,0,[],⟨0,0⟩⟩).store [] 0 99==Bd (doW w ⟨4,0,0,[],⟨0,0⟩⟩).store [] 0 99)=true∧(Bd (doW w ⟨3,a,9,[],⟨0,0⟩⟩).store [] 0 99==Bd w.store [] 0 99)=true ∧
  ((doW w ⟨3,a,9,[],⟨0,0⟩⟩).disk.list.length:Int)=w.disk.list.length - 1:=by
 obtain ⟨x,y,q,es⟩:=Wr h hn h0 h1
 have hx:WV (doW w ⟨3,a,c,[],⟨0,0⟩⟩):=h.do NmD.nil
 have e9:=Mm (e:=⟨3,a,9,[],⟨0,0⟩⟩) h q es h0 rfl (by show ¬ (9:Int)< 4; decide)
 have hp:a.toNat+2≤w.store.parts.length:=by rw [← h.open,q.open.2.2]; exact q.l
 rw [Ps hx rfl,Ps (e:=⟨4,0,0,[],⟨0,0⟩⟩) h rfl,e9]
 refine ⟨?_,?_,?_⟩
 ·show (Bd (Al (doW w ⟨3,a,c,[],⟨0,0⟩⟩).disk) [] 0 99==Bd (Al w.disk) [] 0 99)=true
  by_cases h4:c< 4
  ·rw [UI (e:=⟨3,a,c,[],⟨0,0⟩⟩) h q es rfl hc.1 h4]
   show (Bd (Al (BK (toD w.disk (Aj w.disk a.toNat) c))) [] 0 99==_)=true
   obtain ⟨_,eo⟩:=(q.to c).1.tidy
   rw [eo,Uh h q c]
   exact beq_self_eq_true _
  ·rw [Mm (e:=⟨3,a,c,[],⟨0,0⟩⟩) h q es h0 rfl h4]
   show (Bd (Al (toD w.disk (Aj w.disk a.toNat) c)) [] 0 99==_)=true
   rw [Uh h q c]
   exact beq_self_eq_true _
 ·show (Bd (CI w.store a.toNat) [] 0 99==_)=true
  rw [JY h.sd h.k hp]
  exact beq_self_eq_true _
 ·show (((toD w.disk (Aj w.disk a.toNat) 9).list.length:Nat):Int)=_
  rw [Ky q AE]
  have:=q.l
  have e:(mgD w.disk a.toNat x y).list=w.disk.list.take a.toNat++[w.disk.next]++w.disk.list.drop (a.toNat+2):=rfl
  show (((mgD w.disk a.toNat x y).list.length:Nat):Int)=_
  rw [e]
  simp only [List.length_append,List.length_take,List.length_drop,List.length_cons,List.length_nil]
  omega
end
end Go.Proofs.YtggnnidleedpaaaGreat
namespace Go.Proofs.YtggnnidleedpaaaGreat
theorem Qj {p:List Tag→Bool}:∀ (l m:List (List Tag)) (i:Nat),BG p i (l++m)=BG p i l++BG p (i+l.length) m:=by
 intro l
 induction l with
 | nil=>intro m i; rfl
 | cons n ns ih =>
   intro m i
   rw [List.cons_append]
   show (if p n then [(i:Int)+1] else [])++BG p (i+1) (ns++m)=((if p n then [(i:Int)+1] else [])++BG p (i+1) ns)++BG p (i+(n::ns).length) m
   rw [ih,← List.append_assoc,List.length_cons,show i+(ns.length+1)=i+1+ns.length by omega]
theorem Vk {id:Int}:∀ (ps:List Prt),(∀ p∈ps,∀ i∈p.ids,i≠id)→ps.foldl (Bq id) []=[]:=by
 intro ps
 induction ps with
 | nil=>intro _; rfl
 | cons p ps ih =>
   intro h
   rw [List.foldl_cons]
   have e:Bq id [] p=[]:=by
    unfold Bq partOf
    rw [Nc _ _ (h p AD)]
    rfl
   rw [e]
   exact ih (fun q hq=>h q (by simp [hq]))
section
variable {w:Wld}
theorem Vl (h:WV w):∃ l,w.store.idx.names=w.disk.names++l:=⟨w.store.idx.names.drop w.disk.names.length,by
 have:=List.take_append_drop w.disk.names.length w.store.idx.names
 rw [← h.m] at this
 exact this.symm⟩
theorem Sv (h:WV w) (hm:w.store.mem=[]):Bd (Al w.disk) [] 0 99=Bd w.store [] 0 99:=by
 obtain ⟨l,hl⟩:=Vl h
 have r1:∀ id,rowsOf w.store id=w.store.parts.foldl (Bq id) []:=fun id=>by unfold rowsOf; rw [hm]; rfl
 have r2:∀ id,rowsOf (Al w.disk) id=w.store.parts.foldl (Bq id) []:=fun id=>by rw [← h.open]; rfl
 rw [R1 h.v.so Nn,R1 h.k Nn]
 unfold NZ
 rw [hl,Hp,Qj,List.flatMap_append]
 have e1:(BG (fits []) 0 w.disk.names).flatMap (Dk (Al w.disk) 0 99)=(BG (fits []) 0 w.disk.names).flatMap (Dk w.store 0 99):=by
  have key:∀ (q:List Int),(∀ i∈q,1≤i∧i≤w.disk.names.length)→q.flatMap (Dk (Al w.disk) 0 99)=q.flatMap (Dk w.store 0 99):=by
   intro q
   induction q with
   | nil=>intro _; rfl
   | cons i is ih =>
     intro hq
     rw [List.flatMap_cons,List.flatMap_cons,ih (fun j hj=>hq j (by simp [hj]))]
     have h1:=hq i AD
     unfold Dk
     rw [r1,r2,hl,Hp]
     have e:(w.disk.names++l).getD (i - 1).toNat []=w.disk.names.getD (i - 1).toNat []:=by
      rw [List.getD_eq_getElem?_getD,List.getD_eq_getElem?_getD,List.getElem?_append_left AB]
     rw [e]
  exact key _ (fun i hi=>D7 hi)
 have e2:(BG (fits []) (0+w.disk.names.length) l).flatMap (Dk w.store 0 99)=[]:=by
  rw [List.flatMap_eq_nil_iff]
  intro i hi
  have h1:=Ls l _ i hi
  have h0:rowsOf w.store i=[]:=by
   rw [r1]
   refine Vk _ fun p hp j hj=>?_
   rw [← h.open] at hp
   have h2:=IP ((EW.1 h.v.so).2.2.1 p hp) j hj
   rw [Hp] at h2
   omega
  unfold Dk
  rw [h0]
  rfl
 rw [e1,e2,List.append_nil]
theorem Ui (h:WV w):(doW w ⟨4,0,0,[],⟨0,0⟩⟩).store=Al w.disk:=by rw [Ps h rfl]
structure SM (w x:Wld) (k:Nat):Prop where
 wv:WV x
 ask:Bd x.store [] 0 99=Bd w.store [] 0 99
 nx:x.disk.next≤52+k
 len:x.disk.list.length≤6 - k∨x.disk.list.length≤1
theorem SM.start (h:WV w) (hn:w.disk.next≤51):SM w (doW w ⟨2,0,9,[],⟨0,0⟩⟩) 0:=by
 have hx:WV (doW w ⟨2,0,9,[],⟨0,0⟩⟩):=h.do NmD.nil
 have h1:=K4 w ⟨2,0,9,[],⟨0,0⟩⟩
 have h2:=N2 hx
 have h3:=Ml hx
 refine ⟨hx,?_,by omega,.inl AB⟩
 by_cases hc:(w.store.mem.length:Int)=0∨(w.store.parts.length:Int)=6
 ·rw [KG h hc rfl]
 ·have q:=Su h AB (fun e=>hc (.inl e)) (fun e=>hc (.inr e))
  rw [Ie (e:=⟨2,0,9,[],⟨0,0⟩⟩) h q rfl AE]
  exact JZ h q
theorem SM.step {x:Wld}{k:Nat}(h:SM w x k) (hk:k< 6):SM w (doW x ⟨3,0,9,[],⟨0,0⟩⟩) (k+1):=by
 have hx:WV (doW x ⟨3,0,9,[],⟨0,0⟩⟩):=h.wv.do NmD.nil
 have h1:=K4 x ⟨3,0,9,[],⟨0,0⟩⟩
 have hn:=h.nx
 by_cases hl:2≤x.disk.list.length
 ·obtain ⟨_,e2,e3⟩:=Ws (c:=0) (a:=0) h.wv AB AB AB AB
  refine ⟨hx,(eq_of_beq e2).trans h.ask,by omega,?_⟩
  rcases h.len with h4 | h4 <;> omega
 ·have e:doW x ⟨3,0,9,[],⟨0,0⟩⟩=x:=by
   rw [GC (e:=⟨3,0,9,[],⟨0,0⟩⟩) rfl]
   refine Co (.inl ?_)
   show ((Aj x.disk 0).length:Int)=0
   have:Aj x.disk 0=[]:=by
    unfold Aj
    rw [if_pos]
    have hi:inR 0 0 ((x.disk.list.length:Int) - 2)=false:=by simp [inR]; omega
    rw [hi]
    rfl
   rw [this]
   rfl
  rw [e]
  exact ⟨h.wv,h.ask,by omega,.inr AB⟩
theorem SM.fin {x:Wld}(h:SM w x 6):WV (doW x ⟨2,0,9,[],⟨0,0⟩⟩)∧(Bd (doW x ⟨2,0,9,[],⟨0,0⟩⟩).store [] 0 99==Bd w.store [] 0 99)=true∧(Bd (doW (doW x ⟨2,0,9,[],⟨0,0⟩⟩) ⟨4,0,0,[],⟨0,0⟩⟩).store [] 0 99==Bd w.store [] 0 99)=true ∧
 (doW x ⟨2,0,9,[],⟨0,0⟩⟩).store.mem.length=0∧(doW x ⟨2,0,9,[],⟨0,0⟩⟩).disk.list.length≤2:=by
 have hx:WV (doW x ⟨2,0,9,[],⟨0,0⟩⟩):=h.wv.do NmD.nil
 have hl:=h.len
 have hn:=h.nx
 have h2:=N2 h.wv
 have key:(doW x ⟨2,0,9,[],⟨0,0⟩⟩).store.mem=[]∧Bd (doW x ⟨2,0,9,[],⟨0,0⟩⟩).store [] 0 99=Bd w.store [] 0 99∧(doW x ⟨2,0,9,[],⟨0,0⟩⟩).disk.list.length≤2:=by
  by_cases hm:(x.store.mem.length:Int)=0
  ·rw [KG h.wv (.inl hm) rfl]
   exact ⟨List.length_eq_zero_iff.1 AB,h.ask,by omega⟩
  ·have q:=Su h.wv AB hm AB
   rw [Ie (e:=⟨2,0,9,[],⟨0,0⟩⟩) h.wv q rfl AE]
   refine ⟨rfl,(JZ h.wv q).trans h.ask,?_⟩
   show (toD x.disk (As x.disk x.store) 9).list.length≤2
   rw [(Ho q (c:=9) AE).2]
   simp only [List.length_append,List.length_cons,List.length_nil]
   omega
 obtain ⟨k1,k2,k3⟩:=key
 refine ⟨hx,by rw [k2]; exact beq_self_eq_true _,?_,by rw [k1]; rfl,k3⟩
 rw [Ui hx,Sv hx k1,k2]
 exact beq_self_eq_true _
end
end Go.Proofs.YtggnnidleedpaaaGreat
namespace Go.Proofs.YtggnnidleedpaaaGreat
def NB (w:Wld):Prop:=w.store.mem=[]→w.store.idx.names=w.disk.names
theorem Sw {s:Sto}{n:List Tag}{r:Row}(h:(CA s n r).2=false):(CA s n r).1=s:=by
 unfold CA at h ⊢
 split at h
 ·rename_i hc; rw [if_pos hc]
 ·rename_i hc
  rw [if_neg hc]
  split at h
  ·rename_i hc2; rw [if_pos hc2]
  ·cases h
section
variable {w:Wld}
theorem NB.do (h:WV w) (nb:NB w) (e:Evt):NB (doW w e):=by
 by_cases k1:e.kind=1
 ·cases hn:Aq e.name with
  | false=>rw [Gj k1 hn]; exact nb
  | true =>
    rw [Gi k1 hn]
    cases hb:(CA w.store e.name e.row).2 with
    | false=>rw [Sw hb]; exact nb
    | true =>
      intro hm
      rw [(Mh hb).2.2.2.2] at hm
      have hm2:w.store.mem++[⟨(BQ w.store.idx e.name).2.1,e.row⟩]=[]:=hm
      simp at hm2
 ·by_cases k2:e.kind=2
  ·rw [Gk k2]
   by_cases hs:((As w.disk w.store).length:Int)=0∨e.cut< 0
   ·rw [Co hs]; exact nb
   ·have q:=h.fl (fun e0=>hs (.inl (by rw [e0]; rfl)))
    by_cases hc:e.cut< (As w.disk w.store).length
    ·rw [DL (fun e0=>hs (.inl e0)) (fun e0=>hs (.inr e0)) hc,F5 (w:=⟨w.store,toD w.disk (As w.disk w.store) e.cut⟩) (Kz h q _) (q.to _).1]
     exact fun _=>rfl
    ·rw [DM (fun e0=>hs (.inl e0)) (fun e0=>hs (.inr e0)) hc,(Gx h.sd h.k q.m q.parts).1]
     have o:=(q.to e.cut).2
     rw [FI q] at hc
     rw [if_neg hc] at o
     intro _
     exact (congrArg (fun s:Sto=>s.idx.names) o).symm
  ·by_cases k3:e.kind=3
   ·rw [GC k3]
    by_cases hs:((Aj w.disk e.at_).length:Int)=0∨e.cut< 0
    ·rw [Co hs]; exact nb
    ·obtain ⟨x,y,q,i0,e3,_⟩:=h.mg (i:=e.at_) (fun e0=>hs (.inl (by rw [e0]; rfl)))
     have o:=(q.to e.cut).2
     by_cases hc:e.cut< (Aj w.disk e.at_).length
     ·rw [DL (fun e0=>hs (.inl e0)) (fun e0=>hs (.inr e0)) hc,F5 (w:=⟨w.store,toD w.disk (Aj w.disk e.at_) e.cut⟩) (K0 h _ _) (by rw [e3]; exact (q.to _).1)]
      exact fun _=>rfl
     ·rw [DM (fun e0=>hs (.inl e0)) (fun e0=>hs (.inr e0)) hc]
      have hp:e.at_.toNat+2≤w.store.parts.length:=by rw [← h.open,q.open.2.2]; exact q.l
      have em:(BD w.store e.at_).1=CI w.store e.at_.toNat:=by
       have:=Kx hp
       rw [← i0] at this
       rw [this]
      have hd:(toD w.disk (Aj w.disk e.at_.toNat) e.cut).names=w.disk.names:=by
       split at o
       ·exact congrArg (fun s:Sto=>s.idx.names) o
       ·exact congrArg (fun s:Sto=>s.idx.names) o
      intro hm
      rw [em] at hm ⊢
      show w.store.idx.names=(toD w.disk (Aj w.disk e.at_) e.cut).names
      rw [e3,hd]
      exact nb hm
   ·by_cases k4:e.kind=4
    ·rw [Ps h k4]; exact fun _=>rfl
    ·rw [Ld k1 k2 k3 k4]; exact nb
theorem NB.foldl:∀ (es:List Evt) (w:Wld),WV w→NB w→EsD es→NB (es.foldl doW w):=by
 intro es
 induction es with
 | nil=>intro w _ nb _; exact nb
 | cons e es ih =>
   intro w h nb he
   exact ih _ (h.do (he e AD).1) (nb.do h e) (fun x hx=>he x (by simp [hx]))
def c9 (e:Evt):Evt:=⟨e.kind,e.at_,9,e.name,e.row⟩
def nvS (p:List Evt × List Evt) (e:Evt):List Evt × List Evt:=if e.kind=1∧(p.1.length:Int)< 20 then (p.1++[c9 e],p.2++[c9 e]) else if e.kind=2∨e.kind=3 then (p.1,p.2++[c9 e]) else p
structure NV (A B:List Evt):Prop where
 ea:EsD A
 eb:EsD B
 ix:(Bu B).store.idx=(Bu A).store.idx
 rw:∀ id,1≤id→id≤6→rowsOf (Bu B).store id=rowsOf (Bu A).store id
 la:A.length≤20
 ma:(Bu A).store.mem.length≤A.length
 mb:(Bu B).store.mem.length≤A.length
theorem Cy (es:List Evt) (e:Evt):Bu (es++[e])=doW (Bu es) e:=by unfold Bu; rw [List.foldl_append]; rfl
theorem NV.nil:NV [] []:=⟨EsD.nil,EsD.nil,rfl,fun _ _ _=>rfl,by simp,by simp [Bu,Cu],by simp [Bu,Cu]⟩
theorem N5 (s:Sto) (n:List Tag) (r:Row):(FN s n r).mem.length=s.mem.length+1:=by simp [FN]
theorem add_same {s t:Sto}{n:List Tag}{r:Row}(hs:SD s) (ht:SD t) (ks:Ac s=true) (kt:Ac t=true) (hi:t.idx=s.idx) (hr:∀ id,1≤id→id≤6→rowsOf t id=rowsOf s id) (hm:s.mem.length< 20) (hm2:t.mem.length< 20) :
 (CA t n r).1.idx=(CA s n r).1.idx∧(∀ id,1≤id→id≤6→rowsOf (CA t n r).1 id=rowsOf (CA s n r).1 id)∧(CA s n r).1.mem.length≤s.mem.length+1∧(CA t n r).1.mem.length≤t.mem.length+1:=by
 have same:t.idx=s.idx∧(∀ id,1≤id→id≤6→rowsOf t id=rowsOf s id)∧s.mem.length≤s.mem.length+1∧t.mem.length≤t.mem.length+1:=⟨hi,hr,by omega,by omega⟩
 cases h1:(BQ s.idx n).2.2 with
 | false=>rw [KW h1,KW (by rw [hi]; exact h1)]; exact same
 | true =>
   cases h2:BU r with
   | false=>rw [KX h2,KX h2]; exact same
   | true =>
     obtain ⟨_,i2,_,i4⟩:=OQ hs.idx hs.nm n
     have i5:=i4 h1
     have i6:=i2.len
     have hx:∀ id,1≤id→id≤6→rowsOf (FN t n r) id=rowsOf (FN s n r) id:=fun id a b=>by rw [Kt ht kt,Kt hs ks,hi,hr id a b]
     have h3:=hx (BQ s.idx n).2.1 i5.1 AB
     by_cases h4:((rowsOf (FN s n r) (BQ s.idx n).2.1).length:Int) > 24
     ·rw [Fy h1 h2 AB h4,Fy (by rw [hi]; exact h1) h2 AB (by rw [hi,h3]; exact h4)]; exact same
     ·rw [F0 h1 h2 AB h4,F0 (by rw [hi]; exact h1) h2 AB (by rw [hi,h3]; exact h4)]
      refine ⟨?_,hx,by rw [N5]; exact Nat.le_refl _,by rw [N5]; exact Nat.le_refl _⟩
      show (BQ t.idx n).1=(BQ s.idx n).1
      rw [hi]
theorem NV.add {A B:List Evt}(h:NV A B){e:Evt}(he:EvD e) (k:e.kind=1) (hl:(A.length:Int)< 20):NV (A++[c9 e]) (B++[c9 e]):=by
 have ha:=WV.Oz h.ea
 have hb:=WV.Oz h.eb
 have m1:=h.ma
 have m2:=h.mb
 have key:(doW (Bu B) (c9 e)).store.idx=(doW (Bu A) (c9 e)).store.idx∧(∀ id,1≤id→id≤6→rowsOf (doW (Bu B) (c9 e)).store id=rowsOf (doW (Bu A) (c9 e)).store id) ∧
  (doW (Bu A) (c9 e)).store.mem.length≤A.length+1∧(doW (Bu B) (c9 e)).store.mem.length≤A.length+1:=by
  have k9:(c9 e).kind=1:=k
  cases hn:Aq (c9 e).name with
  | false=>rw [Gj k9 hn,Gj k9 hn]; exact ⟨h.ix,h.rw,by omega,by omega⟩
  | true =>
    rw [Gi k9 hn,Gi k9 hn]
    obtain ⟨q1,q2,q3,q4⟩:=add_same (n:=(c9 e).name) (r:=(c9 e).row) ha.sd hb.sd ha.k hb.k h.ix h.rw AB AB
    exact ⟨q1,q2,Nat.le_trans q3 AB,Nat.le_trans q4 AB⟩
 obtain ⟨k1,k2,k3,k4⟩:=key
 refine ⟨h.ea.snoc he,h.eb.snoc he,?_,?_,?_,?_,?_⟩
 ·rw [Cy,Cy]; exact k1
 ·rw [Cy,Cy]; exact k2
 ·rw [List.length_append,List.length_cons,List.length_nil]; omega
 ·rw [Cy,List.length_append,List.length_cons,List.length_nil]; exact k3
 ·rw [Cy,List.length_append,List.length_cons,List.length_nil]; exact k4
theorem NV.flush {A B:List Evt}(h:NV A B){e:Evt}(he:EvD e) (k:e.kind=2∨e.kind=3) (hl:B.length≤50):NV A (B++[c9 e]):=by
 have hb:=WV.Oz h.eb
 have nx:(Bu B).disk.next≤60:=by
  have h3:=Pr B Cu
  have h4:Cu.disk.next=1:=rfl
  unfold Bu
  omega
 have m2:=h.mb
 have n6:=hb.sd.nm.len
 have key:(doW (Bu B) (c9 e)).store.idx=(Bu B).store.idx∧(∀ id,1≤id→id≤6→rowsOf (doW (Bu B) (c9 e)).store id=rowsOf (Bu B).store id)∧(doW (Bu B) (c9 e)).store.mem.length≤A.length:=by
  rcases k with k | k
  ·by_cases hc:((Bu B).store.mem.length:Int)=0∨((Bu B).store.parts.length:Int)=6
   ·rw [KG (e:=c9 e) hb hc k]; exact ⟨rfl,fun _ _ _=>rfl,m2⟩
   ·have q:=Su hb nx (fun e=>hc (.inl e)) (fun e=>hc (.inr e))
    rw [Ie (e:=c9 e) hb q k (by show ¬ (9:Int)< 2; decide)]
    exact ⟨rfl,fun id a b=>Hh (StoK.of hb.sd hb.k) a b,by show (0:Nat)≤_; omega⟩
  ·by_cases hs:((Aj (Bu B).disk e.at_).length:Int)=0
   ·rw [GC (e:=c9 e) k]
    have hs9:((Aj (Bu B).disk (c9 e).at_).length:Int)=0:=hs
    rw [Co (.inl hs9)]
    exact ⟨rfl,fun _ _ _=>rfl,m2⟩
   ·obtain ⟨x,y,q,i0,e3,_⟩:=hb.mg (i:=e.at_) (fun e0=>hs (by rw [e0]; rfl))
    have hp:e.at_.toNat+2≤(Bu B).store.parts.length:=by rw [← hb.open,q.open.2.2]; exact q.l
    rw [Mm (e:=c9 e) hb q e3 (by show 0≤e.at_; omega) k (by show ¬ (9:Int)< 4; decide)]
    exact ⟨rfl,fun id a b=>(EX (StoK.of hb.sd hb.k) hp a b).2,m2⟩
 obtain ⟨k1,k2,k3⟩:=key
 refine ⟨h.ea,h.eb.snoc he,?_,?_,h.la,h.ma,?_⟩
 ·rw [Cy,k1]; exact h.ix
 ·rw [Cy]; exact fun id a b=>(k2 id a b).trans (h.rw id a b)
 ·rw [Cy]; exact k3
theorem NV.step {p:List Evt × List Evt}(h:NV p.1 p.2){e:Evt}(he:EvD e) (hl:p.2.length≤50):NV (nvS p e).1 (nvS p e).2∧(nvS p e).2.length≤p.2.length+1:=by
 unfold nvS
 split
 ·rename_i k; exact ⟨h.add he k.1 k.2,by simp⟩
 ·split
  ·rename_i k; exact ⟨h.flush he k hl,by simp⟩
  ·exact ⟨h,by omega⟩
theorem NV.foldl:∀ (es:List Evt) (p:List Evt × List Evt),NV p.1 p.2→EsD es→p.2.length+es.length≤50→NV (es.foldl nvS p).1 (es.foldl nvS p).2∧(es.foldl nvS p).2.length≤50:=by
 intro es
 induction es with
 | nil=>intro p h _ hl; exact ⟨h,by simpa using hl⟩
 | cons e es ih =>
   intro p h he hl
   rw [List.length_cons] at hl
   obtain ⟨a,b⟩:=h.step (he e AD) AB
   exact ih _ a (fun x hx=>he x (by simp [hx])) AB
end
end Go.Proofs.YtggnnidleedpaaaGreat
