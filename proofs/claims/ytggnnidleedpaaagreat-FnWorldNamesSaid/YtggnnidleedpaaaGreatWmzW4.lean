/- walks; pruned haves; hints pruned; squeezed -/
import Derived.Test.YtggnnidleedpaaaGreatWmzMem
open Go.Proofs.Tryz
set_option linter.unusedVariables false
set_option linter.unusedSimpArgs false
namespace Go.Proofs.YtggnnidleedpaaaGreat
set_option maxRecDepth 100000
set_option maxHeartbeats 4000000
variable {w:World} {F:Nat→Prop} {a1 a2 a3 a4 a5 a6 a7 a8:Option Addr} {n1 c1 n2 c2 n3 c3 n4 c4 n5 c5 n6 c6 n7 c7 n8 c8:Nat}
theorem Jv  {F:Nat→Prop}   : Calls Tryz.prog 103 [].toArray w (BB fun rv w'=>VS (ge w.heap.size) w' ((⟨[],[]⟩:Idx):Idx) rv∧Ext w w'):=by
 refine goT func103<|.s<|.g<|.np 28 [AH,AH] fun ac aH ag ah E am=>?_
 have aD:Cov nil w ac:=Bf ag (Nat.le_refl _)
 have C:=ah
 refine .d<|.s<|.g<|.ns 0 43 [] fun W aA af ai ao aq=>?_
 have aE:=AX af E.lt
 have ar:=Ae af C.size
 replace ⟨E,C⟩:=(se [] ai).g2 E C
 have J:Own (α:=List Tag) aA W 43 (nin (ge w.heap.size) [W,ac]) 0 0 []:=Own.Aj ao
 refine .ns 0 117 [] fun ae aB aa aj au av=>?_
 have aF:=AX aa E.lt
 have aG:=AX aa J.lt
 have aw:=Ae aa C.size
 replace ⟨E,J,C⟩:=(sn [W,ac] aj aa).g3 E J C
 have ab:Own (α:=Pst) aB ae 117 (nin (ge w.heap.size) [ae,W,ac]) 0 0 []:=Own.Aj au
 refine .r 1<|.sc [vS W 0 0,vS ae 0 0] E fun ax ak ay az=>?_
 replace ⟨J,ab,C⟩:=(so [ae,W,ac] ak).g3 J ab C
 refine .d ?_
 have al:=J.sl ar
 replace ab:=(sd ax [ae,W,ac] W).g1 ab
 have aC:=ab.sl aw
 replace al:=(sd ax [ae,ac] ae).g1 al
 exact .rb func103 results103 ay ⟨⟨_,rfl,⟨_,_,_,_,_,_,rfl,al.w1,aC.w1⟩⟩,C⟩
theorem Jw  {F:Nat→Prop}   : Calls Tryz.prog 61 [].toArray w (BB fun rv w'=>VS (ge w.heap.size) w' ((⟨⟨[],[]⟩,[],[]⟩:Sto):Sto) rv∧Ext w w'):=by
 refine goT func61<|.s<|.g<|.np 32 [AH,AH,AH,AH] fun ab av aj ak E aw=>?_
 have aP:Cov nil w ab:=Bf aj (Nat.le_refl _)
 have C:=ak
 refine .d<|.s<|.g<|.cl (Jv (w:=av) (F:=all)) ?_
 rintro aV aW ⟨⟨_,rfl,⟨aI,aX,aJ,aK,aY,aL,rfl,J,W⟩⟩,al⟩
 have ai:=al1 E.lt
 have am:Gb w.heap.size av.heap.size:=C.size
 replace ⟨E,C⟩:=(se [] al).g2 E C
 have J:=J.fr ai am
 have aQ:=J.max
 have W:=W.fr ai am
 have aR:=W.max
 have ax:=J.len
 subst ax
 have ay:=W.len
 subst ay
 refine .ns 0 48 [] fun ac aM ah ao az aA=>?_
 have aS:=AX ah E.lt
 have aB:=Ae ah C.size
 replace ⟨E,J,W,C⟩:=(sn [ab] ao ah).g4 E J W C
 have aa:Own (α:=Prt) aM ac 48 (nin (ge w.heap.size) [ac,ab]) 0 0 []:=Own.Aj az
 refine .ns 0 85 [] fun ag aN ae aq aC aD=>?_
 have aT:=AX ae E.lt
 have aU:=AX ae aa.lt
 have aE:=Ae ae C.size
 replace ⟨E,J,W,aa,C⟩:=(sn [ac,ab] aq ae).g5 E J W aa C
 have af:Own (α:=Smp) aN ag 85 (nin (ge w.heap.size) [ag,ac,ab]) 0 0 []:=Own.Aj aC
 refine .r 1<|.sc [.slice aI ((((⟨[],[]⟩:Idx)).names).length) aJ,.slice aK ((((⟨[],[]⟩:Idx)).AY).length) aL,vS ac 0 0,vS ag 0 0] E fun aF ar aG aH=>?_
 replace ⟨J,W,aa,af,C⟩:=(so [ag,ac,ab] ar).g5 J W aa af C
 refine .d ?_
 have au:=aa.sl aB
 replace ⟨J,W,af⟩:=(sd aF [ag,ac,ab] ac).g3 J W af
 have aO:=af.sl aE
 replace ⟨J,W,au⟩:=(sd aF [ag,ab] ag).g3 J W au
 exact .rb func61 results61 aG ⟨(VS.of (y:=(⟨(⟨((⟨[],[]⟩:Idx)).names,((⟨[],[]⟩:Idx)).AY⟩:Idx),[],[]⟩:Sto)) ⟨_,rfl,⟨_,_,_,_,_,_,_,_,_,_,_,_,rfl,J.w1,W.w1,au.w1,aO.w1⟩⟩ AF),C⟩
theorem JF  {F:Nat→Prop}   : Calls Tryz.prog 62 [].toArray w (BB fun rv w'=>VS (ge w.heap.size) w' ((⟨[],[],[],1⟩:Dsk):Dsk) rv∧Ext w w'):=by
 refine goT func62<|.s<|.g<|.np 36 [AH,AH,AH,vI 0] fun ab aT ak al E aw=>?_
 have aM:Cov nil w ab:=Bf ak (Nat.le_refl _)
 have C:=al
 refine .d<|.s<|.g<|.ns 0 50 [] fun ac aI ai am ax ay=>?_
 have aN:=AX ai E.lt
 have az:=Ae ai C.size
 replace ⟨E,C⟩:=(se [] am).g2 E C
 have J:Own (α:=Fil) aI ac 50 (nin (ge w.heap.size) [ac,ab]) 0 0 []:=Own.Aj ax
 refine .ns 0 3 [] fun af aJ ag ao aA aB=>?_
 have aO:=AX ag E.lt
 have aP:=AX ag J.lt
 have aC:=Ae ag C.size
 replace ⟨E,J,C⟩:=(sn [ac,ab] ao ag).g3 E J C
 have W:Own (α:=Int) aJ af 3 (nin (ge w.heap.size) [af,ac,ab]) 0 0 []:=Own.Aj aA
 refine .ns 0 43 [] fun ah aK ae aq aD aE=>?_
 have aQ:=AX ae E.lt
 have aR:=AX ae J.lt
 have aS:=AX ae W.lt
 have aF:=Ae ae C.size
 replace ⟨E,J,W,C⟩:=(sn [af,ac,ab] aq ae).g4 E J W C
 have aa:Own (α:=List Tag) aK ah 43 (nin (ge w.heap.size) [ah,af,ac,ab]) 0 0 []:=Own.Aj aD
 refine .r 1<|.sc [vS ac 0 0,vS af 0 0,vS ah 0 0,vI 1] E fun au ar aG aH=>?_
 replace ⟨J,W,aa,C⟩:=(so [ah,af,ac,ab] ar).g4 J W aa C
 refine .d ?_
 have aj:=J.sl az
 replace ⟨W,aa⟩:=(sd au [ah,af,ac,ab] ac).g2 W aa
 have av:=W.sl aC
 replace ⟨aj,aa⟩:=(sd au [ah,af,ab] af).g2 aj aa
 have aL:=aa.sl aF
 replace ⟨aj,av⟩:=(sd au [ah,ab] ah).g2 aj av
 exact .rb func62 results62 aG ⟨⟨_,rfl,⟨_,_,_,_,_,_,_,_,_,rfl,aj.w1,av.w1,aL.w1⟩⟩,C⟩
theorem FU  {F:Nat→Prop}   : Calls Tryz.prog 35 [].toArray w (BB fun rv w'=>VS (ge w.heap.size) w' ((⟨⟨⟨[],[]⟩,[],[]⟩,⟨[],[],[],1⟩⟩:Wld):Wld) rv∧Ext w w'):=by
 refine goT func35<|.s<|.g<|.np 38 [AH,AH,AH,AH,AH,AH,AH,vI 0] fun ar au ak al E av=>?_
 have aU:Cov nil w ar:=Bf ak (Nat.le_refl _)
 have C:=al
 refine .d<|.s<|.g<|.cl (Jw (w:=au) (F:=all)) ?_
 rintro bd aw ⟨⟨_,rfl,⟨aG,bg,aH,aI,bh,aJ,aK,bi,aL,aM,bj,aN,rfl,J,W,aa,ab⟩⟩,am⟩
 have ac:=al1 E.lt
 have ah:Gb w.heap.size au.heap.size:=C.size
 replace ⟨E,C⟩:=(se [] am).g2 E C
 have J:=J.fr ac ah
 have aV:=J.max
 have W:=W.fr ac ah
 have aW:=W.max
 have aa:=aa.fr ac ah
 have aX:=aa.max
 have ab:=ab.fr ac ah
 have aY:=ab.max
 have ax:=J.len
 subst ax
 have ay:=W.len
 subst ay
 have az:=aa.len
 subst az
 have aA:=ab.len
 subst aA
 refine .cl (JF (w:=aw) (F:=all)) ?_
 rintro bk bm ⟨⟨_,rfl,⟨aO,bn,aP,aQ,bo,aR,aS,bq,aT,rfl,ae,af,ag⟩⟩,ao⟩
 have ai:=al1 E.lt
 have aj:Gb w.heap.size aw.heap.size:=C.size
 replace ⟨E,J,W,aa,ab,C⟩:=(se [ar] ao).g6 E J W aa ab C
 have ae:=ae.fr ai aj
 have aZ:=ae.max
 have af:=af.fr ai aj
 have ba:=af.max
 have ag:=ag.fr ai aj
 have bc:=ag.max
 have aB:=ae.len
 subst aB
 have aC:=af.len
 subst aC
 have aD:=ag.len
 subst aD
 refine .r 1<|.sc [.slice aG (((((⟨⟨[],[]⟩,[],[]⟩:Sto)).idx).names).length) aH,.slice aI (((((⟨⟨[],[]⟩,[],[]⟩:Sto)).idx).AY).length) aJ,.slice aK ((((⟨⟨[],[]⟩,[],[]⟩:Sto)).parts).length) aL,.slice aM ((((⟨⟨[],[]⟩,[],[]⟩:Sto)).mem).length) aN,.slice aO ((((⟨[],[],[],1⟩:Dsk)).files).length) aP,.slice aQ ((((⟨[],[],[],1⟩:Dsk)).list).length) aR,.slice aS ((((⟨[],[],[],1⟩:Dsk)).names).length) aT,vI (((⟨[],[],[],1⟩:Dsk)).next)] E fun br aq aE aF=>?_
 replace ⟨J,W,aa,ab,ae,af,ag,C⟩:=(so [ar] aq).g8 J W aa ab ae af ag C
 exact .d<|.rb func35 results35 aE ⟨(VS.of (y:=(⟨(⟨(⟨(((⟨⟨[],[]⟩,[],[]⟩:Sto)).idx).names,(((⟨⟨[],[]⟩,[],[]⟩:Sto)).idx).AY⟩:Idx),((⟨⟨[],[]⟩,[],[]⟩:Sto)).parts,((⟨⟨[],[]⟩,[],[]⟩:Sto)).mem⟩:Sto),(⟨((⟨[],[],[],1⟩:Dsk)).files,((⟨[],[],[],1⟩:Dsk)).list,((⟨[],[],[],1⟩:Dsk)).names,((⟨[],[],[],1⟩:Dsk)).next⟩:Dsk)⟩:Wld)) ⟨_,rfl,⟨_,_,_,_,_,_,_,_,_,_,_,_,_,_,_,_,_,_,_,_,_,rfl,J.w1,W.w1,aa.w1,ab.w1,ae.w1,af.w1,ag.w1⟩⟩ AF),C⟩
theorem Gc (a:Prt) (b:Prt) (h1:RepS w F a1 n1 c1 a.ids) (h2:RepS w F a2 n2 c2 a.blocks) (h3:RepS w F a3 n3 c3 b.ids) (h4:RepS w F a4 n4 c4 b.blocks)  : Calls Tryz.prog 44 [.agg #[.slice a1 n1 c1,.slice a2 n2 c2],.agg #[.slice a3 n3 c3,.slice a4 n4 c4]].toArray w (BB fun rv w'=>rv=.bool ((a==b))∧Ext w w'):=by
 refine goT func44 ?_
 obtain ⟨rfl,aN,h1⟩:=h1.tp
 obtain ⟨rfl,aO,h2⟩:=h2.tp
 obtain ⟨rfl,aP,h3⟩:=h3.tp
 obtain ⟨rfl,aQ,h4⟩:=h4.tp
 refine .s<|.g<|.np 48 [.slice a1 a.ids.length c1,.slice a2 a.blocks.length c2] fun aa aZ aj ac E ay=>?_
 replace ⟨h1,h2,h3,h4⟩:=(sn [] ac aj).g4 h1 h2 h3 h4
 have C:=ac
 refine .np 48 [.slice a3 b.ids.length c3,.slice a4 b.blocks.length c4] fun ab aL ak al J az=>?_
 replace ⟨h1,h2,h3,h4,E,C⟩:=(sn [aa] al ak).g6 h1 h2 h3 h4 E C
 refine .r 1<|.d<|.s<|.s<|.g<|.r 1<|.lb E<|.r 1<|.lb J<|.cl (Er a.ids b.ids h1.ta h3.ta (w:=aL) (F:=all)) ?_
 rintro ba aA ⟨rfl,am⟩
 replace ⟨h2,h4,E,J,C⟩:=(se [ab,aa] am).g5 h2 h4 E J C
 cases aR:(a.ids==b.ids)
 ·exact .r 10<|.d<|.ct<|.s<|.g<|.r 1<|.d<|.rt func44 results44 (.bool false) ⟨(AG (by cases a; cases b; grind [Ab])),C⟩
 refine .r 3<|.lb E<|.r 2<|.lb J<|.r 1<|.ne (a.blocks.length:Int) (b.blocks.length:Int) (fun aB=>.r 1<|.d<|.ct<|.s<|.g<|.r 1<|.d<|.rt func44 results44 (.bool false) ⟨(AG (by cases a; cases b; grind [Ab])),C⟩) fun aB=>.r 1<|.d<|.cf<|.sk<|.s<|.s<|.g<|.r 1<|.d<|.b 0<|T.loop (X:=Nat) 0 (fun i=>[(2,.pointer (some ⟨aa,0,none⟩)),(3,.pointer (some ⟨ab,0,none⟩)),(5,vI (i:Int))]) (fun i av=>Chg (ins []) aA av∧(i≤a.blocks.length)∧(a.blocks.drop i=b.blocks.drop i↔a.blocks=b.blocks)) (fun i=>a.blocks.length - i) AA ⟨AA,AA,AA,trivial⟩ ⟨Chg.refl _ _,AD,AD⟩ ?_
 rintro i bc av ⟨W,aS,aT⟩ ae
 have ao:Mv [ab,aa] [ab,aa] aA av:=Mv.inl W all_nil (all_cons (.inl AI) (all_cons (.inl AJ) all_nil))
 replace ⟨h2,h4,E,J,C⟩:=(sp ao W).g5 h2 h4 E J C
 refine .s<|.s<|.g<|.r 2<|.lb E<|.r 1<|.bp ((i:Int)< (a.blocks.length:Int)) (fun aC=>?_) (fun aC=>.d<|.cf<|.x 0 rfl<|.s<|.g<|.r 1<|.d<|.rt func44 results44 (.bool true) ⟨(AG (by cases a; cases b; grind [Ab])),C⟩)
 refine .d<|.ct<|.sk<|.s<|.b 1<|.s<|.gd nil 10 fun bd aq=>?_
 replace ⟨h2,h4,E,J,C,W⟩:=(se [ab,aa] aq).g6 h2 h4 E J C W
 refine .r [0]<|.lb 1 E id<|.r [2] ?_
 have aD:i< a.blocks.length:=AB
 refine .ix 3 i 1 h2 aD ?_
 obtain ⟨aw,af⟩:∃ y,a.blocks[i]? = some y:=⟨_,AU AB⟩
 have aU:=Ai af; have aJ:=AV af
 obtain ⟨_,⟨bg,bh,bi,rfl,ag⟩,aE⟩:=h2.elem i aw af
 have aF:=ag.len
 subst aF
 refine .lh 4 0 aE id<|.r [5]<|.lb 6 J id<|.r [7] ?_
 have aG:i< b.blocks.length:=AB
 refine .ix 8 i 1 h4 aG ?_
 obtain ⟨ax,ah⟩:∃ y,b.blocks[i]? = some y:=⟨_,AU AB⟩
 have aW:=Ai ah; have aK:=AV ah
 obtain ⟨_,⟨bj,bk,bm,rfl,ai⟩,aH⟩:=h4.elem i ax ah
 have aI:=ai.len
 subst aI
 refine .lh 9 0 aH id<|.d fun aM ar=>?_
 replace ⟨ag,ai,C,W⟩:=(se [ab,aa] ar).g4 ag ai C W
 refine .cl (Jt aw ax ag.ta ai.ta (w:=aM) (F:=all)) ?_
 rintro bn bo ⟨rfl,au⟩
 replace ⟨C,W⟩:=(se [] au).g2 C W
 cases aY:(aw==ax)
 ·exact .r 1<|.d<|.ct<|.s<|.g<|.r 1<|.d<|.rt func44 results44 (.bool false) ⟨(AG (by cases a; cases b; grind [Ab])),C⟩
 exact .r 1<|.d<|.cf<|.sk<|.ib 1<|.g<|.r 1<|.it ((i:Int)+1)<|.r 1<|.d<|ae (i+1) _ _ ⟨AA,AA,AA,trivial⟩ ⟨W,AB,(by grind)⟩ AB
theorem DN (a:Prt) (b:Prt) (h1:RepS w F a1 n1 c1 a.ids) (h2:RepS w F a2 n2 c2 a.blocks) (h3:RepS w F a3 n3 c3 b.ids) (h4:RepS w F a4 n4 c4 b.blocks) (p0:Ck a) (p1:Ck b):Calls Tryz.prog 112 [.agg #[.slice a1 n1 c1,.slice a2 n2 c2],.agg #[.slice a3 n3 c3,.slice a4 n4 c4]].toArray w (BB fun rv w'=>VS (ge w.heap.size) w' (BW a b:Prt) rv∧Ext w w'):=by
 refine goT func112 ?_
 obtain ⟨rfl,cd,h1⟩:=h1.tp
 obtain ⟨rfl,ce,h2⟩:=h2.tp
 obtain ⟨rfl,cg,h3⟩:=h3.tp
 obtain ⟨rfl,ci,h4⟩:=h4.tp
 refine .s<|.g<|.np 48 [.slice a1 a.ids.length c1,.slice a2 a.blocks.length c2] fun ac cR aY aF E bC=>?_
 replace ⟨h1,h2,h3,h4⟩:=(sn [] aF aY).g4 h1 h2 h3 h4
 have C:=aF
 refine .np 48 [.slice a3 b.ids.length c3,.slice a4 b.blocks.length c4] fun ae cS aZ ba J bD=>?_
 replace ⟨h1,h2,h3,h4,E,C⟩:=(sn [ac] ba aZ).g6 h1 h2 h3 h4 E C
 refine .np 48 [AH,AH] fun af cT aG bc W bE=>?_
 have cj:=C.cn aG
 replace ⟨h1,h2,h3,h4,E,J,C⟩:=(sn [ae,ac] bc aG).g7 h1 h2 h3 h4 E J C
 refine .d<|.s<|.g<|.ns 0 62 [] fun aw aH ao bd bF bG=>?_
 have bH:=AX ao E.lt
 have bI:=AX ao J.lt
 have bJ:=AX ao W.lt
 have bK:=C.cn ao
 replace ⟨h1,h2,h3,h4,E,J,W,C⟩:=(sn [af,ae,ac] bd ao).g8 h1 h2 h3 h4 E J W C
 have bL:Own (α:=List Row) aH aw 62 (nin (ge w.heap.size) [aw,af,ae,ac]) 0 0 []:=Own.Aj bF
 refine .r 1<|.d<|.s<|.s<|.g<|.r 1<|.d<|.b 0<|T.loop (X:=(List (List Row)) × Nat × Nat × Nat × Nat) (([]:List (List Row)),aw,0,0,1) (fun (blocks,r_blocks,n_blocks,c_blocks,id)=>[(2,.pointer (some ⟨ac,0,none⟩)),(3,.pointer (some ⟨ae,0,none⟩)),(4,.pointer (some ⟨af,0,none⟩)),(5,vS r_blocks n_blocks c_blocks),(6,vI (id:Int))]) (fun (blocks,r_blocks,n_blocks,c_blocks,id) aq=>Chg (ins [aw]) aH aq∧Own aq r_blocks 62 (nin (ge w.heap.size) [r_blocks,af,ae,ac]) n_blocks c_blocks blocks∧OrB r_blocks aw aH.heap.size∧(1≤id)∧(id≤7)∧(blocks=Be a b (id - 1))) (fun (blocks,r_blocks,n_blocks,c_blocks,id)=>7 - id) AA ⟨AA,AA,AA,AA,AA,trivial⟩ ⟨Chg.refl _ _,bL,BU,(by simp [Be]),(by simp [Be]),(by simp [Be])⟩ ?_
 rintro ⟨blocks,r_blocks,n_blocks,c_blocks,id⟩ cU aq ⟨ab,aa,aj,ck,cm,co⟩ aI
 have bM:=Ay aj bH E.lt
 have bN:=Ay aj bI J.lt
 have cp:=Ay aj bJ W.lt
 have cq:=BA aj bK C.size
 have bO:Cov (ins [aw]) aH aw:=⟨.inl AI⟩
 have cr:=BA aj bO (Nat.le_refl _)
 have bg:Mv [aw,af,ae,ac] [r_blocks,af,ae,ac] aH aq:=Mv.inl ab (all_cons AI all_nil) (all_cons (Bb aj AI) (all_cons (.inl AJ) (all_cons (.inl AK) (all_cons (.inl AL) all_nil))))
 replace ⟨h1,h2,h3,h4,E,J,W,C⟩:=(sp bg ab).g8 h1 h2 h3 h4 E J W C
 have cu:=aa.len
 refine .s<|.s<|.g<|.r 1<|.bp ((id:Int)≤6) (fun bP=>?_) (fun bP=>?_)
 ·refine .d<|.ct<|.sk<|.s<|.b 1 ?_
  replace h1:=h1.BO
  replace h2:=h2.BO
  replace h3:=h3.BO
  replace h4:=h4.BO
  have bi:Gb (ac+1) aq.heap.size:=E.lt
  have bj:Gb (ae+1) aq.heap.size:=J.lt
  refine .gd (mtb [r_blocks] aq.heap.size) 9 fun cx aJ=>?_
  replace ⟨h1,h2,h3,h4,E,J,W,aa,C,ab⟩:=(se [r_blocks,af,ae,ac] aJ).g10 h1 h2 h3 h4 E J W aa C ab
  refine .r [0]<|.ln 1 E (BL (all_cons (Nb.symm bM) all_nil) bi)<|.r [2]<|.ln 4 J (BL (all_cons (Nb.symm bN) all_nil) bj)<|.r [5]<|.go 3<|.cl (fun aK ar=>FJ a (id:Int) ((h1.base (fun _ _ h=>h.1)).ext ar) ((h2.base (fun _ _ h=>h.1)).ext ar) (by grind [Ck]) (w:=aK) (F:=nin (fo F w.heap.size) [r_blocks,af,ae,ac])) ?_
  intro aK ar
  replace ⟨h3,h4,E,J,W,aa,C,ab⟩:=(se [r_blocks,af,ae,ac] ar).g8 h3 h4 E J W aa C ab
  rintro cy cz ⟨⟨cA,cB,rfl,ai⟩,ax⟩
  have aL:=al4 aa.lt W.lt J.lt E.lt
  have bk:Gb w.heap.size aK.heap.size:=C.size
  have hkeep_:=ax
  replace ⟨h3,h4,E,J,W,aa,C,ab⟩:=(se [r_blocks,af,ae,ac] ax).g8 h3 h4 E J W aa C ab
  refine ⟨Ext.chg hkeep_,?_⟩
  replace ai:=RepS.Af (M:=[r_blocks,af,ae,ac]) ai aL bk
  have bY:=ai.max
  refine .go 6<|.cl (fun aM au=>FJ b (id:Int) ((h3.base (fun _ _ h=>h.1)).ext au) ((h4.base (fun _ _ h=>h.1)).ext au) (by grind [Ck]) (w:=aM) (F:=nin (fo F w.heap.size) [r_blocks,af,ae,ac])) ?_
  intro aM au
  replace ⟨E,J,W,aa,ai,C,ab⟩:=(se [r_blocks,af,ae,ac] au).g7 E J W aa ai C ab
  rintro cC cD ⟨⟨cE,cF,rfl,aC⟩,ay⟩
  have aN:=al4 aa.lt W.lt J.lt E.lt
  have bm:Gb w.heap.size aM.heap.size:=C.size
  have hkeep_:=ay
  replace ⟨E,J,W,aa,ai,C,ab⟩:=(se [r_blocks,af,ae,ac] ay).g7 E J W aa ai C ab
  refine ⟨Ext.chg hkeep_,?_⟩
  replace aC:=RepS.Af (M:=[r_blocks,af,ae,ac]) aC aN bm
  have bZ:=aC.max
  refine .go 7<|.cl (fun aO av=>Fk (partOf a (id:Int)) (partOf b (id:Int)) (ai.ta.ext av) (aC.ta.ext av) (by have q1:=C4 p0 id; have q2:=C4 p1 id; omega) (w:=aO) (F:=all)) ?_
  intro aO av
  replace ⟨E,J,W,aa,C,ab⟩:=(se [r_blocks,af,ae,ac] av).g6 E J W aa C ab
  rintro cG cH ⟨⟨bQ,bR,rfl,ag⟩,az⟩
  have aP:=al4 aa.lt W.lt J.lt E.lt
  have bn:Gb w.heap.size aO.heap.size:=C.size
  have hkeep_:=az
  replace ⟨E,J,W,aa,C,ab⟩:=(se [r_blocks,af,ae,ac] az).g6 E J W aa C ab
  refine ⟨Ext.chg hkeep_,?_⟩
  have ag:=ag.fr aP bn
  have b0:=ag.max
  refine .go 8<|.ns 1 62 [.slice bQ ((Bg (partOf a (id:Int)) (partOf b (id:Int))).length) bR] fun cI aQ=>?_
  replace ⟨E,J,W,aa,ag,C,ab⟩:=(se [r_blocks,af,ae,ac] aQ).g7 E J W aa ag C ab
  intro bh cJ ah aR aA bo
  have bq:=AX ah E.lt
  have br:=AX ah J.lt
  have bt:=AX ah W.lt
  have aS:=AX ah aa.lt
  have bu:=Ae ah C.size
  replace ⟨E,J,W,aa,ag,C,ab⟩:=(se [r_blocks,af,ae,ac] aR).g7 E J W aa ag C ab
  refine .d fun cK aT=>?_
  replace ⟨E,J,W,aa,ag,aA,C,ab⟩:=(se [r_blocks,af,ae,ac] aT).g8 E J W aa ag aA C ab
  have aE:nin (ge w.heap.size) [r_blocks,af,ae,ac] bh∧bh≠r_blocks:=BR bu (all_cons aS (all_cons bt (all_cons br (all_cons bq all_nil)))) aS
  refine RG.Ax (T:=46) (ty:=46) (y:=Bg (partOf a (id:Int)) (partOf b (id:Int))) aa aA AA AA ⟨_,_,_,rfl,ag.oi⟩ aE (by grind [DX]) fun bS bT cL ak aD aU=>?_
  have bv:=CB aD aj ab.size
  replace ⟨E,J,W,C,ab⟩:=(s1 aU).g5 E J W C ab
  replace ak:=ak.rn r_blocks
  have b6:=ak.len
  exact .r 1<|.d<|.ib 1<|.g<|.r 1<|.it ((id:Int)+1)<|.r 1<|.d<|aI ((blocks++[Bg (partOf a (id:Int)) (partOf b (id:Int))]),bS,n_blocks+1,bT,id+1) _ _ ⟨AA,AA,AA,AA,AA,trivial⟩ ⟨ab,ak,bv,AB,AB,(by obtain ⟨q,rfl⟩:∃ q,id=q+1:=⟨id - 1,by omega⟩; have:=G6 a b q; grind)⟩ (by (simp only []; omega))
 refine .d<|.cf<|.x 0 rfl<|.s<|.g<|.r 1<|.cl (Fl blocks (aa.rep) (by grind [DX]) (by have q:=Lf p0 p1 6; grind) (w:=aq) (F:=all)) ?_
 rintro cM cN ⟨⟨_,rfl,⟨bU,cO,bV,bW,cP,bX,rfl,al,am⟩⟩,aV⟩
 have aB:=al4 aa.lt W.lt J.lt E.lt
 have aW:Gb w.heap.size aq.heap.size:=C.size
 replace ⟨W,C⟩:=(se [] aV).g2 W C
 have al:=al.fr aB aW
 have b8:=al.max
 have am:=am.fr aB aW
 have b9:=am.max
 have bw:=al.len
 subst bw
 have bz:=am.len
 subst bz
 refine .sc [.slice bU ((C2 blocks).ids.length) bV,.slice bW ((C2 blocks).blocks.length) bX] W fun cQ aX bA bB=>?_
 replace ⟨al,am,C⟩:=(so [r_blocks,af,ae,ac] aX).g3 al am C
 exact .d<|.rb func112 results112 bA ⟨(VS.of (y:=(C2 blocks)) ⟨_,rfl,⟨_,_,_,_,_,_,rfl,al.w1,am.w1⟩⟩ (by grind [BW])),C⟩
theorem JG (s:Sto) (id:Int) (h1:RepS w F a1 n1 c1 s.idx.names) (h2:RepS w F a2 n2 c2 s.idx.AY) (h3:RepS w F a3 n3 c3 s.parts) (h4:RepS w F a4 n4 c4 s.mem) (p0:s.parts.length≤100) (p1:∀ p∈s.parts,Ck p) (p2:s.mem.length≤1000):Calls Tryz.prog 108 [.agg #[.slice a1 n1 c1,.slice a2 n2 c2,.slice a3 n3 c3,.slice a4 n4 c4],.int .i64 id].toArray w (BB fun rv w'=>VL (ge w.heap.size) w' (rowsOf s id:List Row) rv∧Ext w w'):=by
 refine goT func108 ?_
 obtain ⟨rfl,bt,h1⟩:=h1.tp
 obtain ⟨rfl,bu,h2⟩:=h2.tp
 obtain ⟨rfl,bv,h3⟩:=h3.tp
 obtain ⟨rfl,bw,h4⟩:=h4.tp
 refine .s<|.g<|.np 32 [.slice a1 s.idx.names.length c1,.slice a2 s.idx.AY.length c2,.slice a3 s.parts.length c3,.slice a4 s.mem.length c4] fun J bQ aB al C aP=>?_
 replace ⟨h3,h4⟩:=(sn [] al aB).g2 h3 h4
 have E:=al
 refine .r 1<|.d<|.s<|.g<|.ns 0 56 [] fun am ay ai aC aQ aR=>?_
 have bz:=AX ai C.lt
 have aS:=Ae ai E.size
 replace ⟨h3,h4,C,E⟩:=(sn [J] aC ai).g4 h3 h4 C E
 have aT:Own (α:=Row) ay am 56 (nin (ge w.heap.size) [am,J]) 0 0 []:=Own.Aj aQ
 refine .r 1<|.d<|.s<|.s<|.g<|.r 1<|.d<|.b 0 ?_
 have bj:=aT.sl aS
 replace ⟨h3,h4⟩:=(sd ay [am,J] am).g2 h3 h4
 refine T.loop (X:=(List Row) × (Option Addr) × Nat × Nat × Nat) (([]:List Row),some ⟨am,0,none⟩,0,0,0) (fun (out,a_out,n_out,c_out,i)=>[(1,vI id),(2,.pointer (some ⟨J,0,none⟩)),(5,.slice a_out n_out c_out),(6,vI (i:Int))]) (fun (out,a_out,n_out,c_out,i) af=>Chg (ins []) ay af∧RepS af (nin (ge w.heap.size) [J]) a_out n_out c_out out∧(i≤s.parts.length)∧(out.length≤1000 * i)∧((s.parts.drop i).foldl (CK id) out=s.parts.foldl (CK id) [])) (fun (out,a_out,n_out,c_out,i)=>s.parts.length - i) AA ⟨AA,AA,AA,AA,trivial⟩ ⟨Chg.refl _ _,bj,AD,AD,AD⟩ ?_
 rintro ⟨out,a_out,n_out,c_out,i⟩ bR af ⟨aa,W,bA,bB,bC⟩ ao
 have aD:Mv [J] [J] ay af:=Mv.inl aa all_nil (all_cons (.inl AI) all_nil)
 replace ⟨h3,h4,C,E⟩:=(sp aD aa).g4 h3 h4 C E
 refine .s<|.s<|.g<|.r 2<|.lb C<|.r 1<|.bp ((i:Int)< (s.parts.length:Int)) (fun aU=>?_) (fun aU=>?_)
 ·refine .d<|.ct<|.sk<|.s<|.b 1<|.g<|.r 2<|.lb C<|.r 1 ?_
  have aV:i< s.parts.length:=AB
  refine .ix i 2 h3 aV ?_
  obtain ⟨aq,ar⟩:∃ y,s.parts[i]? = some y:=⟨_,AU AB⟩
  have bF:=Ai ar; have bi:=AV ar
  obtain ⟨_,⟨bS,bT,bU,bV,bW,bX,rfl,aI,aJ⟩,aW⟩:=h3.elem i aq ar
  have aX:=aI.len
  subst aX
  have aY:=aJ.len
  subst aY
  refine .lg 0 aW<|.r 1<|.cl (FJ aq id aI aJ (by grind [Ck]) (w:=af) (F:=nin (fo F w.heap.size) [J])) ?_
  rintro bY aZ ⟨⟨bZ,b0,rfl,az⟩,aE⟩
  have aF:=al1 C.lt
  have ba:Gb w.heap.size af.heap.size:=E.size
  replace ⟨h4,C,W,E,aa⟩:=(se [J] aE).g5 h4 C W E aa
  replace az:=RepS.Af (M:=[J]) az aF ba
  refine .cl (Fk out (partOf aq id) W.ta az.ta (by grind [C4]) (w:=aZ) (F:=all)) ?_
  rintro b6 b7 ⟨⟨bk,bm,rfl,aA⟩,aG⟩
  have aH:=al1 C.lt
  have bc:Gb w.heap.size aZ.heap.size:=E.size
  replace ⟨h4,C,W,E,aa⟩:=(se [J] aG).g5 h4 C W E aa
  have aA:=aA.fr aH bc
  exact .r 1<|.d<|.ib 1<|.g<|.r 1<|.it ((i:Int)+1)<|.r 1<|.d<|ao (Bg out (partOf aq id),bk,(Bg out (partOf aq id)).length,bm,i+1) _ _ ⟨AA,AA,AA,AA,trivial⟩ ⟨aa,aA,AB,(by grind [Gk,C4]),(by grind [CK,Gk,C4])⟩ (by (simp only []; omega))
 refine .d<|.cf<|.x 0 rfl<|.s<|.s<|.g<|.r 1<|.d<|.b 2<|T.loop (X:=(List Row) × (Option Addr) × Nat × Nat × Nat) ((out:List Row),a_out,n_out,c_out,0) (fun (out,a_out,n_out,c_out,i)=>[(1,vI id),(2,.pointer (some ⟨J,0,none⟩)),(5,.slice a_out n_out c_out),(7,vI (i:Int))]) (fun (out,a_out,n_out,c_out,i) ak=>Chg (ins []) af ak∧RepS ak (nin (ge w.heap.size) [J]) a_out n_out c_out out∧(i≤s.mem.length)∧(out.length≤100000+i)∧((s.mem.drop i).foldl (CV id) out=rowsOf s id)) (fun (out,a_out,n_out,c_out,i)=>s.mem.length - i) AA ⟨AA,AA,AA,AA,trivial⟩ ⟨Chg.refl _ _,W,(by grind [rowsOf,Ab]),(by grind [rowsOf,Ab]),(by grind [rowsOf,Ab])⟩ ?_
 rintro ⟨out,a_out,n_out,c_out,i⟩ bK ak ⟨ac,ab,bL,bM,bN⟩ ae
 have au:Mv [J] [J] af ak:=Mv.inl ac all_nil (all_cons (.inl AI) all_nil)
 replace ⟨h4,C,E⟩:=(sp au ac).g3 h4 C E
 have bn:=ab.len; have bo:=ab.max
 refine .s<|.s<|.g<|.r 2<|.lb C<|.r 1<|.bp ((i:Int)< (s.mem.length:Int)) (fun aK=>?_) (fun aK=>.d<|.cf<|.x 2 rfl<|.s<|.g<|.r 2<|.d<|.rt func108 results108 (.slice a_out n_out c_out) ⟨(ab.vl (by grind [Ab]) (fun _ _ h=>h.1)),E⟩)
 refine .d<|.ct<|.sk<|.s<|.b 3<|.s<|.g<|.r 1<|.lb C<|.r 1 ?_
 have aL:i< s.mem.length:=AB
 refine .ix i 3 h4 aL<|.r 1 ?_
 obtain ⟨ag,ah⟩:∃ y,s.mem[i]? = some y:=⟨_,AU AB⟩
 have bq:=Ai ah
 obtain ⟨_,rfl,av⟩:=h4.elem i ag ah
 refine .lh 0 av<|.r 1<|.eq ag.id id (fun aM=>?_) (fun aM=>.d<|.cf<|.sk<|.ib 3<|.g<|.r 1<|.it ((i:Int)+1)<|.r 1<|.d<|ae (out,a_out,n_out,c_out,i+1) _ _ ⟨AA,AA,AA,AA,trivial⟩ ⟨ac,ab,(by grind [CV,C3]),(by grind [CV,C3]),(by grind [CV,C3])⟩ (by (simp only []; omega)))
 refine .d<|.ct<|.g<|.r 2<|.lb C<|.r 1 ?_
 have aN:i< s.mem.length:=AB
 refine .ix i 3 h4 aN<|.r 1<|.lg 1 av<|.cl (FI out ag.row ab.ta AB (w:=ak) (F:=all)) ?_
 rintro bO bP ⟨⟨bg,bh,rfl,aj⟩,aw⟩
 have ax:=al1 C.lt
 have aO:Gb w.heap.size ak.heap.size:=E.size
 replace ⟨ab,E,ac⟩:=(se [J] aw).g3 ab E ac
 have aj:=aj.fr ax aO
 exact .r 1<|.d<|.ib 3<|.g<|.r 1<|.it ((i:Int)+1)<|.r 1<|.d<|ae (DR out ag.row,bg,(DR out ag.row).length,bh,i+1) _ _ ⟨AA,AA,AA,AA,trivial⟩ ⟨ac,aj,(by grind [CV,C3]),(by grind [CV,C3]),(by grind [CV,C3])⟩ (by (simp only []; omega))
theorem EO (d:Dsk) (num:Int) (h1:RepS w F a1 n1 c1 d.files) (h2:RepS w F a2 n2 c2 d.list) (h3:RepS w F a3 n3 c3 d.names)  : Calls Tryz.prog 113 [.agg #[.slice a1 n1 c1,.slice a2 n2 c2,.slice a3 n3 c3,.int .i64 d.next],.int .i64 num].toArray w (BB fun rv w'=>rv=.int .i64 (Av d num)∧Ext w w'):=by
 refine goT func113 ?_
 obtain ⟨rfl,ax,h1⟩:=h1.tp
 obtain ⟨rfl,ay,h2⟩:=h2.tp
 obtain ⟨rfl,az,h3⟩:=h3.tp
 refine .s<|.g<|.np 36 [.slice a1 d.files.length c1,.slice a2 d.list.length c2,.slice a3 d.names.length c3,vI d.next] fun af ah ac J C ai=>?_
 replace h1:=(sn [] J ac).g1 h1
 have E:=J
 refine .r 1<|.d<|.s<|.s<|.g<|.r 1<|.d<|.b 0<|T.loop (X:=Nat) 0 (fun i=>[(1,vI num),(2,.pointer (some ⟨af,0,none⟩)),(5,vI (i:Int))]) (fun i ag=>Chg (ins []) ah ag∧(i≤d.files.length)∧(C1 num i (d.files.drop i)=Av d num)) (fun i=>d.files.length - i) AA ⟨AA,AA,AA,trivial⟩ ⟨Chg.refl _ _,(by simp [Av]),(by simp [Av])⟩ ?_
 rintro i aF ag ⟨W,aA,aB⟩ aa
 have ae:Mv [af] [af] ah ag:=Mv.inl W all_nil (all_cons (.inl AI) all_nil)
 replace ⟨h1,C,E⟩:=(sp ae W).g3 h1 C E
 refine .s<|.s<|.g<|.r 2<|.lb C<|.r 1<|.bp ((i:Int)< (d.files.length:Int)) (fun aj=>?_) (fun aj=>.d<|.cf<|.x 0 rfl<|.s<|.g<|.r 1<|.d<|.rt func113 results113 (vI (-1)) ⟨(congrArg (Value.int .i64) (by grind [C1,Ab])),E⟩)
 refine .d<|.ct<|.sk<|.s<|.b 1<|.s<|.g<|.r 1<|.lb C<|.r 1 ?_
 have ak:i< d.files.length:=AB
 refine .ix i 3 h1 ak<|.r 1 ?_
 obtain ⟨al,ab⟩:∃ y,d.files[i]? = some y:=⟨_,AU AB⟩
 have aC:=Ai ab
 obtain ⟨_,⟨aG,aH,aI,aJ,aK,aL,rfl,am,ao⟩,aq⟩:=h1.elem i al ab
 have ar:=am.len
 subst ar
 have au:=ao.len
 subst au
 exact .lh 0 aq<|.r 1<|.eq al.num num (fun av=>.d<|.ct<|.s<|.g<|.r 2<|.d<|.rt func113 results113 (vI (i:Int)) ⟨(congrArg (Value.int .i64) (by grind [C1,Ab])),E⟩) fun av=>.d<|.cf<|.sk<|.ib 1<|.g<|.r 1<|.it ((i:Int)+1)<|.r 1<|.d<|aa (i+1) _ _ ⟨AA,AA,AA,trivial⟩ ⟨W,AB,(by grind [C1])⟩ AB
theorem K1 (ix:Idx) (n:List Tag) (h1:RepS w F a1 n1 c1 ix.names) (h2:RepS w F a2 n2 c2 ix.AY) (h3:RepS w F a3 n3 c3 n) (p0:ix.names.length≤1000) (p1:∀ n∈ix.names,Fc n) (p2:Fc n):Calls Tryz.prog 144 [.agg #[.slice a1 n1 c1,.slice a2 n2 c2],.slice a3 n3 c3].toArray w (BB fun rv w'=>rv=.int .i64 (Fe ix n)∧Ext w w'):=by
 refine goT func144 ?_
 obtain ⟨rfl,ax,h1⟩:=h1.tp
 obtain ⟨rfl,ay,h2⟩:=h2.tp
 obtain ⟨rfl,az,h3⟩:=h3.tp
 refine .s<|.g<|.np 28 [.slice a1 ix.names.length c1,.slice a2 ix.AY.length c2] fun ae al ag W J am=>?_
 replace ⟨h1,h3⟩:=(sn [] W ag).g2 h1 h3
 have C:=W
 refine .r 1<|.d<|.s<|.s<|.g<|.r 1<|.d<|.b 0<|T.loop (X:=Nat) 0 (fun i=>[(1,.slice a3 n.length c3),(2,.pointer (some ⟨ae,0,none⟩)),(5,vI (i:Int))]) (fun i af=>Chg (ins []) al af∧(i≤ix.names.length)∧(nmF (text n) i (ix.names.drop i)=Fe ix n)) (fun i=>ix.names.length - i) AA ⟨AA,AA,AA,trivial⟩ ⟨Chg.refl _ _,(by simp [Fe]),(by simp [Fe])⟩ ?_
 rintro i aF af ⟨E,aA,aB⟩ aa
 have ah:Mv [ae] [ae] al af:=Mv.inl E all_nil (all_cons (.inl AI) all_nil)
 replace ⟨h1,h3,J,C⟩:=(sp ah E).g4 h1 h3 J C
 refine .s<|.s<|.g<|.r 2<|.lb J<|.r 1<|.bp ((i:Int)< (ix.names.length:Int)) (fun ao=>?_) (fun ao=>.d<|.cf<|.x 0 rfl<|.s<|.g<|.r 1<|.d<|.rt func144 results144 (vI 0) ⟨(congrArg (Value.int .i64) (by grind [nmF,Ab])),C⟩)
 refine .d<|.ct<|.sk<|.s<|.b 1<|.s<|.g<|.r 1<|.lb J<|.r 1 ?_
 have aq:i< ix.names.length:=AB
 refine .ix i 1 h1 aq ?_
 obtain ⟨ab,ac⟩:∃ y,ix.names[i]? = some y:=⟨_,AU AB⟩
 have aC:=Ai ac; have av:=AV ac
 obtain ⟨_,⟨aG,aH,aI,rfl,ak⟩,ar⟩:=h1.elem i ab ac
 have au:=ak.len
 subst au
 refine .lh 0 ar<|.cl (Ga ab ak.ta (by grind [Fc]) (by grind [Fc]) (w:=af) (F:=all)) ?_
 rintro aJ aw ⟨rfl,ai⟩
 replace ⟨h3,C,E⟩:=(se [ae] ai).g3 h3 C E
 refine .r 1<|.cl (Ga n h3.ta (by grind [Fc]) (by grind [Fc]) (w:=aw) (F:=all)) ?_
 rintro aK aL ⟨rfl,aj⟩
 replace ⟨C,E⟩:=(se [] aj).g2 C E
 refine RG.eqv (v:=.bool ((text ab==text n))) AA (Te (text ab) (text n)) ?_
 cases aE:(text ab==text n)
 ·exact .d<|.cf<|.sk<|.ib 1<|.g<|.r 1<|.it ((i:Int)+1)<|.r 1<|.d<|aa (i+1) _ _ ⟨AA,AA,AA,trivial⟩ ⟨E,AB,(by grind [nmF])⟩ AB
 exact .d<|.ct<|.s<|.g<|.r 1<|.it ((i:Int)+1)<|.r 1<|.d<|.rt func144 results144 (vI ((i:Int)+1)) ⟨(congrArg (Value.int .i64) (by grind [nmF,Ab])),C⟩
theorem E5 (d:Dsk) (num:Int) (h1:RepS w F a1 n1 c1 d.files) (h2:RepS w F a2 n2 c2 d.list) (h3:RepS w F a3 n3 c3 d.names)  : Calls Tryz.prog 150 [.agg #[.slice a1 n1 c1,.slice a2 n2 c2,.slice a3 n3 c3,.int .i64 d.next],.int .i64 num].toArray w (BB fun rv w'=>rv=.bool ((d.list.contains num))∧Ext w w'):=by
 refine goT func150 ?_
 obtain ⟨rfl,ar,h1⟩:=h1.tp
 obtain ⟨rfl,au,h2⟩:=h2.tp
 obtain ⟨rfl,av,h3⟩:=h3.tp
 refine .s<|.g<|.np 36 [.slice a1 d.files.length c1,.slice a2 d.list.length c2,.slice a3 d.names.length c3,vI d.next] fun af ah ac J C ai=>?_
 replace h2:=(sn [] J ac).g1 h2
 have E:=J
 refine .r 1<|.d<|.s<|.s<|.g<|.r 1<|.d<|.b 0<|T.loop (X:=Nat) 0 (fun i=>[(1,vI num),(2,.pointer (some ⟨af,0,none⟩)),(5,vI (i:Int))]) (fun i ag=>Chg (ins []) ah ag∧(i≤d.list.length)∧((d.list.drop i).contains num=d.list.contains num)) (fun i=>d.list.length - i) AA ⟨AA,AA,AA,trivial⟩ ⟨Chg.refl _ _,AD,AD⟩ ?_
 rintro i az ag ⟨W,aw,ax⟩ aa
 have ae:Mv [af] [af] ah ag:=Mv.inl W all_nil (all_cons (.inl AI) all_nil)
 replace ⟨h2,C,E⟩:=(sp ae W).g3 h2 C E
 refine .s<|.s<|.g<|.r 2<|.lb C<|.r 1<|.bp ((i:Int)< (d.list.length:Int)) (fun aj=>?_) (fun aj=>.d<|.cf<|.x 0 rfl<|.s<|.g<|.r 1<|.d<|.rt func150 results150 (.bool false) ⟨(AG (by grind [Ab])),E⟩)
 refine .d<|.ct<|.sk<|.s<|.b 1<|.s<|.g<|.r 1<|.lb C<|.r 1 ?_
 have ak:i< d.list.length:=AB
 refine .ix i 1 h2 ak ?_
 obtain ⟨al,ab⟩:∃ y,d.list[i]? = some y:=⟨_,AU AB⟩
 have ay:=Ai ab; have aq:=AV ab
 obtain ⟨_,rfl,am⟩:=h2.elem i al ab
 exact .lh 0 am<|.r 1<|.eq al num (fun ao=>.d<|.ct<|.s<|.g<|.r 1<|.d<|.rt func150 results150 (.bool true) ⟨(AG (by grind [Ab])),E⟩) fun ao=>.d<|.cf<|.sk<|.ib 1<|.g<|.r 1<|.it ((i:Int)+1)<|.r 1<|.d<|aa (i+1) _ _ ⟨AA,AA,AA,trivial⟩ ⟨W,AB,(by grind)⟩ AB
theorem JH (a:Idx) (b:Idx) (h1:RepS w F a1 n1 c1 a.names) (h2:RepS w F a2 n2 c2 a.AY) (h3:RepS w F a3 n3 c3 b.names) (h4:RepS w F a4 n4 c4 b.AY)  : Calls Tryz.prog 43 [.agg #[.slice a1 n1 c1,.slice a2 n2 c2],.agg #[.slice a3 n3 c3,.slice a4 n4 c4]].toArray w (BB fun rv w'=>rv=.bool ((a==b))∧Ext w w'):=by
 refine goT func43 ?_
 obtain ⟨rfl,bA,h1⟩:=h1.tp
 obtain ⟨rfl,bB,h2⟩:=h2.tp
 obtain ⟨rfl,bC,h3⟩:=h3.tp
 obtain ⟨rfl,bD,h4⟩:=h4.tp
 refine .s<|.g<|.np 28 [.slice a1 a.names.length c1,.slice a2 a.AY.length c2] fun ab bX aB ai E aS=>?_
 replace ⟨h1,h2,h3,h4⟩:=(sn [] ai aB).g4 h1 h2 h3 h4
 have C:=ai
 refine .np 28 [.slice a3 b.names.length c3,.slice a4 b.AY.length c4] fun ac aT aC aD J aU=>?_
 replace ⟨h1,h2,h3,h4,E,C⟩:=(sn [ab] aD aC).g6 h1 h2 h3 h4 E C
 refine .r 1<|.d<|.s<|.s<|.g<|.r 1<|.lb E<|.r 2<|.lb J<|.r 1<|.ne (a.names.length:Int) (b.names.length:Int) (fun aV=>.r 9<|.d<|.ct<|.s<|.g<|.r 1<|.d<|.rt func43 results43 (.bool false) ⟨(AG (by cases a; cases b; grind [Ab,EX])),C⟩) fun aV=>.r 2<|.lb E<|.r 2<|.lb J<|.r 1<|.ne (a.AY.length:Int) (b.AY.length:Int) (fun aW=>.r 1<|.d<|.ct<|.s<|.g<|.r 1<|.d<|.rt func43 results43 (.bool false) ⟨(AG (by cases a; cases b; grind [Ab,EX])),C⟩) fun aW=>.r 1<|.d<|.cf<|.sk<|.s<|.s<|.g<|.r 1<|.d<|.b 0<|T.loop (X:=Nat) 0 (fun k=>[(2,.pointer (some ⟨ab,0,none⟩)),(3,.pointer (some ⟨ac,0,none⟩)),(5,vI (k:Int))]) (fun k aj=>Chg (ins []) aT aj∧(k≤a.names.length)∧(a.names.drop k=b.names.drop k↔a.names=b.names)) (fun k=>a.names.length - k) AA ⟨AA,AA,AA,trivial⟩ ⟨Chg.refl _ _,AD,AD⟩ ?_
 rintro k bY aj ⟨aa,bE,bF⟩ ak
 have aE:Mv [ac,ab] [ac,ab] aT aj:=Mv.inl aa all_nil (all_cons (.inl AI) (all_cons (.inl AJ) all_nil))
 replace ⟨h1,h2,h3,h4,E,J,C⟩:=(sp aE aa).g7 h1 h2 h3 h4 E J C
 refine .s<|.s<|.g<|.r 2<|.lb E<|.r 1<|.bp ((k:Int)< (a.names.length:Int)) (fun aX=>?_) (fun aX=>?_)
 ·refine .d<|.ct<|.sk<|.s<|.b 1<|.s<|.gd nil 10 fun bZ aF=>?_
  replace ⟨h1,h2,h3,h4,E,J,C,aa⟩:=(se [ac,ab] aF).g8 h1 h2 h3 h4 E J C aa
  refine .r [0]<|.lb 1 E id<|.r [2] ?_
  have aY:k< a.names.length:=AB
  refine .ix 3 k 1 h1 aY ?_
  obtain ⟨aK,al⟩:∃ y,a.names[k]? = some y:=⟨_,AU AB⟩
  have bG:=Ai al; have bm:=AV al
  obtain ⟨_,⟨b0,b6,b7,rfl,am⟩,aZ⟩:=h1.elem k aK al
  have ba:=am.len
  subst ba
  refine .lh 4 0 aZ id<|.r [5]<|.lb 6 J id<|.r [7] ?_
  have bc:k< b.names.length:=AB
  refine .ix 8 k 1 h3 bc ?_
  obtain ⟨aL,ao⟩:∃ y,b.names[k]? = some y:=⟨_,AU AB⟩
  have bI:=Ai ao; have bn:=AV ao
  obtain ⟨_,⟨b8,b9,cd,rfl,aq⟩,bd⟩:=h3.elem k aL ao
  have bg:=aq.len
  subst bg
  refine .lh 9 0 bd id<|.d fun bq aG=>?_
  replace ⟨h2,h4,E,J,am,aq,C,aa⟩:=(se [ac,ab] aG).g8 h2 h4 E J am aq C aa
  refine .cl (D5 aK aL am.ta aq.ta (w:=bq) (F:=all)) ?_
  rintro ce cg ⟨rfl,aH⟩
  replace ⟨h2,h4,E,J,C,aa⟩:=(se [ac,ab] aH).g6 h2 h4 E J C aa
  cases bK:(aK==aL)
  ·exact .r 1<|.d<|.ct<|.s<|.g<|.r 1<|.d<|.rt func43 results43 (.bool false) ⟨(AG (by cases a; cases b; grind [Ab,EX])),C⟩
  exact .r 1<|.d<|.cf<|.sk<|.ib 1<|.g<|.r 1<|.it ((k:Int)+1)<|.r 1<|.d<|ak (k+1) _ _ ⟨AA,AA,AA,trivial⟩ ⟨aa,AB,(by grind)⟩ AB
 refine .d<|.cf<|.x 0 rfl<|.s<|.s<|.g<|.r 1<|.d<|.b 2<|T.loop (X:=Nat) 0 (fun k=>[(2,.pointer (some ⟨ab,0,none⟩)),(3,.pointer (some ⟨ac,0,none⟩)),(6,vI (k:Int))]) (fun k aM=>Chg (ins []) aj aM∧(k≤a.AY.length)∧(a.names=b.names)∧(a.AY.drop k=b.AY.drop k↔a.AY=b.AY)) (fun k=>a.AY.length - k) AA ⟨AA,AA,AA,trivial⟩ ⟨Chg.refl _ _,(by grind [Ab]),(by grind [Ab]),(by grind [Ab])⟩ ?_
 rintro k ci aM ⟨W,bL,bM,bN⟩ ar
 have aI:Mv [ac,ab] [ac,ab] aj aM:=Mv.inl W all_nil (all_cons (.inl AI) (all_cons (.inl AJ) all_nil))
 replace ⟨h2,h4,E,J,C⟩:=(sp aI W).g5 h2 h4 E J C
 refine .s<|.s<|.g<|.r 2<|.lb E<|.r 1<|.bp ((k:Int)< (a.AY.length:Int)) (fun bh=>?_) (fun bh=>.d<|.cf<|.x 2 rfl<|.s<|.g<|.r 1<|.d<|.rt func43 results43 (.bool true) ⟨(AG (by cases a; cases b; grind [Ab,EX])),C⟩)
 refine .d<|.ct<|.sk<|.s<|.b 3<|.s<|.gd nil 26 fun cj aJ=>?_
 replace ⟨h2,h4,E,J,C,W⟩:=(se [ac,ab] aJ).g6 h2 h4 E J C W
 refine .r [0]<|.lb 1 E id<|.r [2] ?_
 have bi:k< a.AY.length:=AB
 refine .ix 3 k 3 h2 bi<|.r [4] ?_
 obtain ⟨au,av⟩:∃ y,a.AY[k]? = some y:=⟨_,AU AB⟩
 have br:=Ai av; have bo:=AV av
 obtain ⟨_,⟨bO,bP,bQ,rfl,ae⟩,aw⟩:=h2.elem k au av
 have aN:=ae.len
 subst aN
 refine .lg 5 0 aw id<|.r [6]<|.lb 7 J id<|.r [8] ?_
 have aO:k< b.AY.length:=AB
 refine .ix 9 k 3 h4 aO<|.r [10] ?_
 obtain ⟨ag,ah⟩:∃ y,b.AY[k]? = some y:=⟨_,AU AB⟩
 have bu:=Ai ah; have bj:=AV ah
 obtain ⟨_,⟨bR,bS,bT,rfl,af⟩,ax⟩:=h4.elem k ag ah
 have aP:=af.len
 subst aP
 refine .lg 11 0 ax id<|GA.NV (i:=12) (t:=67) (x:=au.tag) (y:=ag.tag) AA AA AA ?_
 cases bw:(au.tag==ag.tag)
 ·refine .r [13]<|GA.skip AA fun bU ay=>?_
  replace ⟨h2,h4,E,J,ae,af,C,W⟩:=(se [ac,ab] ay).g8 h2 h4 E J ae af C W
  exact .r 3<|.d<|.ct<|.s<|.g<|.r 1<|.d<|.rt func43 results43 (.bool false) ⟨(AG (by cases a; cases b; grind [Ab,EX])),C⟩
 refine .r [13,14]<|.lb 15 E id<|.r [16] ?_
 have aQ:k< a.AY.length:=AB
 refine .ix 17 k 3 h2 aQ<|.r [18]<|.lh 19 2 aw id<|.r [20]<|.lb 21 J id<|.r [22] ?_
 have aR:k< b.AY.length:=AB
 refine .ix 23 k 3 h4 aR<|.r [24]<|.lh 25 2 ax id<|.d fun bk az=>?_
 replace ⟨ae,af,C,W⟩:=(se [ac,ab] az).g4 ae af C W
 refine .cl (Er au.ids ag.ids ae.ta af.ta (w:=bk) (F:=all)) ?_
 rintro bV bW ⟨rfl,aA⟩
 replace ⟨C,W⟩:=(se [] aA).g2 C W
 cases bz:(au.ids==ag.ids)
 ·exact .r 2<|.d<|.ct<|.s<|.g<|.r 1<|.d<|.rt func43 results43 (.bool false) ⟨(AG (by cases a; cases b; grind [Ab,EX])),C⟩
 exact .r 2<|.d<|.cf<|.sk<|.ib 3<|.g<|.r 1<|.it ((k:Int)+1)<|.r 1<|.d<|ar (k+1) _ _ ⟨AA,AA,AA,trivial⟩ ⟨W,(by grind [EX]),(by grind [EX]),(by grind [EX])⟩ AB
theorem JI (a:Sto) (b:Sto) (h1:RepS w F a1 n1 c1 a.idx.names) (h2:RepS w F a2 n2 c2 a.idx.AY) (h3:RepS w F a3 n3 c3 a.parts) (h4:RepS w F a4 n4 c4 a.mem) (h5:RepS w F a5 n5 c5 b.idx.names) (h6:RepS w F a6 n6 c6 b.idx.AY) (h7:RepS w F a7 n7 c7 b.parts) (h8:RepS w F a8 n8 c8 b.mem)  : Calls Tryz.prog 24 [.agg #[.slice a1 n1 c1,.slice a2 n2 c2,.slice a3 n3 c3,.slice a4 n4 c4],.agg #[.slice a5 n5 c5,.slice a6 n6 c6,.slice a7 n7 c7,.slice a8 n8 c8]].toArray w (BB fun rv w'=>rv=.bool ((a==b))∧Ext w w'):=by
 refine goT func24 ?_
 obtain ⟨rfl,bA,h1⟩:=h1.tp
 obtain ⟨rfl,bB,h2⟩:=h2.tp
 obtain ⟨rfl,bC,h3⟩:=h3.tp
 obtain ⟨rfl,bD,h4⟩:=h4.tp
 obtain ⟨rfl,bE,h5⟩:=h5.tp
 obtain ⟨rfl,bF,h6⟩:=h6.tp
 obtain ⟨rfl,bG,h7⟩:=h7.tp
 obtain ⟨rfl,bH,h8⟩:=h8.tp
 refine .s<|.g<|.np 32 [.slice a1 a.idx.names.length c1,.slice a2 a.idx.AY.length c2,.slice a3 a.parts.length c3,.slice a4 a.mem.length c4] fun ab bW aC ah E aQ=>?_
 replace ⟨h1,h2,h3,h4,h5,h6,h7,h8⟩:=(sn [] ah aC).g8 h1 h2 h3 h4 h5 h6 h7 h8
 have C:=ah
 refine .np 32 [.slice a5 b.idx.names.length c5,.slice a6 b.idx.AY.length c6,.slice a7 b.parts.length c7,.slice a8 b.mem.length c8] fun ac bm aD aE J aR=>?_
 replace ⟨h1,h2,h3,h4,h5,h6,h7,h8,E,C⟩:=(sn [ab] aE aD).g10 h1 h2 h3 h4 h5 h6 h7 h8 E C
 refine .r 1<|.d<|.s<|.s<|.g<|.r 1<|.ln E<|.r 1<|.ln J<|.cl (JH a.idx b.idx h1.ta h2.ta h5.ta h6.ta (w:=bm) (F:=all)) ?_
 rintro bX aS ⟨rfl,aF⟩
 replace ⟨h3,h4,h7,h8,E,J,C⟩:=(se [ac,ab] aF).g7 h3 h4 h7 h8 E J C
 cases bI:(a.idx==b.idx)
 ·exact .r 19<|.d<|.ct<|.s<|.g<|.r 1<|.d<|.rt func24 results24 (.bool false) ⟨(AG (by cases a; cases b; grind [Ab])),C⟩
 refine .r 3<|.lb E<|.r 2<|.lb J<|.r 1<|.ne (a.parts.length:Int) (b.parts.length:Int) (fun aT=>.r 10<|.d<|.ct<|.s<|.g<|.r 1<|.d<|.rt func24 results24 (.bool false) ⟨(AG (by cases a; cases b; grind [Ab])),C⟩) fun aT=>.r 3<|.lb E<|.r 2<|.lb J<|.r 1<|.ne (a.mem.length:Int) (b.mem.length:Int) (fun aU=>.r 1<|.d<|.ct<|.s<|.g<|.r 1<|.d<|.rt func24 results24 (.bool false) ⟨(AG (by cases a; cases b; grind [Ab])),C⟩) fun aU=>.r 1<|.d<|.cf<|.sk<|.s<|.s<|.g<|.r 1<|.d<|.b 0<|T.loop (X:=Nat) 0 (fun k=>[(2,.pointer (some ⟨ab,0,none⟩)),(3,.pointer (some ⟨ac,0,none⟩)),(5,vI (k:Int))]) (fun k ai=>Chg (ins []) aS ai∧(k≤a.parts.length)∧(a.idx=b.idx)∧(a.parts.drop k=b.parts.drop k↔a.parts=b.parts)) (fun k=>a.parts.length - k) AA ⟨AA,AA,AA,trivial⟩ ⟨Chg.refl _ _,(by grind),(by grind),(by grind)⟩ ?_
 rintro k bY ai ⟨aa,bJ,bK,bL⟩ aj
 have aG:Mv [ac,ab] [ac,ab] aS ai:=Mv.inl aa all_nil (all_cons (.inl AI) (all_cons (.inl AJ) all_nil))
 replace ⟨h3,h4,h7,h8,E,J,C⟩:=(sp aG aa).g7 h3 h4 h7 h8 E J C
 refine .s<|.s<|.g<|.r 2<|.lb E<|.r 1<|.bp ((k:Int)< (a.parts.length:Int)) (fun aV=>?_) (fun aV=>?_)
 ·refine .d<|.ct<|.sk<|.s<|.b 1<|.s<|.gd nil 10 fun bZ aH=>?_
  replace ⟨h3,h4,h7,h8,E,J,C,aa⟩:=(se [ac,ab] aH).g8 h3 h4 h7 h8 E J C aa
  refine .r [0]<|.lb 1 E id<|.r [2] ?_
  have aW:k< a.parts.length:=AB
  refine .ix 3 k 2 h3 aW ?_
  obtain ⟨aI,ak⟩:∃ y,a.parts[k]? = some y:=⟨_,AU AB⟩
  have bM:=Ai ak; have bj:=AV ak
  obtain ⟨_,⟨b0,b6,b7,b8,b9,cd,rfl,al,am⟩,aX⟩:=h3.elem k aI ak
  have aY:=al.len
  subst aY
  have aZ:=am.len
  subst aZ
  refine .lg 4 0 aX id<|.r [5]<|.lb 6 J id<|.r [7] ?_
  have ba:k< b.parts.length:=AB
  refine .ix 8 k 2 h7 ba ?_
  obtain ⟨aJ,ao⟩:∃ y,b.parts[k]? = some y:=⟨_,AU AB⟩
  have bP:=Ai ao; have bk:=AV ao
  obtain ⟨_,⟨ce,cg,ci,cj,ck,cm,rfl,aq,ar⟩,bc⟩:=h7.elem k aJ ao
  have bd:=aq.len
  subst bd
  have aK:=ar.len
  subst aK
  refine .lg 9 0 bc id<|.d fun bg au=>?_
  replace ⟨h4,h8,E,J,al,am,aq,ar,C,aa⟩:=(se [ac,ab] au).g10 h4 h8 E J al am aq ar C aa
  refine .cl (Gc aI aJ al.ta am.ta aq.ta ar.ta (w:=bg) (F:=all)) ?_
  rintro bR bS ⟨rfl,av⟩
  replace ⟨h4,h8,E,J,C,aa⟩:=(se [ac,ab] av).g6 h4 h8 E J C aa
  cases bo:(aI==aJ)
  ·exact .r 1<|.d<|.ct<|.s<|.g<|.r 1<|.d<|.rt func24 results24 (.bool false) ⟨(AG (by cases a; cases b; grind [Ab])),C⟩
  exact .r 1<|.d<|.cf<|.sk<|.ib 1<|.g<|.r 1<|.it ((k:Int)+1)<|.r 1<|.d<|aj (k+1) _ _ ⟨AA,AA,AA,trivial⟩ ⟨aa,(by grind),(by grind),(by grind)⟩ AB
 refine .d<|.cf<|.x 0 rfl<|.s<|.s<|.g<|.r 1<|.d<|.b 2<|T.loop (X:=Nat) 0 (fun k=>[(2,.pointer (some ⟨ab,0,none⟩)),(3,.pointer (some ⟨ac,0,none⟩)),(6,vI (k:Int))]) (fun k aw=>Chg (ins []) ai aw∧(k≤a.mem.length)∧(a.idx=b.idx)∧(a.parts=b.parts)∧(a.mem.drop k=b.mem.drop k↔a.mem=b.mem)) (fun k=>a.mem.length - k) AA ⟨AA,AA,AA,trivial⟩ ⟨Chg.refl _ _,(by grind [Ab]),(by grind [Ab]),(by grind [Ab]),(by grind [Ab])⟩ ?_
 rintro k bT aw ⟨W,bq,br,bt,bu⟩ ag
 have ax:Mv [ac,ab] [ac,ab] ai aw:=Mv.inl W all_nil (all_cons (.inl AI) (all_cons (.inl AJ) all_nil))
 replace ⟨h4,h8,E,J,C⟩:=(sp ax W).g5 h4 h8 E J C
 refine .s<|.s<|.g<|.r 2<|.lb E<|.r 1<|.bp ((k:Int)< (a.mem.length:Int)) (fun aL=>?_) (fun aL=>.d<|.cf<|.x 2 rfl<|.s<|.g<|.r 1<|.d<|.rt func24 results24 (.bool true) ⟨(AG (by cases a; cases b; grind [Ab])),C⟩)
 refine .d<|.ct<|.sk<|.s<|.b 3<|.s<|.gd nil 10 fun bU ay=>?_
 replace ⟨h4,h8,E,J,C,W⟩:=(se [ac,ab] ay).g6 h4 h8 E J C W
 refine .r [0]<|.lb 1 E id<|.r [2] ?_
 have aM:k< a.mem.length:=AB
 refine .ix 3 k 3 h4 aM ?_
 obtain ⟨az,ae⟩:∃ y,a.mem[k]? = some y:=⟨_,AU AB⟩
 have bv:=Ai ae; have bh:=AV ae
 obtain ⟨_,rfl,aN⟩:=h4.elem k az ae
 refine .lg 4 0 aN id<|.r [5]<|.lb 6 J id<|.r [7] ?_
 have aO:k< b.mem.length:=AB
 refine .ix 8 k 3 h8 aO ?_
 obtain ⟨aA,af⟩:∃ y,b.mem[k]? = some y:=⟨_,AU AB⟩
 have bw:=Ai af; have bi:=AV af
 obtain ⟨_,rfl,aP⟩:=h8.elem k aA af
 refine .lg 9 0 aP id<|.d fun bV aB=>?_
 replace ⟨C,W⟩:=(se [] aB).g2 C W
 refine RG.R5 (t:=85) (x:=az) (y:=aA) AA AA ?_
 cases bz:(az==aA)
 ·exact .d<|.ct<|.s<|.g<|.r 1<|.d<|.rt func24 results24 (.bool false) ⟨(AG (by cases a; cases b; grind [Ab])),C⟩
 exact .d<|.cf<|.sk<|.ib 3<|.g<|.r 1<|.it ((k:Int)+1)<|.r 1<|.d<|ag (k+1) _ _ ⟨AA,AA,AA,trivial⟩ ⟨W,(by grind),(by grind),(by grind),(by grind)⟩ AB
end Go.Proofs.YtggnnidleedpaaaGreat
namespace Go.Proofs.YtggnnidleedpaaaGreat
section
variable {α:Type} [Rep α]
def K2 (w:World) (F:Nat→Prop):List α→List Value→Prop
 | [],cs=>cs=[]
 | x::xs,cs=>Rep.rep w F x (cs.take (Rep.sz α))∧K2 w F xs (cs.drop (Rep.sz α))
variable {w:World} {F:Nat→Prop}
theorem K2.len:∀ {xs:List α}{cs:List Value},K2 w F xs cs→cs.length=xs.length * Rep.sz α
 | [],cs,h=>by simp only [K2] at h; subst h; simp
 | x :: xs, cs, h => by
   have h1:=Rep.len h.1
   have h2:=K2.len h.2
   have hp:=Rep.pos (α:=α)
   simp only [List.length_take,List.length_drop,List.length_cons,Nat.succ_mul] at *
   omega
theorem K2.at:∀ {xs:List α}{cs:List Value},K2 w F xs cs→∀ i x,xs[i]? = some x→Rep.rep w F x ((cs.drop (i * Rep.sz α)).take (Rep.sz α))
 | [],cs,_=>fun i x hx=>by simp at hx
 | y :: ys, cs, h => fun i x hx => by
   cases i with
   | zero=>simp at hx; subst hx; simpa using h.1
   | succ i =>
     simp only [List.getElem?_cons_succ] at hx
     have:=K2.at h.2 i x hx
     rw [List.drop_drop] at this
     rwa [Nat.succ_mul,Nat.add_comm]
theorem Own.lit {w:World}{r:Nat}{t:TypeId}{F:Nat→Prop}{n:Nat}{xs:List α}{cs:List Value}(h:Box w r t cs) (hn:n=xs.length) (hc:n≤maxLen) (hl:K2 w (fun b=>F b∧b≠r) xs cs):Own w r t F n n xs:=by
 have hlen:=hl.len
 refine ⟨hn,Nat.le_refl _,hc,⟨cs.toArray,h,by simp [hlen,hn]⟩,fun i x hi=>⟨_,hl.at i x hi,?_⟩⟩
 have hlt:i< xs.length:=(List.getElem?_eq_some_iff.1 hi).1
 refine h.has _ _ ?_
 rw [List.length_take,List.length_drop,hlen]
 have:(i+1) * Rep.sz α≤xs.length * Rep.sz α:=Nat.mul_le_mul_right _ hlt
 rw [Nat.succ_mul] at this
 rw [Nat.min_eq_left AB]
end
section
variable {P:Program} {n:Nat} {K:Env→World→Prop} {ops:Array Oper} {j:Nat} {e:Env} {w:World}
theorem RG.int32 (z:Int) (h:Gx P n ops j e=some (.int .i32 (IntKind.i32.wrap z))) (hz:-2147483648≤z∧z≤2147483647)
 (H:RG P n K ops (j+1) (BN e (Aq ops j).dst (.int .i32 z)) w):RG P n K ops j e w :=
 RG.eqv h (by rw [IntWalk.i32_in z hz]) H
end
theorem R7 (k:Nat) (h:k< 128):Value.string (Utf8.encode (k:Int))=.string (bs [UInt8.ofNat k]):=by
 refine congrArg Value.string ?_
 unfold Utf8.encode
 have hv:Utf8.valid (k:Int)=true:=by
  unfold Utf8.valid
  simp
  omega
 simp only [hv,if_true]
 simp [h,bs]
end Go.Proofs.YtggnnidleedpaaaGreat
namespace Go.Proofs.YtggnnidleedpaaaGreat
def IH (k v:Nat):Tag:=⟨[UInt8.ofNat k],[UInt8.ofNat v]⟩
def FV (names:List (List Tag)) (t:Tag):List Pst:=if (ids names t).length > 0 then [⟨t,ids names t⟩] else []
def FK (names:List (List Tag)) (k:Nat):Nat→Nat→List Pst
 | 0,_=>[]
 | f+1,v=>FV names (IH k v)++FK names k f (v+1)
def FL (names:List (List Tag)):Nat→Nat→List Pst
 | 0,_=>[]
 | f+1,k=>FK names k 11 112++FL names f (k+1)
def DO (names:List (List Tag)):List Pst:=FL names 4 97
def idxOf (names:List (List Tag)):Idx:=⟨names,DO names⟩
def Bu (ix:Idx) (n:List Tag):Idx × Int × Bool :=
 if Fe ix n > 0 then (ix,Fe ix n,true)
 else if !BC n || decide (ix.names.length≥6) then (ix,0,false)
 else (idxOf (ix.names++[n]),(ix.names.length:Int)+1,true)
def Ff (bl:List (List Row)) (m:Smp):List (List Row):=bl.set (m.id - 1).toNat (DR (bl.getD (m.id - 1).toNat []) m.row)
def BJ (mem:List Smp):Prt:=C2 (mem.foldl Ff [[],[],[],[],[],[]])
theorem PA (bl:List (List Row)) (m:Smp):(Ff bl m).length=bl.length:=by simp [Ff]
theorem Qz {l:List Smp}{i:Nat}{xs:List (List Row)}{m:Smp}{x:List Row}{Y:List (List Row)}(hi:(l.drop i).foldl Ff xs=Y) (hd:l.drop i=m::l.drop (i+1)) (hx:xs[(m.id - 1).toNat]? = some x) :
 (l.drop (i+1)).foldl Ff (xs.set (m.id - 1).toNat (DR x m.row))=Y:=by
 rw [hd,List.foldl_cons] at hi
 have:Ff xs m=xs.set (m.id - 1).toNat (DR x m.row):=by unfold Ff; rw [List.getD_eq_getElem?_getD,hx]; rfl
 rw [this] at hi
 exact hi
theorem Sf {xs:List (List Row)}{j i:Nat}{x:List Row}{r:Row}(h:∀ b∈xs,b.length≤i) (hx:xs[j]? = some x):∀ b∈xs.set j (DR x r),b.length≤i+1:=by
 intro b hb
 rcases List.mem_or_eq_of_mem_set hb with hb | rfl
 ·have:=h b hb; omega
 ·have h1:=h x (AV hx)
  have h2:=C3 x r
  omega
theorem KD (names:List (List Tag)) (k v:Nat) (h:v≤122):FK names k (123 - v) v=FV names (IH k v)++FK names k (123 - (v+1)) (v+1):=by
 rw [show 123 - v=(123 - (v+1))+1 by omega]
 rfl
theorem OD (names:List (List Tag)) (k:Nat) (h:k≤100):FL names (101 - k) k=FK names k 11 112++FL names (101 - (k+1)) (k+1):=by
 rw [show 101 - k=(101 - (k+1))+1 by omega]
 rfl
theorem Me (names:List (List Tag)) (k v:Nat) (h:123≤v):FK names k (123 - v) v=[]:=by
 rw [show 123 - v=0 by omega]; rfl
theorem Mf (names:List (List Tag)) (k:Nat) (h:101≤k):FL names (101 - k) k=[]:=by
 rw [show 101 - k=0 by omega]; rfl
end Go.Proofs.YtggnnidleedpaaaGreat
namespace Go.Proofs.YtggnnidleedpaaaGreat
set_option maxRecDepth 100000
set_option maxHeartbeats 4000000
variable {w:World} {F:Nat→Prop} {a1 a2 a3 a4:Option Addr} {n1 c1 n2 c2 n3 c3 n4 c4:Nat}
theorem EP (names:List (List Tag)) (h1:RepS w F a1 n1 c1 names) (p0:names.length≤1000) (p1:∀ n∈names,Fc n):Calls Tryz.prog 116 [.slice a1 n1 c1].toArray w (BB fun rv w'=>VS (ge w.heap.size) w' (idxOf names:Idx) rv∧Ext w w'):=by
 refine goT func116 ?_
 obtain ⟨rfl,b6,h1⟩:=h1.tp
 refine .s<|.g<|.np 28 [AH,AH] fun aa cI aA aB E bq=>?_
 have b7:Cov nil w aa:=Bf aA (Nat.le_refl _)
 replace h1:=(sn [] aB aA).g1 h1
 have C:=aB
 refine .d<|.s<|.g<|.ns 0 117 [] fun ar aC au aO br bt=>?_
 have bu:=AX au E.lt
 have bv:=Ae au C.size
 have bw:=C.cn au
 replace ⟨h1,E,C⟩:=(sn [aa] aO au).g3 h1 E C
 have bz:Own (α:=Pst) aC ar 117 (nin (ge w.heap.size) [ar,aa]) 0 0 []:=Own.Aj br
 refine .r 1<|.d<|.s<|.s<|.g<|.r 1<|.d<|.b 0<|T.loop (X:=(List Pst) × Nat × Nat × Nat × Nat) (([]:List Pst),ar,0,0,97) (fun (AY,r_posts,n_posts,c_posts,k)=>[(0,.slice a1 names.length c1),(2,.pointer (some ⟨aa,0,none⟩)),(3,vS r_posts n_posts c_posts),(4,.int .i32 (k:Int))]) (fun (AY,r_posts,n_posts,c_posts,k) al=>Chg (ins [ar]) aC al∧Own al r_posts 117 (nin (ge w.heap.size) [r_posts,aa]) n_posts c_posts AY∧OrB r_posts ar aC.heap.size∧(97≤k)∧(k≤101)∧(AY.length≤11 * (k - 97))∧(AY++FL names (101 - k) k=DO names)) (fun (AY,r_posts,n_posts,c_posts,k)=>101 - k) AA ⟨AA,AA,AA,AA,trivial⟩ ⟨Chg.refl _ _,bz,BU,AB,AB,(by simp [DO]),(by simp [DO])⟩ ?_
 rintro ⟨AY,r_posts,n_posts,c_posts,k⟩ cJ al ⟨J,ae,am,b8,b9,cd,ce⟩ aD
 have bA:=Ay am bu E.lt
 have bB:=Bz am bv C.size
 have bC:=BA am bw C.size
 have bD:Cov (ins [ar]) aC ar:=⟨.inl AI⟩
 have bE:=BA am bD (Nat.le_refl _)
 have aP:Mv [ar,aa] [r_posts,aa] aC al:=Mv.inl J (all_cons AI all_nil) (all_cons (Bb am AI) (all_cons (.inl AJ) all_nil))
 replace ⟨h1,E,C⟩:=(sp aP J).g3 h1 E C
 refine .s<|.s<|.g<|.r 1<|.bp ((k:Int)≤100) (fun bF=>?_) (fun bF=>?_)
 ·refine .d<|.ct<|.sk<|.s<|.b 1<|.s<|.g<|.r 1<|.d<|.b 2<|T.loop (X:=(List Pst) × Nat × Nat × Nat × Nat) ((AY:List Pst),r_posts,n_posts,c_posts,112) (fun (ac,r_posts1,n_posts1,c_posts1,v)=>[(0,.slice a1 names.length c1),(2,.pointer (some ⟨aa,0,none⟩)),(3,vS r_posts1 n_posts1 c_posts1),(4,.int .i32 (k:Int)),(5,.int .i32 (v:Int))]) (fun (ac,r_posts1,n_posts1,c_posts1,v) aN=>Chg (ins [r_posts]) al aN∧Own aN r_posts1 117 (nin (ge w.heap.size) [r_posts1,aa]) n_posts1 c_posts1 ac∧OrB r_posts1 r_posts al.heap.size∧(112≤v)∧(v≤123)∧(97≤k)∧(k≤100)∧(ac.length≤11 * (k - 97)+(v - 112))∧(ac++FK names k (123 - v) v++FL names (101 - (k+1)) (k+1)=DO names)) (fun (ac,r_posts1,n_posts1,c_posts1,v)=>123 - v) AA ⟨AA,AA,AA,AA,AA,trivial⟩ ⟨Chg.refl _ _,ae,BU,AB,AB,AB,AB,AB,(by grind [OD])⟩ ?_
  rintro ⟨ac,r_posts1,n_posts1,c_posts1,v⟩ cK aN ⟨ab,W,ah,cj,ck,cm,co,cp,cq⟩ av
  have cr:=Ay ah bA E.lt
  have cu:=BA ah bC C.size
  have cw:=BA ah bE J.size
  have bG:=NO ah am J.size
  have bH:Cov (ins [r_posts]) al r_posts:=⟨.inl AI⟩
  have cx:=BA ah bH (Nat.le_refl _)
  have aQ:Mv [r_posts,aa] [r_posts1,aa] al aN:=Mv.inl ab (all_cons AI all_nil) (all_cons (Bb ah AI) (all_cons (.inl AJ) all_nil))
  replace ⟨h1,E,C,J⟩:=(sp aQ ab).g4 h1 E C J
  have cy:=W.len; have cz:=W.max
  refine .s<|.s<|.g<|.r 1<|.bp ((v:Int)≤122) (fun bI=>?_) (fun bI=>.d<|.cf<|.x 2 rfl<|.ib 1<|.g<|.r 1<|RG.int32 ((k:Int)+1) AA AB<|.r 1<|.d<|aD (ac,r_posts1,n_posts1,c_posts1,k+1) _ _ ⟨AA,AA,AA,AA,trivial⟩ ⟨J,W,bG,AB,AB,AB,(by grind [Me])⟩ (by (simp only []; omega)))
  refine .d<|.ct<|.sk<|.s<|.b 3<|.s<|.g<|.r 1<|RG.eqv (v:=.string (bs [UInt8.ofNat k])) AA (R7 k AB)<|.r 1<|RG.eqv (v:=.string (bs [UInt8.ofNat v])) AA (R7 v AB)<|.r 1<|.np 67 [.string (bs []),.string (bs [])] fun aw cL ai aR bJ bK=>?_
  have cA:=AX ai E.lt
  have cB:=AX ai W.lt
  have cC:=C.cn ai
  have cD:=J.cn ai
  have cE:=ab.cn ai
  replace ⟨h1,E,W,C,J,ab⟩:=(sn [r_posts1,aa] aR ai).g6 h1 E W C J ab
  refine .sc [.string (bs [UInt8.ofNat k]),.string (bs [UInt8.ofNat v])] bJ fun bL aS ao bM=>?_
  replace ⟨h1,E,W,C,J,ab⟩:=(so [aw,r_posts1,aa] aS).g6 h1 E W C J ab
  refine .d<|.s<|.g<|.r 1<|.ln ao<|.cl (Ju names (⟨[UInt8.ofNat k],[UInt8.ofNat v]⟩:Tag) h1.ta AB (w:=bL) (F:=all)) ?_
  rintro cM bN ⟨⟨bS,bT,rfl,ay⟩,aT⟩
  have aE:=al3 ao.lt W.lt E.lt
  have aX:Gb w.heap.size bL.heap.size:=C.size
  replace ⟨h1,E,W,ao,C,J,ab⟩:=(se [aw,r_posts1,aa] aT).g7 h1 E W ao C J ab
  have ay:=ay.fr aE aX
  refine .r 1<|.d<|.s<|.g<|.r 2<|.bp ((((ids names (⟨[UInt8.ofNat k],[UInt8.ofNat v]⟩:Tag)).length):Int) > 0) (fun aY=>?_) (fun aY=>?_)
  ·refine .d<|.ct<|.g<|.r 1<|.ln ao<|.r 2<|.ns 1 117 [.string (bs [UInt8.ofNat k]),.string (bs [UInt8.ofNat v]),.slice bS ((ids names (⟨[UInt8.ofNat k],[UInt8.ofNat v]⟩:Tag)).length) bT] fun aU cF aj aF aZ ba=>?_
   have bc:=AX aj E.lt
   have aG:=AX aj W.lt
   have bd:=AX aj ao.lt
   have bg:=Ae aj C.size
   replace ⟨h1,E,W,ay,C,J,ab⟩:=(se [aw,r_posts1,aa] aF).g7 h1 E W ay C J ab
   have az:nin (ge w.heap.size) [aw,r_posts1,aa] aU∧aU≠r_posts1:=BR bg (all_cons bd (all_cons aG (all_cons bc all_nil))) aG
   refine RG.Ax (T:=26) (ty:=26) (y:=(⟨(⟨[UInt8.ofNat k],[UInt8.ofNat v]⟩:Tag),ids names (⟨[UInt8.ofNat k],[UInt8.ofNat v]⟩:Tag)⟩:Pst)) W aZ AA AA ⟨_,_,_,rfl,ay.oi⟩ az AB fun aH bO aV af aq aI=>?_
   have bh:=CB aq ah ab.size
   replace ⟨h1,E,C,J,ab⟩:=(sa [aw,r_posts1,aa] aI aq).g5 h1 E C J ab
   replace af:=af.rn r_posts1
   have bV:=af.len
   refine .r 1<|.d<|.ib 3<|.g<|.r 1<|RG.int32 ((v:Int)+1) AA AB<|.r 1<|.d ?_
   have bi:Mv [aw,aH,aa] [aH,aa] aV aV:=Mv.less (all_cons AJ (all_cons AK all_nil))
   replace ⟨h1,af⟩:=(sp bi (Chg.refl nil _)).g2 h1 af
   exact av ((ac++[(⟨(⟨[UInt8.ofNat k],[UInt8.ofNat v]⟩:Tag),ids names (⟨[UInt8.ofNat k],[UInt8.ofNat v]⟩:Tag)⟩:Pst)]),aH,n_posts1+1,bO,v+1) _ _ ⟨AA,AA,AA,AA,AA,trivial⟩ ⟨ab,af,bh,AB,AB,AB,AB,AB,(by grind [KD,FV,IH])⟩ (by (simp only []; omega))
  refine .d<|.cf<|.sk<|.ib 3<|.g<|.r 1<|RG.int32 ((v:Int)+1) AA AB<|.r 1<|.d ?_
  have bj:Mv [aw,r_posts1,aa] [r_posts1,aa] bN bN:=Mv.less (all_cons AJ (all_cons AK all_nil))
  replace ⟨h1,W⟩:=(sp bj (Chg.refl nil _)).g2 h1 W
  exact av (ac,r_posts1,n_posts1,c_posts1,v+1) _ _ ⟨AA,AA,AA,AA,AA,trivial⟩ ⟨ab,W,ah,AB,AB,AB,AB,AB,(by grind [KD,FV,IH])⟩ (by (simp only []; omega))
 refine .d<|.cf<|.x 0 rfl<|.s<|.g<|.r 1<|.cl (Ca names h1.ta (by grind [Fc]) (by grind [Fc]) (w:=al) (F:=all)) ?_
 rintro cG cH ⟨⟨ax,bP,bQ,rfl,ag,ak⟩,aJ⟩
 have aK:=al2 ae.lt E.lt
 have bk:Gb w.heap.size al.heap.size:=C.size
 have bX:=Ah ak E.lt
 have bY:=Ah ak ae.lt
 have bm:=Bo ak C.size
 replace ⟨E,ae,C⟩:=(sz [r_posts,aa] aJ ak).g3 E ae C
 replace ag:=Own.take (s0:=w.heap.size) (M:=[r_posts,aa]) ag aK bk
 refine .r 2<|.sc [vS ax bP bQ,vS r_posts n_posts c_posts] E fun aW aL bn bo=>?_
 replace ⟨ae,ag,C⟩:=(so [ax,r_posts,aa] aL).g3 ae ag C
 refine .d ?_
 have aM:=ag.sl bm
 replace ae:=(sd aW [ax,r_posts,aa] ax).g1 ae
 have bR:=ae.sl bB
 replace aM:=(sd aW [r_posts,aa] r_posts).g1 aM
 exact .rb func116 results116 bn ⟨(VS.of (y:=(⟨names,AY⟩:Idx)) ⟨_,rfl,⟨_,_,_,_,_,_,rfl,aM.w1,bR.w1⟩⟩ (by grind [idxOf,Mf])),C⟩
theorem Gd (s:Sto) (h1:RepS w F a1 n1 c1 s.idx.names) (h2:RepS w F a2 n2 c2 s.idx.AY) (h3:RepS w F a3 n3 c3 s.parts) (h4:RepS w F a4 n4 c4 s.mem) (p0:s.mem.length≤1000) (p1:∀ m∈s.mem,1≤m.id∧m.id≤6):Calls Tryz.prog 109 [.agg #[.slice a1 n1 c1,.slice a2 n2 c2,.slice a3 n3 c3,.slice a4 n4 c4]].toArray w (BB fun rv w'=>VS (ge w.heap.size) w' (BJ s.mem:Prt) rv∧Ext w w'):=by
 refine goT func109 ?_
 obtain ⟨rfl,bL,h1⟩:=h1.tp
 obtain ⟨rfl,bM,h2⟩:=h2.tp
 obtain ⟨rfl,bN,h3⟩:=h3.tp
 obtain ⟨rfl,bO,h4⟩:=h4.tp
 refine .s<|.g<|.np 32 [.slice a1 s.idx.names.length c1,.slice a2 s.idx.AY.length c2,.slice a3 s.parts.length c3,.slice a4 s.mem.length c4] fun ae ck aI au E bd=>?_
 replace h4:=(sn [] au aI).g1 h4
 have C:=au
 refine .np 48 [AH,AH] fun af cm av aJ J bg=>?_
 have bP:=C.cn av
 replace ⟨h4,E,C⟩:=(sn [ae] aJ av).g3 h4 E C
 refine .d<|.s<|.g<|.ns 6 62 [AH,AH,AH,AH,AH,AH] fun ac aH aj aK bh bi=>?_
 have bQ:=AX aj E.lt
 have bR:=AX aj J.lt
 have bS:=C.cn aj
 replace ⟨h4,E,J,C⟩:=(sn [af,ae] aK aj).g4 h4 E J C
 have bj:Own (α:=List Row) aH ac 62 (nin (ge w.heap.size) [ac,af,ae]) 6 6 [([]:List Row),([]:List Row),([]:List Row),([]:List Row),([]:List Row),([]:List Row)]:=Own.lit bh rfl AE ⟨⟨_,_,_,rfl,(RepS.Aj _ _ none 0 AE)⟩,⟨_,_,_,rfl,(RepS.Aj _ _ none 0 AE)⟩,⟨_,_,_,rfl,(RepS.Aj _ _ none 0 AE)⟩,⟨_,_,_,rfl,(RepS.Aj _ _ none 0 AE)⟩,⟨_,_,_,rfl,(RepS.Aj _ _ none 0 AE)⟩,⟨_,_,_,rfl,(RepS.Aj _ _ none 0 AE)⟩,rfl⟩
 refine .r 1<|.d<|.s<|.s<|.g<|.r 1<|.d<|.b 0<|T.loop (X:=Nat × (List (List Row))) (0,([([]:List Row),([]:List Row),([]:List Row),([]:List Row),([]:List Row),([]:List Row)]:List (List Row))) (fun (i,xs)=>[(1,.pointer (some ⟨ae,0,none⟩)),(2,.pointer (some ⟨af,0,none⟩)),(3,vS ac 6 6),(4,vI (i:Int))]) (fun (i,xs) aq=>Chg (ins [ac]) aH aq∧Own aq ac 62 (nin (ge w.heap.size) [ac,af,ae]) 6 6 xs∧(i≤s.mem.length)∧(xs.length=6)∧(∀ b∈xs,b.length≤i)∧((s.mem.drop i).foldl Ff xs=s.mem.foldl Ff [[],[],[],[],[],[]])) (fun (i,xs)=>s.mem.length - i) AA ⟨AA,AA,AA,AA,trivial⟩ ⟨Chg.refl _ _,bj,AD,AD,AD,AD⟩ ?_
 rintro ⟨i,xs⟩ co aq ⟨ab,W,bT,bU,bV,bW⟩ aw
 have bX:Cov (ins [ac]) aH ac:=⟨.inl AI⟩
 have aL:Mv [ac,af,ae] [ac,af,ae] aH aq:=Mv.inl ab (all_cons AI all_nil) (all_cons (.inl AI) (all_cons (.inl AJ) (all_cons (.inl AK) all_nil)))
 replace ⟨h4,E,J,C⟩:=(sp aL ab).g4 h4 E J C
 refine .s<|.s<|.g<|.r 2<|.lb E<|.r 1<|.bp ((i:Int)< (s.mem.length:Int)) (fun bk=>?_) (fun bk=>?_)
 ·refine .d<|.ct<|.sk<|.s<|.b 1<|.s<|.g<|.r 1<|.lb E<|.r 1 ?_
  have aM:i< s.mem.length:=AB
  refine RG.idx i (len:=s.mem.length) (i:=(i:Int)) (sz:=3) AA AB aM (h4.addr (Nat.zero_lt_of_lt aM))<|.r 1 ?_
  obtain ⟨aa,ao⟩:∃ y,s.mem[i]? = some y:=⟨_,AU AB⟩
  have b0:=Ai ao; have bB:=AV ao
  obtain ⟨_,rfl,bm⟩:=h4.elem i aa ao
  refine .lh 0 bm<|.r 1<|.d<|.gd nil 15 fun bD aN=>?_
  replace ⟨h4,E,J,W,C,ab⟩:=(se [ac,af,ae] aN).g6 h4 E J W C ab
  refine .r [0,1]<|GA.int (i:=2) (aa.id - 1) AA (by (have:=p1 _ ‹_›; omega))<|.r [3,4]<|GA.int (i:=5) (aa.id - 1) AA (by (have:=p1 _ ‹_›; omega)) ?_
  have bn:(aa.id - 1).toNat< 6:=(by (have:=p1 _ ‹_›; omega))
  refine GA.idx (i:=6) (b:=ac) (o:=0) ((aa.id - 1).toNat) (len:=6) (z:=aa.id - 1) (sz:=1) AA (by (have:=p1 _ ‹_›; omega)) bn rfl ?_
  obtain ⟨ai,ak⟩:∃ y,xs[(aa.id - 1).toNat]? = some y:=⟨_,AU AB⟩
  have bC:=AV ak
  obtain ⟨_,⟨bE,cp,bF,rfl,ax⟩,ay⟩:=W.elem ((aa.id - 1).toNat) ai ak
  replace ax:=ax.CE (fun _ _ h=>h.1)
  have bo:=ax.len
  subst bo
  have b7:=ax.max
  replace ay:Has bD ⟨ac,0+((aa.id - 1).toNat) * Rep.sz (List Row),none⟩ [.slice bE ai.length bF]:=by rw [Nat.zero_add]; exact ay
  refine .lh 7 0 ay id<|.r [8]<|.lb 9 E id<|.r [10] ?_
  have aO:i< s.mem.length:=AB
  refine GA.idx (i:=11) i (len:=s.mem.length) (z:=(i:Int)) (sz:=3) AA AB aO (h4.addr (Nat.zero_lt_of_lt aO))<|.r [12] ?_
  obtain ⟨_,rfl,bq⟩:=h4.elem i aa ao
  refine .lg 13 1 bq id<|.go 14<|.cl (fun aS az=>FI ai aa.row (ax.ta.ext az) (by have aT:=‹∀ b∈xs,b.length≤i› _ ‹_›; omega) (w:=aS) (F:=all)) ?_
  intro aS az
  replace ⟨E,J,W,C,ab⟩:=(se [ac,af,ae] az).g5 E J W C ab
  rintro cq cr ⟨⟨bG,bH,rfl,ar⟩,aA⟩
  have aP:=al3 W.lt J.lt E.lt
  have br:Gb w.heap.size aS.heap.size:=C.size
  have hkeep_:=aA
  replace ⟨E,J,W,C,ab⟩:=(se [ac,af,ae] aA).g5 E J W C ab
  refine ⟨Ext.chg hkeep_,?_⟩
  have ar:=ar.fr aP br
  refine .d fun bt aB=>?_
  replace ⟨E,J,W,ar,C,ab⟩:=(se [ac,af,ae] aB).g6 E J W ar C ab
  have aU:(aa.id - 1).toNat< 6:=AB
  refine RG.idx (b:=ac) (o:=0) ((aa.id - 1).toNat) (len:=6) (i:=aa.id - 1) (sz:=1) AA (by (have:=p1 _ ‹_›; omega)) aU rfl ?_
  obtain ⟨_,⟨aQ,b8,aR,rfl,aC⟩,al⟩:=W.elem ((aa.id - 1).toNat) ai ak
  replace aC:=aC.CE (fun _ _ h=>h.1)
  have aV:=aC.len
  subst aV
  replace al:Has bt ⟨ac,0+((aa.id - 1).toNat) * Rep.sz (List Row),none⟩ [.slice aQ ai.length aR]:=by rw [Nat.zero_add]; exact al
  refine RG.DQ (t':=62) (i:=((aa.id - 1).toNat)) (k:=0) (v:=.slice bG ((DR ai aa.row).length) bH) (cs:=[.slice aQ ai.length aR]) (DR ai aa.row) W ak al AA AA AA ⟨_,_,_,rfl,ar.oi⟩ fun b9 aW aD aX=>?_
  replace ⟨E,J,C,ab⟩:=(s1 aD).g4 E J C ab
  exact .d<|.ib 1<|.g<|.r 1<|RG.int ((i:Int)+1) AA AB<|.r 1<|.d<|aw (i+1,(xs.set ((aa.id - 1).toNat) (DR ai aa.row))) _ _ ⟨AA,AA,AA,AA,trivial⟩ ⟨ab,aW,AB,(by simp; omega),(by exact Sf ‹_› ‹_›),(by exact Qz ‹_› ‹_› ‹_›)⟩ (by (simp only []; omega))
 refine .d<|.cf<|.x 0 rfl<|.s<|.g<|.r 1<|.cl (Fl xs (W.rep) AB (by intro b hb; have aT:=‹∀ b∈xs,b.length≤i› _ hb; omega) (w:=aq) (F:=all)) ?_
 rintro cd ce ⟨⟨_,rfl,⟨bu,cg,bv,bw,ci,bz,rfl,ag,ah⟩⟩,aE⟩
 have am:=al3 W.lt J.lt E.lt
 have aF:Gb w.heap.size aq.heap.size:=C.size
 replace ⟨J,C⟩:=(se [] aE).g2 J C
 have ag:=ag.fr am aF
 have bJ:=ag.max
 have ah:=ah.fr am aF
 have bK:=ah.max
 have aY:=ag.len
 subst aY
 have aZ:=ah.len
 subst aZ
 refine .sc [.slice bu ((C2 xs).ids.length) bv,.slice bw ((C2 xs).blocks.length) bz] J fun cj aG ba bc=>?_
 replace ⟨ag,ah,C⟩:=(so [ac,af,ae] aG).g3 ag ah C
 exact .d<|.rb func109 results109 ba ⟨(VS.of (y:=(C2 xs)) ⟨_,rfl,⟨_,_,_,_,_,_,rfl,ag.w1,ah.w1⟩⟩ (by have aT:=Ab (xs:=s.mem) (k:=i) AB; have bA:List.foldl Ff xs (s.mem.drop i)=_:=‹_›; rw [aT] at bA; unfold BJ; rw [← bA]; rfl)),C⟩
end Go.Proofs.YtggnnidleedpaaaGreat
namespace Go.Proofs.YtggnnidleedpaaaGreat
def PB (x:Idx):Prop:=x.names.length≤1000∧∀ n∈x.names,Fc n
def KE (s:Sto):Prop:=PB s.idx∧s.parts.length≤100∧(∀ p∈s.parts,Ck p)∧s.mem.length≤900
def As (s:Sto):Sto × Bool :=
 if s.mem.length=0∨s.parts.length≥6 then (s,false) else (⟨s.idx,s.parts++[BJ s.mem],[]⟩,true)
def FM (ps:List Prt) (at_:Nat):List Prt:=match ps[at_]?,ps[at_+1]? with
 | some x,some y=>ps.take at_++[BW x y]++ps.drop (at_+2)
 | _,_=>ps
def Au (s:Sto) (at_:Int):Sto × Bool :=
 if inR at_ 0 ((s.parts.length:Int) - 2) then (⟨s.idx,FM s.parts at_.toNat,s.mem⟩,true) else (s,false)
def Hd (s:Sto) (n:List Tag) (r:Row):Sto:=⟨(Bu s.idx n).1,s.parts,s.mem++[⟨(Bu s.idx n).2.1,r⟩]⟩
def CI (s:Sto) (n:List Tag) (r:Row):Sto × Bool :=
 if !(Bu s.idx n).2.2 || !Bi r || decide (s.mem.length≥20) then (s,false)
 else if (rowsOf (Hd s n r) (Bu s.idx n).2.1).length > 24 then (s,false) else (Hd s n r,true)
theorem Fo {ix:Idx}{n:List Tag}(h:Fe ix n > 0):Bu ix n=(ix,Fe ix n,true):=by unfold Bu; rw [if_pos h]
theorem Ei {ix:Idx}{n:List Tag}(h:¬ Fe ix n > 0) (h2:BC n=false∨(ix.names.length:Int)≥6):Bu ix n=(ix,0,false):=by
 unfold Bu
 rw [if_neg h,if_pos]
 rcases h2 with h2 | h2
 ·simp [h2]
 ·simp; omega
theorem Fp {ix:Idx}{n:List Tag}(h:¬ Fe ix n > 0) (h2:BC n=true) (h3:¬ (ix.names.length:Int)≥6):Bu ix n=(idxOf (ix.names++[n]),(ix.names.length:Int)+1,true):=by
 unfold Bu
 rw [if_neg h,if_neg]
 simp [h2]
 omega
theorem GH {ps:List Prt}{i:Nat}{x y:Prt}(hx:ps[i]? = some x) (hy:ps[i+1]? = some y):FM ps i=ps.take i++[BW x y]++ps.drop (i+2):=by
 simp [FM,hx,hy]
theorem Mg {s:Sto}{n:List Tag}{r:Row}(h:(Bu s.idx n).2.2=false):CI s n r=(s,false):=by unfold CI; rw [if_pos (by simp [h])]
theorem Mh {s:Sto}{n:List Tag}{r:Row}(h:Bi r=false):CI s n r=(s,false):=by unfold CI; rw [if_pos (by simp [h])]
theorem Mi {s:Sto}{n:List Tag}{r:Row}(h:(s.mem.length:Int)≥20):CI s n r=(s,false):=by unfold CI; rw [if_pos (by simp; omega)]
theorem Mj {s:Sto}{n:List Tag}{r:Row}(h1:(Bu s.idx n).2.2=true) (h2:Bi r=true) (h3:¬ (s.mem.length:Int)≥20) (h:((rowsOf (Hd s n r) (Bu s.idx n).2.1).length:Int) > 24):CI s n r=(s,false):=by
 unfold CI; rw [if_neg (by simp [h1,h2]; omega),if_pos AB]
theorem Mk {s:Sto}{n:List Tag}{r:Row}(h1:(Bu s.idx n).2.2=true) (h2:Bi r=true) (h3:¬ (s.mem.length:Int)≥20) (h:¬ ((rowsOf (Hd s n r) (Bu s.idx n).2.1).length:Int) > 24):CI s n r=(Hd s n r,true):=by
 unfold CI; rw [if_neg (by simp [h1,h2]; omega),if_neg AB]
theorem JJ {s:Sto}{a:Int}(h:inR a 0 ((s.parts.length:Int) - 2)=false):Au s a=(s,false):=by unfold Au; rw [if_neg (by simp [h])]
theorem JK {s:Sto}{a:Int}{x y:Prt}(h:inR a 0 ((s.parts.length:Int) - 2)=true) (hx:s.parts[a.toNat]? = some x) (hy:s.parts[(a+1).toNat]? = some y) :
 Au s a=(⟨s.idx,(([]++(s.parts.take a.toNat).drop 0)++[BW x y])++((s.parts.take s.parts.length).drop (a+2).toNat),s.mem⟩,true):=by
 have h1:=CF h
 have e1:(a+1).toNat=a.toNat+1:=by omega
 have e2:(a+2).toNat=a.toNat+2:=by omega
 rw [e1] at hy
 unfold Au
 rw [if_pos h,GH hx hy,e2]
 simp
end Go.Proofs.YtggnnidleedpaaaGreat
namespace Go.Proofs.YtggnnidleedpaaaGreat
set_option maxRecDepth 100000
set_option maxHeartbeats 4000000
variable {w:World} {F:Nat→Prop} {a1 a2 a3 a4 a5:Option Addr} {n1 c1 n2 c2 n3 c3 n4 c4 n5 c5:Nat}
theorem Jx (ix:Idx) (n:List Tag) (h1:RepS w F a1 n1 c1 ix.names) (h2:RepS w F a2 n2 c2 ix.AY) (h3:RepS w F a3 n3 c3 n) (p0:PB ix) (p1:Fc n):Calls Tryz.prog 106 [.agg #[.slice a1 n1 c1,.slice a2 n2 c2],.slice a3 n3 c3].toArray w (BB fun rv w'=>(∃ v0,rv=.tuple #[v0,.int .i64 ((Bu ix n).2.1),.bool ((Bu ix n).2.2)]∧VS (fo F w.heap.size) w' ((Bu ix n).1:Idx) v0)∧Ext w w'):=by
 refine goT func106 ?_
 obtain ⟨rfl,co,h1⟩:=h1.tp
 obtain ⟨rfl,cp,h2⟩:=h2.tp
 obtain ⟨rfl,cq,h3⟩:=h3.tp
 refine .s<|.g<|.np 28 [.slice a1 ix.names.length c1,.slice a2 ix.AY.length c2] fun ae cN aV aE E bD=>?_
 replace ⟨h1,h2,h3⟩:=(sn [] aE aV).g3 h1 h2 h3
 have C:=aE
 refine .np 28 [AH,AH] fun ac bY aB aW J bE=>?_
 have cr:=AX aB E.lt
 have cu:=C.cn aB
 replace ⟨h1,h2,h3,E,C⟩:=(sn [ae] aW aB).g5 h1 h2 h3 E C
 refine .r 2<|.d<|.s<|.g<|.ln E<|.r 1<|.cl (K1 ix n h1.ta h2.ta h3.ta p0.1 p0.2 p1 (w:=bY) (F:=all)) ?_
 rintro cO bZ ⟨rfl,aX⟩
 replace ⟨h1,h2,h3,E,J,C⟩:=(se [ac,ae] aX).g6 h1 h2 h3 E J C
 refine .r 1<|.d<|.s<|.s<|.g<|.r 1<|.bp (Fe ix n > 0) (fun bF=>?_) (fun bF=>?_)
 ·refine .d<|.ct<|.s<|.g<|.ln E<|.r 1<|.sc [.slice a1 ix.names.length c1,.slice a2 ix.AY.length c2] J fun cP aY bG bH=>?_
  replace ⟨h1,h2,h3,E,C⟩:=(so [ac,ae] aY).g5 h1 h2 h3 E C
  exact .r 2<|.d<|T.Jn (v:=.agg #[.slice a1 ix.names.length c1,.slice a2 ix.AY.length c2]) (v':=vI (Fe ix n)) (v'':=.bool true) AA func106 results106 (Bs.cell (ad:=⟨ac,0,none⟩) AA ((bG.has 0 [.slice a1 ix.names.length c1,.slice a2 ix.AY.length c2] AA).E0 AA)) (Bs.tmp AA) (Bs.tmp AA) ⟨⟨_,(Kw rfl (congrArg (Value.int .i64) (by (rw [Fo ‹_›]))) (AG (by (rw [Fo ‹_›])))),(VS.of (y:=ix) ⟨_,rfl,⟨_,_,_,_,_,_,rfl,h1.w1,h2.w1⟩⟩ (by (rw [Fo ‹_›])))⟩,C⟩
 refine .d<|.cf<|.sk<|.s<|.s<|.g<|.r 1<|.cl (Es n h3.ta (w:=bZ) (F:=all)) ?_
 rintro cQ bI ⟨rfl,aZ⟩
 replace ⟨h1,h2,h3,E,J,C⟩:=(se [ac,ae] aZ).g6 h1 h2 h3 E J C
 cases cw:(BC n)
 ·refine .r 7<|.d<|.ct<|.s<|.g<|.ln E<|.sc [.slice a1 ix.names.length c1,.slice a2 ix.AY.length c2] J fun cR ba bJ bK=>?_
  replace ⟨h1,h2,h3,E,C⟩:=(so [ac,ae] ba).g5 h1 h2 h3 E C
  exact .r 2<|.d<|T.Jn (v:=.agg #[.slice a1 ix.names.length c1,.slice a2 ix.AY.length c2]) (v':=vI 0) (v'':=.bool false) AA func106 results106 (Bs.cell (ad:=⟨ac,0,none⟩) AA ((bJ.has 0 [.slice a1 ix.names.length c1,.slice a2 ix.AY.length c2] AA).E0 AA)) (Bs.tmp AA) (Bs.tmp AA) ⟨⟨_,(Kw rfl (congrArg (Value.int .i64) (by (rw [Ei ‹_› (.inl ‹_›)]))) (AG (by (rw [Ei ‹_› (.inl ‹_›)])))),(VS.of (y:=ix) ⟨_,rfl,⟨_,_,_,_,_,_,rfl,h1.w1,h2.w1⟩⟩ (by (rw [Ei ‹_› (.inl ‹_›)])))⟩,C⟩
 refine .r 3<|.lb E<|.r 1<|.bp ((ix.names.length:Int)≥6) (fun bL=>?_) (fun bL=>?_)
 ·refine .r 1<|.d<|.ct<|.s<|.g<|.ln E<|.sc [.slice a1 ix.names.length c1,.slice a2 ix.AY.length c2] J fun cS bc bM bN=>?_
  replace ⟨h1,h2,h3,E,C⟩:=(so [ac,ae] bc).g5 h1 h2 h3 E C
  exact .r 2<|.d<|T.Jn (v:=.agg #[.slice a1 ix.names.length c1,.slice a2 ix.AY.length c2]) (v':=vI 0) (v'':=.bool false) AA func106 results106 (Bs.cell (ad:=⟨ac,0,none⟩) AA ((bM.has 0 [.slice a1 ix.names.length c1,.slice a2 ix.AY.length c2] AA).E0 AA)) (Bs.tmp AA) (Bs.tmp AA) ⟨⟨_,(Kw rfl (congrArg (Value.int .i64) (by (rw [Ei ‹_› (.inr ‹_›)]))) (AG (by (rw [Ei ‹_› (.inr ‹_›)])))),(VS.of (y:=ix) ⟨_,rfl,⟨_,_,_,_,_,_,rfl,h1.w1,h2.w1⟩⟩ (by (rw [Ei ‹_› (.inr ‹_›)])))⟩,C⟩
 refine .r 1<|.d<|.cf<|.sk<|.s<|.g<|.r 1<|.lb E<|.cl (Ca ix.names h1.ta (by have:=p0.1; omega) (by intro n hn; have:=(p0.2 n hn).1; omega) (w:=bI) (F:=all)) ?_
 rintro cT cU ⟨⟨aq,cV,cW,rfl,ab,ar⟩,bd⟩
 have bg:=al2 J.lt E.lt
 have bO:Gb w.heap.size bI.heap.size:=C.size
 have cx:=Ah ar E.lt
 have cy:=Ah ar J.lt
 have cz:Cov nil w aq:=BT ar C.size
 replace ⟨h3,E,J,C⟩:=(sz [ac,ae] bd ar).g4 h3 E J C
 replace ab:=Own.take (s0:=w.heap.size) (M:=[ac,ae]) ab bg bO
 replace ab:=ab.base (G':=fo F w.heap.size) (fun _ _ h=>.inr h)
 have cA:=ab.len
 refine .ns 0 67 [] fun aS b0 ai bh bP bQ=>?_
 have bR:=AX ai E.lt
 have bS:=AX ai J.lt
 have bT:=AX ai ab.lt
 have bU:=Ae ai C.size
 have cC:=C.cn ai
 replace ⟨h3,E,J,ab,C⟩:=(sn [aq,ac,ae] bh ai).g5 h3 E J ab C
 have bV:Own (α:=Tag) b0 aS 67 (nin (fo F w.heap.size) [aS,aq,ac,ae]) 0 0 []:=Own.Aj bP
 refine .r 1<|RG.BG (T:=43) (ty:=43) JA bV h3 AA AA (fun b h e=>h.2 (e▸AI)) (by have:=p0.1; have:=p1.1; omega) fun aT b6 cX aj ah bi=>?_
 have b7:=Ag ah bR E.lt
 have b8:=Ag ah bS J.lt
 have b9:=Ag ah bT ab.lt
 have bm:=Bt ah bU C.size
 replace ⟨E,J,ab,C⟩:=(sa [aS,aq,ac,ae] bi ah).g4 E J ab C
 replace aj:=aj.rn aS
 have cd:=aj.len; have ce:=aj.max
 refine .ns 1 43 [vS aT (0+n.length) b6] fun bj bW ak aF bn bo=>?_
 have bq:=AX ak E.lt
 have br:=AX ak J.lt
 have aG:=AX ak ab.lt
 have bt:=Ae ak C.size
 replace ⟨E,J,ab,aj,C⟩:=(se [aT,aq,ac,ae] aF).g5 E J ab aj C
 have bX:=aj.sl (.inr bm)
 replace ab:=(sd bW [aT,aq,ac,ae] aT).g1 ab
 have aD:nin (fo F w.heap.size) [aq,ac,ae] bj∧bj≠aq:=BR (.inr bt) (all_cons aG (all_cons br (all_cons bq all_nil))) aG
 refine RG.Ax (T:=25) (ty:=25) (y:=([]++n)) ab bn AA AA ⟨_,_,_,rfl,bX.oi⟩ aD (by have:=p0.1; have:=p1.1; omega) fun ag cD bk af aU aH=>?_
 replace ⟨E,J,C⟩:=(s1 aH).g3 E J C
 replace af:=af.rn aq
 have cg:=af.len
 refine .cl (EP (ix.names++[([]++n)]) (af.rep) (by have:=p0.1; simp; omega) (by intro m hm; simp at hm; rcases hm with hm | rfl; exact p0.2 m hm; exact p1) (w:=bk) (F:=all)) ?_
 rintro cE cF ⟨⟨_,rfl,⟨au,cG,av,aw,cH,ax,rfl,W,aa⟩⟩,aI⟩
 have ay:=al3 af.lt J.lt E.lt
 have aJ:Gb w.heap.size bk.heap.size:=C.size
 replace ⟨J,af,C⟩:=(se [ag,ac,ae] aI).g3 J af C
 have W:=W.fr ay aJ
 replace W:=W.base (G':=fo F w.heap.size) (fun _ _ h=>.inr h)
 have cj:=W.max
 have aa:=aa.fr ay aJ
 replace aa:=aa.base (G':=fo F w.heap.size) (fun _ _ h=>.inr h)
 have ck:=aa.max
 have bu:=W.len
 subst bu
 have bv:=aa.len
 subst bv
 refine .np 28 [AH,AH] fun ao cI al aK bw bz=>?_
 have aL:=AX al J.lt
 have aM:=AX al af.lt
 have cm:=C.cn al
 replace ⟨J,W,aa,C⟩:=(sn [ag,ac,ae] aK al).g4 J W aa C
 refine .sc [.slice au (((idxOf (ix.names++[([]++n)])).names).length) av,.slice aw (((idxOf (ix.names++[([]++n)])).AY).length) ax] bw fun aC aN am bA=>?_
 replace ⟨J,W,aa,C⟩:=(so [ao,ag,ac,ae] aN).g4 J W aa C
 refine .d<|.s ?_
 replace W:=W.BO
 replace aa:=aa.BO
 have bB:Cov (mtb [ag,ac] aC.heap.size) aC ac:=⟨.inl (.inl AJ)⟩
 have aO:Gb (ao+1) aC.heap.size:=am.lt
 refine .gd (mtb [ag,ac] aC.heap.size) 5 fun cJ aP=>?_
 replace ⟨J,W,aa,am,C⟩:=(se [ao,ag,ac,ae] aP).g5 J W aa am C
 refine .ln 0 am (BL (all_cons aM (all_cons aL all_nil)) aO)<|.r [1]<|.lb 2 am (BL (all_cons aM (all_cons aL all_nil)) aO)<|.r [3]<|.go 4<|GE.Dc (t':=28) (o:=0) (v:=.agg #[.slice au (((idxOf (ix.names++[([]++n)])).names).length) av,.slice aw (((idxOf (ix.names++[([]++n)])).AY).length) ax]) [.slice au (((idxOf (ix.names++[([]++n)])).names).length) av,.slice aw (((idxOf (ix.names++[([]++n)])).AY).length) ax] J AA AA AA fun cK aQ=>?_
 replace ⟨W,aa,C⟩:=(se [ao,ag,ac,ae] aQ).g3 W aa C
 intro cL az aA bC
 have hkeep_:=Chg.toS az (Cov.toS bB)
 replace ⟨W,aa,C⟩:=(so [ao,ag,ac,ae] az).g3 W aa C
 refine ⟨hkeep_,?_⟩
 refine .d fun cM aR=>?_
 replace ⟨aA,W,aa,C⟩:=(se [ao,ag,ac,ae] aR).g4 aA W aa C
 replace W:=W.Aa
 replace aa:=aa.Aa
 exact .r 2<|.d<|T.Jn (v:=.agg #[.slice au (((idxOf (ix.names++[([]++n)])).names).length) av,.slice aw (((idxOf (ix.names++[([]++n)])).AY).length) ax]) (v':=vI ((((idxOf (ix.names++[([]++n)])).names).length):Int)) (v'':=.bool true) AA func106 results106 (Bs.cell (ad:=⟨ac,0,none⟩) AA ((aA.has 0 [.slice au (((idxOf (ix.names++[([]++n)])).names).length) av,.slice aw (((idxOf (ix.names++[([]++n)])).AY).length) ax] AA).E0 AA)) (Bs.tmp AA) (Bs.tmp AA) ⟨⟨_,(Kw rfl (congrArg (Value.int .i64) (by (rw [Fp ‹_› ‹_› ‹_›] <;> simp [idxOf]))) (AG (by (rw [Fp ‹_› ‹_› ‹_›] <;> simp [idxOf])))),(VS.of (y:=(idxOf (ix.names++[([]++n)]))) ⟨_,rfl,⟨_,_,_,_,_,_,rfl,W.w1,aa.w1⟩⟩ (by (rw [Fp ‹_› ‹_› ‹_›] <;> simp [idxOf])))⟩,C⟩
theorem IU (s:Sto) (h1:RepS w F a1 n1 c1 s.idx.names) (h2:RepS w F a2 n2 c2 s.idx.AY) (h3:RepS w F a3 n3 c3 s.parts) (h4:RepS w F a4 n4 c4 s.mem) (p0:s.mem.length≤1000) (p1:∀ m∈s.mem,1≤m.id∧m.id≤6):Calls Tryz.prog 65 [.agg #[.slice a1 n1 c1,.slice a2 n2 c2,.slice a3 n3 c3,.slice a4 n4 c4]].toArray w (BB fun rv w'=>(∃ v0,rv=.tuple #[v0,.bool ((As s).2)]∧VS (fo F w.heap.size) w' ((As s).1:Sto) v0)∧Ext w w'):=by
 refine goT func65 ?_
 obtain ⟨rfl,cp,h1⟩:=h1.tp
 obtain ⟨rfl,cq,h2⟩:=h2.tp
 obtain ⟨rfl,cr,h3⟩:=h3.tp
 obtain ⟨rfl,cu,h4⟩:=h4.tp
 refine .s<|.g<|.np 32 [.slice a1 s.idx.names.length c1,.slice a2 s.idx.AY.length c2,.slice a3 s.parts.length c3,.slice a4 s.mem.length c4] fun ab cL aC aD E bL=>?_
 have cw:Cov nil w ab:=Bf aC (Nat.le_refl _)
 replace ⟨h1,h2,h3,h4⟩:=(sn [] aD aC).g4 h1 h2 h3 h4
 have C:=aD
 refine .np 32 [AH,AH,AH,AH] fun ac aA az aU J bM=>?_
 have cx:=AX az E.lt
 have cy:=C.cn az
 replace ⟨h1,h2,h3,h4,E,C⟩:=(sn [ab] aU az).g6 h1 h2 h3 h4 E C
 refine .r 1<|.d<|.s<|.s<|.g<|.r 1<|.lb E<|.r 1<|.eq (s.mem.length:Int) 0 (fun bN=>?_) (fun bN=>?_)
 ·refine .r 6<|.d<|.ct<|.s<|.g<|.ln E<|.sc [.slice a1 s.idx.names.length c1,.slice a2 s.idx.AY.length c2,.slice a3 s.parts.length c3,.slice a4 s.mem.length c4] J fun cM aV bO bP=>?_
  replace ⟨h1,h2,h3,h4,E,C⟩:=(so [ac,ab] aV).g6 h1 h2 h3 h4 E C
  exact .r 1<|.d<|.r2 func65 results65 (.bx bO) (.t (.bool false)) ⟨⟨_,(CJ rfl (AG (by (unfold As; (rw [if_pos AB]))))),(VS.of (y:=s) ⟨_,rfl,⟨_,_,_,_,_,_,_,_,_,_,_,_,rfl,h1.w1,h2.w1,h3.w1,h4.w1⟩⟩ (by (unfold As; (rw [if_pos AB]))))⟩,C⟩
 refine .r 2<|.lb E<|.r 1<|.bp ((s.parts.length:Int)≥6) (fun bQ=>?_) (fun bQ=>?_)
 ·refine .r 1<|.d<|.ct<|.s<|.g<|.ln E<|.sc [.slice a1 s.idx.names.length c1,.slice a2 s.idx.AY.length c2,.slice a3 s.parts.length c3,.slice a4 s.mem.length c4] J fun cN aW bR bS=>?_
  replace ⟨h1,h2,h3,h4,E,C⟩:=(so [ac,ab] aW).g6 h1 h2 h3 h4 E C
  exact .r 1<|.d<|.r2 func65 results65 (.bx bR) (.t (.bool false)) ⟨⟨_,(CJ rfl (AG (by (unfold As; (rw [if_pos AB]))))),(VS.of (y:=s) ⟨_,rfl,⟨_,_,_,_,_,_,_,_,_,_,_,_,rfl,h1.w1,h2.w1,h3.w1,h4.w1⟩⟩ (by (unfold As; (rw [if_pos AB]))))⟩,C⟩
 refine .r 1<|.d<|.cf<|.sk<|.s ?_
 replace h1:=h1.BO
 replace h2:=h2.BO
 replace h3:=h3.BO
 replace h4:=h4.BO
 have aX:Gb (ab+1) aA.heap.size:=E.lt
 refine .gd (mtb [] aA.heap.size) 5 fun b0 aE=>?_
 replace ⟨h1,h2,h3,h4,E,J,C⟩:=(se [ac,ab] aE).g7 h1 h2 h3 h4 E J C
 have av:Chg (mtb [] aA.heap.size) aA b0:=Chg.Cb (Chg.refl (mtb [] aA.heap.size) aA) aE
 refine .r [1]<|.lb 2 E (BL all_nil aX)<|.ln 4 E (BL all_nil aX)<|.go 0<|.ns 0 48 [] fun cz aF=>?_
 replace ⟨h1,h2,h3,h4,E,J,C,av⟩:=(se [ac,ab] aF).g8 h1 h2 h3 h4 E J C av
 intro ar bT af aG bd bg
 have bh:=AX af E.lt
 have bi:=AX af J.lt
 have bj:=Ae af C.size
 have bk:=C.cn af
 have bm:=av.cn af
 replace ⟨h1,h2,h3,h4,E,J,C⟩:=(sn [ac,ab] aG af).g7 h1 h2 h3 h4 E J C
 have aw:Own (α:=Prt) bT ar 48 (nin (fo F w.heap.size) [ar,ac,ab]) 0 0 []:=Own.Aj bd
 refine .go 3<|GE.append (T:=29) (ty:=29) (args:=[vS ar 0 0,.slice a3 s.parts.length c3]) AA fun cA aH=>?_
 replace ⟨h1,h2,h3,h4,E,J,aw,C⟩:=(se [ar,ac,ab] aH).g8 h1 h2 h3 h4 E J aw C
 obtain ⟨ao,cB,cC,aI,aa,ae,ax,bn⟩:=aw.append (P:=Tryz.prog) (T:=29) (ty:=29) AA (h3.base (fun _ _ h=>h.1)) (fun b _ h=>Dx AI h) AB
 refine ⟨_,_,aI,Chg.toS ax (Cov.toS bm),?_⟩
 have bo:=Ag ae bh E.lt
 have bq:=Ag ae bi J.lt
 have br:=Bt ae bj C.size
 have b6:=Aw ae bk C.size
 replace ⟨h1,h2,h3,h4,E,J,C⟩:=(sa [ar,ac,ab] ax ae).g7 h1 h2 h3 h4 E J C
 replace aa:=aa.rn ar
 have b7:=aa.len
 refine .d fun aY aJ=>?_
 replace ⟨h1,h2,h3,h4,E,J,aa,C⟩:=(se [ao,ac,ab] aJ).g8 h1 h2 h3 h4 E J aa C
 replace h1:=h1.Aa
 replace h2:=h2.Aa
 replace h3:=h3.Aa
 replace h4:=h4.Aa
 refine .cl (Gd s h1.ta h2.ta h3.ta h4.ta p0 p1 (w:=aY) (F:=all)) ?_
 rintro cD cE ⟨⟨_,rfl,⟨bU,cF,bV,bW,cG,bX,rfl,ah,ai⟩⟩,aK⟩
 have ay:=al3 aa.lt J.lt E.lt
 have aL:Gb w.heap.size aY.heap.size:=C.size
 replace ⟨h1,h2,E,J,aa,C⟩:=(se [ao,ac,ab] aK).g6 h1 h2 E J aa C
 have ah:=ah.fr ay aL
 replace ah:=ah.base (G':=fo F w.heap.size) (fun _ _ h=>.inr h)
 have b9:=ah.max
 have ai:=ai.fr ay aL
 replace ai:=ai.base (G':=fo F w.heap.size) (fun _ _ h=>.inr h)
 have cd:=ai.max
 have bt:=ah.len
 subst bt
 have bu:=ai.len
 subst bu
 refine .ns 1 48 [.slice bU ((BJ s.mem).ids.length) bV,.slice bW ((BJ s.mem).blocks.length) bX] fun aZ cH aq aM bv bw=>?_
 have bz:=AX aq E.lt
 have bA:=AX aq J.lt
 have aN:=AX aq aa.lt
 have bB:=Ae aq C.size
 replace ⟨h1,h2,E,J,aa,ah,ai,C⟩:=(se [ao,ac,ab] aM).g8 h1 h2 E J aa ah ai C
 have aB:nin (fo F w.heap.size) [ao,ac,ab] aZ∧aZ≠ao:=BR (.inr bB) (all_cons aN (all_cons bA (all_cons bz all_nil))) aN
 refine RG.Ax (T:=29) (ty:=29) (y:=(BJ s.mem)) aa bv AA AA ⟨_,_,_,_,_,_,rfl,ah.oi,ai.oi⟩ aB AB fun aj ba cI W ak aO=>?_
 have ce:=Ag ak bo E.lt
 have cg:=Ag ak bq J.lt
 have bC:=Bt ak br C.size
 replace ⟨h1,h2,E,J,C⟩:=(sa [ao,ac,ab] aO ak).g5 h1 h2 E J C
 replace W:=W.rn ao
 have ci:=W.len
 refine .r 1<|.ss 2 (vS aj (0+s.parts.length+1) ba) E fun cJ aP au bD=>?_
 replace ⟨h1,h2,J,W,C⟩:=(so [aj,ac,ab] aP).g5 h1 h2 J W C
 refine .d<|.s<|.g<|.ns 0 85 [] fun al bY am aQ bE bF=>?_
 have ck:=AX am au.lt
 have cm:=AX am J.lt
 have co:=AX am W.lt
 have bG:=Ae am C.size
 replace ⟨h1,h2,au,J,W,C⟩:=(sn [aj,ac,ab] aQ am).g6 h1 h2 au J W C
 have ag:Own (α:=Smp) bY al 85 (nin (fo F w.heap.size) [al,aj,ac,ab]) 0 0 []:=Own.Aj bE
 refine .r 1<|.ss 3 (vS al 0 0) au fun cK aR bH bI=>?_
 replace ⟨h1,h2,J,W,ag,C⟩:=(so [al,aj,ac,ab] aR).g6 h1 h2 J W ag C
 refine .d<|.s<|.g<|.ln bH<|.sc [.slice a1 s.idx.names.length c1,.slice a2 s.idx.AY.length c2,vS aj (0+s.parts.length+1) ba,vS al 0 0] J fun bc aS bJ bK=>?_
 replace ⟨h1,h2,W,ag,C⟩:=(so [al,aj,ac,ab] aS).g5 h1 h2 W ag C
 refine .r 1<|.d ?_
 have aT:=W.sl (.inr bC)
 replace ⟨h1,h2,ag⟩:=(sd bc [al,aj,ac,ab] aj).g3 h1 h2 ag
 have bZ:=ag.sl (.inr bG)
 replace ⟨h1,h2,aT⟩:=(sd bc [al,ac,ab] al).g3 h1 h2 aT
 exact .r2 func65 results65 (.bx bJ) (.t (.bool true)) ⟨⟨_,(CJ rfl (AG (by (unfold As; (rw [if_neg AB] <;> simp))))),(VS.of (y:=(⟨(⟨s.idx.names,s.idx.AY⟩:Idx),(([]++s.parts)++[(BJ s.mem)]),[]⟩:Sto)) ⟨_,rfl,⟨_,_,_,_,_,_,_,_,_,_,_,_,rfl,h1.w1,h2.w1,aT.w1,bZ.w1⟩⟩ (by (unfold As; (rw [if_neg AB] <;> simp))))⟩,C⟩
theorem IV (s:Sto) (at_:Int) (h1:RepS w F a1 n1 c1 s.idx.names) (h2:RepS w F a2 n2 c2 s.idx.AY) (h3:RepS w F a3 n3 c3 s.parts) (h4:RepS w F a4 n4 c4 s.mem) (p0:s.parts.length≤100) (p1:∀ p∈s.parts,Ck p):Calls Tryz.prog 68 [.agg #[.slice a1 n1 c1,.slice a2 n2 c2,.slice a3 n3 c3,.slice a4 n4 c4],.int .i64 at_].toArray w (BB fun rv w'=>(∃ v0,rv=.tuple #[v0,.bool ((Au s at_).2)]∧VS (fo F w.heap.size) w' ((Au s at_).1:Sto) v0)∧Ext w w'):=by
 refine goT func68 ?_
 obtain ⟨rfl,cG,h1⟩:=h1.tp
 obtain ⟨rfl,cH,h2⟩:=h2.tp
 obtain ⟨rfl,cI,h3⟩:=h3.tp
 obtain ⟨rfl,cJ,h4⟩:=h4.tp
 refine .s<|.g<|.np 32 [.slice a1 s.idx.names.length c1,.slice a2 s.idx.AY.length c2,.slice a3 s.parts.length c3,.slice a4 s.mem.length c4] fun aa dy aC aD E bL=>?_
 have cK:Cov nil w aa:=Bf aC (Nat.le_refl _)
 replace ⟨h1,h2,h3,h4⟩:=(sn [] aD aC).g4 h1 h2 h3 h4
 have C:=aD
 refine .np 32 [AH,AH,AH,AH] fun af ci aA aZ J bM=>?_
 have cL:=AX aA E.lt
 have cM:=C.cn aA
 replace ⟨h1,h2,h3,h4,E,C⟩:=(sn [aa] aZ aA).g6 h1 h2 h3 h4 E C
 refine .r 1<|.d<|.s<|.s<|.g<|.r 2<|.lb E<|.r 1<|RG.int ((s.parts.length:Int) - 2) AA (by grind [inR])<|.cl (C5 at_ 0 ((s.parts.length:Int) - 2) (w:=ci) (F:=all)) ?_
 rintro dz dA ⟨rfl,ba⟩
 replace ⟨h1,h2,h3,h4,E,J,C⟩:=(se [af,aa] ba).g7 h1 h2 h3 h4 E J C
 cases bc:(inR at_ 0 ((s.parts.length:Int) - 2))
 ·refine .r 1<|.d<|.ct<|.s<|.g<|.ln E<|.sc [.slice a1 s.idx.names.length c1,.slice a2 s.idx.AY.length c2,.slice a3 s.parts.length c3,.slice a4 s.mem.length c4] J fun dB bd bN bO=>?_
  replace ⟨h1,h2,h3,h4,E,C⟩:=(so [af,aa] bd).g6 h1 h2 h3 h4 E C
  exact .r 1<|.d<|.r2 func68 results68 (.bx bN) (.t (.bool false)) ⟨⟨_,(CJ rfl (AG (by rw [JJ ‹_›]))),(VS.of (y:=s) ⟨_,rfl,⟨_,_,_,_,_,_,_,_,_,_,_,_,rfl,h1.w1,h2.w1,h3.w1,h4.w1⟩⟩ (by rw [JJ ‹_›]))⟩,C⟩
 have cO:=CF bc
 refine .r 1<|.d<|.cf<|.sk<|.s<|.g<|.ns 0 48 [] fun aY cj ao bg bP bQ=>?_
 have bR:=AX ao E.lt
 have bS:=AX ao J.lt
 have bT:=Ae ao C.size
 have bU:=C.cn ao
 replace ⟨h1,h2,h3,h4,E,J,C⟩:=(sn [af,aa] bg ao).g7 h1 h2 h3 h4 E J C
 have bV:Own (α:=Prt) cj aY 48 (nin (fo F w.heap.size) [aY,af,aa]) 0 0 []:=Own.Aj bP
 refine .r 1<|.lb E<|.r 1<|RG.sub (t:=29) (lo:=none) (hi:=some (vI at_)) h3 0 (at_.toNat) AA AA (.inl ⟨rfl,rfl⟩) (.inr ⟨_,_,rfl,by omega⟩) (by grind [inR]) (by grind [inR]) fun dC dD bm=>?_
 have cP:=bm.len; have cQ:=bm.max
 refine RG.G2 (T:=29) (ty:=29) bV bm AA AA (fun b _ h=>Dx AI h) AB fun ak dE bW W ai bh=>?_
 have aE:=Ag ai bR E.lt
 have bX:=Ag ai bS J.lt
 have bY:=Bt ai bT C.size
 have bZ:=Aw ai bU C.size
 replace ⟨h1,h2,h3,h4,E,J,C⟩:=(sa [aY,af,aa] bh ai).g7 h1 h2 h3 h4 E J C
 replace W:=W.rn aY
 have cR:=W.len
 refine .r 1<|.d<|.s ?_
 replace h1:=h1.BO
 replace h2:=h2.BO
 replace h3:=h3.BO
 replace h4:=h4.BO
 have aF:Gb (aa+1) bW.heap.size:=E.lt
 refine .gd (mtb [ak] bW.heap.size) 14 fun cT aG=>?_
 replace ⟨h1,h2,h3,h4,E,J,W,C⟩:=(se [ak,af,aa] aG).g8 h1 h2 h3 h4 E J W C
 refine .r [0,1]<|.lb 2 E (BL (all_cons (Nb.symm aE) all_nil) aF)<|.r [3] ?_
 have aH:at_.toNat< s.parts.length:=(by grind [inR])
 refine GA.idx (i:=4) (at_.toNat) (len:=s.parts.length) (z:=at_) (sz:=2) AA (by grind [inR]) aH (h3.addr (Nat.zero_lt_of_lt aH)) ?_
 obtain ⟨aq,av⟩:∃ y,s.parts[at_.toNat]? = some y:=⟨_,AU (by grind [inR])⟩
 have b0:=AV av
 obtain ⟨_,⟨cU,cV,cW,cX,cY,cZ,rfl,aI,aJ⟩,bn⟩:=h3.elem (at_.toNat) aq av
 have bo:=aI.len
 subst bo
 have bq:=aJ.len
 subst bq
 refine .lg 5 0 bn (h3.nS (Dd av) (all_cons AI all_nil))<|.r [6]<|.lb 7 E (BL (all_cons (Nb.symm aE) all_nil) aF)<|.r [8]<|GA.int (i:=9) (at_+1) AA (by grind [inR]) ?_
 have aK:(at_+1).toNat< s.parts.length:=(by grind [inR])
 refine GA.idx (i:=10) ((at_+1).toNat) (len:=s.parts.length) (z:=at_+1) (sz:=2) AA (by grind [inR]) aK (h3.addr (Nat.zero_lt_of_lt aK)) ?_
 obtain ⟨ar,aw⟩:∃ y,s.parts[(at_+1).toNat]? = some y:=⟨_,AU (by grind [inR])⟩
 have b6:=AV aw
 obtain ⟨_,⟨c7,c8,c9,da,db,de,rfl,aL,aM⟩,br⟩:=h3.elem ((at_+1).toNat) ar aw
 have bt:=aL.len
 subst bt
 have bu:=aM.len
 subst bu
 refine .lg 11 0 br (h3.nS (Dd aw) (all_cons AI all_nil))<|.go 12<|.cl (fun aN aj=>DN aq ar (aI.ta.ext aj) (aJ.ta.ext aj) (aL.ta.ext aj) (aM.ta.ext aj) (by grind) (by grind) (w:=aN) (F:=all)) ?_
 intro aN aj
 replace ⟨h1,h2,h3,h4,E,J,W,C⟩:=(se [ak,af,aa] aj).g8 h1 h2 h3 h4 E J W C
 rintro df dg ⟨⟨_,rfl,⟨b7,dh,b8,b9,dj,cd,rfl,ab,ac⟩⟩,ax⟩
 have ay:=al3 W.lt J.lt E.lt
 have aO:Gb w.heap.size aN.heap.size:=C.size
 have hkeep_:=ax
 replace ⟨h1,h2,h3,h4,E,J,W,C⟩:=(se [ak,af,aa] ax).g8 h1 h2 h3 h4 E J W C
 refine ⟨Ext.chg hkeep_,?_⟩
 have ab:=ab.fr ay aO
 replace ab:=ab.base (G':=fo F w.heap.size) (fun _ _ h=>.inr h)
 have cu:=ab.max
 have ac:=ac.fr ay aO
 replace ac:=ac.base (G':=fo F w.heap.size) (fun _ _ h=>.inr h)
 have cw:=ac.max
 have bv:=ab.len
 subst bv
 have bw:=ac.len
 subst bw
 refine .go 13<|.ns 1 48 [.slice b7 ((BW aq ar).ids.length) b8,.slice b9 ((BW aq ar).blocks.length) cd] fun dm aP=>?_
 replace ⟨h1,h2,h3,h4,E,J,W,ab,ac,C⟩:=(se [ak,af,aa] aP).g10 h1 h2 h3 h4 E J W ab ac C
 intro bi dp al aQ az bz
 have bA:=AX al E.lt
 have bB:=AX al J.lt
 have aR:=AX al W.lt
 have bC:=Ae al C.size
 replace ⟨h1,h2,h3,h4,E,J,W,ab,ac,C⟩:=(se [ak,af,aa] aQ).g10 h1 h2 h3 h4 E J W ab ac C
 refine .d fun dq aS=>?_
 replace ⟨h1,h2,h3,h4,E,J,W,ab,ac,az,C⟩:=(se [ak,af,aa] aS).g11 h1 h2 h3 h4 E J W ab ac az C
 replace h1:=h1.Aa
 replace h2:=h2.Aa
 replace h3:=h3.Aa
 replace h4:=h4.Aa
 have aB:nin (fo F w.heap.size) [ak,af,aa] bi∧bi≠ak:=BR (.inr bC) (all_cons aR (all_cons bB (all_cons bA all_nil))) aR
 refine RG.Ax (T:=29) (ty:=29) (y:=(BW aq ar)) W az AA AA ⟨_,_,_,_,_,_,rfl,ab.oi,ac.oi⟩ aB AB fun bj dr dt am ag aT=>?_
 have bD:=Ag ag aE E.lt
 have bE:=Ag ag bX J.lt
 have bF:=Bt ag bY C.size
 have cx:=Aw ag bZ C.size
 replace ⟨h1,h2,h3,h4,E,J,C⟩:=(sa [ak,af,aa] aT ag).g7 h1 h2 h3 h4 E J C
 replace am:=am.rn ak
 have cy:=am.len
 refine .r 1<|.d<|.s<|.g<|.r 2<|.lb E<|.r 1<|RG.int (at_+2) AA (by grind [inR])<|RG.sub (t:=29) (lo:=some (vI (at_+2))) (hi:=none) h3 ((at_+2).toNat) s.parts.length AA AA (.inr ⟨_,_,rfl,by omega⟩) (.inl ⟨rfl,rfl⟩) (by grind [inR]) (by grind [inR]) fun du dv aU=>?_
 have cA:=aU.len; have cB:=aU.max
 refine RG.G2 (T:=29) (ty:=29) am aU AA AA (fun b _ h=>Dx AI h) AB fun au bk dw ae ah aV=>?_
 have cC:=Ag ah bD E.lt
 have cD:=Ag ah bE J.lt
 have bG:=Bt ah bF C.size
 replace ⟨h1,h2,h4,E,J,C⟩:=(sa [bj,af,aa] aV ah).g6 h1 h2 h4 E J C
 replace ae:=ae.rn bj
 refine .r 1<|.ss 2 (vS au (0+(at_.toNat - 0)+1+(s.parts.length - (at_+2).toNat)) bk) E fun dx aW bH bI=>?_
 replace ⟨h1,h2,h4,J,ae,C⟩:=(so [au,af,aa] aW).g6 h1 h2 h4 J ae C
 refine .d<|.s<|.g<|.ln bH<|.sc [.slice a1 s.idx.names.length c1,.slice a2 s.idx.AY.length c2,vS au (0+(at_.toNat - 0)+1+(s.parts.length - (at_+2).toNat)) bk,.slice a4 s.mem.length c4] J fun ce aX bJ bK=>?_
 replace ⟨h1,h2,h4,ae,C⟩:=(so [au,af,aa] aX).g5 h1 h2 h4 ae C
 refine .r 1<|.d ?_
 have cg:=ae.sl (.inr bG)
 replace ⟨h1,h2,h4⟩:=(sd ce [au,af,aa] au).g3 h1 h2 h4
 exact .r2 func68 results68 (.bx bJ) (.t (.bool true)) ⟨⟨_,(CJ rfl (AG (by rw [JK ‹_› ‹_› ‹_›]))),(VS.of (y:=(⟨(⟨s.idx.names,s.idx.AY⟩:Idx),((([]++((s.parts.take (at_.toNat)).drop 0))++[(BW aq ar)])++((s.parts.take s.parts.length).drop ((at_+2).toNat))),s.mem⟩:Sto)) ⟨_,rfl,⟨_,_,_,_,_,_,_,_,_,_,_,_,rfl,h1.w1,h2.w1,cg.w1,h4.w1⟩⟩ (by rw [JK ‹_› ‹_› ‹_›]))⟩,C⟩
theorem Jy (s:Sto) (n:List Tag) (r:Row) (h1:RepS w F a1 n1 c1 s.idx.names) (h2:RepS w F a2 n2 c2 s.idx.AY) (h3:RepS w F a3 n3 c3 s.parts) (h4:RepS w F a4 n4 c4 s.mem) (h5:RepS w F a5 n5 c5 n) (p0:KE s) (p1:Fc n):Calls Tryz.prog 64 [.agg #[.slice a1 n1 c1,.slice a2 n2 c2,.slice a3 n3 c3,.slice a4 n4 c4],.slice a5 n5 c5,.agg #[.int .i64 r.t,.int .i64 r.v]].toArray w (BB fun rv w'=>(∃ v0,rv=.tuple #[v0,.bool ((CI s n r).2)]∧VS (fo F w.heap.size) w' ((CI s n r).1:Sto) v0)∧Ext w w'):=by
 refine goT func64 ?_
 obtain ⟨rfl,eZ,h1⟩:=h1.tp
 obtain ⟨rfl,e7,h2⟩:=h2.tp
 obtain ⟨rfl,e8,h3⟩:=h3.tp
 obtain ⟨rfl,fa,h4⟩:=h4.tp
 obtain ⟨rfl,fb,h5⟩:=h5.tp
 refine .s<|.g<|.np 32 [.slice a1 s.idx.names.length c1,.slice a2 s.idx.AY.length c2,.slice a3 s.parts.length c3,.slice a4 s.mem.length c4] fun ah fZ cd bB E dG=>?_
 replace ⟨h1,h2,h3,h4,h5⟩:=(sn [] bB cd).g5 h1 h2 h3 h4 h5
 have C:=bB
 refine .np 56 [vI r.t,vI r.v] fun ai f0 ce cg W dH=>?_
 replace ⟨h1,h2,h3,h4,h5,E,C⟩:=(sn [ah] cg ce).g7 h1 h2 h3 h4 h5 E C
 refine .np 32 [AH,AH,AH,AH] fun aj dI aU ci aa dJ=>?_
 have fc:=AX aU E.lt
 have fd:=AX aU W.lt
 have fe:=C.cn aU
 replace ⟨h1,h2,h3,h4,h5,E,W,C⟩:=(sn [ai,ah] ci aU).g8 h1 h2 h3 h4 h5 E W C
 refine .r 1<|.d<|.s<|.g<|.r 1<|.ln E<|.r 1<|.cl (Jx s.idx n h1 h2 h5 p0.1 p1 (w:=dI) (F:=nin (fo F w.heap.size) [aj,ai,ah])) ?_
 rintro f5 f6 ⟨⟨f7,rfl,⟨_,rfl,⟨bC,f8,bD,bE,f9,bF,rfl,ae,af⟩⟩⟩,cj⟩
 have bG:=al3 aa.lt W.lt E.lt
 have ck:Gb w.heap.size dI.heap.size:=C.size
 replace ⟨h1,h2,h3,h4,E,W,aa,C⟩:=(se [aj,ai,ah] cj).g8 h1 h2 h3 h4 E W aa C
 replace ae:=RepS.Af (M:=[aj,ai,ah]) ae bG ck
 have ff:=ae.max
 replace af:=RepS.Af (M:=[aj,ai,ah]) af bG ck
 have fg:=af.max
 have dK:=ae.len
 subst dK
 have dL:=af.len
 subst dL
 refine .r 3 ?_
 cases fh:(Bu s.idx n).2.2
 ·refine .r 1<|.np 28 [AH,AH] fun dM ga aO cm dN dO=>?_
  have fi:=AX aO E.lt
  have fj:=AX aO W.lt
  have fk:=AX aO aa.lt
  have fm:=C.cn aO
  replace ⟨h1,h2,h3,h4,E,W,aa,ae,af,C⟩:=(sn [aj,ai,ah] cm aO).g10 h1 h2 h3 h4 E W aa ae af C
  refine .sc [.slice bC ((Bu s.idx n).1.names.length) bD,.slice bE ((((Bu s.idx n).1).AY).length) bF] dN fun gb co fp dP=>?_
  replace ⟨h1,h2,h3,h4,E,W,aa,ae,af,C⟩:=(so [dM,aj,ai,ah] co).g10 h1 h2 h3 h4 E W aa ae af C
  refine .r 2<|.d<|.s<|.s<|.g<|.r 13<|.d<|.ct<|.s<|.g<|.ln E<|.sc [.slice a1 s.idx.names.length c1,.slice a2 s.idx.AY.length c2,.slice a3 s.parts.length c3,.slice a4 s.mem.length c4] aa fun gf cp dQ dR=>?_
  replace ⟨h1,h2,h3,h4,E,W,ae,af,C⟩:=(so [dM,aj,ai,ah] cp).g9 h1 h2 h3 h4 E W ae af C
  exact .r 1<|.d<|.r2 func64 results64 (.bx dQ) (.t (.bool false)) ⟨⟨_,(CJ rfl (AG (by rw [Mg ‹_›]))),(VS.of (y:=s) ⟨_,rfl,⟨_,_,_,_,_,_,_,_,_,_,_,_,rfl,h1.w1,h2.w1,h3.w1,h4.w1⟩⟩ (by rw [Mg ‹_›]))⟩,C⟩
 refine .r 1<|.np 28 [AH,AH] fun al gh aP cq dS cw=>?_
 have d8:=AX aP E.lt
 have d9:=AX aP W.lt
 have ec:=AX aP aa.lt
 have ed:=C.cn aP
 replace ⟨h1,h2,h3,h4,E,W,aa,ae,af,C⟩:=(sn [aj,ai,ah] cq aP).g10 h1 h2 h3 h4 E W aa ae af C
 refine .sc [.slice bC ((Bu s.idx n).1.names.length) bD,.slice bE ((((Bu s.idx n).1).AY).length) bF] dS fun dT bH J cx=>?_
 replace ⟨h1,h2,h3,h4,E,W,aa,ae,af,C⟩:=(so [al,aj,ai,ah] bH).g10 h1 h2 h3 h4 E W aa ae af C
 refine .r 2<|.d<|.s<|.s<|.g<|.r 3<|.ln W<|.cl (Ky r (w:=dT) (F:=all)) ?_
 rintro fq ft ⟨rfl,bI⟩
 replace ⟨h1,h2,h3,h4,E,W,aa,ae,af,J,C⟩:=(se [al,aj,ai,ah] bI).g11 h1 h2 h3 h4 E W aa ae af J C
 cases ee:(Bi r)
 ·refine .r 8<|.d<|.ct<|.s<|.g<|.ln E<|.sc [.slice a1 s.idx.names.length c1,.slice a2 s.idx.AY.length c2,.slice a3 s.parts.length c3,.slice a4 s.mem.length c4] aa fun fu bJ cy cz=>?_
  replace ⟨h1,h2,h3,h4,E,W,ae,af,J,C⟩:=(so [al,aj,ai,ah] bJ).g10 h1 h2 h3 h4 E W ae af J C
  exact .r 1<|.d<|.r2 func64 results64 (.bx cy) (.t (.bool false)) ⟨⟨_,(CJ rfl (AG (by rw [Mh ‹_›]))),(VS.of (y:=s) ⟨_,rfl,⟨_,_,_,_,_,_,_,_,_,_,_,_,rfl,h1.w1,h2.w1,h3.w1,h4.w1⟩⟩ (by rw [Mh ‹_›]))⟩,C⟩
 refine .r 4<|.lb E<|.r 1<|.bp ((s.mem.length:Int)≥20) (fun cA=>?_) (fun cA=>?_)
 ·refine .r 1<|.d<|.ct<|.s<|.g<|.ln E<|.sc [.slice a1 s.idx.names.length c1,.slice a2 s.idx.AY.length c2,.slice a3 s.parts.length c3,.slice a4 s.mem.length c4] aa fun fv bK cB cC=>?_
  replace ⟨h1,h2,h3,h4,E,W,ae,af,J,C⟩:=(so [al,aj,ai,ah] bK).g10 h1 h2 h3 h4 E W ae af J C
  exact .r 1<|.d<|.r2 func64 results64 (.bx cB) (.t (.bool false)) ⟨⟨_,(CJ rfl (AG (by rw [Mi ‹_›]))),(VS.of (y:=s) ⟨_,rfl,⟨_,_,_,_,_,_,_,_,_,_,_,_,rfl,h1.w1,h2.w1,h3.w1,h4.w1⟩⟩ (by rw [Mi ‹_›]))⟩,C⟩
 refine .r 1<|.d<|.cf<|.sk<|.s<|.g<|.ln E<|.np 32 [AH,AH,AH,AH] fun ag fw aC bL cD cE=>?_
 have ef:=AX aC E.lt
 have eg:=AX aC W.lt
 have eh:=AX aC aa.lt
 have ej:=AX aC J.lt
 have ek:=C.cn aC
 replace ⟨h1,h2,h3,h4,E,W,aa,ae,af,J,C⟩:=(sn [al,aj,ai,ah] bL aC).g11 h1 h2 h3 h4 E W aa ae af J C
 refine .sc [.slice a1 s.idx.names.length c1,.slice a2 s.idx.AY.length c2,.slice a3 s.parts.length c3,.slice a4 s.mem.length c4] cD fun fA bM cF cG=>?_
 replace ⟨h1,h2,h3,h4,E,W,aa,ae,af,J,C⟩:=(so [ag,al,aj,ai,ah] bM).g11 h1 h2 h3 h4 E W aa ae af J C
 refine .d<|.s<|.g<|.ln J<|.r 1<|.sb 0 (.agg #[.slice bC ((Bu s.idx n).1.names.length) bD,.slice bE ((((Bu s.idx n).1).AY).length) bF]) [.slice bC ((Bu s.idx n).1.names.length) bD,.slice bE ((((Bu s.idx n).1).AY).length) bF,.slice a3 s.parts.length c3,.slice a4 s.mem.length c4] cF fun aB bN ab cH=>?_
 replace ⟨h1,h2,h3,h4,E,W,aa,ae,af,J,C⟩:=(so [ag,al,aj,ai,ah] bN).g11 h1 h2 h3 h4 E W aa ae af J C
 refine .d<|.s<|T.D3 (X:=Nat × Nat × Nat) (mtb [] aB.heap.size) 8 (fun (az,bw,aJ)=>[(3,.pointer (some ⟨ah,0,none⟩)),(6,.pointer (some ⟨aj,0,none⟩)),(9,vI ((Bu s.idx n).2.1)),(11,.pointer (some ⟨ag,0,none⟩)),(40,vS az (0+s.mem.length) bw),(44,vS aJ 1 1)]) (fun (az,bw,aJ) bz=>Ext aB bz∧aB.heap.size≤az∧aB.heap.size≤aJ∧Nb aJ az∧Own bz az 85 (nin (fo F w.heap.size) [az,ag,al,aj,ai,ah]) (0+s.mem.length) bw (([]++s.mem):List Smp)∧Box bz aJ 85 [vI ((Bu s.idx n).2.1),vI r.t,vI r.v]) AA (fun dU aQ=>?_) ?_
 ·replace h1:=h1.BO
  replace h2:=h2.BO
  replace h3:=h3.BO
  replace h4:=h4.BO
  replace ae:=ae.BO
  replace af:=af.BO
  have cI:Gb (ah+1) aB.heap.size:=E.lt
  have cJ:Gb (ai+1) aB.heap.size:=W.lt
  replace ⟨h1,h2,h3,h4,E,W,aa,ae,af,J,ab,C⟩:=(se [ag,al,aj,ai,ah] aQ).g12 h1 h2 h3 h4 E W aa ae af J ab C
  have ac:=aQ
  have ak:Chg (mtb [] aB.heap.size) aB dU:=Chg.Cb (Chg.refl (mtb [] aB.heap.size) aB) aQ
  refine .r [1]<|.lb 2 E (BL all_nil cI)<|.r [4]<|.ln 5 W (BL all_nil cJ)<|.r [6]<|.tw 0 7 ?_ ?_
  ·refine .ns 0 85 [] fun fB aW=>?_
   replace ⟨h1,h2,h3,h4,E,W,aa,ae,af,J,ab,C⟩:=(se [ag,al,aj,ai,ah] aW).g12 h1 h2 h3 h4 E W aa ae af J ab C
   replace ⟨ac,ak⟩:=(se [ag,al,aj,ai,ah] aW).g2 ac ak
   intro ao dV av aX cK cL
   have en:=AX av E.lt
   have et:=AX av W.lt
   have ey:=AX av aa.lt
   have ez:=AX av J.lt
   have eA:=AX av ab.lt
   have eB:=C.cn av
   have bO:=ac.cn av
   have bP:=ak.cn av
   replace ⟨h1,h2,h3,h4,E,W,aa,ae,af,J,ab,C⟩:=(sn [ag,al,aj,ai,ah] aX av).g12 h1 h2 h3 h4 E W aa ae af J ab C
   replace ⟨ac,ak⟩:=(sn [ag,al,aj,ai,ah] aX av).g2 ac ak
   have aw:Own (α:=Smp) dV ao 85 (nin (fo F w.heap.size) [ao,ag,al,aj,ai,ah]) 0 0 []:=Own.Aj cK
   refine .tw 3 7 ?_ ?_
   ·refine GE.append (T:=30) (ty:=30) (args:=[vS ao 0 0,.slice a4 s.mem.length c4]) AA fun fC aY=>?_
    replace ⟨h1,h2,h3,h4,E,W,aa,ae,af,J,ab,aw⟩:=(se [ao,ag,al,aj,ai,ah] aY).g12 h1 h2 h3 h4 E W aa ae af J ab aw
    replace ⟨C,ac,ak⟩:=(se [ao,ag,al,aj,ai,ah] aY).g3 C ac ak
    obtain ⟨aN,dW,fD,bQ,ar,aM,aR,cM⟩:=Own.BG (P:=Tryz.prog) (T:=30) (ty:=30) EU aw AA h4 (fun b h e=>h.2 (e▸AI)) (by have:=p0.2.2.2; omega)
    refine ⟨_,_,bQ,Chg.toS aR (Cov.toS bP),?_⟩
    have cN:=Aw aM bO ac.size
    replace ⟨h1,h2,h3,h4,E,W,aa,ae,af,J,ab,C⟩:=(sa [ao,ag,al,aj,ai,ah] aR aM).g12 h1 h2 h3 h4 E W aa ae af J ab C
    replace ⟨ac,ak⟩:=(sa [ao,ag,al,aj,ai,ah] aR aM).g2 ac ak
    replace ar:=ar.rn ao
    refine .go 7<|.ns 1 85 [vI ((Bu s.idx n).2.1),vI r.t,vI r.v] fun fE aZ=>?_
    replace ⟨h1,h2,h3,h4,E,W,aa,ae,af,J,ab,ar⟩:=(se [aN,ag,al,aj,ai,ah] aZ).g12 h1 h2 h3 h4 E W aa ae af J ab ar
    replace ⟨C,ac,ak⟩:=(se [aN,ag,al,aj,ai,ah] aZ).g3 C ac ak
    intro dX fF ba bc bd cO
    have cP:=AX ba ar.lt
    have cQ:=ac.cn ba
    replace ⟨h1,h2,h3,h4,E,W,aa,ae,af,J,ab,ar⟩:=(se [aN,ag,al,aj,ai,ah] bc).g12 h1 h2 h3 h4 E W aa ae af J ab ar
    replace ⟨C,ac,ak⟩:=(se [aN,ag,al,aj,ai,ah] bc).g3 C ac ak
    refine .d fun fG bg=>?_
    replace ⟨h1,h2,h3,h4,E,W,aa,ae,af,J,ab,ar⟩:=(se [aN,ag,al,aj,ai,ah] bg).g12 h1 h2 h3 h4 E W aa ae af J ab ar
    replace ⟨bd,C,ac,ak⟩:=(se [aN,ag,al,aj,ai,ah] bg).g4 bd C ac ak
    replace h1:=h1.Aa
    replace h2:=h2.Aa
    replace h3:=h3.Aa
    replace h4:=h4.Aa
    replace ae:=ae.Aa
    replace af:=af.Aa
    exact ⟨(aN,dW,dX),⟨AA,AA,AA,AA,AA,AA,trivial⟩,⟨ac,(Ad cN),(Ad cQ),cP,ar,bd⟩⟩
   refine .ns 1 85 [vI ((Bu s.idx n).2.1),vI r.t,vI r.v] fun fH bh=>?_
   replace ⟨h1,h2,h3,h4,E,W,aa,ae,af,J,ab,aw⟩:=(se [ao,ag,al,aj,ai,ah] bh).g12 h1 h2 h3 h4 E W aa ae af J ab aw
   replace ⟨C,ac,ak⟩:=(se [ao,ag,al,aj,ai,ah] bh).g3 C ac ak
   intro dY fI bi bj aA cR
   have cS:=AX bi aw.lt
   have cT:=ac.cn bi
   replace ⟨h1,h2,h3,h4,E,W,aa,ae,af,J,ab,aw⟩:=(se [ao,ag,al,aj,ai,ah] bj).g12 h1 h2 h3 h4 E W aa ae af J ab aw
   replace ⟨C,ac,ak⟩:=(se [ao,ag,al,aj,ai,ah] bj).g3 C ac ak
   refine .go 3<|GE.append (T:=30) (ty:=30) (args:=[vS ao 0 0,.slice a4 s.mem.length c4]) AA fun fJ bk=>?_
   replace ⟨h1,h2,h3,h4,E,W,aa,ae,af,J,ab,aw⟩:=(se [ao,ag,al,aj,ai,ah] bk).g12 h1 h2 h3 h4 E W aa ae af J ab aw
   replace ⟨aA,C,ac,ak⟩:=(se [ao,ag,al,aj,ai,ah] bk).g4 aA C ac ak
   obtain ⟨bR,dZ,fK,bS,aD,aH,aS,cU⟩:=Own.BG (P:=Tryz.prog) (T:=30) (ty:=30) EU aw AA h4 (fun b h e=>h.2 (e▸AI)) (by have:=p0.2.2.2; omega)
   refine ⟨_,_,bS,Chg.toS aS (Cov.toS bP),?_⟩
   have cV:=Ag aH (Nb.symm cS) aA.lt
   have cW:=Aw aH bO ac.size
   replace ⟨h1,h2,h3,h4,E,W,aa,ae,af,J,ab,aA⟩:=(sa [ao,ag,al,aj,ai,ah] aS aH).g12 h1 h2 h3 h4 E W aa ae af J ab aA
   replace ⟨C,ac,ak⟩:=(sa [ao,ag,al,aj,ai,ah] aS aH).g3 C ac ak
   replace aD:=aD.rn ao
   refine .d fun fL bm=>?_
   replace ⟨h1,h2,h3,h4,E,W,aa,ae,af,J,ab,aD⟩:=(se [bR,ag,al,aj,ai,ah] bm).g12 h1 h2 h3 h4 E W aa ae af J ab aD
   replace ⟨aA,C,ac,ak⟩:=(se [bR,ag,al,aj,ai,ah] bm).g4 aA C ac ak
   replace h1:=h1.Aa
   replace h2:=h2.Aa
   replace h3:=h3.Aa
   replace h4:=h4.Aa
   replace ae:=ae.Aa
   replace af:=af.Aa
   exact ⟨(bR,dZ,dY),⟨AA,AA,AA,AA,AA,AA,trivial⟩,⟨ac,(Ad cW),(Ad cT),(Nb.symm cV),aD,aA⟩⟩
  refine .ns 1 85 [vI ((Bu s.idx n).2.1),vI r.t,vI r.v] fun fM bn=>?_
  replace ⟨h1,h2,h3,h4,E,W,aa,ae,af,J,ab,C⟩:=(se [ag,al,aj,ai,ah] bn).g12 h1 h2 h3 h4 E W aa ae af J ab C
  replace ⟨ac,ak⟩:=(se [ag,al,aj,ai,ah] bn).g2 ac ak
  intro d0 fN bT bo aq cX
  have cY:=ac.cn bT
  replace ⟨h1,h2,h3,h4,E,W,aa,ae,af,J,ab,C⟩:=(se [ag,al,aj,ai,ah] bo).g12 h1 h2 h3 h4 E W aa ae af J ab C
  replace ⟨ac,ak⟩:=(se [ag,al,aj,ai,ah] bo).g2 ac ak
  refine .go 0<|.ns 0 85 [] fun fO bq=>?_
  replace ⟨h1,h2,h3,h4,E,W,aa,ae,af,J,ab,aq⟩:=(se [ag,al,aj,ai,ah] bq).g12 h1 h2 h3 h4 E W aa ae af J ab aq
  replace ⟨C,ac,ak⟩:=(se [ag,al,aj,ai,ah] bq).g3 C ac ak
  intro aK d3 au br cZ c7
  have eG:=AX au E.lt
  have eH:=AX au W.lt
  have eI:=AX au aa.lt
  have eJ:=AX au J.lt
  have eK:=AX au ab.lt
  have c8:=AX au aq.lt
  have eL:=C.cn au
  have c9:=ac.cn au
  have da:=ak.cn au
  replace ⟨h1,h2,h3,h4,E,W,aa,ae,af,J,ab,aq⟩:=(sn [ag,al,aj,ai,ah] br au).g12 h1 h2 h3 h4 E W aa ae af J ab aq
  replace ⟨C,ac⟩:=(sn [ag,al,aj,ai,ah] br au).g2 C ac
  have bt:Own (α:=Smp) d3 aK 85 (nin (fo F w.heap.size) [aK,ag,al,aj,ai,ah]) 0 0 []:=Own.Aj cZ
  refine .go 3<|GE.append (T:=30) (ty:=30) (args:=[vS aK 0 0,.slice a4 s.mem.length c4]) AA fun fP bu=>?_
  replace ⟨h1,h2,h3,h4,E,W,aa,ae,af,J,ab,aq⟩:=(se [aK,ag,al,aj,ai,ah] bu).g12 h1 h2 h3 h4 E W aa ae af J ab aq
  replace ⟨bt,C,ac⟩:=(se [aK,ag,al,aj,ai,ah] bu).g3 bt C ac
  obtain ⟨bU,d4,fQ,bV,aE,aI,aT,db⟩:=Own.BG (P:=Tryz.prog) (T:=30) (ty:=30) EU bt AA h4 (fun b h e=>h.2 (e▸AI)) (by have:=p0.2.2.2; omega)
  refine ⟨_,_,bV,Chg.toS aT (Cov.toS da),?_⟩
  have de:=Ag aI c8 aq.lt
  have df:=Aw aI c9 ac.size
  replace ⟨h1,h2,h3,h4,E,W,aa,ae,af,J,ab,aq⟩:=(sa [aK,ag,al,aj,ai,ah] aT aI).g12 h1 h2 h3 h4 E W aa ae af J ab aq
  replace ⟨C,ac⟩:=(sa [aK,ag,al,aj,ai,ah] aT aI).g2 C ac
  replace aE:=aE.rn aK
  refine .d fun fR bv=>?_
  replace ⟨h1,h2,h3,h4,E,W,aa,ae,af,J,ab,aq⟩:=(se [bU,ag,al,aj,ai,ah] bv).g12 h1 h2 h3 h4 E W aa ae af J ab aq
  replace ⟨aE,C,ac⟩:=(se [bU,ag,al,aj,ai,ah] bv).g3 aE C ac
  replace h1:=h1.Aa
  replace h2:=h2.Aa
  replace h3:=h3.Aa
  replace h4:=h4.Aa
  replace ae:=ae.Aa
  replace af:=af.Aa
  exact ⟨(bU,d4,d0),⟨AA,AA,AA,AA,AA,AA,trivial⟩,⟨ac,(Ad df),(Ad cY),(Nb.symm de),aE,aq⟩⟩
 rintro ⟨az,bw,aJ⟩ fS bz ⟨bW,ay,aF,bX,bY,d5⟩
 have dg:=Ah ay E.lt
 have dh:=Ah ay W.lt
 have dj:=Ah ay aa.lt
 have dm:=Ah ay J.lt
 have dp:=Ah ay ab.lt
 have dq:=Bo ay C.size
 have eO:Cov nil w az:=BT ay C.size
 have dr:=Ah aF E.lt
 have dt:=Ah aF W.lt
 have du:=Ah aF aa.lt
 have dv:=Ah aF J.lt
 have dw:=Ah aF ab.lt
 have dx:=Bo aF C.size
 replace ⟨h1,h2,h3,h4,E,W,aa,ae,af,J,ab,C⟩:=(sz [ag,al,aj,ai,ah] bW ay).g12 h1 h2 h3 h4 E W aa ae af J ab C
 have eP:=bY.len
 have bA:nin (fo F w.heap.size) [az,ag,al,aj,ai,ah] aJ∧aJ≠az:=BR (.inr dx) (all_cons bX (all_cons dw (all_cons dv (all_cons du (all_cons dt (all_cons dr all_nil)))))) bX
 refine RG.Ax (T:=30) (ty:=30) (y:=(⟨(Bu s.idx n).2.1,(⟨r.t,r.v⟩:Row)⟩:Smp)) bY d5 AA AA rfl bA (by have:=p0.2.2.2; omega) fun aL cr fT am ax bZ=>?_
 have eR:=Ag ax dg E.lt
 have eS:=Ag ax dh W.lt
 have eT:=Ag ax dj aa.lt
 have eU:=Ag ax dm J.lt
 have eV:=Ag ax dp ab.lt
 have dy:=Bt ax dq C.size
 replace ⟨h1,h2,h3,h4,E,W,aa,ae,af,J,ab,C⟩:=(sa [az,ag,al,aj,ai,ah] bZ ax).g12 h1 h2 h3 h4 E W aa ae af J ab C
 replace am:=am.rn az
 have eW:=am.len
 refine .r 1<|.ss 3 (vS aL (0+s.mem.length+1) cr) ab fun cu b0 aG dz=>?_
 replace ⟨h1,h2,h3,h4,E,W,aa,ae,af,J,am,C⟩:=(so [aL,ag,al,aj,ai,ah] b0).g12 h1 h2 h3 h4 E W aa ae af J am C
 refine .d<|.s<|.s<|.g<|.ln aG<|.r 1<|.cl (JG (⟨(⟨(Bu s.idx n).1.names,((Bu s.idx n).1).AY⟩:Idx),s.parts,(([]++s.mem)++[(⟨(Bu s.idx n).2.1,(⟨r.t,r.v⟩:Row)⟩:Smp)])⟩:Sto) ((Bu s.idx n).2.1) ae.ta af.ta h3.ta (am.rep) p0.2.1 p0.2.2.1 (by have:=p0.2.2.2; simp; omega) (w:=cu) (F:=all)) ?_
 rintro fU fV ⟨⟨fW,fX,rfl,aV⟩,b6⟩
 have b7:=al6 am.lt aG.lt J.lt aa.lt W.lt E.lt
 have dA:Gb w.heap.size cu.heap.size:=C.size
 replace ⟨h1,h2,h3,h4,E,aa,ae,af,aG,am,C⟩:=(se [aL,ag,al,aj,ai,ah] b6).g11 h1 h2 h3 h4 E aa ae af aG am C
 have aV:=aV.fr b7 dA
 replace aV:=aV.base (G':=fo F w.heap.size) (fun _ _ h=>.inr h)
 refine .r 1<|.bp ((((rowsOf (⟨(⟨(Bu s.idx n).1.names,((Bu s.idx n).1).AY⟩:Idx),s.parts,(([]++s.mem)++[(⟨(Bu s.idx n).2.1,(⟨r.t,r.v⟩:Row)⟩:Smp)])⟩:Sto) ((Bu s.idx n).2.1)).length):Int) > 24) (fun dB=>?_) (fun dB=>?_)
 ·refine .d<|.ct<|.s<|.g<|.ln E<|.sc [.slice a1 s.idx.names.length c1,.slice a2 s.idx.AY.length c2,.slice a3 s.parts.length c3,.slice a4 s.mem.length c4] aa fun fY b8 dC dD=>?_
  replace ⟨h1,h2,h3,h4,ae,af,aG,am,C⟩:=(so [aL,ag,al,aj,ai,ah] b8).g9 h1 h2 h3 h4 ae af aG am C
  exact .r 1<|.d<|.r2 func64 results64 (.bx dC) (.t (.bool false)) ⟨⟨_,(CJ rfl (AG (by rw [Mj ‹_› ‹_› ‹_› ‹_›]))),(VS.of (y:=s) ⟨_,rfl,⟨_,_,_,_,_,_,_,_,_,_,_,_,rfl,h1.w1,h2.w1,h3.w1,h4.w1⟩⟩ (by rw [Mj ‹_› ‹_› ‹_› ‹_›]))⟩,C⟩
 refine .d<|.cf<|.sk<|.s<|.g<|.ln aG<|.sc [.slice bC ((Bu s.idx n).1.names.length) bD,.slice bE ((((Bu s.idx n).1).AY).length) bF,.slice a3 s.parts.length c3,vS aL (0+s.mem.length+1) cr] aa fun d6 b9 dE dF=>?_
 replace ⟨h3,ae,af,am,C⟩:=(so [aL,ag,al,aj,ai,ah] b9).g5 h3 ae af am C
 refine .r 1<|.d ?_
 have d7:=am.sl (.inr dy)
 replace ⟨h3,ae,af⟩:=(sd d6 [aL,ag,al,aj,ai,ah] aL).g3 h3 ae af
 exact .r2 func64 results64 (.bx dE) (.t (.bool true)) ⟨⟨_,(CJ rfl (AG (by (rw [Mk ‹_› ‹_› ‹_› ‹_›] <;> rfl)))),(VS.of (y:=(⟨(⟨(Bu s.idx n).1.names,((Bu s.idx n).1).AY⟩:Idx),s.parts,(([]++s.mem)++[(⟨(Bu s.idx n).2.1,(⟨r.t,r.v⟩:Row)⟩:Smp)])⟩:Sto)) ⟨_,rfl,⟨_,_,_,_,_,_,_,_,_,_,_,_,rfl,ae.w1,af.w1,h3.w1,d7.w1⟩⟩ (by (rw [Mk ‹_› ‹_› ‹_› ‹_›] <;> rfl)))⟩,C⟩
end Go.Proofs.YtggnnidleedpaaaGreat
namespace Go.Proofs.YtggnnidleedpaaaGreat
def Am (s:Sto):Sto:=⟨idxOf s.idx.names,s.parts,s.mem⟩
def BM (d:Dsk):Dsk:=⟨d.files.filter (fun f=>d.list.contains f.num),d.list,d.names,d.next⟩
def BD (d:Dsk) (s:Sto):List Stp :=
 if s.mem.length=0∨d.list.length≥6∨d.next≥999∨d.files.length≥20 then []
 else [⟨1,d.next,BJ s.mem,[],[]⟩,⟨2,0,⟨[],[]⟩,d.list++[d.next],s.idx.names⟩]
theorem EY {d:Dsk}{s:Sto}(h:(s.mem.length:Int)=0∨(d.list.length:Int)≥6∨d.next≥999∨(d.files.length:Int)≥20):BD d s=[]:=by unfold BD; rw [if_pos AB]
theorem D8 {d:Dsk}{s:Sto}(h1:(s.mem.length:Int)≠0) (h2:¬ (d.list.length:Int)≥6) (h3:¬ d.next≥999) (h4:¬ (d.files.length:Int)≥20) :
 BD d s=[⟨1,d.next,BJ s.mem,[],[]⟩,⟨2,0,⟨[],[]⟩,d.list++[d.next],s.idx.names⟩]:=by unfold BD; rw [if_neg AB]
theorem NX {α:Type}{l:List (List α)}{i:Nat}{k:List (List α)}{q:List α}(h:k++l.drop i=l) (hd:l.drop i=q::l.drop (i+1)):(k++[[]++q])++l.drop (i+1)=l:=by
 rw [hd] at h
 simpa using h
theorem PC {l:List Prt}{i:Nat}{k:List Prt}{q:Prt}{a:List Int}{b:List (List Row)}(h:k++l.drop i=l) (hd:l.drop i=q::l.drop (i+1)) (ha:a=q.ids) (hb:b=q.blocks):(k++[⟨a,b⟩])++l.drop (i+1)=l:=by
 subst ha hb
 rw [hd] at h
 simpa using h
end Go.Proofs.YtggnnidleedpaaaGreat
namespace Go.Proofs.YtggnnidleedpaaaGreat
set_option maxRecDepth 100000
set_option maxHeartbeats 4000000
variable {w:World} {F:Nat→Prop} {a1 a2 a3 a4 a5 a6 a7:Option Addr} {n1 c1 n2 c2 n3 c3 n4 c4 n5 c5 n6 c6 n7 c7:Nat}
theorem JL (d:Dsk) (h1:RepS w F a1 n1 c1 d.files) (h2:RepS w F a2 n2 c2 d.list) (h3:RepS w F a3 n3 c3 d.names) (p0:d.files.length≤1000):Calls Tryz.prog 114 [.agg #[.slice a1 n1 c1,.slice a2 n2 c2,.slice a3 n3 c3,.int .i64 d.next]].toArray w (BB fun rv w'=>VS (fo F w.heap.size) w' (BM d:Dsk) rv∧Ext w w'):=by
 refine goT func114 ?_
 obtain ⟨rfl,bL,h1⟩:=h1.tp
 obtain ⟨rfl,bM,h2⟩:=h2.tp
 obtain ⟨rfl,bN,h3⟩:=h3.tp
 refine .s<|.g<|.np 36 [.slice a1 d.files.length c1,.slice a2 d.list.length c2,.slice a3 d.names.length c3,vI d.next] fun ab cj av aw E aX=>?_
 have bO:Cov nil w ab:=Bf av (Nat.le_refl _)
 replace ⟨h1,h2,h3⟩:=(sn [] aw av).g3 h1 h2 h3
 have C:=aw
 refine .np 36 [AH,AH,AH,vI 0] fun ac ck am aE J aY=>?_
 have bP:=AX am E.lt
 have bQ:=C.cn am
 replace ⟨h1,h2,h3,E,C⟩:=(sn [ab] aE am).g5 h1 h2 h3 E C
 refine .d<|.s<|.g<|.ns 0 50 [] fun ak ax ah aF aZ ba=>?_
 have bc:=AX ah E.lt
 have bd:=AX ah J.lt
 have bg:=Ae ah C.size
 have bh:=C.cn ah
 replace ⟨h1,h2,h3,E,J,C⟩:=(sn [ac,ab] aF ah).g6 h1 h2 h3 E J C
 have bi:Own (α:=Fil) ax ak 50 (nin (fo F w.heap.size) [ak,ac,ab]) 0 0 []:=Own.Aj aZ
 refine .r 1<|.d<|.s<|.s<|.g<|.r 1<|.d<|.b 0<|T.loop (X:=(List Fil) × Nat × Nat × Nat × Nat) (([]:List Fil),ak,0,0,0) (fun (files,r_files,n_files,c_files,i)=>[(1,.pointer (some ⟨ab,0,none⟩)),(2,.pointer (some ⟨ac,0,none⟩)),(3,vS r_files n_files c_files),(4,vI (i:Int))]) (fun (files,r_files,n_files,c_files,i) aD=>Chg (ins [ak]) ax aD∧Own aD r_files 50 (nin (fo F w.heap.size) [r_files,ac,ab]) n_files c_files files∧OrB r_files ak ax.heap.size∧(i≤d.files.length)∧(files.length≤i)∧(files++(d.files.drop i).filter (fun f=>d.list.contains f.num)=d.files.filter (fun f=>d.list.contains f.num))) (fun (files,r_files,n_files,c_files,i)=>d.files.length - i) AA ⟨AA,AA,AA,AA,trivial⟩ ⟨Chg.refl _ _,bi,BU,AD,AD,AD⟩ ?_
 rintro ⟨files,r_files,n_files,c_files,i⟩ cm aD ⟨aa,W,ae,bR,bS,bT⟩ al
 have bU:=Ay ae bc E.lt
 have bV:=Ay ae bd J.lt
 have bj:=Bz ae bg C.size
 have bW:=BA ae bh C.size
 have bk:Cov (ins [ak]) ax ak:=⟨.inl AI⟩
 have bX:=BA ae bk (Nat.le_refl _)
 have aG:Mv [ak,ac,ab] [r_files,ac,ab] ax aD:=Mv.inl aa (all_cons AI all_nil) (all_cons (Bb ae AI) (all_cons (.inl AJ) (all_cons (.inl AK) all_nil)))
 replace ⟨h1,h2,h3,E,J,C⟩:=(sp aG aa).g6 h1 h2 h3 E J C
 have bY:=W.len; have bZ:=W.max
 refine .s<|.s<|.g<|.r 2<|.lb E<|.r 1<|.bp ((i:Int)< (d.files.length:Int)) (fun bm=>?_) (fun bm=>?_)
 ·refine .d<|.ct<|.sk<|.s<|.b 1<|.s<|.gd nil 7 fun co aH=>?_
  replace ⟨h1,h2,h3,E,J,W,C,aa⟩:=(se [r_files,ac,ab] aH).g8 h1 h2 h3 E J W C aa
  refine .ln 0 E id<|.r [1]<|.lb 2 E id<|.r [3] ?_
  have bn:i< d.files.length:=AB
  refine .ix 4 i 3 h1 bn<|.r [5] ?_
  obtain ⟨ai,ao⟩:∃ y,d.files[i]? = some y:=⟨_,AU AB⟩
  have b0:=Ai ao
  obtain ⟨_,⟨cp,cq,cr,cu,cw,cx,rfl,bo,bq⟩,br⟩:=h1.elem i ai ao
  have bt:=bo.len
  subst bt
  have bu:=bq.len
  subst bu
  refine .lh 6 0 br id<|.d fun bH aI=>?_
  replace ⟨h1,h2,h3,E,J,W,C,aa⟩:=(se [r_files,ac,ab] aI).g8 h1 h2 h3 E J W C aa
  refine .cl (E5 d ai.num h1.ta h2.ta h3.ta (w:=bH) (F:=all)) ?_
  rintro cy cz ⟨rfl,aJ⟩
  replace ⟨h1,h2,h3,E,J,W,C,aa⟩:=(se [r_files,ac,ab] aJ).g8 h1 h2 h3 E J W C aa
  cases b8:(d.list.contains ai.num)
  ·exact .d<|.cf<|.sk<|.ib 1<|.g<|.r 1<|.it ((i:Int)+1)<|.r 1<|.d<|al (files,r_files,n_files,c_files,i+1) _ _ ⟨AA,AA,AA,AA,trivial⟩ ⟨aa,W,ae,AB,AB,(by grind)⟩ (by (simp only []; omega))
  refine .d<|.ct<|.g<|.r 2<|.lb E<|.r 1 ?_
  have bv:i< d.files.length:=AB
  refine .ix i 3 h1 bv ?_
  obtain ⟨_,⟨bI,b9,bw,bz,cd,bA,rfl,aq,ar⟩,bB⟩:=h1.elem i ai ao
  have aL:=aq.len
  subst aL
  have aM:=ar.len
  subst aM
  refine .lg 0 bB<|.ns 1 50 [vI ai.num,.slice bI ai.part.ids.length bw,.slice bz ai.part.blocks.length bA] fun aK ce af ay aN aO=>?_
  have aP:=AX af E.lt
  have aQ:=AX af J.lt
  have az:=AX af W.lt
  have aR:=Ae af C.size
  replace ⟨h2,h3,E,J,W,aq,ar,C,aa⟩:=(se [r_files,ac,ab] ay).g9 h2 h3 E J W aq ar C aa
  have au:nin (fo F w.heap.size) [r_files,ac,ab] aK∧aK≠r_files:=BR (.inr aR) (all_cons az (all_cons aQ (all_cons aP all_nil))) az
  refine RG.Ax (T:=33) (ty:=33) (y:=ai) W aN AA AA ⟨_,_,_,_,_,_,rfl,aq.oi,ar.oi⟩ au AB fun bC bD cg ag aj aA=>?_
  have aS:=CB aj ae aa.size
  replace ⟨h2,h3,E,J,C,aa⟩:=(sa [r_files,ac,ab] aA aj).g6 h2 h3 E J C aa
  replace ag:=ag.rn r_files
  have bJ:=ag.len
  exact .r 1<|.d<|.ib 1<|.g<|.r 1<|.it ((i:Int)+1)<|.r 1<|.d<|al ((files++[ai]),bC,n_files+1,bD,i+1) _ _ ⟨AA,AA,AA,AA,trivial⟩ ⟨aa,ag,aS,AB,AB,(by grind)⟩ (by (simp only []; omega))
 refine .d<|.cf<|.x 0 rfl<|.s<|.g<|.r 2<|.ss 0 (vS r_files n_files c_files) E fun ci aB aT aU=>?_
 replace ⟨h2,h3,J,W,C⟩:=(so [r_files,ac,ab] aB).g5 h2 h3 J W C
 refine .d<|.s<|.g<|.ln aT<|.sc [vS r_files n_files c_files,.slice a2 d.list.length c2,.slice a3 d.names.length c3,vI d.next] J fun bE aC aV aW=>?_
 replace ⟨h2,h3,W,C⟩:=(so [r_files,ac,ab] aC).g4 h2 h3 W C
 refine .d ?_
 have bF:=W.sl (.inr bj)
 replace ⟨h2,h3⟩:=(sd bE [r_files,ac,ab] r_files).g2 h2 h3
 exact .rb func114 results114 aV ⟨(VS.of (y:=(⟨files,d.list,d.names,d.next⟩:Dsk)) ⟨_,rfl,⟨_,_,_,_,_,_,_,_,_,rfl,bF.w1,h2.w1,h3.w1⟩⟩ (by grind [BM,Ab])),C⟩
theorem IW (d:Dsk) (s:Sto) (h1:RepS w F a1 n1 c1 d.files) (h2:RepS w F a2 n2 c2 d.list) (h3:RepS w F a3 n3 c3 d.names) (h4:RepS w F a4 n4 c4 s.idx.names) (h5:RepS w F a5 n5 c5 s.idx.AY) (h6:RepS w F a6 n6 c6 s.parts) (h7:RepS w F a7 n7 c7 s.mem) (p0:s.mem.length≤1000) (p1:∀ m∈s.mem,1≤m.id∧m.id≤6) (p2:d.list.length≤1000) (p3:s.idx.names.length≤1000) (p4:∀ n∈s.idx.names,n.length≤1000):Calls Tryz.prog 67 [.agg #[.slice a1 n1 c1,.slice a2 n2 c2,.slice a3 n3 c3,.int .i64 d.next],.agg #[.slice a4 n4 c4,.slice a5 n5 c5,.slice a6 n6 c6,.slice a7 n7 c7]].toArray w (BB fun rv w'=>VL (ge w.heap.size) w' (BD d s:List Stp) rv∧Ext w w'):=by
 refine goT func67 ?_
 obtain ⟨rfl,eP,h1⟩:=h1.tp
 obtain ⟨rfl,eQ,h2⟩:=h2.tp
 obtain ⟨rfl,eR,h3⟩:=h3.tp
 obtain ⟨rfl,eS,h4⟩:=h4.tp
 obtain ⟨rfl,eT,h5⟩:=h5.tp
 obtain ⟨rfl,eU,h6⟩:=h6.tp
 obtain ⟨rfl,eV,h7⟩:=h7.tp
 refine .s<|.g<|.np 36 [.slice a1 d.files.length c1,.slice a2 d.list.length c2,.slice a3 d.names.length c3,vI d.next] fun ab fL b7 bi E db=>?_
 replace ⟨h2,h4,h5,h6,h7⟩:=(sn [] bi b7).g5 h2 h4 h5 h6 h7
 have C:=bi
 refine .np 32 [.slice a4 s.idx.names.length c4,.slice a5 s.idx.AY.length c5,.slice a6 s.parts.length c6,.slice a7 s.mem.length c7] fun ac aH b8 b9 J de=>?_
 replace ⟨h2,h4,h5,h6,h7,E,C⟩:=(sn [ab] b9 b8).g7 h2 h4 h5 h6 h7 E C
 refine .r 1<|.d<|.s<|.s<|.g<|.r 1<|.lb J<|.r 1<|.eq (s.mem.length:Int) 0 (fun df=>?_) (fun df=>?_)
 ·refine .r 17<|.d<|.ct<|.s<|.g<|.ns 0 137 [] fun bj dg aL cd dh dj=>?_
  have eW:=AX aL E.lt
  have eX:=AX aL J.lt
  have dm:=Ae aL C.size
  replace ⟨h2,h4,h5,h6,h7,E,J,C⟩:=(sn [ac,ab] cd aL).g8 h2 h4 h5 h6 h7 E J C
  have dp:Own (α:=Stp) dg bj 137 (nin (ge w.heap.size) [bj,ac,ab]) 0 0 []:=Own.Aj dh
  refine .r 1<|.d ?_
  have d4:=dp.sl dm
  replace ⟨h2,h4,h5,h6,h7⟩:=(sd dg [bj,ac,ab] bj).g5 h2 h4 h5 h6 h7
  exact .rt func67 results67 (vS bj 0 0) ⟨(d4.vl (by rw [EY AB]) (fun _ _ h=>h.1)),C⟩
 refine .r 2<|.lb E<|.r 1<|.bp ((d.list.length:Int)≥6) (fun dq=>?_) (fun dq=>?_)
 ·refine .r 12<|.d<|.ct<|.s<|.g<|.ns 0 137 [] fun bk dr aM ce dt du=>?_
  have eY:=AX aM E.lt
  have eZ:=AX aM J.lt
  have dv:=Ae aM C.size
  replace ⟨h2,h4,h5,h6,h7,E,J,C⟩:=(sn [ac,ab] ce aM).g8 h2 h4 h5 h6 h7 E J C
  have dw:Own (α:=Stp) dr bk 137 (nin (ge w.heap.size) [bk,ac,ab]) 0 0 []:=Own.Aj dt
  refine .r 1<|.d ?_
  have d5:=dw.sl dv
  replace ⟨h2,h4,h5,h6,h7⟩:=(sd dr [bk,ac,ab] bk).g5 h2 h4 h5 h6 h7
  exact .rt func67 results67 (vS bk 0 0) ⟨(d5.vl (by rw [EY AB]) (fun _ _ h=>h.1)),C⟩
 refine .r 3<|.lb E<|.bp (d.next≥999) (fun dx=>?_) (fun dx=>?_)
 ·refine .r 7<|.d<|.ct<|.s<|.g<|.ns 0 137 [] fun bm dy aN cg dz dA=>?_
  have e7:=AX aN E.lt
  have e8:=AX aN J.lt
  have dB:=Ae aN C.size
  replace ⟨h2,h4,h5,h6,h7,E,J,C⟩:=(sn [ac,ab] cg aN).g8 h2 h4 h5 h6 h7 E J C
  have dC:Own (α:=Stp) dy bm 137 (nin (ge w.heap.size) [bm,ac,ab]) 0 0 []:=Own.Aj dz
  refine .r 1<|.d ?_
  have d6:=dC.sl dB
  replace ⟨h2,h4,h5,h6,h7⟩:=(sd dy [bm,ac,ab] bm).g5 h2 h4 h5 h6 h7
  exact .rt func67 results67 (vS bm 0 0) ⟨(d6.vl (by rw [EY AB]) (fun _ _ h=>h.1)),C⟩
 refine .r 3<|.lb E<|.r 1<|.bp ((d.files.length:Int)≥20) (fun dD=>?_) (fun dD=>?_)
 ·refine .r 1<|.d<|.ct<|.s<|.g<|.ns 0 137 [] fun bn dE aO ci dF dG=>?_
  have fa:=AX aO E.lt
  have fb:=AX aO J.lt
  have dH:=Ae aO C.size
  replace ⟨h2,h4,h5,h6,h7,E,J,C⟩:=(sn [ac,ab] ci aO).g8 h2 h4 h5 h6 h7 E J C
  have cm:Own (α:=Stp) dE bn 137 (nin (ge w.heap.size) [bn,ac,ab]) 0 0 []:=Own.Aj dF
  refine .r 1<|.d ?_
  have dI:=cm.sl dH
  replace ⟨h2,h4,h5,h6,h7⟩:=(sd dE [bn,ac,ab] bn).g5 h2 h4 h5 h6 h7
  exact .rt func67 results67 (vS bn 0 0) ⟨(dI.vl (by rw [EY AB]) (fun _ _ h=>h.1)),C⟩
 refine .r 1<|.d<|.cf<|.sk<|.s<|T.D3 (X:=Nat × Nat × Nat) (mtb [] aH.heap.size) 7 (fun (al,bc,aC)=>[(2,.pointer (some ⟨ab,0,none⟩)),(3,.pointer (some ⟨ac,0,none⟩)),(31,vS al (0+d.list.length) bc),(34,vS aC 1 1)]) (fun (al,bc,aC) bd=>Ext aH bd∧aH.heap.size≤al∧aH.heap.size≤aC∧Nb aC al∧Own bd al 3 (nin (ge w.heap.size) [al,ac,ab]) (0+d.list.length) bc (([]++d.list):List Int)∧Box bd aC 3 [vI d.next]) AA (fun dJ aI=>?_) ?_
 ·replace h2:=h2.BO
  replace h4:=h4.BO
  replace h5:=h5.BO
  replace h6:=h6.BO
  replace h7:=h7.BO
  have bo:Gb (ab+1) aH.heap.size:=E.lt
  replace ⟨h2,h4,h5,h6,h7,E,J,C⟩:=(se [ac,ab] aI).g8 h2 h4 h5 h6 h7 E J C
  have W:=aI
  have aa:Chg (mtb [] aH.heap.size) aH dJ:=Chg.Cb (Chg.refl (mtb [] aH.heap.size) aH) aI
  refine .r [1]<|.lb 2 E (BL all_nil bo)<|.r [4]<|.lb 5 E (BL all_nil bo)<|.tw 0 6 ?_ ?_
  ·refine .ns 0 3 [] fun fc bq=>?_
   replace ⟨h2,h4,h5,h6,h7,E,J,C,W,aa⟩:=(se [ac,ab] bq).g10 h2 h4 h5 h6 h7 E J C W aa
   intro am dK au br co cp
   have d7:=AX au E.lt
   have d8:=AX au J.lt
   have d9:=C.cn au
   have bt:=W.cn au
   have bu:=aa.cn au
   replace ⟨h2,h4,h5,h6,h7,E,J,C,W,aa⟩:=(sn [ac,ab] br au).g10 h2 h4 h5 h6 h7 E J C W aa
   have ak:Own (α:=Int) dK am 3 (nin (ge w.heap.size) [am,ac,ab]) 0 0 []:=Own.Aj co
   refine .tw 3 6 ?_ ?_
   ·refine GE.append (T:=34) (ty:=34) (args:=[vS am 0 0,.slice a2 d.list.length c2]) AA fun fd bv=>?_
    replace ⟨h2,h4,h5,h6,h7,E,J,ak,C,W,aa⟩:=(se [am,ac,ab] bv).g11 h2 h4 h5 h6 h7 E J ak C W aa
    obtain ⟨bg,dL,fe,bw,ai,aJ,aQ,cq⟩:=Own.BG (P:=Tryz.prog) (T:=34) (ty:=34) BS ak AA h2 (fun b h e=>h.2 (e▸AI)) AB
    refine ⟨_,_,bw,Chg.toS aQ (Cov.toS bu),?_⟩
    have cr:=Aw aJ bt W.size
    replace ⟨h2,h4,h5,h6,h7,E,J,C,W,aa⟩:=(sa [am,ac,ab] aQ aJ).g10 h2 h4 h5 h6 h7 E J C W aa
    replace ai:=ai.rn am
    refine .go 6<|.ns 1 3 [vI d.next] fun ff bz=>?_
    replace ⟨h2,h4,h5,h6,h7,E,J,ai,C,W,aa⟩:=(se [bg,ac,ab] bz).g11 h2 h4 h5 h6 h7 E J ai C W aa
    intro dM fg aR bA aS cu
    have cw:=AX aR ai.lt
    have cx:=W.cn aR
    replace ⟨h2,h4,h5,h6,h7,E,J,ai,C,W,aa⟩:=(se [bg,ac,ab] bA).g11 h2 h4 h5 h6 h7 E J ai C W aa
    refine .d fun fh bB=>?_
    replace ⟨h2,h4,h5,h6,h7,E,J,ai,aS,C,W,aa⟩:=(se [bg,ac,ab] bB).g12 h2 h4 h5 h6 h7 E J ai aS C W aa
    replace h2:=h2.Aa
    replace h4:=h4.Aa
    replace h5:=h5.Aa
    replace h6:=h6.Aa
    replace h7:=h7.Aa
    exact ⟨(bg,dL,dM),⟨AA,AA,AA,AA,trivial⟩,⟨W,(Ad cr),(Ad cx),cw,ai,aS⟩⟩
   refine .ns 1 3 [vI d.next] fun fi bC=>?_
   replace ⟨h2,h4,h5,h6,h7,E,J,ak,C,W,aa⟩:=(se [am,ac,ab] bC).g11 h2 h4 h5 h6 h7 E J ak C W aa
   intro dN fj aT bD ao cy
   have cz:=AX aT ak.lt
   have cA:=W.cn aT
   replace ⟨h2,h4,h5,h6,h7,E,J,ak,C,W,aa⟩:=(se [am,ac,ab] bD).g11 h2 h4 h5 h6 h7 E J ak C W aa
   refine .go 3<|GE.append (T:=34) (ty:=34) (args:=[vS am 0 0,.slice a2 d.list.length c2]) AA fun fk bE=>?_
   replace ⟨h2,h4,h5,h6,h7,E,J,ak,ao,C,W,aa⟩:=(se [am,ac,ab] bE).g12 h2 h4 h5 h6 h7 E J ak ao C W aa
   obtain ⟨cj,dO,fm,bF,av,aD,aU,cB⟩:=Own.BG (P:=Tryz.prog) (T:=34) (ty:=34) BS ak AA h2 (fun b h e=>h.2 (e▸AI)) AB
   refine ⟨_,_,bF,Chg.toS aU (Cov.toS bu),?_⟩
   have cC:=Ag aD (Nb.symm cz) ao.lt
   have cD:=Aw aD bt W.size
   replace ⟨h2,h4,h5,h6,h7,E,J,ao,C,W,aa⟩:=(sa [am,ac,ab] aU aD).g11 h2 h4 h5 h6 h7 E J ao C W aa
   replace av:=av.rn am
   refine .d fun fp bG=>?_
   replace ⟨h2,h4,h5,h6,h7,E,J,av,ao,C,W,aa⟩:=(se [cj,ac,ab] bG).g12 h2 h4 h5 h6 h7 E J av ao C W aa
   replace h2:=h2.Aa
   replace h4:=h4.Aa
   replace h5:=h5.Aa
   replace h6:=h6.Aa
   replace h7:=h7.Aa
   exact ⟨(cj,dO,dN),⟨AA,AA,AA,AA,trivial⟩,⟨W,(Ad cD),(Ad cA),(Nb.symm cC),av,ao⟩⟩
  refine .ns 1 3 [vI d.next] fun fq bH=>?_
  replace ⟨h2,h4,h5,h6,h7,E,J,C,W,aa⟩:=(se [ac,ab] bH).g10 h2 h4 h5 h6 h7 E J C W aa
  intro dP ft bI bJ af cE
  have cF:=W.cn bI
  replace ⟨h2,h4,h5,h6,h7,E,J,C,W,aa⟩:=(se [ac,ab] bJ).g10 h2 h4 h5 h6 h7 E J C W aa
  refine .go 0<|.ns 0 3 [] fun fu bK=>?_
  replace ⟨h2,h4,h5,h6,h7,E,J,af,C,W,aa⟩:=(se [ac,ab] bK).g11 h2 h4 h5 h6 h7 E J af C W aa
  intro aF dQ aq bL cG cH
  have eg:=AX aq E.lt
  have eh:=AX aq J.lt
  have cI:=AX aq af.lt
  have ej:=C.cn aq
  have cJ:=W.cn aq
  have cK:=aa.cn aq
  replace ⟨h2,h4,h5,h6,h7,E,J,af,C,W⟩:=(sn [ac,ab] bL aq).g10 h2 h4 h5 h6 h7 E J af C W
  have aV:Own (α:=Int) dQ aF 3 (nin (ge w.heap.size) [aF,ac,ab]) 0 0 []:=Own.Aj cG
  refine .go 3<|GE.append (T:=34) (ty:=34) (args:=[vS aF 0 0,.slice a2 d.list.length c2]) AA fun fv bM=>?_
  replace ⟨h2,h4,h5,h6,h7,E,J,af,aV,C,W⟩:=(se [aF,ac,ab] bM).g11 h2 h4 h5 h6 h7 E J af aV C W
  obtain ⟨ck,dR,fw,bN,aw,aE,aW,cL⟩:=Own.BG (P:=Tryz.prog) (T:=34) (ty:=34) BS aV AA h2 (fun b h e=>h.2 (e▸AI)) AB
  refine ⟨_,_,bN,Chg.toS aW (Cov.toS cK),?_⟩
  have cM:=Ag aE cI af.lt
  have cN:=Aw aE cJ W.size
  replace ⟨h4,h5,h6,h7,E,J,af,C,W⟩:=(sa [aF,ac,ab] aW aE).g9 h4 h5 h6 h7 E J af C W
  replace aw:=aw.rn aF
  refine .d fun fA bO=>?_
  replace ⟨h4,h5,h6,h7,E,J,af,aw,C,W⟩:=(se [ck,ac,ab] bO).g10 h4 h5 h6 h7 E J af aw C W
  replace h4:=h4.Aa
  replace h5:=h5.Aa
  replace h6:=h6.Aa
  replace h7:=h7.Aa
  exact ⟨(ck,dR,dP),⟨AA,AA,AA,AA,trivial⟩,⟨W,(Ad cN),(Ad cF),(Nb.symm cM),aw,af⟩⟩
 rintro ⟨al,bc,aC⟩ fB bd ⟨bP,az,aK,bQ,bR,dS⟩
 have cO:=Ah az E.lt
 have cP:=Ah az J.lt
 have cQ:=Bo az C.size
 have et:Cov nil w al:=BT az C.size
 have cR:=Ah aK E.lt
 have cS:=Ah aK J.lt
 have cT:=Bo aK C.size
 replace ⟨h4,h5,h6,h7,E,J,C⟩:=(sz [ac,ab] bP az).g7 h4 h5 h6 h7 E J C
 have ey:=bR.len
 have bh:nin (ge w.heap.size) [al,ac,ab] aC∧aC≠al:=BR cT (all_cons bQ (all_cons cS (all_cons cR all_nil))) bQ
 refine RG.Ax (T:=34) (ty:=34) (y:=d.next) bR dS AA AA rfl bh AB fun ar dT fC ae ay bS=>?_
 have eA:=Ag ay cO E.lt
 have eB:=Ag ay cP J.lt
 have cU:=Bt ay cQ C.size
 replace ⟨h4,h5,h6,h7,E,J,C⟩:=(sa [al,ac,ab] bS ay).g7 h4 h5 h6 h7 E J C
 replace ae:=ae.rn al
 refine .r 1<|.d<|.s<|.gd nil 11 fun fD bT=>?_
 replace ⟨h4,h5,h6,h7,E,J,ae,C⟩:=(se [ar,ac,ab] bT).g8 h4 h5 h6 h7 E J ae C
 refine .r [0]<|.lb 1 E id<|.ln 2 J id<|.r [5,6,7]<|.lb 8 J id<|.go 3<|.cl (fun bU aA=>Gd s (h4.ta.ext aA) (h5.ta.ext aA) (h6.ta.ext aA) (h7.ta.ext aA) p0 p1 (w:=bU) (F:=all)) ?_
 intro bU aA
 replace ⟨h4,E,J,ae,C⟩:=(se [ar,ac,ab] aA).g5 h4 E J ae C
 rintro fE fF ⟨⟨_,rfl,⟨dU,fG,dV,dW,fH,dX,rfl,ag,ah⟩⟩,aX⟩
 have aY:=al3 ae.lt J.lt E.lt
 have bV:Gb w.heap.size bU.heap.size:=C.size
 have hkeep_:=aX
 replace ⟨h4,E,J,ae,C⟩:=(se [ar,ac,ab] aX).g5 h4 E J ae C
 refine ⟨Ext.chg hkeep_,?_⟩
 have ag:=ag.fr aY bV
 have eE:=ag.max
 have ah:=ah.fr aY bV
 have eF:=ah.max
 have cV:=ag.len
 subst cV
 have cW:=ah.len
 subst cW
 refine .r [4]<|.go 9<|.cl (fun bW aZ=>Ca s.idx.names (h4.ta.ext aZ) AB (by intro n hn; have:=p4 n hn; omega) (w:=bW) (F:=all)) ?_
 intro bW aZ
 replace ⟨E,J,ae,ag,ah,C⟩:=(se [ar,ac,ab] aZ).g6 E J ae ag ah C
 rintro fI fJ ⟨⟨aG,dY,dZ,rfl,aj,aB⟩,ba⟩
 have bX:=al3 ae.lt J.lt E.lt
 have cX:Gb w.heap.size bW.heap.size:=C.size
 have hkeep_:=ba
 have eG:=Ah aB E.lt
 have eH:=Ah aB J.lt
 have eI:=Ah aB ae.lt
 have cY:=Bo aB C.size
 replace ⟨E,J,ae,ag,ah,C⟩:=(sz [ar,ac,ab] ba aB).g6 E J ae ag ah C
 refine ⟨Ext.chg hkeep_,?_⟩
 replace aj:=Own.take (s0:=w.heap.size) (M:=[ar,ac,ab]) aj bX cX
 refine .r [10]<|.d fun fK bY=>?_
 replace ⟨E,J,ae,ag,ah,aj,C⟩:=(se [aG,ar,ac,ab] bY).g7 E J ae ag ah aj C
 refine .ns 2 137 [vI 1,vI d.next,.slice dU ((BJ s.mem).ids.length) dV,.slice dW ((BJ s.mem).blocks.length) dX,AH,AH,vI 2,vI 0,AH,AH,vS ar (0+d.list.length+1) dT,vS aG dY dZ] fun aP bZ ax b0 cZ c8=>?_
 have eL:=AX ax E.lt
 have eM:=AX ax J.lt
 have eN:=AX ax ae.lt
 have eO:=AX ax aj.lt
 have c9:=Ae ax C.size
 replace ⟨ae,ag,ah,aj,C⟩:=(sn [aG,ar,ac,ab] b0 ax).g5 ae ag ah aj C
 have b6:=ae.sl cU
 replace ⟨ag,ah,aj⟩:=(sd bZ [aP,aG,ar,ac,ab] ar).g3 ag ah aj
 have d0:=aj.sl cY
 replace ⟨b6,ag,ah⟩:=(sd bZ [aP,aG,ac,ab] aG).g3 b6 ag ah
 have da:Own (α:=Stp) bZ aP 137 (nin (ge w.heap.size) [aP,ac,ab]) 2 2 [(⟨1,d.next,(⟨(BJ s.mem).ids,(BJ s.mem).blocks⟩:Prt),([]:List Int),([]:List (List Tag))⟩:Stp),(⟨2,0,(⟨([]:List Int),([]:List (List Row))⟩:Prt),(([]++d.list)++[d.next]),s.idx.names⟩:Stp)]:=Own.lit cZ rfl AE ⟨⟨_,_,_,_,_,_,_,_,_,_,_,_,rfl,ag.oi,ah.oi,(RepS.Aj _ _ none 0 AE),(RepS.Aj _ _ none 0 AE)⟩,⟨_,_,_,_,_,_,_,_,_,_,_,_,rfl,(RepS.Aj _ _ none 0 AE),(RepS.Aj _ _ none 0 AE),b6.oi,d0.oi⟩,rfl⟩
 refine .r 1<|.d ?_
 have d3:=da.sl c9
 exact .rt func67 results67 (vS aP 2 2) ⟨(d3.vl (by (rw [D8 ‹_› ‹_› ‹_› ‹_›] <;> simp)) (fun _ _ h=>h.1)),C⟩
theorem Fq (s:Sto) (h1:RepS w F a1 n1 c1 s.idx.names) (h2:RepS w F a2 n2 c2 s.idx.AY) (h3:RepS w F a3 n3 c3 s.parts) (h4:RepS w F a4 n4 c4 s.mem) (p0:KE s):Calls Tryz.prog 71 [.agg #[.slice a1 n1 c1,.slice a2 n2 c2,.slice a3 n3 c3,.slice a4 n4 c4]].toArray w (BB fun rv w'=>(∃ (a0:Option Addr) (n0 c0:Nat) (a1:Option Addr) (n1 c1:Nat) (a2:Option Addr) (n2 c2:Nat) (r3 n3 c3:Nat),rv=.agg #[.slice a0 n0 c0,.slice a1 n1 c1,.slice a2 n2 c2,.slice (some ⟨r3,0,none⟩) n3 c3]∧RepS w' (nin (ge w.heap.size) [r3]) a0 n0 c0 ((((Am s)).idx).names)∧RepS w' (nin (ge w.heap.size) [r3]) a1 n1 c1 ((((Am s)).idx).AY)∧RepS w' (nin (ge w.heap.size) [r3]) a2 n2 c2 (((Am s)).parts)∧Own w' r3 85 (nin (ge w.heap.size) [r3]) n3 c3 (((Am s)).mem)∧w.heap.size≤r3)∧Ext w w'):=by
 refine goT func71 ?_
 obtain ⟨rfl,iL,h1⟩:=h1.tp
 obtain ⟨rfl,iM,h2⟩:=h2.tp
 obtain ⟨rfl,iN,h3⟩:=h3.tp
 obtain ⟨rfl,iO,h4⟩:=h4.tp
 refine .s<|.g<|.np 32 [.slice a1 s.idx.names.length c1,.slice a2 s.idx.AY.length c2,.slice a3 s.parts.length c3,.slice a4 s.mem.length c4] fun ac jO c7 b8 W fk=>?_
 replace ⟨h1,h3,h4⟩:=(sn [] b8 c7).g3 h1 h3 h4
 have C:=b8
 refine .np 32 [AH,AH,AH,AH] fun ae jP b9 c8 J fm=>?_
 have iP:=C.cn b9
 replace ⟨h1,h3,h4,W,C⟩:=(sn [ac] c8 b9).g5 h1 h3 h4 W C
 refine .d<|.s<|.g<|.ns 0 48 [] fun bC cd bj c9 fp fq=>?_
 have ft:=AX bj W.lt
 have fu:=AX bj J.lt
 have fv:=Ae bj C.size
 have fw:=C.cn bj
 replace ⟨h1,h3,h4,W,J,C⟩:=(sn [ae,ac] c9 bj).g6 h1 h3 h4 W J C
 have fA:Own (α:=Prt) cd bC 48 (nin (ge w.heap.size) [bC,ae,ac]) 0 0 []:=Own.Aj fp
 refine .r 1<|.d<|.s<|.s<|.g<|.r 1<|.d<|.b 0<|T.loop (X:=(List Prt) × Nat × Nat × Nat × Nat) (([]:List Prt),bC,0,0,0) (fun (k,r_k,n_k,c_k,k1)=>[(1,.pointer (some ⟨ac,0,none⟩)),(2,.pointer (some ⟨ae,0,none⟩)),(3,vS r_k n_k c_k),(4,vI (k1:Int))]) (fun (k,r_k,n_k,c_k,k1) aV=>Chg (ins [bC]) cd aV∧Own aV r_k 48 (nin (ge w.heap.size) [r_k,ae,ac]) n_k c_k k∧OrB r_k bC cd.heap.size∧(k1≤s.parts.length)∧(k.length≤k1)∧(k++s.parts.drop k1=s.parts)) (fun (k,r_k,n_k,c_k,k1)=>s.parts.length - k1) AA ⟨AA,AA,AA,AA,trivial⟩ ⟨Chg.refl _ _,fA,BU,AD,AD,AD⟩ ?_
 rintro ⟨k,r_k,n_k,c_k,k1⟩ jQ aV ⟨aa,E,aX,iQ,iR,iS⟩ ce
 have cg:=Ay aX ft W.lt
 have iT:=Ay aX fu J.lt
 have fB:=Bz aX fv C.size
 have iU:=BA aX fw C.size
 have fC:Cov (ins [bC]) cd bC:=⟨.inl AI⟩
 have iV:=BA aX fC (Nat.le_refl _)
 have da:Mv [bC,ae,ac] [r_k,ae,ac] cd aV:=Mv.inl aa (all_cons AI all_nil) (all_cons (Bb aX AI) (all_cons (.inl AJ) (all_cons (.inl AK) all_nil)))
 replace ⟨h1,h3,h4,W,J,C⟩:=(sp da aa).g6 h1 h3 h4 W J C
 have iW:=E.len; have iX:=E.max
 refine .s<|.s<|.g<|.r 2<|.lb W<|.r 1<|.bp ((k1:Int)< (s.parts.length:Int)) (fun fD=>?_) (fun fD=>?_)
 ·refine .d<|.ct<|.sk<|.s<|.b 1<|.s<|.g<|.ns 0 3 [] fun cY gx aT db fE fF=>?_
  have fG:=AX aT W.lt
  have fH:=AX aT J.lt
  have fI:=AX aT E.lt
  have fJ:=Ae aT C.size
  have fK:=C.cn aT
  have fL:=aa.cn aT
  replace ⟨h1,h3,h4,W,J,E,C,aa⟩:=(sn [r_k,ae,ac] db aT).g8 h1 h3 h4 W J E C aa
  have fM:Own (α:=Int) gx cY 3 (nin (ge w.heap.size) [cY,r_k,ae,ac]) 0 0 []:=Own.Aj fE
  refine .r 1<|.lb W<|.r 1 ?_
  have fN:k1< s.parts.length:=AB
  refine .ix k1 2 h3 fN<|.r 1 ?_
  obtain ⟨aC,bk⟩:∃ y,s.parts[k1]? = some y:=⟨_,AU AB⟩
  have iY:=Ai bk; have gw:=AV bk
  obtain ⟨_,⟨jR,jS,jT,jU,jV,jW,rfl,dr,fO⟩,fP⟩:=h3.elem k1 aC bk
  have fQ:=dr.len
  subst fQ
  have iZ:=dr.max
  have dt:=fO.len
  subst dt
  have gy:=fO.max
  refine .lh 0 fP<|RG.BG (T:=34) (ty:=34) BS fM dr AA AA (fun b h e=>h.2 (e▸AI)) (by have q1:=p0.2.1; (have q3:=p0.2.2.1 _ ‹_›; have q4:=q3.1; have q5:=q3.2.1; omega)) fun aD de ja al av cj=>?_
  have du:=Ag av fG W.lt
  have dv:=Ag av fH J.lt
  have dw:=Ag av fI E.lt
  have dx:=Bt av fJ C.size
  have gz:=Aw av fK C.size
  have gA:=Aw av fL aa.size
  replace ⟨h1,h3,h4,W,J,E,C,aa⟩:=(sa [cY,r_k,ae,ac] cj av).g8 h1 h3 h4 W J E C aa
  replace al:=al.rn cY
  have gC:=al.len
  refine .ns 0 62 [] fun aA fU ay ck dy dz=>?_
  have dA:=AX ay W.lt
  have dB:=AX ay J.lt
  have dC:=AX ay E.lt
  have dD:=AX ay al.lt
  have dE:=Ae ay C.size
  have dF:=C.cn ay
  have dG:=aa.cn ay
  replace ⟨h1,h3,h4,W,J,E,al,C,aa⟩:=(sn [aD,r_k,ae,ac] ck ay).g9 h1 h3 h4 W J E al C aa
  have aR:Own (α:=List Row) fU aA 62 (nin (ge w.heap.size) [aA,aD,r_k,ae,ac]) 0 0 []:=Own.Aj dy
  refine .r 1<|.np 48 [AH,AH] fun ai jb az cm dH dI=>?_
  have gE:=AX az W.lt
  have gF:=AX az J.lt
  have dJ:=AX az E.lt
  have dK:=AX az al.lt
  have dL:=AX az aR.lt
  have gG:=C.cn az
  have gH:=aa.cn az
  replace ⟨h1,h3,h4,W,J,E,al,aR,C,aa⟩:=(sn [aA,aD,r_k,ae,ac] cm az).g10 h1 h3 h4 W J E al aR C aa
  refine .sc [vS aD (0+aC.ids.length) de,vS aA 0 0] dH fun bm co bH dM=>?_
  replace ⟨h1,h3,h4,W,J,E,al,aR,C,aa⟩:=(so [ai,aA,aD,r_k,ae,ac] co).g10 h1 h3 h4 W J E al aR C aa
  refine .d<|.s<|.s<|.g<|.r 1<|.d<|.b 2<|T.loop (X:=Nat × (List Int) × Nat × Nat × Nat × (List (List Row)) × Nat × Nat × Nat) (0,(([]++aC.ids):List Int),aD,0+aC.ids.length,de,([]:List (List Row)),aA,0,0) (fun (k2,bE,r_k_0,n_k_0,c_k_0,bi,r_k_1,n_k_1,c_k_1)=>[(1,.pointer (some ⟨ac,0,none⟩)),(2,.pointer (some ⟨ae,0,none⟩)),(3,vS r_k n_k c_k),(4,vI (k1:Int)),(5,.pointer (some ⟨ai,0,none⟩)),(6,vI (k2:Int))]) (fun (k2,bE,r_k_0,n_k_0,c_k_0,bi,r_k_1,n_k_1,c_k_1) ax=>Chg (ins [aD,aA,ai]) bm ax∧Own ax r_k_0 3 (nin (ge w.heap.size) [ai,r_k_1,r_k_0,r_k,ae,ac]) n_k_0 c_k_0 bE∧OrB r_k_0 aD bm.heap.size∧Own ax r_k_1 62 (nin (ge w.heap.size) [ai,r_k_1,r_k_0,r_k,ae,ac]) n_k_1 c_k_1 bi∧OrB r_k_1 aA bm.heap.size∧Nb r_k_1 r_k_0∧Box ax ai 48 [vS r_k_0 n_k_0 c_k_0,vS r_k_1 n_k_1 c_k_1]∧(k2≤aC.blocks.length)∧(bE=aC.ids)∧(bi.length≤k2)∧(bi++aC.blocks.drop k2=aC.blocks)) (fun (k2,bE,r_k_0,n_k_0,c_k_0,bi,r_k_1,n_k_1,c_k_1)=>aC.blocks.length - k2) AA ⟨AA,AA,AA,AA,AA,AA,trivial⟩ ⟨Chg.refl _ _,al,BU,aR,BU,dD,bH,AD,AD,AD,AD⟩ ?_
  rintro ⟨k2,bE,r_k_0,n_k_0,c_k_0,bi,r_k_1,n_k_1,c_k_1⟩ jc ax ⟨aj,af,aJ,ag,aw,dN,ah,gI,gJ,gK,gL⟩ b0
  have dO:=Ay aJ du W.lt
  have gM:=Ay aJ dv J.lt
  have gN:=Ay aJ dw E.lt
  have dP:=Ay aJ (Nb.symm dK) bH.lt
  have dQ:=Bz aJ dx C.size
  have dR:=Ay aw dA W.lt
  have gO:=Ay aw dB J.lt
  have gP:=Ay aw dC E.lt
  have cp:=Ay aw (Nb.symm dL) bH.lt
  have dS:=Bz aw dE C.size
  have gQ:=BA aw dF C.size
  have gR:=BA aw dG aa.size
  have dT:Cov (ins [aD,aA,ai]) bm aA:=⟨.inl AJ⟩
  have gS:Cov (ins [aD,aA,ai]) bm ai:=⟨.inl AK⟩
  have gT:=BA aw dT (Nat.le_refl _)
  have cq:Mv [ai,aA,aD,r_k,ae,ac] [ai,r_k_1,r_k_0,r_k,ae,ac] bm ax:=Mv.inl aj (all_cons AK (all_cons AJ (all_cons AI all_nil))) (all_cons (.inl AI) (all_cons (Bb aw AJ) (all_cons (Bb aJ AK) (all_cons (.inl AL) (all_cons (.inl AM) (all_cons (.inl AN) all_nil))))))
  replace ⟨h1,h3,h4,W,J,E,C,aa⟩:=(sp cq aj).g8 h1 h3 h4 W J E C aa
  have gW:=ag.len; have gX:=ag.max
  refine .s<|.s<|.g<|.r 2<|.lb W<|.r 1 ?_
  have dU:k1< s.parts.length:=AB
  refine .ix k1 2 h3 dU<|.r 1 ?_
  obtain ⟨_,⟨jd,je,jf,jg,jh,ji,rfl,fV,fW⟩,dV⟩:=h3.elem k1 aC bk
  have dW:=fV.len
  subst dW
  have dX:=fW.len
  subst dX
  refine .lh 1 dV<|.r 1<|.bp ((k2:Int)< (aC.blocks.length:Int)) (fun dY=>?_) (fun dY=>?_)
  ·refine .d<|.ct<|.sk<|.s<|.b 3 ?_
   replace h1:=h1.BO
   replace h3:=h3.BO
   replace h4:=h4.BO
   have dZ:Gb (ac+1) ax.heap.size:=W.lt
   have d0:Gb (ai+1) ax.heap.size:=ah.lt
   refine .gd (mtb [r_k,r_k_0,r_k_1] ax.heap.size) 14 fun fX bI=>?_
   replace ⟨h1,h3,h4,W,J,E,af,ag,ah,C,aa,aj⟩:=(se [ai,r_k_1,r_k_0,r_k,ae,ac] bI).g12 h1 h3 h4 W J E af ag ah C aa aj
   have bJ:Chg (mtb [r_k,r_k_0,r_k_1] ax.heap.size) ax fX:=Chg.Cb (Chg.refl (mtb [r_k,r_k_0,r_k_1] ax.heap.size) ax) bI
   refine .r [0]<|.lb 1 ah (BL (all_cons dJ (all_cons (Nb.symm dP) (all_cons (Nb.symm cp) all_nil))) d0)<|.r [3]<|.lb 4 W (BL (all_cons (Nb.symm cg) (all_cons (Nb.symm dO) (all_cons (Nb.symm dR) all_nil))) dZ)<|.r [5] ?_
   have d3:k1< s.parts.length:=AB
   refine .ix 6 k1 2 h3 d3<|.r [7] ?_
   obtain ⟨_,⟨jj,jk,jl,jm,jn,jo,rfl,fY,bZ⟩,d4⟩:=h3.elem k1 aC bk
   have d5:=fY.len
   subst d5
   have d6:=bZ.len
   subst d6
   refine .lh 8 1 d4 (h3.nS (Dd bk) (all_cons AL (all_cons AK (all_cons AJ all_nil))))<|.r [9] ?_
   have d7:k2< aC.blocks.length:=AB
   refine .ix 10 k2 1 bZ d7 ?_
   obtain ⟨bF,bv⟩:∃ y,aC.blocks[k2]? = some y:=⟨_,AU AB⟩
   have gY:=Ai bv; have fZ:=AV bv
   obtain ⟨_,⟨f0,jp,f5,rfl,aP⟩,d8⟩:=bZ.elem k2 bF bv
   have d9:=aP.len
   subst d9
   have gZ:=aP.max
   refine .lh 11 0 d8 (bZ.nS (Dd bv) (all_cons AL (all_cons AK (all_cons AJ all_nil))))<|.go 2<|.ns 0 56 [] fun jq bK=>?_
   replace ⟨h1,h4,W,J,E,af,ag,ah,aP,C,aa,aj⟩:=(se [ai,r_k_1,r_k_0,r_k,ae,ac] bK).g12 h1 h4 W J E af ag ah aP C aa aj
   replace bJ:=(se [ai,r_k_1,r_k_0,r_k,ae,ac] bK).g1 bJ
   intro aZ f6 am cr ec ed
   have ee:=AX am W.lt
   have ef:=AX am J.lt
   have eg:=AX am E.lt
   have eh:=AX am af.lt
   have ej:=AX am ag.lt
   have ek:=AX am ah.lt
   have en:=Ae am C.size
   have g0:=C.cn am
   have hC:=aa.cn am
   have hD:=aj.cn am
   have et:=bJ.cn am
   replace ⟨h1,h4,W,J,E,af,ag,ah,aP,C,aa,aj⟩:=(sn [ai,r_k_1,r_k_0,r_k,ae,ac] cr am).g12 h1 h4 W J E af ag ah aP C aa aj
   have bL:Own (α:=Row) f6 aZ 56 (nin (ge w.heap.size) [aZ,ai,r_k_1,r_k_0,r_k,ae,ac]) 0 0 []:=Own.Aj ec
   refine .go 12<|GE.append (T:=62) (ty:=62) (args:=[vS aZ 0 0,.slice f0 bF.length f5]) AA fun jr bM=>?_
   replace ⟨h1,h4,W,J,E,af,ag,ah,aP,bL,C,aa⟩:=(se [aZ,ai,r_k_1,r_k_0,r_k,ae,ac] bM).g12 h1 h4 W J E af ag ah aP bL C aa
   replace aj:=(se [aZ,ai,r_k_1,r_k_0,r_k,ae,ac] bM).g1 aj
   obtain ⟨ba,f7,js,cu,aq,ao,bN,ey⟩:=Own.BG (P:=Tryz.prog) (T:=62) (ty:=62) Bx bL AA aP (fun b h e=>h.2 (e▸AI)) (by have q1:=p0.2.1; (have q3:=p0.2.2.1 _ ‹_›; (have q6:=q3.2.2 _ ‹_›; omega)))
   refine ⟨_,_,cu,Chg.toS bN (Cov.toS et),?_⟩
   have hE:=Ag ao ee W.lt
   have hH:=Ag ao ef J.lt
   have hJ:=Ag ao eg E.lt
   have hN:=Ag ao eh af.lt
   have hO:=Ag ao ej ag.lt
   have hQ:=Ag ao ek ah.lt
   have ez:=Bt ao en C.size
   replace ⟨h1,h4,W,J,E,af,ag,ah,C,aa,aj⟩:=(sa [aZ,ai,r_k_1,r_k_0,r_k,ae,ac] bN ao).g11 h1 h4 W J E af ag ah C aa aj
   replace aq:=aq.rn aZ
   refine .go 13<|.ns 1 62 [vS ba (0+bF.length) f7] fun jt cw=>?_
   replace ⟨h1,h4,W,J,E,af,ag,ah,aq,C,aa,aj⟩:=(se [ba,ai,r_k_1,r_k_0,r_k,ae,ac] cw).g12 h1 h4 W J E af ag ah aq C aa aj
   intro df ju aE cx bO eA
   have eB:=AX aE W.lt
   have eC:=AX aE J.lt
   have eD:=AX aE E.lt
   have eE:=AX aE af.lt
   have cy:=AX aE ag.lt
   have eF:=AX aE ah.lt
   have eG:=Ae aE C.size
   replace ⟨h1,h4,W,J,E,af,ag,ah,aq,C,aa,aj⟩:=(se [ba,ai,r_k_1,r_k_0,r_k,ae,ac] cx).g12 h1 h4 W J E af ag ah aq C aa aj
   refine .d fun f8 bP=>?_
   replace ⟨h1,h4,W,J,E,af,ag,ah,aq,bO,C,aa⟩:=(se [ba,ai,r_k_1,r_k_0,r_k,ae,ac] bP).g12 h1 h4 W J E af ag ah aq bO C aa
   replace aj:=(se [ba,ai,r_k_1,r_k_0,r_k,ae,ac] bP).g1 aj
   replace h1:=h1.Aa
   replace h4:=h4.Aa
   have f9:=aq.sl ez
   replace ⟨h1,h4,E,af,ag⟩:=(sd f8 [ba,ai,r_k_1,r_k_0,r_k,ae,ac] ba).g5 h1 h4 E af ag
   have b6:nin (ge w.heap.size) [ai,r_k_1,r_k_0,r_k,ae,ac] df∧df≠r_k_1:=BR eG (all_cons eF (all_cons cy (all_cons eE (all_cons eD (all_cons eC (all_cons eB all_nil)))))) cy
   refine RG.Ax (T:=46) (ty:=46) (y:=([]++bF)) ag bO AA AA ⟨_,_,_,rfl,f9.oi⟩ b6 (by have q1:=p0.2.1; (have q3:=p0.2.2.1 _ ‹_›; have q4:=q3.1; have q5:=q3.2.1; omega)) fun cz dg jv aK aQ cA=>?_
   have eH:=Ag aQ dN af.lt
   have ia:=Ag aQ cp ah.lt
   have eI:=CB aQ aw aj.size
   replace ⟨h1,h4,W,J,E,af,ah,C,aa,aj⟩:=(sa [ai,r_k_1,r_k_0,r_k,ae,ac] cA aQ).g10 h1 h4 W J E af ah C aa aj
   replace aK:=aK.rn r_k_1
   refine .r 1<|.ss 1 (vS cz (n_k_1+1) dg) ah fun jw cB eJ eK=>?_
   replace ⟨h1,h4,W,J,E,af,aK,C,aa,aj⟩:=(so [ai,cz,r_k_0,r_k,ae,ac] cB).g10 h1 h4 W J E af aK C aa aj
   exact .d<|.ib 3<|.g<|.r 1<|.it ((k2:Int)+1)<|.r 1<|.d<|b0 (k2+1,bE,r_k_0,n_k_0,c_k_0,(bi++[([]++bF)]),cz,n_k_1+1,dg) _ _ ⟨AA,AA,AA,AA,AA,AA,trivial⟩ ⟨aj,af,aJ,aK,eI,eH,eJ,AB,‹_›,(by simp; omega),(by exact NX ‹_› ‹_›)⟩ (by (simp only []; omega))
  refine .d<|.cf<|.x 2 rfl<|.g<|.r 1<|.ln ah<|.ns 1 48 [vS r_k_0 n_k_0 c_k_0,vS r_k_1 n_k_1 c_k_1] fun dh dj aS cC eL eM=>?_
  have eN:=AX aS W.lt
  have eO:=AX aS J.lt
  have cD:=AX aS E.lt
  have eP:=AX aS ah.lt
  have eQ:=Ae aS C.size
  replace ⟨h1,h4,W,J,E,af,ag,C,aa⟩:=(se [ai,r_k_1,r_k_0,r_k,ae,ac] cC).g9 h1 h4 W J E af ag C aa
  have cE:=af.sl dQ
  replace ⟨h1,h4,E,ag⟩:=(sd dj [ai,r_k_1,r_k_0,r_k,ae,ac] r_k_0).g4 h1 h4 E ag
  have ga:=ag.sl dS
  replace ⟨h1,h4,E,cE⟩:=(sd dj [ai,r_k_1,r_k,ae,ac] r_k_1).g4 h1 h4 E cE
  have b7:nin (ge w.heap.size) [ai,r_k,ae,ac] dh∧dh≠r_k:=BR eQ (all_cons eP (all_cons cD (all_cons eO (all_cons eN all_nil)))) cD
  refine RG.Ax (T:=29) (ty:=29) (y:=(⟨bE,bi⟩:Prt)) E eL AA AA ⟨_,_,_,_,_,_,rfl,cE.oi,ga.oi⟩ b7 (by have q1:=p0.2.1; omega) fun cF gb dm aL bw cG=>?_
  have eR:=CB bw aX aa.size
  replace ⟨h1,h4,W,J,C,aa⟩:=(sa [ai,r_k,ae,ac] cG bw).g6 h1 h4 W J C aa
  replace aL:=aL.rn r_k
  refine .r 1<|.d<|.ib 1<|.g<|.r 1<|.it ((k1:Int)+1)<|.r 1<|.d ?_
  have eS:Mv [ai,cF,ae,ac] [cF,ae,ac] dm dm:=Mv.less (all_cons AJ (all_cons AK (all_cons AL all_nil)))
  replace ⟨h1,h4,aL⟩:=(sp eS (Chg.refl nil _)).g3 h1 h4 aL
  exact ce ((k++[(⟨bE,bi⟩:Prt)]),cF,n_k+1,gb,k1+1) _ _ ⟨AA,AA,AA,AA,trivial⟩ ⟨aa,aL,eR,AB,(by simp; omega),(by exact PC ‹_› ‹_› ‹_› (by have q1:=Ab (xs:=aC.blocks) (k:=k2) AB; have q2:bi++aC.blocks.drop k2=aC.blocks:=‹_›; rw [q1,List.append_nil] at q2; exact q2))⟩ (by (simp only []; omega))
 refine .d<|.cf<|.x 0 rfl<|.s<|T.D3 (X:=(Option Addr) × Nat × (Option Addr) × Nat × Nat × Nat) (mtb [r_k] aV.heap.size) 9 (fun (bn,bo,bq,br,aB,bt)=>[(2,.pointer (some ⟨ae,0,none⟩)),(59,.agg #[.slice bn ((idxOf s.idx.names).names.length) bo,.slice bq ((idxOf s.idx.names).AY.length) br]),(60,vS r_k n_k c_k),(64,vS aB (0+s.mem.length) bt)]) (fun (bn,bo,bq,br,aB,bt) bG=>Ext aV bG∧aV.heap.size≤aB∧RepS bG (nin (ge w.heap.size) [aB,r_k,ae,ac]) bn ((idxOf s.idx.names).names.length) bo ((idxOf s.idx.names).names:List (List Tag))∧RepS bG (nin (ge w.heap.size) [aB,r_k,ae,ac]) bq ((idxOf s.idx.names).AY.length) br ((idxOf s.idx.names).AY:List Pst)∧Own bG aB 85 (nin (ge w.heap.size) [aB,r_k,ae,ac]) (0+s.mem.length) bt (([]++s.mem):List Smp)) AA (fun gf bz=>?_) ?_
 ·replace h1:=h1.BO
  replace h4:=h4.BO
  have cH:Gb (ac+1) aV.heap.size:=W.lt
  replace ⟨h1,h4,W,J,E,C⟩:=(se [r_k,ae,ac] bz).g6 h1 h4 W J E C
  have ab:=bz
  have ak:Chg (mtb [r_k] aV.heap.size) aV gf:=Chg.Cb (Chg.refl (mtb [r_k] aV.heap.size) aV) bz
  refine .r [0,1]<|.lb 2 W (BL (all_cons (Nb.symm cg) all_nil) cH)<|.r [4,6]<|.lb 7 W (BL (all_cons (Nb.symm cg) all_nil) cH)<|.tw 3 5 ?_ ?_
  ·refine .cl (fun cI bQ=>EP s.idx.names (h1.ta.ext bQ) p0.1.1 p0.1.2 (w:=cI) (F:=all)) ?_
   intro cI bQ
   replace ⟨h1,h4,W,J,E,C,ab,ak⟩:=(se [r_k,ae,ac] bQ).g8 h1 h4 W J E C ab ak
   rintro jx jy ⟨⟨_,rfl,⟨gh,jz,gi,gj,jA,gk,rfl,ar,au⟩⟩,bR⟩
   have bS:=al3 E.lt J.lt W.lt
   have cJ:Gb w.heap.size cI.heap.size:=C.size
   have hkeep_:=bR
   replace ⟨h1,h4,W,J,E,C,ab,ak⟩:=(se [r_k,ae,ac] bR).g8 h1 h4 W J E C ab ak
   refine ⟨Ext.chg hkeep_,?_⟩
   have ar:=ar.fr bS cJ
   have ij:=ar.max
   have au:=au.fr bS cJ
   have ik:=au.max
   have eT:=ar.len
   subst eT
   have eU:=au.len
   subst eU
   refine .go 5<|.ns 0 85 [] fun jB cK=>?_
   replace ⟨h1,h4,W,J,E,ar,au,C,ab,ak⟩:=(se [r_k,ae,ac] cK).g10 h1 h4 W J E ar au C ab ak
   intro bu gl aF cL eV eW
   have il:=AX aF W.lt
   have im:=AX aF J.lt
   have io:=AX aF E.lt
   have ip:=C.cn aF
   have eX:=ab.cn aF
   have eY:=ak.cn aF
   replace ⟨h1,h4,W,J,E,ar,au,C,ab,ak⟩:=(sn [r_k,ae,ac] cL aF).g10 h1 h4 W J E ar au C ab ak
   have bT:Own (α:=Smp) gl bu 85 (nin (ge w.heap.size) [bu,r_k,ae,ac]) 0 0 []:=Own.Aj eV
   refine .go 8<|GE.append (T:=30) (ty:=30) (args:=[vS bu 0 0,.slice a4 s.mem.length c4]) AA fun jC cM=>?_
   replace ⟨h1,h4,W,J,E,ar,au,bT,C,ab,ak⟩:=(se [bu,r_k,ae,ac] cM).g11 h1 h4 W J E ar au bT C ab ak
   obtain ⟨dp,gm,jD,cN,aM,bA,bU,eZ⟩:=Own.BG (P:=Tryz.prog) (T:=30) (ty:=30) EU bT AA h4 (fun b h e=>h.2 (e▸AI)) (by have q1:=p0.2.1; have q2:=p0.2.2.2; omega)
   refine ⟨_,_,cN,Chg.toS bU (Cov.toS eY),?_⟩
   have e7:=Aw bA eX ab.size
   replace ⟨h1,h4,W,J,E,ar,au,C,ab,ak⟩:=(sa [bu,r_k,ae,ac] bU bA).g10 h1 h4 W J E ar au C ab ak
   replace aM:=aM.rn bu
   refine .d fun jE cO=>?_
   replace ⟨h1,h4,W,J,E,ar,au,aM,C,ab,ak⟩:=(se [dp,r_k,ae,ac] cO).g11 h1 h4 W J E ar au aM C ab ak
   replace h1:=h1.Aa
   replace h4:=h4.Aa
   exact ⟨(gh,gi,gj,gk,dp,gm),⟨AA,AA,AA,AA,trivial⟩,⟨ab,(Ad e7),ar,au,aM⟩⟩
  refine .ns 0 85 [] fun jF cP=>?_
  replace ⟨h1,h4,W,J,E,C,ab,ak⟩:=(se [r_k,ae,ac] cP).g8 h1 h4 W J E C ab ak
  intro aU gn aN cQ e8 fa
  have iu:=AX aN J.lt
  have iw:=AX aN E.lt
  have iy:=C.cn aN
  have fb:=ab.cn aN
  have fc:=ak.cn aN
  replace ⟨h1,h4,W,J,E,C,ab⟩:=(sn [r_k,ae,ac] cQ aN).g7 h1 h4 W J E C ab
  have aG:Own (α:=Smp) gn aU 85 (nin (ge w.heap.size) [aU,r_k,ae,ac]) 0 0 []:=Own.Aj e8
  refine .go 3<|.cl (fun cR bV=>EP s.idx.names (h1.ta.ext bV) p0.1.1 p0.1.2 (w:=cR) (F:=all)) ?_
  intro cR bV
  replace ⟨h4,W,J,E,aG,C,ab⟩:=(se [aU,r_k,ae,ac] bV).g7 h4 W J E aG C ab
  rintro jG jH ⟨⟨_,rfl,⟨gp,jI,gq,gr,jJ,gs,rfl,aH,aI⟩⟩,bW⟩
  have bX:=al4 aG.lt E.lt J.lt W.lt
  have cS:Gb w.heap.size cR.heap.size:=C.size
  have hkeep_:=bW
  replace ⟨h4,J,E,aG,C,ab⟩:=(se [aU,r_k,ae,ac] bW).g6 h4 J E aG C ab
  refine ⟨Ext.chg hkeep_,?_⟩
  have aH:=aH.fr bX cS
  have iz:=aH.max
  have aI:=aI.fr bX cS
  have iA:=aI.max
  have fd:=aH.len
  subst fd
  have fe:=aI.len
  subst fe
  refine .go 8<|GE.append (T:=30) (ty:=30) (args:=[vS aU 0 0,.slice a4 s.mem.length c4]) AA fun jK cT=>?_
  replace ⟨h4,J,E,aG,aH,aI,C,ab⟩:=(se [aU,r_k,ae,ac] cT).g8 h4 J E aG aH aI C ab
  obtain ⟨dq,gt,jL,cU,aO,bB,bY,ff⟩:=Own.BG (P:=Tryz.prog) (T:=30) (ty:=30) EU aG AA h4 (fun b h e=>h.2 (e▸AI)) (by have q1:=p0.2.1; have q2:=p0.2.2.2; omega)
  refine ⟨_,_,cU,Chg.toS bY (Cov.toS fc),?_⟩
  have fg:=Aw bB fb ab.size
  replace ⟨J,E,aH,aI,C,ab⟩:=(sa [aU,r_k,ae,ac] bY bB).g6 J E aH aI C ab
  replace aO:=aO.rn aU
  refine .d fun jM cV=>?_
  replace ⟨J,E,aO,aH,aI,C,ab⟩:=(se [dq,r_k,ae,ac] cV).g7 J E aO aH aI C ab
  exact ⟨(gp,gq,gr,gs,dq,gt),⟨AA,AA,AA,AA,trivial⟩,⟨ab,(Ad fg),aH,aI,aO⟩⟩
 rintro ⟨bn,bo,bq,br,aB,bt⟩ jN bG ⟨cW,bc,bd,bg,bh⟩
 have iD:=Ah bc J.lt
 have iE:=Ah bc E.lt
 have fh:=Bo bc C.size
 replace ⟨J,E,C⟩:=(sz [r_k,ae,ac] cW bc).g3 J E C
 refine .r 1<|.sc [.slice bn ((idxOf s.idx.names).names.length) bo,.slice bq ((idxOf s.idx.names).AY.length) br,vS r_k n_k c_k,vS aB (0+s.mem.length) bt] J fun gu cX fi fj=>?_
 replace ⟨E,bd,bg,bh,C⟩:=(so [aB,r_k,ae,ac] cX).g5 E bd bg bh C
 refine .d ?_
 have gv:=E.sl fB
 replace ⟨bd,bg,bh⟩:=(sd gu [aB,r_k,ae,ac] r_k).g3 bd bg bh
 exact .rb func71 results71 fi ⟨⟨bn,(idxOf s.idx.names).names.length,bo,bq,(idxOf s.idx.names).AY.length,br,(some ⟨r_k,0,none⟩),n_k,c_k,aB,(0+s.mem.length),bt,rfl,((RepS.Ap bd (all_cons AI all_nil)).eqx AF),((RepS.Ap bg (all_cons AI all_nil)).eqx AF),((RepS.Ap gv (all_cons AI all_nil)).eqx (by have q1:=Ab (xs:=s.parts) (k:=k1) AB; have q2:k++s.parts.drop k1=s.parts:=‹_›; rw [q1,List.append_nil] at q2; exact q2)),((Own.Ap bh (all_cons AI all_nil)).eqx AF),fh⟩,C⟩
end Go.Proofs.YtggnnidleedpaaaGreat
namespace Go.Proofs.YtggnnidleedpaaaGreat
def BH (d:Dsk) (n:Int):Prt:=(d.files.getD (Av d n).toNat default).part
def At (d:Dsk):Sto:=⟨idxOf d.names,d.list.map (BH d),[]⟩
def JM (f:Fil):Fil:=⟨f.num,BW f.part ⟨[],[]⟩⟩
def BP (d:Dsk):Dsk:=⟨d.files.map JM,d.list,d.names,d.next⟩
def DY (d:Dsk) (n:Int):List Fil:=if Av d n≥0∧d.list.contains n=false then d.files.take (Av d n).toNat++d.files.drop ((Av d n).toNat+1) else d.files
def doD (d:Dsk) (x:Stp):Dsk :=
 if x.kind=1 then ⟨d.files++[⟨x.num,x.part⟩],d.list,d.names,x.num+1⟩
 else if x.kind=2 then ⟨d.files,x.list,x.names,d.next⟩
 else if x.kind=3 then ⟨DY d x.num,d.list,d.names,d.next⟩
 else d
def toD (d:Dsk) (steps:List Stp) (cut:Int):Dsk:=(steps.take cut.toNat).foldl doD d
def BF (d:Dsk) (at_:Int):List Stp :=
 if !(inR at_ 0 ((d.list.length:Int) - 2)) || decide (d.next≥999) || decide (d.files.length≥20) then []
 else
  let a:=d.list.getD at_.toNat 0
  let b:=d.list.getD (at_.toNat+1) 0
  [⟨1,d.next,BW (BH d a) (BH d b),[],[]⟩,⟨2,0,⟨[],[]⟩,d.list.take at_.toNat++[d.next]++d.list.drop (at_.toNat+2),d.names⟩,⟨3,a,⟨[],[]⟩,[],[]⟩,⟨3,b,⟨[],[]⟩,[],[]⟩]
def BE (w:Wld):Wld:=⟨Am (At (BP (BM w.disk))),BP (BM w.disk)⟩
def BZ (w:Wld) (steps:List Stp) (cut:Int) (s:Sto):Wld :=
 if steps.length=0∨cut< 0 then w
 else if cut< steps.length then BE ⟨w.store,toD w.disk steps cut⟩ else ⟨s,toD w.disk steps cut⟩
def doW (w:Wld) (e:Evt):Wld :=
 if e.kind=1 then (if BC e.name then ⟨(CI w.store e.name e.row).1,w.disk⟩ else w)
 else if e.kind=2 then BZ w (BD w.disk w.store) e.cut (As w.store).1
 else if e.kind=3 then BZ w (BF w.disk e.at_) e.cut (Au w.store e.at_).1
 else if e.kind=4 then BE w
 else w
def Cd (w:Wld):Wld:=⟨Am w.store,BP w.disk⟩
theorem Iu (n:Int):∀ (fs:List Fil) (i:Nat),C1 n i fs< (i:Int)+fs.length∧(C1 n i fs = -1∨(i:Int)≤C1 n i fs):=by
 intro fs
 induction fs with
 | nil=>intro i; simp [C1]; omega
 | cons f fs ih =>
   intro i
   have h:=ih (i+1)
   simp only [C1,List.length_cons]
   split <;> omega
theorem Ce (d:Dsk) (n:Int):Av d n< d.files.length:=by have:=Iu n d.files 0; unfold Av; omega
theorem G7 (d:Dsk) (n:Int):Av d n ≥ -1:=by have:=Iu n d.files 0; unfold Av; omega
theorem He {d:Dsk}{n:Int}(h:∀ n∈d.list,0≤Av d n) (hm:n∈d.list):(Av d n).toNat< d.files.length:=by
 have h1:=h n hm
 have h2:=Ce d n
 omega
theorem Hf {d:Dsk}{n:Int}(h:∀ n∈d.list,0≤Av d n) (hm:n∈d.list):Av d n=((Av d n).toNat:Int):=by
 have h1:=h n hm
 omega
theorem ER {d:Dsk}{n:Int}{f:Fil}(h:d.files[(Av d n).toNat]? = some f):BH d n=f.part:=by
 unfold BH; rw [List.getD_eq_getElem?_getD,h]; rfl
theorem mapStep {α β:Type}{l:List α}{f:α→β}{i:Nat}{k:List β}{q:α}{y:β}(h:k++(l.drop i).map f=l.map f) (hd:l.drop i=q::l.drop (i+1)) (hy:y=f q):(k++[y])++(l.drop (i+1)).map f=l.map f:=by
 subst hy
 rw [hd] at h
 simpa using h
theorem PD {α β:Type}{l:List α}{f:α→β}{i:Nat}{k:List β}(h:k++(l.drop i).map f=l.map f) (hi:l.length≤i):k=l.map f:=by
 rw [Ab hi] at h
 simpa using h
theorem toStep {l:List Stp}{c:Nat}{i:Nat}{d:Dsk}{q:Stp}{Y:Dsk}(h:((l.take c).drop i).foldl doD d=Y) (hd:l.drop i=q::l.drop (i+1)) (hc:i< c):((l.take c).drop (i+1)).foldl doD (doD d q)=Y:=by
 have h1:(l.take c).drop i=q::(l.take c).drop (i+1):=by
  rw [List.drop_take,List.drop_take,hd,show c - i=(c - (i+1))+1 by omega]
  rfl
 rw [h1] at h
 exact h
theorem toEnd {l:List Stp}{c:Nat}{i:Nat}{d:Dsk}{Y:Dsk}(h:((l.take c).drop i).foldl doD d=Y) (hc:l.length≤i∨c≤i):d=Y:=by
 rw [List.drop_of_length_le (by rw [List.length_take]; omega)] at h
 exact h
theorem E6 {d:Dsk}{x:Stp}(h:x.kind=1):doD d x=⟨d.files++[⟨x.num,x.part⟩],d.list,d.names,x.num+1⟩:=by unfold doD; rw [if_pos h]
theorem Fs {d:Dsk}{x:Stp}(h:x.kind=2):doD d x=⟨d.files,x.list,x.names,d.next⟩:=by unfold doD; rw [if_neg AB,if_pos h]
theorem Ej {d:Dsk}{x:Stp}(h:x.kind=3):doD d x=⟨DY d x.num,d.list,d.names,d.next⟩:=by unfold doD; rw [if_neg AB,if_neg AB,if_pos h]
theorem R8 {d:Dsk}{x:Stp}(h:x.kind≠1) (h2:x.kind≠2) (h3:x.kind≠3):doD d x=d:=by unfold doD; rw [if_neg h,if_neg h2,if_neg h3]
theorem Ml {d:Dsk}{n:Int}(h:Av d n≥0) (h2:d.list.contains n=false):DY d n=d.files.take (Av d n).toNat++d.files.drop ((Av d n).toNat+1):=by unfold DY; rw [if_pos ⟨h,h2⟩]
theorem K3 {d:Dsk}{n:Int}(h:¬ Av d n≥0∨d.list.contains n=true):DY d n=d.files:=by unfold DY; rw [if_neg]; rintro ⟨h1,h2⟩; rcases h with h | h; exact h h1; rw [h2] at h; cases h
theorem G8 {d:Dsk}{a:Int}(h:inR a 0 ((d.list.length:Int) - 2)=false∨d.next≥999∨(d.files.length:Int)≥20):BF d a=[]:=by
 unfold BF
 rw [if_pos]
 rcases h with h | h | h
 ·simp [h]
 ·simp [h]
 ·have h:d.files.length≥20:=by omega
  simp [h]
theorem KF {d:Dsk}{at_ a b:Int}{f g:Fil}(h:inR at_ 0 ((d.list.length:Int) - 2)=true) (h2:¬ d.next≥999) (h3:¬ (d.files.length:Int)≥20) (ha:d.list[at_.toNat]? = some a) (hb:d.list[(at_+1).toNat]? = some b)
 (hf:d.files[(Av d a).toNat]? = some f) (hg:d.files[(Av d b).toNat]? = some g) :
 BF d at_=[⟨1,d.next,BW f.part g.part,[],[]⟩,⟨2,0,⟨[],[]⟩,(([]++(d.list.take at_.toNat).drop 0)++[d.next])++(d.list.take d.list.length).drop (at_+2).toNat,d.names⟩,⟨3,a,⟨[],[]⟩,[],[]⟩,⟨3,b,⟨[],[]⟩,[],[]⟩]:=by
 have h0:=CF h
 have e1:(at_+1).toNat=at_.toNat+1:=by omega
 have e2:(at_+2).toNat=at_.toNat+2:=by omega
 rw [e1] at hb
 have h4:¬ d.files.length≥20:=by omega
 unfold BF
 rw [if_neg (by simp [h]; omega),← ER hf,← ER hg,e2,List.getD_eq_getElem?_getD,List.getD_eq_getElem?_getD,ha,hb]
 simp
theorem NY {d:Dsk}{x:Stp}(h:x.list.length≤1000) (hd:d.list.length≤1000):(doD d x).files.length≤d.files.length+1∧(doD d x).list.length≤1000:=by
 unfold doD DY
 split
 ·simp; exact hd
 ·split
  ·simp; exact h
  ·split
   ·simp only
    split <;> simp <;> omega
   ·omega
def II (x:Stp):Prop:=x.list.length≤1000∧x.names.length≤1000∧(∀ n∈x.names,n.length≤1000) ∧ -9000000≤x.num∧x.num≤9000000
end Go.Proofs.YtggnnidleedpaaaGreat
