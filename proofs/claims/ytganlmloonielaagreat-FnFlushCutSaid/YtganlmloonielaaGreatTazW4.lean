/- walks; hints pruned; squeezed -/
import Derived.Test.YtganlmloonielaaGreatTazMem
set_option linter.unusedVariables false
set_option linter.unusedSimpArgs false
namespace Go.Proofs.YtganlmloonielaaGreat
set_option maxRecDepth 100000
set_option maxHeartbeats 4000000
theorem Kn  {w:World} {F:Nat→Prop}   : Calls Tryz.prog 169 [].toArray w (As fun rv w'=>VS (ge w.heap.size) w' ((⟨[],[]⟩:Idx):Idx) rv∧Ext w w'):=by
 refine goT Tryz.func169<|.s<|.g<|.np 30 [.slice none 0 0,.slice none 0 0] fun ab aG af ag E al=>?_
 have aC:Cov nil w ab:=Bc af (Nat.le_refl _)
 have C:=ag
 refine .d<|.s<|.g<|.ns 0 77 [] fun O az ae ah am ao=>?_
 have aD:=AS ae E.lt
 have aq:=Ad ae C.size
 replace ⟨E,C⟩:=(se [] ah).g2 E C
 have J:Own (α:=List Tag) az O 77 (nin (ge w.heap.size) [O,ab]) 0 0 []:=Own.Ag am
 refine .ns 0 149 [] fun ac aA W ai ar au=>?_
 have aE:=AS W E.lt
 have aF:=AS W J.lt
 have av:=Ad W C.size
 replace ⟨E,J,C⟩:=(sn [O,ab] ai W).g3 E J C
 have aa:Own (α:=Pst) aA ac 149 (nin (ge w.heap.size) [ac,O,ab]) 0 0 []:=Own.Ag ar
 refine .r 1<|.sc [vS O 0 0,vS ac 0 0] E fun aw aj ax ay=>?_
 replace ⟨J,aa,C⟩:=(so [ac,O,ab] aj).g3 J aa C
 refine .d ?_
 have ak:=J.sl aq
 replace aa:=(sd aw [ac,O,ab] O).g1 aa
 have aB:=aa.sl av
 replace ak:=(sd aw [ac,ab] ac).g1 ak
 exact .rb Tryz.func169 Tryz.results169 ax ⟨⟨_,rfl,⟨_,_,_,_,_,_,rfl,ak.w1,aB.w1⟩⟩,C⟩
theorem Ko  {w:World} {F:Nat→Prop}   : Calls Tryz.prog 132 [].toArray w (As fun rv w'=>VS (ge w.heap.size) w' ((⟨⟨[],[]⟩,[],[]⟩:Sto):Sto) rv∧Ext w w'):=by
 refine goT Tryz.func132<|.s<|.g<|.np 34 [.slice none 0 0,.slice none 0 0,.slice none 0 0,.slice none 0 0] fun aa au ai aj E av=>?_
 have aO:Cov nil w aa:=Bc ai (Nat.le_refl _)
 have C:=aj
 refine .d<|.s<|.g<|.cl (Kn (w:=au) (F:=all)) ?_
 rintro aU aV ⟨⟨_,rfl,⟨aH,aW,aI,aJ,aX,aK,rfl,J,O⟩⟩,ak⟩
 have ah:=al1 E.lt
 have al:Gb w.heap.size au.heap.size:=C.size
 replace ⟨E,C⟩:=(se [] ak).g2 E C
 have J:=J.fr ah al
 have aP:=J.max
 have O:=O.fr ah al
 have aQ:=O.max
 have aw:=J.len
 subst aw
 have ax:=O.len
 subst ax
 refine .ns 0 42 [] fun ab aL ag am ay az=>?_
 have aR:=AS ag E.lt
 have aA:=Ad ag C.size
 replace ⟨E,J,O,C⟩:=(sn [aa] am ag).g4 E J O C
 have W:Own (α:=Prt) aL ab 42 (nin (ge w.heap.size) [ab,aa]) 0 0 []:=Own.Ag ay
 refine .ns 0 107 [] fun af aM ac ao aB aC=>?_
 have aS:=AS ac E.lt
 have aT:=AS ac W.lt
 have aD:=Ad ac C.size
 replace ⟨E,J,O,W,C⟩:=(sn [ab,aa] ao ac).g5 E J O W C
 have ae:Own (α:=Smp) aM af 107 (nin (ge w.heap.size) [af,ab,aa]) 0 0 []:=Own.Ag aB
 refine .r 1<|.sc [.slice aH ((((⟨[],[]⟩:Idx)).names).length) aI,.slice aJ ((((⟨[],[]⟩:Idx)).AV).length) aK,vS ab 0 0,vS af 0 0] E fun aE aq aF aG=>?_
 replace ⟨J,O,W,ae,C⟩:=(so [af,ab,aa] aq).g5 J O W ae C
 refine .d ?_
 have ar:=W.sl aA
 replace ⟨J,O,ae⟩:=(sd aE [af,ab,aa] ab).g3 J O ae
 have aN:=ae.sl aD
 replace ⟨J,O,ar⟩:=(sd aE [af,aa] af).g3 J O ar
 exact .rb Tryz.func132 Tryz.results132 aF ⟨(VS.of (y:=(⟨(⟨((⟨[],[]⟩:Idx)).names,((⟨[],[]⟩:Idx)).AV⟩:Idx),[],[]⟩:Sto)) ⟨_,rfl,⟨_,_,_,_,_,_,_,_,_,_,_,_,rfl,J.w1,O.w1,ar.w1,aN.w1⟩⟩ (by rfl)),C⟩
theorem J7  {w:World} {F:Nat→Prop}   : Calls Tryz.prog 133 [].toArray w (As fun rv w'=>VS (ge w.heap.size) w' ((⟨[],[],[],1⟩:Dsk):Dsk) rv∧Ext w w'):=by
 refine goT Tryz.func133<|.s<|.g<|.np 27 [.slice none 0 0,.slice none 0 0,.slice none 0 0,vI 0] fun aa aS aj ak E av=>?_
 have aL:Cov nil w aa:=Bc aj (Nat.le_refl _)
 have C:=ak
 refine .d<|.s<|.g<|.ns 0 66 [] fun ab aH ah al aw ax=>?_
 have aM:=AS ah E.lt
 have ay:=Ad ah C.size
 replace ⟨E,C⟩:=(se [] al).g2 E C
 have J:Own (α:=Fil) aH ab 66 (nin (ge w.heap.size) [ab,aa]) 0 0 []:=Own.Ag aw
 refine .ns 0 3 [] fun ae aI af am az aA=>?_
 have aN:=AS af E.lt
 have aO:=AS af J.lt
 have aB:=Ad af C.size
 replace ⟨E,J,C⟩:=(sn [ab,aa] am af).g3 E J C
 have O:Own (α:=Int) aI ae 3 (nin (ge w.heap.size) [ae,ab,aa]) 0 0 []:=Own.Ag az
 refine .ns 0 77 [] fun ag aJ ac ao aC aD=>?_
 have aP:=AS ac E.lt
 have aQ:=AS ac J.lt
 have aR:=AS ac O.lt
 have aE:=Ad ac C.size
 replace ⟨E,J,O,C⟩:=(sn [ae,ab,aa] ao ac).g4 E J O C
 have W:Own (α:=List Tag) aJ ag 77 (nin (ge w.heap.size) [ag,ae,ab,aa]) 0 0 []:=Own.Ag aC
 refine .r 1<|.sc [vS ab 0 0,vS ae 0 0,vS ag 0 0,vI 1] E fun ar aq aF aG=>?_
 replace ⟨J,O,W,C⟩:=(so [ag,ae,ab,aa] aq).g4 J O W C
 refine .d ?_
 have ai:=J.sl ay
 replace ⟨O,W⟩:=(sd ar [ag,ae,ab,aa] ab).g2 O W
 have au:=O.sl aB
 replace ⟨ai,W⟩:=(sd ar [ag,ae,aa] ae).g2 ai W
 have aK:=W.sl aE
 replace ⟨ai,au⟩:=(sd ar [ag,aa] ag).g2 ai au
 exact .rb Tryz.func133 Tryz.results133 aF ⟨⟨_,rfl,⟨_,_,_,_,_,_,_,_,_,rfl,ai.w1,au.w1,aK.w1⟩⟩,C⟩
theorem JT  {w:World} {F:Nat→Prop}   : Calls Tryz.prog 88 [].toArray w (As fun rv w'=>VS (ge w.heap.size) w' ((⟨⟨⟨[],[]⟩,[],[]⟩,⟨[],[],[],1⟩⟩:Wld):Wld) rv∧Ext w w'):=by
 refine goT Tryz.func88<|.s<|.g<|.np 70 [.slice none 0 0,.slice none 0 0,.slice none 0 0,.slice none 0 0,.slice none 0 0,.slice none 0 0,.slice none 0 0,vI 0] fun aq ar aj ak E au=>?_
 have aT:Cov nil w aq:=Bc aj (Nat.le_refl _)
 have C:=ak
 refine .d<|.s<|.g<|.cl (Ko (w:=ar) (F:=all)) ?_
 rintro bc av ⟨⟨_,rfl,⟨aF,bd,aG,aH,bg,aI,aJ,bh,aK,aL,bi,aM,rfl,J,O,W,aa⟩⟩,al⟩
 have ab:=al1 E.lt
 have ag:Gb w.heap.size ar.heap.size:=C.size
 replace ⟨E,C⟩:=(se [] al).g2 E C
 have J:=J.fr ab ag
 have aU:=J.max
 have O:=O.fr ab ag
 have aV:=O.max
 have W:=W.fr ab ag
 have aW:=W.max
 have aa:=aa.fr ab ag
 have aX:=aa.max
 have aw:=J.len
 subst aw
 have ax:=O.len
 subst ax
 have ay:=W.len
 subst ay
 have az:=aa.len
 subst az
 refine .cl (J7 (w:=av) (F:=all)) ?_
 rintro bj bk ⟨⟨_,rfl,⟨aN,bm,aO,aP,bn,aQ,aR,bo,aS,rfl,ac,ae,af⟩⟩,am⟩
 have ah:=al1 E.lt
 have ai:Gb w.heap.size av.heap.size:=C.size
 replace ⟨E,J,O,W,aa,C⟩:=(se [aq] am).g6 E J O W aa C
 have ac:=ac.fr ah ai
 have aY:=ac.max
 have ae:=ae.fr ah ai
 have aZ:=ae.max
 have af:=af.fr ah ai
 have ba:=af.max
 have aA:=ac.len
 subst aA
 have aB:=ae.len
 subst aB
 have aC:=af.len
 subst aC
 refine .r 1<|.sc [.slice aF (((((⟨⟨[],[]⟩,[],[]⟩:Sto)).idx).names).length) aG,.slice aH (((((⟨⟨[],[]⟩,[],[]⟩:Sto)).idx).AV).length) aI,.slice aJ ((((⟨⟨[],[]⟩,[],[]⟩:Sto)).parts).length) aK,.slice aL ((((⟨⟨[],[]⟩,[],[]⟩:Sto)).mem).length) aM,.slice aN ((((⟨[],[],[],1⟩:Dsk)).files).length) aO,.slice aP ((((⟨[],[],[],1⟩:Dsk)).list).length) aQ,.slice aR ((((⟨[],[],[],1⟩:Dsk)).names).length) aS,vI (((⟨[],[],[],1⟩:Dsk)).next)] E fun bq ao aD aE=>?_
 replace ⟨J,O,W,aa,ac,ae,af,C⟩:=(so [aq] ao).g8 J O W aa ac ae af C
 exact .d<|.rb Tryz.func88 Tryz.results88 aD ⟨(VS.of (y:=(⟨(⟨(⟨(((⟨⟨[],[]⟩,[],[]⟩:Sto)).idx).names,(((⟨⟨[],[]⟩,[],[]⟩:Sto)).idx).AV⟩:Idx),((⟨⟨[],[]⟩,[],[]⟩:Sto)).parts,((⟨⟨[],[]⟩,[],[]⟩:Sto)).mem⟩:Sto),(⟨((⟨[],[],[],1⟩:Dsk)).files,((⟨[],[],[],1⟩:Dsk)).list,((⟨[],[],[],1⟩:Dsk)).names,((⟨[],[],[],1⟩:Dsk)).next⟩:Dsk)⟩:Wld)) ⟨_,rfl,⟨_,_,_,_,_,_,_,_,_,_,_,_,_,_,_,_,_,_,_,_,_,rfl,J.w1,O.w1,W.w1,aa.w1,ac.w1,ae.w1,af.w1⟩⟩ (by rfl)),C⟩
theorem DW (a:Prt) (b:Prt) {w:World} {F:Nat→Prop} {a1:Option Addr} {n1 c1:Nat} (h1:RepS w F a1 n1 c1 a.ids) {a2:Option Addr} {n2 c2:Nat} (h2:RepS w F a2 n2 c2 a.blocks) {a3:Option Addr} {n3 c3:Nat} (h3:RepS w F a3 n3 c3 b.ids) {a4:Option Addr} {n4 c4:Nat} (h4:RepS w F a4 n4 c4 b.blocks)  : Calls Tryz.prog 20 [.agg #[.slice a1 n1 c1,.slice a2 n2 c2],.agg #[.slice a3 n3 c3,.slice a4 n4 c4]].toArray w (As fun rv w'=>rv=.bool ((a==b))∧Ext w w'):=by
 refine goT Tryz.func20 ?_
 obtain ⟨rfl,aM,h1⟩:=h1.tp
 obtain ⟨rfl,aN,h2⟩:=h2.tp
 obtain ⟨rfl,aO,h3⟩:=h3.tp
 obtain ⟨rfl,aP,h4⟩:=h4.tp
 refine .s<|.g<|.np 42 [.slice a1 a.ids.length c1,.slice a2 a.blocks.length c2] fun W aY ai ab E ax=>?_
 replace ⟨h1,h2,h3,h4⟩:=(sn [] ab ai).g4 h1 h2 h3 h4
 have C:=ab
 refine .np 42 [.slice a3 b.ids.length c3,.slice a4 b.blocks.length c4] fun aa aK aj ak J ay=>?_
 replace ⟨h1,h2,h3,h4,E,C⟩:=(sn [W] ak aj).g6 h1 h2 h3 h4 E C
 refine .r 1<|.d<|.s<|.s<|.g<|.r 1<|.lb E<|.r 1<|.lb J<|.cl (C6 a.ids b.ids h1.ta h3.ta (w:=aK) (F:=all)) ?_
 rintro aZ az ⟨rfl,al⟩
 replace ⟨h2,h4,E,J,C⟩:=(se [aa,W] al).g5 h2 h4 E J C
 cases aQ:(a.ids==b.ids)
 ·exact .r 10<|.d<|.ct<|.s<|.g<|.r 1<|.d<|.rt Tryz.func20 Tryz.results20 (.bool false) ⟨(congrArg Value.bool (by cases a; cases b; grind [AY])),C⟩
 refine .r 3<|.lb E<|.r 2<|.lb J<|.r 1<|.ne (a.blocks.length:Int) (b.blocks.length:Int) (fun aA=>.r 1<|.d<|.ct<|.s<|.g<|.r 1<|.d<|.rt Tryz.func20 Tryz.results20 (.bool false) ⟨(congrArg Value.bool (by cases a; cases b; grind [AY])),C⟩) fun aA=>.r 1<|.d<|.cf<|.sk<|.s<|.s<|.g<|.r 1<|.d<|.b 0<|T.loop (X:=Nat) 0 (fun i=>[(2,.pointer (some ⟨W,0,none⟩)),(3,.pointer (some ⟨aa,0,none⟩)),(5,vI (i:Int))]) (fun i au=>Chg (ins []) az au∧(i≤a.blocks.length)∧(a.blocks.drop i=b.blocks.drop i↔a.blocks=b.blocks)) (fun i=>a.blocks.length - i) AA ⟨AA,AA,AA,trivial⟩ ⟨Chg.refl _ _,(by simp),(by simp)⟩ ?_
 rintro i ba au ⟨O,aR,aS⟩ ac
 have am:Mv [aa,W] [aa,W] az au:=Mv.inl O all_nil (all_cons (.inl AD) (all_cons (.inl AE) all_nil))
 replace ⟨h2,h4,E,J,C⟩:=(sp am O).g5 h2 h4 E J C
 refine .s<|.s<|.g<|.r 2<|.lb E<|.r 1<|.bp ((i:Int)< (a.blocks.length:Int)) (fun aB=>?_) (fun aB=>.d<|.cf<|.x 0 rfl<|.s<|.g<|.r 1<|.d<|.rt Tryz.func20 Tryz.results20 (.bool true) ⟨(congrArg Value.bool (by cases a; cases b; grind [AY])),C⟩)
 refine .d<|.ct<|.sk<|.s<|.b 1<|.s<|.gd nil 10 fun bc ao=>?_
 replace ⟨h2,h4,E,J,C,O⟩:=(se [aa,W] ao).g6 h2 h4 E J C O
 refine .r [0]<|.lb 1 E id<|.r [2] ?_
 have aC:i< a.blocks.length:=AB
 refine .ix 3 i 1 h2 aC ?_
 obtain ⟨av,ae⟩:∃ y,a.blocks[i]? = some y:=⟨_,AP AB⟩
 have aT:=AX ae; have aI:=AQ ae
 obtain ⟨_,⟨bd,bg,bh,rfl,af⟩,aD⟩:=h2.elem i av ae
 have aE:=af.len
 subst aE
 have aU:=af.max
 refine .lh 4 0 aD id<|.r [5]<|.lb 6 J id<|.r [7] ?_
 have aF:i< b.blocks.length:=AB
 refine .ix 8 i 1 h4 aF ?_
 obtain ⟨aw,ag⟩:∃ y,b.blocks[i]? = some y:=⟨_,AP AB⟩
 have aV:=AX ag; have aJ:=AQ ag
 obtain ⟨_,⟨bi,bj,bk,rfl,ah⟩,aG⟩:=h4.elem i aw ag
 have aH:=ah.len
 subst aH
 have aW:=ah.max
 refine .lh 9 0 aG id<|.d fun aL aq=>?_
 replace ⟨af,ah,C,O⟩:=(se [aa,W] aq).g4 af ah C O
 refine .cl (HB av aw af.ta ah.ta (w:=aL) (F:=all)) ?_
 rintro bm bn ⟨rfl,ar⟩
 replace ⟨C,O⟩:=(se [] ar).g2 C O
 cases aX:(av==aw)
 ·exact .r 1<|.d<|.ct<|.s<|.g<|.r 1<|.d<|.rt Tryz.func20 Tryz.results20 (.bool false) ⟨(congrArg Value.bool (by cases a; cases b; grind [AY])),C⟩
 exact .r 1<|.d<|.cf<|.sk<|.ib 1<|.g<|.r 1<|.it ((i:Int)+1)<|.r 1<|.d<|ac (i+1) _ _ ⟨AA,AA,AA,trivial⟩ ⟨O,AB,(by grind)⟩ AB
theorem De (a:Prt) (b:Prt) {w:World} {F:Nat→Prop} {a1:Option Addr} {n1 c1:Nat} (h1:RepS w F a1 n1 c1 a.ids) {a2:Option Addr} {n2 c2:Nat} (h2:RepS w F a2 n2 c2 a.blocks) {a3:Option Addr} {n3 c3:Nat} (h3:RepS w F a3 n3 c3 b.ids) {a4:Option Addr} {n4 c4:Nat} (h4:RepS w F a4 n4 c4 b.blocks) (p0:Cw a) (p1:Cw b):Calls Tryz.prog 111 [.agg #[.slice a1 n1 c1,.slice a2 n2 c2],.agg #[.slice a3 n3 c3,.slice a4 n4 c4]].toArray w (As fun rv w'=>VS (ge w.heap.size) w' (BT a b:Prt) rv∧Ext w w'):=by
 refine goT Tryz.func111 ?_
 obtain ⟨rfl,b9,h1⟩:=h1.tp
 obtain ⟨rfl,cd,h2⟩:=h2.tp
 obtain ⟨rfl,ce,h3⟩:=h3.tp
 obtain ⟨rfl,cg,h4⟩:=h4.tp
 refine .s<|.g<|.np 42 [.slice a1 a.ids.length c1,.slice a2 a.blocks.length c2] fun ab cP aX aE E bB=>?_
 replace ⟨h1,h2,h3,h4⟩:=(sn [] aE aX).g4 h1 h2 h3 h4
 have C:=aE
 refine .np 42 [.slice a3 b.ids.length c3,.slice a4 b.blocks.length c4] fun ac cQ aY aZ J bC=>?_
 replace ⟨h1,h2,h3,h4,E,C⟩:=(sn [ab] aZ aY).g6 h1 h2 h3 h4 E C
 refine .np 42 [.slice none 0 0,.slice none 0 0] fun ae cR aF ba O bD=>?_
 have ci:=C.cn aF
 replace ⟨h1,h2,h3,h4,E,J,C⟩:=(sn [ac,ab] ba aF).g7 h1 h2 h3 h4 E J C
 refine .d<|.s<|.g<|.ns 0 91 [] fun av aG am bc bE bF=>?_
 have bG:=AS am E.lt
 have bH:=AS am J.lt
 have bI:=AS am O.lt
 have bJ:=C.cn am
 replace ⟨h1,h2,h3,h4,E,J,O,C⟩:=(sn [ae,ac,ab] bc am).g8 h1 h2 h3 h4 E J O C
 have bK:Own (α:=List Row) aG av 91 (nin (ge w.heap.size) [av,ae,ac,ab]) 0 0 []:=Own.Ag bE
 refine .r 1<|.d<|.s<|.s<|.g<|.r 1<|.d<|.b 0<|T.loop (X:=(List (List Row)) × Nat × Nat × Nat × Nat) (([]:List (List Row)),av,0,0,1) (fun (blocks,r_blocks,n_blocks,c_blocks,id)=>[(2,.pointer (some ⟨ab,0,none⟩)),(3,.pointer (some ⟨ac,0,none⟩)),(4,.pointer (some ⟨ae,0,none⟩)),(5,vS r_blocks n_blocks c_blocks),(6,vI (id:Int))]) (fun (blocks,r_blocks,n_blocks,c_blocks,id) ao=>Chg (ins [av]) aG ao∧Own ao r_blocks 91 (nin (ge w.heap.size) [r_blocks,ae,ac,ab]) n_blocks c_blocks blocks∧OrB r_blocks av aG.heap.size∧(1≤id)∧(id≤7)∧(blocks=Be a b (id - 1))) (fun (blocks,r_blocks,n_blocks,c_blocks,id)=>7 - id) AA ⟨AA,AA,AA,AA,AA,trivial⟩ ⟨Chg.refl _ _,bK,BJ,(by simp [Be]),(by simp [Be]),(by simp [Be])⟩ ?_
 rintro ⟨blocks,r_blocks,n_blocks,c_blocks,id⟩ cS ao ⟨aa,W,ai,cj,ck,cm⟩ aH
 have bL:=Aw ai bG E.lt
 have bM:=Aw ai bH J.lt
 have co:=Aw ai bI O.lt
 have cp:=Ar ai bJ C.size
 have bN:Cov (ins [av]) aG av:=⟨.inl AD⟩
 have cq:=Ar ai bN (Nat.le_refl _)
 have bd:Mv [av,ae,ac,ab] [r_blocks,ae,ac,ab] aG ao:=Mv.inl aa (all_cons AD all_nil) (all_cons (BV ai AD) (all_cons (.inl AE) (all_cons (.inl AF) (all_cons (.inl AG) all_nil))))
 replace ⟨h1,h2,h3,h4,E,J,O,C⟩:=(sp bd aa).g8 h1 h2 h3 h4 E J O C
 have cr:=W.len; have cu:=W.max
 refine .s<|.s<|.g<|.r 1<|.bp ((id:Int)≤6) (fun bO=>?_) (fun bO=>?_)
 ·refine .d<|.ct<|.sk<|.s<|.b 1 ?_
  replace h1:=h1.Ah
  replace h2:=h2.Ah
  replace h3:=h3.Ah
  replace h4:=h4.Ah
  have bh:Gb (ab+1) ao.heap.size:=E.lt
  have bi:Gb (ac+1) ao.heap.size:=J.lt
  refine .gd (mtb [r_blocks] ao.heap.size) 9 fun cv aI=>?_
  replace ⟨h1,h2,h3,h4,E,J,O,W,C,aa⟩:=(se [r_blocks,ae,ac,ab] aI).g10 h1 h2 h3 h4 E J O W C aa
  refine .r [0]<|.ln 1 E (Ax (all_cons (Nb.symm bL) all_nil) bh)<|.r [2]<|.ln 4 J (Ax (all_cons (Nb.symm bM) all_nil) bi)<|.r [5]<|.go 3<|.cl (fun aJ aq=>Dw a (id:Int) ((h1.base (fun _ _ h=>h.1)).ext aq) ((h2.base (fun _ _ h=>h.1)).ext aq) (by grind [Cw]) (w:=aJ) (F:=nin (fo F w.heap.size) [r_blocks,ae,ac,ab])) ?_
  intro aJ aq
  replace ⟨h3,h4,E,J,O,W,C,aa⟩:=(se [r_blocks,ae,ac,ab] aq).g8 h3 h4 E J O W C aa
  rintro cw cx ⟨⟨cy,cz,rfl,ah⟩,aw⟩
  have aK:=al4 W.lt O.lt J.lt E.lt
  have bj:Gb w.heap.size aJ.heap.size:=C.size
  have hkeep_:=aw
  replace ⟨h3,h4,E,J,O,W,C,aa⟩:=(se [r_blocks,ae,ac,ab] aw).g8 h3 h4 E J O W C aa
  refine ⟨Ext.chg hkeep_,?_⟩
  replace ah:=RepS.Aa (M:=[r_blocks,ae,ac,ab]) ah aK bj
  have bX:=ah.max
  refine .go 6<|.cl (fun aL ar=>Dw b (id:Int) ((h3.base (fun _ _ h=>h.1)).ext ar) ((h4.base (fun _ _ h=>h.1)).ext ar) (by grind [Cw]) (w:=aL) (F:=nin (fo F w.heap.size) [r_blocks,ae,ac,ab])) ?_
  intro aL ar
  replace ⟨E,J,O,W,ah,C,aa⟩:=(se [r_blocks,ae,ac,ab] ar).g7 E J O W ah C aa
  rintro cA cB ⟨⟨cC,cD,rfl,aB⟩,ax⟩
  have aM:=al4 W.lt O.lt J.lt E.lt
  have bk:Gb w.heap.size aL.heap.size:=C.size
  have hkeep_:=ax
  replace ⟨E,J,O,W,ah,C,aa⟩:=(se [r_blocks,ae,ac,ab] ax).g7 E J O W ah C aa
  refine ⟨Ext.chg hkeep_,?_⟩
  replace aB:=RepS.Aa (M:=[r_blocks,ae,ac,ab]) aB aM bk
  have bY:=aB.max
  refine .go 7<|.cl (fun aN au=>GQ (partOf a (id:Int)) (partOf b (id:Int)) (ah.ta.ext au) (aB.ta.ext au) (by have q1:=Ck p0 id; have q2:=Ck p1 id; omega) (w:=aN) (F:=all)) ?_
  intro aN au
  replace ⟨E,J,O,W,C,aa⟩:=(se [r_blocks,ae,ac,ab] au).g6 E J O W C aa
  rintro cE cF ⟨⟨bP,bQ,rfl,af⟩,ay⟩
  have aO:=al4 W.lt O.lt J.lt E.lt
  have bm:Gb w.heap.size aN.heap.size:=C.size
  have hkeep_:=ay
  replace ⟨E,J,O,W,C,aa⟩:=(se [r_blocks,ae,ac,ab] ay).g6 E J O W C aa
  refine ⟨Ext.chg hkeep_,?_⟩
  have af:=af.fr aO bm
  have bZ:=af.max
  refine .go 8<|.ns 1 91 [.slice bP ((Bk (partOf a (id:Int)) (partOf b (id:Int))).length) bQ] fun cG aP=>?_
  replace ⟨E,J,O,W,af,C,aa⟩:=(se [r_blocks,ae,ac,ab] aP).g7 E J O W af C aa
  intro bg cH ag aQ az bn
  have bo:=AS ag E.lt
  have bq:=AS ag J.lt
  have br:=AS ag O.lt
  have aR:=AS ag W.lt
  have bt:=Ad ag C.size
  replace ⟨E,J,O,W,af,C,aa⟩:=(se [r_blocks,ae,ac,ab] aQ).g7 E J O W af C aa
  refine .d fun cI aS=>?_
  replace ⟨E,J,O,W,af,az,C,aa⟩:=(se [r_blocks,ae,ac,ab] aS).g8 E J O W af az C aa
  have aD:nin (ge w.heap.size) [r_blocks,ae,ac,ab] bg∧bg≠r_blocks:=BG bt (all_cons aR (all_cons br (all_cons bq (all_cons bo all_nil)))) aR
  refine RG.Ap (T:=40) (ty:=40) (y:=Bk (partOf a (id:Int)) (partOf b (id:Int))) W az AA AA ⟨_,_,_,rfl,af.oi⟩ aD (by grind [Dn]) fun bR bS cJ aj aC aT=>?_
  have bu:=Bo aC ai aa.size
  replace ⟨E,J,O,C,aa⟩:=(s1 aT).g5 E J O C aa
  replace aj:=aj.rn r_blocks
  have b0:=aj.len; have b6:=aj.max
  exact .r 1<|.d<|.ib 1<|.g<|.r 1<|.it ((id:Int)+1)<|.r 1<|.d<|aH ((blocks++[Bk (partOf a (id:Int)) (partOf b (id:Int))]),bR,n_blocks+1,bS,id+1) _ _ ⟨AA,AA,AA,AA,AA,trivial⟩ ⟨aa,aj,bu,AB,AB,(by obtain ⟨q,rfl⟩:∃ q,id=q+1:=⟨id - 1,by omega⟩; have:=Hk a b q; grind)⟩ (by (simp only []; omega))
 refine .d<|.cf<|.x 0 rfl<|.s<|.g<|.r 1<|.cl (GR blocks (W.rep) (by grind [Dn]) (by have q:=MW p0 p1 6; grind) (w:=ao) (F:=all)) ?_
 rintro cK cL ⟨⟨_,rfl,⟨bT,cM,bU,bV,cN,bW,rfl,ak,al⟩⟩,aU⟩
 have aA:=al4 W.lt O.lt J.lt E.lt
 have aV:Gb w.heap.size ao.heap.size:=C.size
 replace ⟨O,C⟩:=(se [] aU).g2 O C
 have ak:=ak.fr aA aV
 have b7:=ak.max
 have al:=al.fr aA aV
 have b8:=al.max
 have bv:=ak.len
 subst bv
 have bw:=al.len
 subst bw
 refine .sc [.slice bT (((DI blocks).ids).length) bU,.slice bV (((DI blocks).blocks).length) bW] O fun cO aW bz bA=>?_
 replace ⟨ak,al,C⟩:=(so [r_blocks,ae,ac,ab] aW).g3 ak al C
 exact .d<|.rb Tryz.func111 Tryz.results111 bz ⟨(VS.of (y:=(DI blocks)) ⟨_,rfl,⟨_,_,_,_,_,_,rfl,ak.w1,al.w1⟩⟩ (by grind [BT])),C⟩
theorem GU (s:Sto) (id:Int) {w:World} {F:Nat→Prop} {a1:Option Addr} {n1 c1:Nat} (h1:RepS w F a1 n1 c1 s.idx.names) {a2:Option Addr} {n2 c2:Nat} (h2:RepS w F a2 n2 c2 s.idx.AV) {a3:Option Addr} {n3 c3:Nat} (h3:RepS w F a3 n3 c3 s.parts) {a4:Option Addr} {n4 c4:Nat} (h4:RepS w F a4 n4 c4 s.mem) (p0:s.parts.length≤100) (p1:∀ p∈s.parts,Cw p) (p2:s.mem.length≤1000):Calls Tryz.prog 116 [.agg #[.slice a1 n1 c1,.slice a2 n2 c2,.slice a3 n3 c3,.slice a4 n4 c4],.int .i64 id].toArray w (As fun rv w'=>VL (ge w.heap.size) w' (rowsOf s id:List Row) rv∧Ext w w'):=by
 refine goT Tryz.func116 ?_
 obtain ⟨rfl,br,h1⟩:=h1.tp
 obtain ⟨rfl,bt,h2⟩:=h2.tp
 obtain ⟨rfl,bu,h3⟩:=h3.tp
 obtain ⟨rfl,bv,h4⟩:=h4.tp
 refine .s<|.g<|.np 34 [.slice a1 s.idx.names.length c1,.slice a2 s.idx.AV.length c2,.slice a3 s.parts.length c3,.slice a4 s.mem.length c4] fun J bP aA ak C aO=>?_
 replace ⟨h3,h4⟩:=(sn [] ak aA).g2 h3 h4
 have E:=ak
 refine .r 1<|.d<|.s<|.g<|.ns 0 105 [] fun al ax ah aB aP aQ=>?_
 have bw:=AS ah C.lt
 have aR:=Ad ah E.size
 replace ⟨h3,h4,C,E⟩:=(sn [J] aB ah).g4 h3 h4 C E
 have aS:Own (α:=Row) ax al 105 (nin (ge w.heap.size) [al,J]) 0 0 []:=Own.Ag aP
 refine .r 1<|.d<|.s<|.s<|.g<|.r 1<|.d<|.b 0 ?_
 have bi:=aS.sl aR
 replace ⟨h3,h4⟩:=(sd ax [al,J] al).g2 h3 h4
 refine T.loop (X:=(List Row) × (Option Addr) × Nat × Nat × Nat) (([]:List Row),some ⟨al,0,none⟩,0,0,0) (fun (out,a_out,n_out,c_out,i)=>[(1,vI id),(2,.pointer (some ⟨J,0,none⟩)),(5,.slice a_out n_out c_out),(6,vI (i:Int))]) (fun (out,a_out,n_out,c_out,i) ae=>Chg (ins []) ax ae∧RepS ae (nin (ge w.heap.size) [J]) a_out n_out c_out out∧(i≤s.parts.length)∧(out.length≤1000 * i)∧((s.parts.drop i).foldl (CZ id) out=s.parts.foldl (CZ id) [])) (fun (out,a_out,n_out,c_out,i)=>s.parts.length - i) AA ⟨AA,AA,AA,AA,trivial⟩ ⟨Chg.refl _ _,bi,(by simp),(by simp),(by simp)⟩ ?_
 rintro ⟨out,a_out,n_out,c_out,i⟩ bQ ae ⟨W,O,bz,bA,bB⟩ am
 have aC:Mv [J] [J] ax ae:=Mv.inl W all_nil (all_cons (.inl AD) all_nil)
 replace ⟨h3,h4,C,E⟩:=(sp aC W).g4 h3 h4 C E
 have bC:=O.len; have bD:=O.max
 refine .s<|.s<|.g<|.r 2<|.lb C<|.r 1<|.bp ((i:Int)< (s.parts.length:Int)) (fun aT=>?_) (fun aT=>?_)
 ·refine .d<|.ct<|.sk<|.s<|.b 1<|.g<|.r 2<|.lb C<|.r 1 ?_
  have aU:i< s.parts.length:=AB
  refine .ix i 2 h3 aU ?_
  obtain ⟨ao,aq⟩:∃ y,s.parts[i]? = some y:=⟨_,AP AB⟩
  have bE:=AX aq; have bh:=AQ aq
  obtain ⟨_,⟨bR,bS,bT,bU,bV,bW,rfl,aH,aI⟩,aV⟩:=h3.elem i ao aq
  have aW:=aH.len
  subst aW
  have bF:=aH.max
  have aX:=aI.len
  subst aX
  have bG:=aI.max
  refine .lg 0 aV<|.r 1<|.cl (Dw ao id aH aI (by grind [Cw]) (w:=ae) (F:=nin (fo F w.heap.size) [J])) ?_
  rintro bX aY ⟨⟨bY,bZ,rfl,ay⟩,aD⟩
  have aE:=al1 C.lt
  have aZ:Gb w.heap.size ae.heap.size:=E.size
  replace ⟨h4,C,O,E,W⟩:=(se [J] aD).g5 h4 C O E W
  replace ay:=RepS.Aa (M:=[J]) ay aE aZ
  have bH:=ay.max
  refine .cl (GQ out (partOf ao id) O.ta ay.ta (by grind [Ck]) (w:=aY) (F:=all)) ?_
  rintro b0 b6 ⟨⟨bj,bk,rfl,az⟩,aF⟩
  have aG:=al1 C.lt
  have ba:Gb w.heap.size aY.heap.size:=E.size
  replace ⟨h4,C,O,E,W⟩:=(se [J] aF).g5 h4 C O E W
  have az:=az.fr aG ba
  have bI:=az.max
  exact .r 1<|.d<|.ib 1<|.g<|.r 1<|.it ((i:Int)+1)<|.r 1<|.d<|am (Bk out (partOf ao id),bj,(Bk out (partOf ao id)).length,bk,i+1) _ _ ⟨AA,AA,AA,AA,trivial⟩ ⟨W,az,AB,(by grind [HN,Ck]),(by grind [CZ,HN,Ck])⟩ (by (simp only []; omega))
 refine .d<|.cf<|.x 0 rfl<|.s<|.s<|.g<|.r 1<|.d<|.b 2<|T.loop (X:=(List Row) × (Option Addr) × Nat × Nat × Nat) ((out:List Row),a_out,n_out,c_out,0) (fun (out,a_out,n_out,c_out,i)=>[(1,vI id),(2,.pointer (some ⟨J,0,none⟩)),(5,.slice a_out n_out c_out),(7,vI (i:Int))]) (fun (out,a_out,n_out,c_out,i) aj=>Chg (ins []) ae aj∧RepS aj (nin (ge w.heap.size) [J]) a_out n_out c_out out∧(i≤s.mem.length)∧(out.length≤100000+i)∧((s.mem.drop i).foldl (Cg id) out=rowsOf s id)) (fun (out,a_out,n_out,c_out,i)=>s.mem.length - i) AA ⟨AA,AA,AA,AA,trivial⟩ ⟨Chg.refl _ _,O,(by grind [rowsOf,AY]),(by grind [rowsOf,AY]),(by grind [rowsOf,AY])⟩ ?_
 rintro ⟨out,a_out,n_out,c_out,i⟩ bJ aj ⟨ab,aa,bK,bL,bM⟩ ac
 have ar:Mv [J] [J] ae aj:=Mv.inl ab all_nil (all_cons (.inl AD) all_nil)
 replace ⟨h4,C,E⟩:=(sp ar ab).g3 h4 C E
 have bm:=aa.len; have bn:=aa.max
 refine .s<|.s<|.g<|.r 2<|.lb C<|.r 1<|.bp ((i:Int)< (s.mem.length:Int)) (fun aJ=>?_) (fun aJ=>.d<|.cf<|.x 2 rfl<|.s<|.g<|.r 2<|.d<|.rt Tryz.func116 Tryz.results116 (.slice a_out n_out c_out) ⟨(aa.vl (by grind [AY]) (fun _ _ h=>h.1)),E⟩)
 refine .d<|.ct<|.sk<|.s<|.b 3<|.s<|.g<|.r 1<|.lb C<|.r 1 ?_
 have aK:i< s.mem.length:=AB
 refine .ix i 3 h4 aK<|.r 1 ?_
 obtain ⟨af,ag⟩:∃ y,s.mem[i]? = some y:=⟨_,AP AB⟩
 have bo:=AX ag; have bc:=AQ ag
 obtain ⟨_,rfl,au⟩:=h4.elem i af ag
 refine .lh 0 au<|.r 1<|.eq af.id id (fun aL=>?_) (fun aL=>.d<|.cf<|.sk<|.ib 3<|.g<|.r 1<|.it ((i:Int)+1)<|.r 1<|.d<|ac (out,a_out,n_out,c_out,i+1) _ _ ⟨AA,AA,AA,AA,trivial⟩ ⟨ab,aa,(by grind [Cg,DJ]),(by grind [Cg,DJ]),(by grind [Cg,DJ])⟩ (by (simp only []; omega)))
 refine .d<|.ct<|.g<|.r 2<|.lb C<|.r 1 ?_
 have aM:i< s.mem.length:=AB
 refine .ix i 3 h4 aM<|.r 1<|.lg 1 au<|.cl (Fu out af.row aa.ta AB (w:=aj) (F:=all)) ?_
 rintro bN bO ⟨⟨bd,bg,rfl,ai⟩,av⟩
 have aw:=al1 C.lt
 have aN:Gb w.heap.size aj.heap.size:=E.size
 replace ⟨aa,E,ab⟩:=(se [J] av).g3 aa E ab
 have ai:=ai.fr aw aN
 have bq:=ai.max
 exact .r 1<|.d<|.ib 3<|.g<|.r 1<|.it ((i:Int)+1)<|.r 1<|.d<|ac (Di out af.row,bd,(Di out af.row).length,bg,i+1) _ _ ⟨AA,AA,AA,AA,trivial⟩ ⟨ab,ai,(by grind [Cg,DJ]),(by grind [Cg,DJ]),(by grind [Cg,DJ])⟩ (by (simp only []; omega))
theorem DO (d:Dsk) (num:Int) {w:World} {F:Nat→Prop} {a1:Option Addr} {n1 c1:Nat} (h1:RepS w F a1 n1 c1 d.files) {a2:Option Addr} {n2 c2:Nat} (h2:RepS w F a2 n2 c2 d.list) {a3:Option Addr} {n3 c3:Nat} (h3:RepS w F a3 n3 c3 d.names)  : Calls Tryz.prog 66 [.agg #[.slice a1 n1 c1,.slice a2 n2 c2,.slice a3 n3 c3,.int .i64 d.next],.int .i64 num].toArray w (As fun rv w'=>rv=.int .i64 (Ao d num)∧Ext w w'):=by
 refine goT Tryz.func66 ?_
 obtain ⟨rfl,aw,h1⟩:=h1.tp
 obtain ⟨rfl,ax,h2⟩:=h2.tp
 obtain ⟨rfl,ay,h3⟩:=h3.tp
 refine .s<|.g<|.np 27 [.slice a1 d.files.length c1,.slice a2 d.list.length c2,.slice a3 d.names.length c3,vI d.next] fun ae ag ab J C ah=>?_
 replace h1:=(sn [] J ab).g1 h1
 have E:=J
 refine .r 1<|.d<|.s<|.s<|.g<|.r 1<|.d<|.b 0<|T.loop (X:=Nat) 0 (fun i=>[(1,vI num),(2,.pointer (some ⟨ae,0,none⟩)),(5,vI (i:Int))]) (fun i af=>Chg (ins []) ag af∧(i≤d.files.length)∧(DH num i (d.files.drop i)=Ao d num)) (fun i=>d.files.length - i) AA ⟨AA,AA,AA,trivial⟩ ⟨Chg.refl _ _,(by simp [Ao]),(by simp [Ao])⟩ ?_
 rintro i aE af ⟨O,az,aA⟩ W
 have ac:Mv [ae] [ae] ag af:=Mv.inl O all_nil (all_cons (.inl AD) all_nil)
 replace ⟨h1,C,E⟩:=(sp ac O).g3 h1 C E
 refine .s<|.s<|.g<|.r 2<|.lb C<|.r 1<|.bp ((i:Int)< (d.files.length:Int)) (fun ai=>?_) (fun ai=>.d<|.cf<|.x 0 rfl<|.s<|.g<|.r 1<|.d<|.rt Tryz.func66 Tryz.results66 (vI (-1)) ⟨(congrArg (Value.int .i64) (by grind [DH,AY])),E⟩)
 refine .d<|.ct<|.sk<|.s<|.b 1<|.s<|.g<|.r 1<|.lb C<|.r 1 ?_
 have aj:i< d.files.length:=AB
 refine .ix i 3 h1 aj<|.r 1 ?_
 obtain ⟨ak,aa⟩:∃ y,d.files[i]? = some y:=⟨_,AP AB⟩
 have aB:=AX aa; have av:=AQ aa
 obtain ⟨_,⟨aF,aG,aH,aI,aJ,aK,rfl,al,am⟩,ao⟩:=h1.elem i ak aa
 have aq:=al.len
 subst aq
 have aC:=al.max
 have ar:=am.len
 subst ar
 have aD:=am.max
 exact .lh 0 ao<|.r 1<|.eq ak.num num (fun au=>.d<|.ct<|.s<|.g<|.r 2<|.d<|.rt Tryz.func66 Tryz.results66 (vI (i:Int)) ⟨(congrArg (Value.int .i64) (by grind [DH,AY])),E⟩) fun au=>.d<|.cf<|.sk<|.ib 1<|.g<|.r 1<|.it ((i:Int)+1)<|.r 1<|.d<|W (i+1) _ _ ⟨AA,AA,AA,trivial⟩ ⟨O,AB,(by grind [DH])⟩ AB
theorem Ls (ix:Idx) (n:List Tag) {w:World} {F:Nat→Prop} {a1:Option Addr} {n1 c1:Nat} (h1:RepS w F a1 n1 c1 ix.names) {a2:Option Addr} {n2 c2:Nat} (h2:RepS w F a2 n2 c2 ix.AV) {a3:Option Addr} {n3 c3:Nat} (h3:RepS w F a3 n3 c3 n) (p0:ix.names.length≤1000) (p1:∀ n∈ix.names,Fg n) (p2:Fg n):Calls Tryz.prog 188 [.agg #[.slice a1 n1 c1,.slice a2 n2 c2],.slice a3 n3 c3].toArray w (As fun rv w'=>rv=.int .i64 (GP ix n)∧Ext w w'):=by
 refine goT Tryz.func188 ?_
 obtain ⟨rfl,aw,h1⟩:=h1.tp
 obtain ⟨rfl,ax,h2⟩:=h2.tp
 obtain ⟨rfl,ay,h3⟩:=h3.tp
 refine .s<|.g<|.np 30 [.slice a1 ix.names.length c1,.slice a2 ix.AV.length c2] fun ac ak af O J al=>?_
 replace ⟨h1,h3⟩:=(sn [] O af).g2 h1 h3
 have C:=O
 refine .r 1<|.d<|.s<|.s<|.g<|.r 1<|.d<|.b 0<|T.loop (X:=Nat) 0 (fun i=>[(1,.slice a3 n.length c3),(2,.pointer (some ⟨ac,0,none⟩)),(5,vI (i:Int))]) (fun i ae=>Chg (ins []) ak ae∧(i≤ix.names.length)∧(nmF (text n) i (ix.names.drop i)=GP ix n)) (fun i=>ix.names.length - i) AA ⟨AA,AA,AA,trivial⟩ ⟨Chg.refl _ _,(by simp [GP]),(by simp [GP])⟩ ?_
 rintro i aE ae ⟨E,az,aA⟩ W
 have ag:Mv [ac] [ac] ak ae:=Mv.inl E all_nil (all_cons (.inl AD) all_nil)
 replace ⟨h1,h3,J,C⟩:=(sp ag E).g4 h1 h3 J C
 refine .s<|.s<|.g<|.r 2<|.lb J<|.r 1<|.bp ((i:Int)< (ix.names.length:Int)) (fun am=>?_) (fun am=>.d<|.cf<|.x 0 rfl<|.s<|.g<|.r 1<|.d<|.rt Tryz.func188 Tryz.results188 (vI 0) ⟨(congrArg (Value.int .i64) (by grind [nmF,AY])),C⟩)
 refine .d<|.ct<|.sk<|.s<|.b 1<|.s<|.g<|.r 1<|.lb J<|.r 1 ?_
 have ao:i< ix.names.length:=AB
 refine .ix i 1 h1 ao ?_
 obtain ⟨aa,ab⟩:∃ y,ix.names[i]? = some y:=⟨_,AP AB⟩
 have aB:=AX ab; have au:=AQ ab
 obtain ⟨_,⟨aF,aG,aH,rfl,aj⟩,aq⟩:=h1.elem i aa ab
 have ar:=aj.len
 subst ar
 have aC:=aj.max
 refine .lh 0 aq<|.cl (C8 aa aj.ta (by grind [Fg]) (by grind [Fg]) (w:=ae) (F:=all)) ?_
 rintro aI av ⟨rfl,ah⟩
 replace ⟨h3,C,E⟩:=(se [ac] ah).g3 h3 C E
 refine .r 1<|.cl (C8 n h3.ta (by grind [Fg]) (by grind [Fg]) (w:=av) (F:=all)) ?_
 rintro aJ aK ⟨rfl,ai⟩
 replace ⟨C,E⟩:=(se [] ai).g2 C E
 refine RG.eqv (v:=.bool ((text aa==text n))) AA (SX (text aa) (text n)) ?_
 cases aD:(text aa==text n)
 ·exact .d<|.cf<|.sk<|.ib 1<|.g<|.r 1<|.it ((i:Int)+1)<|.r 1<|.d<|W (i+1) _ _ ⟨AA,AA,AA,trivial⟩ ⟨E,AB,(by grind [nmF])⟩ AB
 exact .d<|.ct<|.s<|.g<|.r 1<|.it ((i:Int)+1)<|.r 1<|.d<|.rt Tryz.func188 Tryz.results188 (vI ((i:Int)+1)) ⟨(congrArg (Value.int .i64) (by grind [nmF,AY])),C⟩
theorem Fh (d:Dsk) (num:Int) {w:World} {F:Nat→Prop} {a1:Option Addr} {n1 c1:Nat} (h1:RepS w F a1 n1 c1 d.files) {a2:Option Addr} {n2 c2:Nat} (h2:RepS w F a2 n2 c2 d.list) {a3:Option Addr} {n3 c3:Nat} (h3:RepS w F a3 n3 c3 d.names)  : Calls Tryz.prog 123 [.agg #[.slice a1 n1 c1,.slice a2 n2 c2,.slice a3 n3 c3,.int .i64 d.next],.int .i64 num].toArray w (As fun rv w'=>rv=.bool ((d.list.contains num))∧Ext w w'):=by
 refine goT Tryz.func123 ?_
 obtain ⟨rfl,aq,h1⟩:=h1.tp
 obtain ⟨rfl,ar,h2⟩:=h2.tp
 obtain ⟨rfl,au,h3⟩:=h3.tp
 refine .s<|.g<|.np 27 [.slice a1 d.files.length c1,.slice a2 d.list.length c2,.slice a3 d.names.length c3,vI d.next] fun ae ag ab J C ah=>?_
 replace h2:=(sn [] J ab).g1 h2
 have E:=J
 refine .r 1<|.d<|.s<|.s<|.g<|.r 1<|.d<|.b 0<|T.loop (X:=Nat) 0 (fun i=>[(1,vI num),(2,.pointer (some ⟨ae,0,none⟩)),(5,vI (i:Int))]) (fun i af=>Chg (ins []) ag af∧(i≤d.list.length)∧((d.list.drop i).contains num=d.list.contains num)) (fun i=>d.list.length - i) AA ⟨AA,AA,AA,trivial⟩ ⟨Chg.refl _ _,(by simp),(by simp)⟩ ?_
 rintro i ay af ⟨O,av,aw⟩ W
 have ac:Mv [ae] [ae] ag af:=Mv.inl O all_nil (all_cons (.inl AD) all_nil)
 replace ⟨h2,C,E⟩:=(sp ac O).g3 h2 C E
 refine .s<|.s<|.g<|.r 2<|.lb C<|.r 1<|.bp ((i:Int)< (d.list.length:Int)) (fun ai=>?_) (fun ai=>.d<|.cf<|.x 0 rfl<|.s<|.g<|.r 1<|.d<|.rt Tryz.func123 Tryz.results123 (.bool false) ⟨(congrArg Value.bool (by grind [AY])),E⟩)
 refine .d<|.ct<|.sk<|.s<|.b 1<|.s<|.g<|.r 1<|.lb C<|.r 1 ?_
 have aj:i< d.list.length:=AB
 refine .ix i 1 h2 aj ?_
 obtain ⟨ak,aa⟩:∃ y,d.list[i]? = some y:=⟨_,AP AB⟩
 have ax:=AX aa; have ao:=AQ aa
 obtain ⟨_,rfl,al⟩:=h2.elem i ak aa
 exact .lh 0 al<|.r 1<|.eq ak num (fun am=>.d<|.ct<|.s<|.g<|.r 1<|.d<|.rt Tryz.func123 Tryz.results123 (.bool true) ⟨(congrArg Value.bool (by grind [AY])),E⟩) fun am=>.d<|.cf<|.sk<|.ib 1<|.g<|.r 1<|.it ((i:Int)+1)<|.r 1<|.d<|W (i+1) _ _ ⟨AA,AA,AA,trivial⟩ ⟨O,AB,(by grind)⟩ AB
end Go.Proofs.YtganlmloonielaaGreat
namespace Go.Proofs.YtganlmloonielaaGreat
section
variable {α:Type} [Rep α]
def Lt (w:World) (F:Nat→Prop):List α→List Value→Prop
 | [],cs=>cs=[]
 | x::xs,cs=>Rep.rep w F x (cs.take (Rep.sz α))∧Lt w F xs (cs.drop (Rep.sz α))
theorem Lt.len {w:World} {F:Nat→Prop}:∀ {xs:List α} {cs:List Value},Lt w F xs cs→cs.length=xs.length * Rep.sz α
 | [],cs,h=>by simp only [Lt] at h; subst h; simp
 | x :: xs, cs, h => by
   have h1:=Rep.len h.1
   have h2:=Lt.len h.2
   have hp:=Rep.pos (α:=α)
   simp only [List.length_take,List.length_drop,List.length_cons,Nat.succ_mul] at *
   omega
theorem Lt.at {w:World} {F:Nat→Prop}:∀ {xs:List α} {cs:List Value},Lt w F xs cs→∀ i x,xs[i]? = some x→Rep.rep w F x ((cs.drop (i * Rep.sz α)).take (Rep.sz α))
 | [],cs,_=>fun i x hx=>by simp at hx
 | y :: ys, cs, h => fun i x hx => by
   cases i with
   | zero=>simp at hx; subst hx; simpa using h.1
   | succ i =>
     simp only [List.getElem?_cons_succ] at hx
     have:=Lt.at h.2 i x hx
     rw [List.drop_drop] at this
     rwa [Nat.succ_mul,Nat.add_comm]
theorem Own.lit {w:World} {r:Nat} {t:TypeId} {F:Nat→Prop} {n:Nat} {xs:List α} {cs:List Value} (h:Box w r t cs) (hn:n=xs.length) (hc:n≤maxLen) (hl:Lt w (fun b=>F b∧b≠r) xs cs):Own w r t F n n xs:=by
 have hlen:=hl.len
 refine ⟨hn,Nat.le_refl _,hc,⟨cs.toArray,h,by simp [hlen,hn]⟩,fun i x hi=>⟨_,hl.at i x hi,?_⟩⟩
 have hlt:i< xs.length:=(List.getElem?_eq_some_iff.1 hi).1
 refine h.has _ _ ?_
 rw [List.length_take,List.length_drop,hlen]
 have:(i+1) * Rep.sz α≤xs.length * Rep.sz α:=Nat.mul_le_mul_right _ hlt
 rw [Nat.succ_mul] at this
 rw [Nat.min_eq_left AB]
end
section
variable {P:Program} {n:Nat} {K:Env→World→Prop} {ops:Array Oper} {j:Nat} {e:Env} {w:World}
theorem RG.int32 (z:Int) (h:Ha P n ops j e=some (.int .i32 (IntKind.i32.wrap z))) (hz:-2147483648≤z∧z≤2147483647)
 (H:RG P n K ops (j+1) (BL e (An ops j).dst (.int .i32 z)) w):RG P n K ops j e w :=
 RG.eqv h (by rw [IntWalk.i32_in z hz]) H
end
theorem To (k:Nat) (h:k< 128):Value.string (Utf8.encode (k:Int))=.string (bs [UInt8.ofNat k]):=by
 refine congrArg Value.string ?_
 unfold Utf8.encode
 have hv:Utf8.valid (k:Int)=true:=by
  unfold Utf8.valid
  simp
  omega
 simp only [hv,if_true]
 simp [h,bs]
end Go.Proofs.YtganlmloonielaaGreat
namespace Go.Proofs.YtganlmloonielaaGreat
def JI (k v:Nat):Tag:=⟨[UInt8.ofNat k],[UInt8.ofNat v]⟩
def Eh (names:List (List Tag)) (t:Tag):List Pst:=if (ids names t).length > 0 then [⟨t,ids names t⟩] else []
def Fv (names:List (List Tag)) (k:Nat):Nat→Nat→List Pst
 | 0,_=>[]
 | f+1,v=>Eh names (JI k v)++Fv names k f (v+1)
def Fw (names:List (List Tag)):Nat→Nat→List Pst
 | 0,_=>[]
 | f+1,k=>Fv names k 11 112++Fw names f (k+1)
def Ci (names:List (List Tag)):List Pst:=Fw names 4 97
def idxOf (names:List (List Tag)):Idx:=⟨names,Ci names⟩
def CI (ix:Idx) (n:List Tag):Idx × Int × Bool :=
 if GP ix n > 0 then (ix,GP ix n,true)
 else if !BS n || decide (ix.names.length≥6) then (ix,0,false)
 else (idxOf (ix.names++[n]),(ix.names.length:Int)+1,true)
def GJ (bl:List (List Row)) (m:Smp):List (List Row):=bl.set (m.id - 1).toNat (Di (bl.getD (m.id - 1).toNat []) m.row)
def BK (mem:List Smp):Prt:=DI (mem.foldl GJ [[],[],[],[],[],[]])
theorem QP (bl:List (List Row)) (m:Smp):(GJ bl m).length=bl.length:=by simp [GJ]
theorem Sb {l:List Smp} {i:Nat} {xs:List (List Row)} {m:Smp} {x:List Row} {Y:List (List Row)} (hi:(l.drop i).foldl GJ xs=Y) (hd:l.drop i=m::l.drop (i+1)) (hx:xs[(m.id - 1).toNat]? = some x) :
 (l.drop (i+1)).foldl GJ (xs.set (m.id - 1).toNat (Di x m.row))=Y:=by
 rw [hd,List.foldl_cons] at hi
 have:GJ xs m=xs.set (m.id - 1).toNat (Di x m.row):=by unfold GJ; rw [List.getD_eq_getElem?_getD,hx]; rfl
 rw [this] at hi
 exact hi
theorem UN {xs:List (List Row)} {j i:Nat} {x:List Row} {r:Row} (h:∀ b∈xs,b.length≤i) (hx:xs[j]? = some x):∀ b∈xs.set j (Di x r),b.length≤i+1:=by
 intro b hb
 rcases List.mem_or_eq_of_mem_set hb with hb | rfl
 ·have:=h b hb; omega
 ·have h1:=h x (AQ hx)
  have h2:=DJ x r
  omega
theorem K5 (names:List (List Tag)) (k v:Nat) (h:v≤122):Fv names k (123 - v) v=Eh names (JI k v)++Fv names k (123 - (v+1)) (v+1):=by
 rw [show 123 - v=(123 - (v+1))+1 by omega]
 rfl
theorem PJ (names:List (List Tag)) (k:Nat) (h:k≤100):Fw names (101 - k) k=Fv names k 11 112++Fw names (101 - (k+1)) (k+1):=by
 rw [show 101 - k=(101 - (k+1))+1 by omega]
 rfl
theorem NY (names:List (List Tag)) (k v:Nat) (h:123≤v):Fv names k (123 - v) v=[]:=by
 rw [show 123 - v=0 by omega]; rfl
theorem NZ (names:List (List Tag)) (k:Nat) (h:101≤k):Fw names (101 - k) k=[]:=by
 rw [show 101 - k=0 by omega]; rfl
end Go.Proofs.YtganlmloonielaaGreat
namespace Go.Proofs.YtganlmloonielaaGreat
set_option maxRecDepth 100000
set_option maxHeartbeats 4000000
theorem Eo (names:List (List Tag)) {w:World} {F:Nat→Prop} {a1:Option Addr} {n1 c1:Nat} (h1:RepS w F a1 n1 c1 names) (p0:names.length≤1000) (p1:∀ n∈names,Fg n):Calls Tryz.prog 117 [.slice a1 n1 c1].toArray w (As fun rv w'=>VS (ge w.heap.size) w' (idxOf names:Idx) rv∧Ext w w'):=by
 refine goT Tryz.func117 ?_
 obtain ⟨rfl,b0,h1⟩:=h1.tp
 refine .s<|.g<|.np 30 [.slice none 0 0,.slice none 0 0] fun W cG az aA E bo=>?_
 have b6:Cov nil w W:=Bc az (Nat.le_refl _)
 replace h1:=(sn [] aA az).g1 h1
 have C:=aA
 refine .d<|.s<|.g<|.ns 0 149 [] fun aq aB ar aN bq br=>?_
 have bt:=AS ar E.lt
 have bu:=Ad ar C.size
 have bv:=C.cn ar
 replace ⟨h1,E,C⟩:=(sn [W] aN ar).g3 h1 E C
 have bw:Own (α:=Pst) aB aq 149 (nin (ge w.heap.size) [aq,W]) 0 0 []:=Own.Ag bq
 refine .r 1<|.d<|.s<|.s<|.g<|.r 1<|.d<|.b 0<|T.loop (X:=(List Pst) × Nat × Nat × Nat × Nat) (([]:List Pst),aq,0,0,97) (fun (AV,r_posts,n_posts,c_posts,k)=>[(0,.slice a1 names.length c1),(2,.pointer (some ⟨W,0,none⟩)),(3,vS r_posts n_posts c_posts),(4,.int .i32 (k:Int))]) (fun (AV,r_posts,n_posts,c_posts,k) ak=>Chg (ins [aq]) aB ak∧Own ak r_posts 149 (nin (ge w.heap.size) [r_posts,W]) n_posts c_posts AV∧OrB r_posts aq aB.heap.size∧(97≤k)∧(k≤101)∧(AV.length≤11 * (k - 97))∧(AV++Fw names (101 - k) k=Ci names)) (fun (AV,r_posts,n_posts,c_posts,k)=>101 - k) AA ⟨AA,AA,AA,AA,trivial⟩ ⟨Chg.refl _ _,bw,BJ,AB,AB,(by simp [Ci]),(by simp [Ci])⟩ ?_
 rintro ⟨AV,r_posts,n_posts,c_posts,k⟩ cH ak ⟨J,ac,al,b7,b8,b9,cd⟩ aC
 have bz:=Aw al bt E.lt
 have bA:=Bv al bu C.size
 have bB:=Ar al bv C.size
 have bC:Cov (ins [aq]) aB aq:=⟨.inl AD⟩
 have bD:=Ar al bC (Nat.le_refl _)
 have aO:Mv [aq,W] [r_posts,W] aB ak:=Mv.inl J (all_cons AD all_nil) (all_cons (BV al AD) (all_cons (.inl AE) all_nil))
 replace ⟨h1,E,C⟩:=(sp aO J).g3 h1 E C
 have ce:=ac.len; have cg:=ac.max
 refine .s<|.s<|.g<|.r 1<|.bp ((k:Int)≤100) (fun bE=>?_) (fun bE=>?_)
 ·refine .d<|.ct<|.sk<|.s<|.b 1<|.s<|.g<|.r 1<|.d<|.b 2<|T.loop (X:=(List Pst) × Nat × Nat × Nat × Nat) ((AV:List Pst),r_posts,n_posts,c_posts,112) (fun (ab,r_posts1,n_posts1,c_posts1,v)=>[(0,.slice a1 names.length c1),(2,.pointer (some ⟨W,0,none⟩)),(3,vS r_posts1 n_posts1 c_posts1),(4,.int .i32 (k:Int)),(5,.int .i32 (v:Int))]) (fun (ab,r_posts1,n_posts1,c_posts1,v) aM=>Chg (ins [r_posts]) ak aM∧Own aM r_posts1 149 (nin (ge w.heap.size) [r_posts1,W]) n_posts1 c_posts1 ab∧OrB r_posts1 r_posts ak.heap.size∧(112≤v)∧(v≤123)∧(97≤k)∧(k≤100)∧(ab.length≤11 * (k - 97)+(v - 112))∧(ab++Fv names k (123 - v) v++Fw names (101 - (k+1)) (k+1)=Ci names)) (fun (ab,r_posts1,n_posts1,c_posts1,v)=>123 - v) AA ⟨AA,AA,AA,AA,AA,trivial⟩ ⟨Chg.refl _ _,ac,BJ,AB,AB,AB,AB,AB,(by grind [PJ])⟩ ?_
  rintro ⟨ab,r_posts1,n_posts1,c_posts1,v⟩ cI aM ⟨aa,O,ag,ci,cj,ck,cm,co,cp⟩ au
  have cq:=Aw ag bz E.lt
  have cr:=Ar ag bB C.size
  have cu:=Ar ag bD J.size
  have bF:=OP ag al J.size
  have bG:Cov (ins [r_posts]) ak r_posts:=⟨.inl AD⟩
  have cv:=Ar ag bG (Nat.le_refl _)
  have aP:Mv [r_posts,W] [r_posts1,W] ak aM:=Mv.inl aa (all_cons AD all_nil) (all_cons (BV ag AD) (all_cons (.inl AE) all_nil))
  replace ⟨h1,E,C,J⟩:=(sp aP aa).g4 h1 E C J
  have cw:=O.len; have cx:=O.max
  refine .s<|.s<|.g<|.r 1<|.bp ((v:Int)≤122) (fun bH=>?_) (fun bH=>.d<|.cf<|.x 2 rfl<|.ib 1<|.g<|.r 1<|RG.int32 ((k:Int)+1) AA AB<|.r 1<|.d<|aC (ab,r_posts1,n_posts1,c_posts1,k+1) _ _ ⟨AA,AA,AA,AA,trivial⟩ ⟨J,O,bF,AB,AB,AB,(by grind [NY])⟩ (by (simp only []; omega)))
  refine .d<|.ct<|.sk<|.s<|.b 3<|.s<|.g<|.r 1<|RG.eqv (v:=.string (bs [UInt8.ofNat k])) AA (To k AB)<|.r 1<|RG.eqv (v:=.string (bs [UInt8.ofNat v])) AA (To v AB)<|.r 1<|.np 120 [.string (bs []),.string (bs [])] fun av cJ ah aQ bI bJ=>?_
  have cy:=AS ah E.lt
  have cz:=AS ah O.lt
  have cA:=C.cn ah
  have cB:=J.cn ah
  have cC:=aa.cn ah
  replace ⟨h1,E,O,C,J,aa⟩:=(sn [r_posts1,W] aQ ah).g6 h1 E O C J aa
  refine .sc [.string (bs [UInt8.ofNat k]),.string (bs [UInt8.ofNat v])] bI fun bK aR am bL=>?_
  replace ⟨h1,E,O,C,J,aa⟩:=(so [av,r_posts1,W] aR).g6 h1 E O C J aa
  refine .d<|.s<|.g<|.r 1<|.ln am<|.cl (HC names (⟨[UInt8.ofNat k],[UInt8.ofNat v]⟩:Tag) h1.ta AB (w:=bK) (F:=all)) ?_
  rintro cK bM ⟨⟨bR,bS,rfl,ax⟩,aS⟩
  have aD:=al3 am.lt O.lt E.lt
  have aW:Gb w.heap.size bK.heap.size:=C.size
  replace ⟨h1,E,O,am,C,J,aa⟩:=(se [av,r_posts1,W] aS).g7 h1 E O am C J aa
  have ax:=ax.fr aD aW
  have bT:=ax.max
  refine .r 1<|.d<|.s<|.g<|.r 2<|.bp ((((ids names (⟨[UInt8.ofNat k],[UInt8.ofNat v]⟩:Tag)).length):Int) > 0) (fun aX=>?_) (fun aX=>?_)
  ·refine .d<|.ct<|.g<|.r 1<|.ln am<|.r 2<|.ns 1 149 [.string (bs [UInt8.ofNat k]),.string (bs [UInt8.ofNat v]),.slice bR ((ids names (⟨[UInt8.ofNat k],[UInt8.ofNat v]⟩:Tag)).length) bS] fun aT cD ai aE aY aZ=>?_
   have ba:=AS ai E.lt
   have aF:=AS ai O.lt
   have bc:=AS ai am.lt
   have bd:=Ad ai C.size
   replace ⟨h1,E,O,ax,C,J,aa⟩:=(se [av,r_posts1,W] aE).g7 h1 E O ax C J aa
   have ay:nin (ge w.heap.size) [av,r_posts1,W] aT∧aT≠r_posts1:=BG bd (all_cons bc (all_cons aF (all_cons ba all_nil))) aF
   refine RG.Ap (T:=28) (ty:=28) (y:=(⟨(⟨[UInt8.ofNat k],[UInt8.ofNat v]⟩:Tag),ids names (⟨[UInt8.ofNat k],[UInt8.ofNat v]⟩:Tag)⟩:Pst)) O aY AA AA ⟨_,_,_,rfl,ax.oi⟩ ay AB fun aG bN aU ae ao aH=>?_
   have bg:=Bo ao ag aa.size
   replace ⟨h1,E,C,J,aa⟩:=(sa [av,r_posts1,W] aH ao).g5 h1 E C J aa
   replace ae:=ae.rn r_posts1
   have bU:=ae.len; have bV:=ae.max
   refine .r 1<|.d<|.ib 3<|.g<|.r 1<|RG.int32 ((v:Int)+1) AA AB<|.r 1<|.d ?_
   have bh:Mv [av,aG,W] [aG,W] aU aU:=Mv.less (all_cons AE (all_cons AF all_nil))
   replace ⟨h1,ae⟩:=(sp bh (Chg.refl nil _)).g2 h1 ae
   exact au ((ab++[(⟨(⟨[UInt8.ofNat k],[UInt8.ofNat v]⟩:Tag),ids names (⟨[UInt8.ofNat k],[UInt8.ofNat v]⟩:Tag)⟩:Pst)]),aG,n_posts1+1,bN,v+1) _ _ ⟨AA,AA,AA,AA,AA,trivial⟩ ⟨aa,ae,bg,AB,AB,AB,AB,AB,(by grind [K5,Eh,JI])⟩ (by (simp only []; omega))
  refine .d<|.cf<|.sk<|.ib 3<|.g<|.r 1<|RG.int32 ((v:Int)+1) AA AB<|.r 1<|.d ?_
  have bi:Mv [av,r_posts1,W] [r_posts1,W] bM bM:=Mv.less (all_cons AE (all_cons AF all_nil))
  replace ⟨h1,O⟩:=(sp bi (Chg.refl nil _)).g2 h1 O
  exact au (ab,r_posts1,n_posts1,c_posts1,v+1) _ _ ⟨AA,AA,AA,AA,AA,trivial⟩ ⟨aa,O,ag,AB,AB,AB,AB,AB,(by grind [K5,Eh,JI])⟩ (by (simp only []; omega))
 refine .d<|.cf<|.x 0 rfl<|.s<|.g<|.r 1<|.cl (Cf names h1.ta (by grind [Fg]) (by grind [Fg]) (w:=ak) (F:=all)) ?_
 rintro cE cF ⟨⟨aw,bO,bP,rfl,af,aj⟩,aI⟩
 have aJ:=al2 ac.lt E.lt
 have bj:Gb w.heap.size ak.heap.size:=C.size
 have bW:=Ab aj E.lt
 have bX:=Ab aj ac.lt
 have bk:=Bd aj C.size
 replace ⟨E,ac,C⟩:=(sz [r_posts,W] aI aj).g3 E ac C
 replace af:=Own.take (s0:=w.heap.size) (M:=[r_posts,W]) af aJ bj
 have bY:=af.len; have bZ:=af.max
 refine .r 2<|.sc [vS aw bO bP,vS r_posts n_posts c_posts] E fun aV aK bm bn=>?_
 replace ⟨ac,af,C⟩:=(so [aw,r_posts,W] aK).g3 ac af C
 refine .d ?_
 have aL:=af.sl bk
 replace ac:=(sd aV [aw,r_posts,W] aw).g1 ac
 have bQ:=ac.sl bA
 replace aL:=(sd aV [r_posts,W] r_posts).g1 aL
 exact .rb Tryz.func117 Tryz.results117 bm ⟨(VS.of (y:=(⟨names,AV⟩:Idx)) ⟨_,rfl,⟨_,_,_,_,_,_,rfl,aL.w1,bQ.w1⟩⟩ (by grind [idxOf,NZ])),C⟩
theorem HD (s:Sto) {w:World} {F:Nat→Prop} {a1:Option Addr} {n1 c1:Nat} (h1:RepS w F a1 n1 c1 s.idx.names) {a2:Option Addr} {n2 c2:Nat} (h2:RepS w F a2 n2 c2 s.idx.AV) {a3:Option Addr} {n3 c3:Nat} (h3:RepS w F a3 n3 c3 s.parts) {a4:Option Addr} {n4 c4:Nat} (h4:RepS w F a4 n4 c4 s.mem) (p0:s.mem.length≤1000) (p1:∀ m∈s.mem,1≤m.id∧m.id≤6):Calls Tryz.prog 101 [.agg #[.slice a1 n1 c1,.slice a2 n2 c2,.slice a3 n3 c3,.slice a4 n4 c4]].toArray w (As fun rv w'=>VS (ge w.heap.size) w' (BK s.mem:Prt) rv∧Ext w w'):=by
 refine goT Tryz.func101 ?_
 obtain ⟨rfl,bK,h1⟩:=h1.tp
 obtain ⟨rfl,bL,h2⟩:=h2.tp
 obtain ⟨rfl,bM,h3⟩:=h3.tp
 obtain ⟨rfl,bN,h4⟩:=h4.tp
 refine .s<|.g<|.np 34 [.slice a1 s.idx.names.length c1,.slice a2 s.idx.AV.length c2,.slice a3 s.parts.length c3,.slice a4 s.mem.length c4] fun ac cj aH ar E bc=>?_
 replace h4:=(sn [] ar aH).g1 h4
 have C:=ar
 refine .np 42 [.slice none 0 0,.slice none 0 0] fun ae ck au aI J bd=>?_
 have bO:=C.cn au
 replace ⟨h4,E,C⟩:=(sn [ac] aI au).g3 h4 E C
 refine .d<|.s<|.g<|.ns 6 91 [.slice none 0 0,.slice none 0 0,.slice none 0 0,.slice none 0 0,.slice none 0 0,.slice none 0 0] fun ab aG ai aJ bg bh=>?_
 have bP:=AS ai E.lt
 have bQ:=AS ai J.lt
 have bR:=C.cn ai
 replace ⟨h4,E,J,C⟩:=(sn [ae,ac] aJ ai).g4 h4 E J C
 have bi:Own (α:=List Row) aG ab 91 (nin (ge w.heap.size) [ab,ae,ac]) 6 6 [([]:List Row),([]:List Row),([]:List Row),([]:List Row),([]:List Row),([]:List Row)]:=Own.lit bg rfl (by decide) ⟨⟨_,_,_,rfl,(RepS.Ag _ _ none 0 (by decide))⟩,⟨_,_,_,rfl,(RepS.Ag _ _ none 0 (by decide))⟩,⟨_,_,_,rfl,(RepS.Ag _ _ none 0 (by decide))⟩,⟨_,_,_,rfl,(RepS.Ag _ _ none 0 (by decide))⟩,⟨_,_,_,rfl,(RepS.Ag _ _ none 0 (by decide))⟩,⟨_,_,_,rfl,(RepS.Ag _ _ none 0 (by decide))⟩,rfl⟩
 refine .r 1<|.d<|.s<|.s<|.g<|.r 1<|.d<|.b 0<|T.loop (X:=Nat × (List (List Row))) (0,([([]:List Row),([]:List Row),([]:List Row),([]:List Row),([]:List Row),([]:List Row)]:List (List Row))) (fun (i,xs)=>[(1,.pointer (some ⟨ac,0,none⟩)),(2,.pointer (some ⟨ae,0,none⟩)),(3,vS ab 6 6),(4,vI (i:Int))]) (fun (i,xs) ao=>Chg (ins [ab]) aG ao∧Own ao ab 91 (nin (ge w.heap.size) [ab,ae,ac]) 6 6 xs∧(i≤s.mem.length)∧(xs.length=6)∧(∀ b∈xs,b.length≤i)∧((s.mem.drop i).foldl GJ xs=s.mem.foldl GJ [[],[],[],[],[],[]])) (fun (i,xs)=>s.mem.length - i) AA ⟨AA,AA,AA,AA,trivial⟩ ⟨Chg.refl _ _,bi,(by simp),(by simp),(by simp),(by simp)⟩ ?_
 rintro ⟨i,xs⟩ cm ao ⟨aa,O,bS,bT,bU,bV⟩ av
 have bW:Cov (ins [ab]) aG ab:=⟨.inl AD⟩
 have aK:Mv [ab,ae,ac] [ab,ae,ac] aG ao:=Mv.inl aa (all_cons AD all_nil) (all_cons (.inl AD) (all_cons (.inl AE) (all_cons (.inl AF) all_nil)))
 replace ⟨h4,E,J,C⟩:=(sp aK aa).g4 h4 E J C
 have bX:=O.len; have bY:=O.max
 refine .s<|.s<|.g<|.r 2<|.lb E<|.r 1<|.bp ((i:Int)< (s.mem.length:Int)) (fun bj=>?_) (fun bj=>?_)
 ·refine .d<|.ct<|.sk<|.s<|.b 1<|.s<|.g<|.r 1<|.lb E<|.r 1 ?_
  have aL:i< s.mem.length:=AB
  refine RG.idx i (len:=s.mem.length) (i:=(i:Int)) (sz:=3) AA AB aL (h4.addr (Nat.zero_lt_of_lt aL))<|.r 1 ?_
  obtain ⟨W,am⟩:∃ y,s.mem[i]? = some y:=⟨_,AP AB⟩
  have bZ:=AX am; have bA:=AQ am
  obtain ⟨_,rfl,bk⟩:=h4.elem i W am
  refine .lh 0 bk<|.r 1<|.d<|.gd nil 15 fun bC aM=>?_
  replace ⟨h4,E,J,O,C,aa⟩:=(se [ab,ae,ac] aM).g6 h4 E J O C aa
  refine .r [0,1]<|GA.int (i:=2) (W.id - 1) AA (by (have:=p1 _ ‹_›; omega))<|.r [3,4]<|GA.int (i:=5) (W.id - 1) AA (by (have:=p1 _ ‹_›; omega)) ?_
  have bm:(W.id - 1).toNat< 6:=(by (have:=p1 _ ‹_›; omega))
  refine GA.idx (i:=6) (b:=ab) (o:=0) ((W.id - 1).toNat) (len:=6) (z:=W.id - 1) (sz:=1) AA (by (have:=p1 _ ‹_›; omega)) bm rfl ?_
  obtain ⟨ah,aj⟩:∃ y,xs[(W.id - 1).toNat]? = some y:=⟨_,AP AB⟩
  have b0:=AX aj; have bB:=AQ aj
  obtain ⟨_,⟨bD,co,bE,rfl,aw⟩,ax⟩:=O.elem ((W.id - 1).toNat) ah aj
  replace aw:=aw.CJ (fun _ _ h=>h.1)
  have bn:=aw.len
  subst bn
  have b6:=aw.max
  replace ax:Has bC ⟨ab,0+((W.id - 1).toNat) * Rep.sz (List Row),none⟩ [.slice bD ah.length bE]:=by rw [Nat.zero_add]; exact ax
  refine .lh 7 0 ax id<|.r [8]<|.lb 9 E id<|.r [10] ?_
  have aN:i< s.mem.length:=AB
  refine GA.idx (i:=11) i (len:=s.mem.length) (z:=(i:Int)) (sz:=3) AA AB aN (h4.addr (Nat.zero_lt_of_lt aN))<|.r [12] ?_
  obtain ⟨_,rfl,bo⟩:=h4.elem i W am
  refine .lg 13 1 bo id<|.go 14<|.cl (fun aR ay=>Fu ah W.row (aw.ta.ext ay) (by have aS:=‹∀ b∈xs,b.length≤i› _ ‹_›; omega) (w:=aR) (F:=all)) ?_
  intro aR ay
  replace ⟨E,J,O,C,aa⟩:=(se [ab,ae,ac] ay).g5 E J O C aa
  rintro cp cq ⟨⟨bF,bG,rfl,aq⟩,az⟩
  have aO:=al3 O.lt J.lt E.lt
  have bq:Gb w.heap.size aR.heap.size:=C.size
  have hkeep_:=az
  replace ⟨E,J,O,C,aa⟩:=(se [ab,ae,ac] az).g5 E J O C aa
  refine ⟨Ext.chg hkeep_,?_⟩
  have aq:=aq.fr aO bq
  have bH:=aq.max
  refine .d fun br aA=>?_
  replace ⟨E,J,O,aq,C,aa⟩:=(se [ab,ae,ac] aA).g6 E J O aq C aa
  have aT:(W.id - 1).toNat< 6:=AB
  refine RG.idx (b:=ab) (o:=0) ((W.id - 1).toNat) (len:=6) (i:=W.id - 1) (sz:=1) AA (by (have:=p1 _ ‹_›; omega)) aT rfl ?_
  obtain ⟨_,⟨aP,b7,aQ,rfl,aB⟩,ak⟩:=O.elem ((W.id - 1).toNat) ah aj
  replace aB:=aB.CJ (fun _ _ h=>h.1)
  have aU:=aB.len
  subst aU
  replace ak:Has br ⟨ab,0+((W.id - 1).toNat) * Rep.sz (List Row),none⟩ [.slice aP ah.length aQ]:=by rw [Nat.zero_add]; exact ak
  refine RG.Ds (t':=91) (i:=((W.id - 1).toNat)) (k:=0) (v:=.slice bF ((Di ah W.row).length) bG) (cs:=[.slice aP ah.length aQ]) (Di ah W.row) O aj ak AA AA AA ⟨_,_,_,rfl,aq.oi⟩ fun b8 aV aC aW=>?_
  replace ⟨E,J,C,aa⟩:=(s1 aC).g4 E J C aa
  exact .d<|.ib 1<|.g<|.r 1<|RG.int ((i:Int)+1) AA AB<|.r 1<|.d<|av (i+1,(xs.set ((W.id - 1).toNat) (Di ah W.row))) _ _ ⟨AA,AA,AA,AA,trivial⟩ ⟨aa,aV,AB,(by simp; omega),(by exact UN ‹_› ‹_›),(by exact Sb ‹_› ‹_› ‹_›)⟩ (by (simp only []; omega))
 refine .d<|.cf<|.x 0 rfl<|.s<|.g<|.r 1<|.cl (GR xs (O.rep) AB (by intro b hb; have aS:=‹∀ b∈xs,b.length≤i› _ hb; omega) (w:=ao) (F:=all)) ?_
 rintro b9 cd ⟨⟨_,rfl,⟨bt,ce,bu,bv,cg,bw,rfl,af,ag⟩⟩,aD⟩
 have al:=al3 O.lt J.lt E.lt
 have aE:Gb w.heap.size ao.heap.size:=C.size
 replace ⟨J,C⟩:=(se [] aD).g2 J C
 have af:=af.fr al aE
 have bI:=af.max
 have ag:=ag.fr al aE
 have bJ:=ag.max
 have aX:=af.len
 subst aX
 have aY:=ag.len
 subst aY
 refine .sc [.slice bt (((DI xs).ids).length) bu,.slice bv (((DI xs).blocks).length) bw] J fun ci aF aZ ba=>?_
 replace ⟨af,ag,C⟩:=(so [ab,ae,ac] aF).g3 af ag C
 exact .d<|.rb Tryz.func101 Tryz.results101 aZ ⟨(VS.of (y:=(DI xs)) ⟨_,rfl,⟨_,_,_,_,_,_,rfl,af.w1,ag.w1⟩⟩ (by have aS:=AY (xs:=s.mem) (k:=i) AB; have bz:List.foldl GJ xs (s.mem.drop i)=_:=‹_›; rw [aS] at bz; unfold BK; rw [← bz]; rfl)),C⟩
end Go.Proofs.YtganlmloonielaaGreat
namespace Go.Proofs.YtganlmloonielaaGreat
def QQ (x:Idx):Prop:=x.names.length≤1000∧∀ n∈x.names,Fg n
def MX (s:Sto):Prop:=QQ s.idx∧s.parts.length≤100∧(∀ p∈s.parts,Cw p)∧s.mem.length≤900
def At (s:Sto):Sto × Bool :=
 if s.mem.length=0∨s.parts.length≥6 then (s,false) else (⟨s.idx,s.parts++[BK s.mem],[]⟩,true)
def HO (ps:List Prt) (at_:Nat):List Prt:=match ps[at_]?,ps[at_+1]? with
 | some x,some y=>ps.take at_++[BT x y]++ps.drop (at_+2)
 | _,_=>ps
def Av (s:Sto) (at_:Int):Sto × Bool :=
 if inR at_ 0 ((s.parts.length:Int) - 2) then (⟨s.idx,HO s.parts at_.toNat,s.mem⟩,true) else (s,false)
def PK (s:Sto) (n:List Tag) (r:Row):Sto:=⟨(CI s.idx n).1,s.parts,s.mem++[⟨(CI s.idx n).2.1,r⟩]⟩
def C3 (s:Sto) (n:List Tag) (r:Row):Sto × Bool :=
 if !(CI s.idx n).2.2 || !Bw r || decide (s.mem.length≥20) then (s,false)
 else if (rowsOf (PK s n r) (CI s.idx n).2.1).length > 24 then (s,false) else (PK s n r,true)
theorem Hn {ix:Idx} {n:List Tag} (h:GP ix n > 0):CI ix n=(ix,GP ix n,true):=by unfold CI; rw [if_pos h]
theorem Fx {ix:Idx} {n:List Tag} (h:¬ GP ix n > 0) (h2:BS n=false∨(ix.names.length:Int)≥6):CI ix n=(ix,0,false):=by
 unfold CI
 rw [if_neg h,if_pos]
 rcases h2 with h2 | h2
 ·simp [h2]
 ·simp; omega
theorem Ho {ix:Idx} {n:List Tag} (h:¬ GP ix n > 0) (h2:BS n=true) (h3:¬ (ix.names.length:Int)≥6):CI ix n=(idxOf (ix.names++[n]),(ix.names.length:Int)+1,true):=by
 unfold CI
 rw [if_neg h,if_neg]
 simp [h2]
 omega
theorem Gq {ps:List Prt} {i:Nat} {x y:Prt} (hx:ps[i]? = some x) (hy:ps[i+1]? = some y):HO ps i=ps.take i++[BT x y]++ps.drop (i+2):=by
 simp [HO,hx,hy]
theorem QR {s:Sto} {n:List Tag} {r:Row} (h:(CI s.idx n).2.2=false):C3 s n r=(s,false):=by unfold C3; rw [if_pos (by simp [h])]
theorem QS {s:Sto} {n:List Tag} {r:Row} (h:Bw r=false):C3 s n r=(s,false):=by unfold C3; rw [if_pos (by simp [h])]
theorem QT {s:Sto} {n:List Tag} {r:Row} (h:(s.mem.length:Int)≥20):C3 s n r=(s,false):=by unfold C3; rw [if_pos (by simp; omega)]
theorem QU {s:Sto} {n:List Tag} {r:Row} (h1:(CI s.idx n).2.2=true) (h2:Bw r=true) (h3:¬ (s.mem.length:Int)≥20) (h:((rowsOf (PK s n r) (CI s.idx n).2.1).length:Int) > 24):C3 s n r=(s,false):=by
 unfold C3; rw [if_neg (by simp [h1,h2]; omega),if_pos AB]
theorem QV {s:Sto} {n:List Tag} {r:Row} (h1:(CI s.idx n).2.2=true) (h2:Bw r=true) (h3:¬ (s.mem.length:Int)≥20) (h:¬ ((rowsOf (PK s n r) (CI s.idx n).2.1).length:Int) > 24):C3 s n r=(PK s n r,true):=by
 unfold C3; rw [if_neg (by simp [h1,h2]; omega),if_neg AB]
theorem J9 {s:Sto} {a:Int} (h:inR a 0 ((s.parts.length:Int) - 2)=false):Av s a=(s,false):=by unfold Av; rw [if_neg (by simp [h])]
theorem MY {s:Sto} {a:Int} {x y:Prt} (h:inR a 0 ((s.parts.length:Int) - 2)=true) (hx:s.parts[a.toNat]? = some x) (hy:s.parts[(a+1).toNat]? = some y) :
 Av s a=(⟨s.idx,(([]++(s.parts.take a.toNat).drop 0)++[BT x y])++((s.parts.take s.parts.length).drop (a+2).toNat),s.mem⟩,true):=by
 have h1:=CN h
 have e1:(a+1).toNat=a.toNat+1:=by omega
 have e2:(a+2).toNat=a.toNat+2:=by omega
 rw [e1] at hy
 unfold Av
 rw [if_pos h,Gq hx hy,e2]
 simp
end Go.Proofs.YtganlmloonielaaGreat
namespace Go.Proofs.YtganlmloonielaaGreat
set_option maxRecDepth 100000
set_option maxHeartbeats 4000000
theorem Kp (ix:Idx) (n:List Tag) {w:World} {F:Nat→Prop} {a1:Option Addr} {n1 c1:Nat} (h1:RepS w F a1 n1 c1 ix.names) {a2:Option Addr} {n2 c2:Nat} (h2:RepS w F a2 n2 c2 ix.AV) {a3:Option Addr} {n3 c3:Nat} (h3:RepS w F a3 n3 c3 n) (p0:QQ ix) (p1:Fg n):Calls Tryz.prog 171 [.agg #[.slice a1 n1 c1,.slice a2 n2 c2],.slice a3 n3 c3].toArray w (As fun rv w'=>(∃ v0,rv=.tuple #[v0,.int .i64 ((CI ix n).2.1),.bool ((CI ix n).2.2)]∧VS (fo F w.heap.size) w' ((CI ix n).1:Idx) v0)∧Ext w w'):=by
 refine goT Tryz.func171 ?_
 obtain ⟨rfl,cm,h1⟩:=h1.tp
 obtain ⟨rfl,co,h2⟩:=h2.tp
 obtain ⟨rfl,cp,h3⟩:=h3.tp
 refine .s<|.g<|.np 30 [.slice a1 ix.names.length c1,.slice a2 ix.AV.length c2] fun ac cL aU aD E bC=>?_
 replace ⟨h1,h2,h3⟩:=(sn [] aD aU).g3 h1 h2 h3
 have C:=aD
 refine .np 30 [.slice none 0 0,.slice none 0 0] fun ab bX aA aV J bD=>?_
 have cq:=AS aA E.lt
 have cr:=C.cn aA
 replace ⟨h1,h2,h3,E,C⟩:=(sn [ac] aV aA).g5 h1 h2 h3 E C
 refine .r 2<|.d<|.s<|.g<|.ln E<|.r 1<|.cl (Ls ix n h1.ta h2.ta h3.ta p0.1 p0.2 p1 (w:=bX) (F:=all)) ?_
 rintro cM bY ⟨rfl,aW⟩
 replace ⟨h1,h2,h3,E,J,C⟩:=(se [ab,ac] aW).g6 h1 h2 h3 E J C
 refine .r 1<|.d<|.s<|.s<|.g<|.r 1<|.bp (GP ix n > 0) (fun bE=>?_) (fun bE=>?_)
 ·refine .d<|.ct<|.s<|.g<|.ln E<|.r 1<|.sc [.slice a1 ix.names.length c1,.slice a2 ix.AV.length c2] J fun cN aX bF bG=>?_
  replace ⟨h1,h2,h3,E,C⟩:=(so [ab,ac] aX).g5 h1 h2 h3 E C
  exact .r 2<|.d<|T.Hc (v:=.agg #[.slice a1 ix.names.length c1,.slice a2 ix.AV.length c2]) (v':=vI (GP ix n)) (v'':=.bool true) AA Tryz.func171 Tryz.results171 (Bf.cell (ad:=⟨ab,0,none⟩) AA ((bF.has 0 [.slice a1 ix.names.length c1,.slice a2 ix.AV.length c2] AA).EW AA)) (Bf.tmp AA) (Bf.tmp AA) ⟨⟨_,(Ic rfl (congrArg (Value.int .i64) (by (rw [Hn ‹_›]))) (congrArg Value.bool (by (rw [Hn ‹_›])))),(VS.of (y:=ix) ⟨_,rfl,⟨_,_,_,_,_,_,rfl,h1.w1,h2.w1⟩⟩ (by (rw [Hn ‹_›])))⟩,C⟩
 refine .d<|.cf<|.sk<|.s<|.s<|.g<|.r 1<|.cl (ET n h3.ta (w:=bY) (F:=all)) ?_
 rintro cO bH ⟨rfl,aY⟩
 replace ⟨h1,h2,h3,E,J,C⟩:=(se [ab,ac] aY).g6 h1 h2 h3 E J C
 cases cu:(BS n)
 ·refine .r 7<|.d<|.ct<|.s<|.g<|.ln E<|.sc [.slice a1 ix.names.length c1,.slice a2 ix.AV.length c2] J fun cP aZ bI bJ=>?_
  replace ⟨h1,h2,h3,E,C⟩:=(so [ab,ac] aZ).g5 h1 h2 h3 E C
  exact .r 2<|.d<|T.Hc (v:=.agg #[.slice a1 ix.names.length c1,.slice a2 ix.AV.length c2]) (v':=vI 0) (v'':=.bool false) AA Tryz.func171 Tryz.results171 (Bf.cell (ad:=⟨ab,0,none⟩) AA ((bI.has 0 [.slice a1 ix.names.length c1,.slice a2 ix.AV.length c2] AA).EW AA)) (Bf.tmp AA) (Bf.tmp AA) ⟨⟨_,(Ic rfl (congrArg (Value.int .i64) (by (rw [Fx ‹_› (.inl ‹_›)]))) (congrArg Value.bool (by (rw [Fx ‹_› (.inl ‹_›)])))),(VS.of (y:=ix) ⟨_,rfl,⟨_,_,_,_,_,_,rfl,h1.w1,h2.w1⟩⟩ (by (rw [Fx ‹_› (.inl ‹_›)])))⟩,C⟩
 refine .r 3<|.lb E<|.r 1<|.bp ((ix.names.length:Int)≥6) (fun bK=>?_) (fun bK=>?_)
 ·refine .r 1<|.d<|.ct<|.s<|.g<|.ln E<|.sc [.slice a1 ix.names.length c1,.slice a2 ix.AV.length c2] J fun cQ ba bL bM=>?_
  replace ⟨h1,h2,h3,E,C⟩:=(so [ab,ac] ba).g5 h1 h2 h3 E C
  exact .r 2<|.d<|T.Hc (v:=.agg #[.slice a1 ix.names.length c1,.slice a2 ix.AV.length c2]) (v':=vI 0) (v'':=.bool false) AA Tryz.func171 Tryz.results171 (Bf.cell (ad:=⟨ab,0,none⟩) AA ((bL.has 0 [.slice a1 ix.names.length c1,.slice a2 ix.AV.length c2] AA).EW AA)) (Bf.tmp AA) (Bf.tmp AA) ⟨⟨_,(Ic rfl (congrArg (Value.int .i64) (by (rw [Fx ‹_› (.inr ‹_›)]))) (congrArg Value.bool (by (rw [Fx ‹_› (.inr ‹_›)])))),(VS.of (y:=ix) ⟨_,rfl,⟨_,_,_,_,_,_,rfl,h1.w1,h2.w1⟩⟩ (by (rw [Fx ‹_› (.inr ‹_›)])))⟩,C⟩
 refine .r 1<|.d<|.cf<|.sk<|.s<|.g<|.r 1<|.lb E<|.cl (Cf ix.names h1.ta (by have:=p0.1; omega) (by intro n hn; have:=(p0.2 n hn).1; omega) (w:=bH) (F:=all)) ?_
 rintro cR cS ⟨⟨ao,cT,cU,rfl,aa,aq⟩,bc⟩
 have bd:=al2 J.lt E.lt
 have bN:Gb w.heap.size bH.heap.size:=C.size
 have cv:=Ab aq E.lt
 have cw:=Ab aq J.lt
 have cx:Cov nil w ao:=BR aq C.size
 replace ⟨h3,E,J,C⟩:=(sz [ab,ac] bc aq).g4 h3 E J C
 replace aa:=Own.take (s0:=w.heap.size) (M:=[ab,ac]) aa bd bN
 replace aa:=aa.base (G':=fo F w.heap.size) (fun _ _ h=>.inr h)
 have cy:=aa.len; have cz:=aa.max
 refine .ns 0 120 [] fun aR bZ ah bg bO bP=>?_
 have bQ:=AS ah E.lt
 have bR:=AS ah J.lt
 have bS:=AS ah aa.lt
 have bT:=Ad ah C.size
 have cA:=C.cn ah
 replace ⟨h3,E,J,aa,C⟩:=(sn [ao,ab,ac] bg ah).g5 h3 E J aa C
 have bU:Own (α:=Tag) bZ aR 120 (nin (fo F w.heap.size) [aR,ao,ab,ac]) 0 0 []:=Own.Ag bO
 refine .r 1<|RG.Ay (T:=77) (ty:=77) Jz bU h3 AA AA (fun b h e=>h.2 (e▸AD)) (by have:=p0.1; have:=p1.1; omega) fun aS b0 cV ai ag bh=>?_
 have b6:=Ae ag bQ E.lt
 have b7:=Ae ag bR J.lt
 have b8:=Ae ag bS aa.lt
 have bk:=Bt ag bT C.size
 replace ⟨E,J,aa,C⟩:=(sa [aR,ao,ab,ac] bh ag).g4 E J aa C
 replace ai:=ai.rn aR
 have b9:=ai.len; have cd:=ai.max
 refine .ns 1 77 [vS aS (0+n.length) b0] fun bi bV aj aE bm bn=>?_
 have bo:=AS aj E.lt
 have bq:=AS aj J.lt
 have aF:=AS aj aa.lt
 have br:=Ad aj C.size
 replace ⟨E,J,aa,ai,C⟩:=(se [aS,ao,ab,ac] aE).g5 E J aa ai C
 have bW:=ai.sl (.inr bk)
 replace aa:=(sd bV [aS,ao,ab,ac] aS).g1 aa
 have aC:nin (fo F w.heap.size) [ao,ab,ac] bi∧bi≠ao:=BG (.inr br) (all_cons aF (all_cons bq (all_cons bo all_nil))) aF
 refine RG.Ap (T:=25) (ty:=25) (y:=([]++n)) aa bm AA AA ⟨_,_,_,rfl,bW.oi⟩ aC (by have:=p0.1; have:=p1.1; omega) fun af cB bj ae aT aG=>?_
 replace ⟨E,J,C⟩:=(s1 aG).g3 E J C
 replace ae:=ae.rn ao
 have ce:=ae.len; have cg:=ae.max
 refine .cl (Eo (ix.names++[([]++n)]) (ae.rep) (by have:=p0.1; simp; omega) (by intro m hm; simp at hm; rcases hm with hm | rfl; exact p0.2 m hm; exact p1) (w:=bj) (F:=all)) ?_
 rintro cC cD ⟨⟨_,rfl,⟨ar,cE,au,av,cF,aw,rfl,O,W⟩⟩,aH⟩
 have ax:=al3 ae.lt J.lt E.lt
 have aI:Gb w.heap.size bj.heap.size:=C.size
 replace ⟨J,ae,C⟩:=(se [af,ab,ac] aH).g3 J ae C
 have O:=O.fr ax aI
 replace O:=O.base (G':=fo F w.heap.size) (fun _ _ h=>.inr h)
 have ci:=O.max
 have W:=W.fr ax aI
 replace W:=W.base (G':=fo F w.heap.size) (fun _ _ h=>.inr h)
 have cj:=W.max
 have bt:=O.len
 subst bt
 have bu:=W.len
 subst bu
 refine .np 30 [.slice none 0 0,.slice none 0 0] fun am cG ak aJ bv bw=>?_
 have aK:=AS ak J.lt
 have aL:=AS ak ae.lt
 have ck:=C.cn ak
 replace ⟨J,O,W,C⟩:=(sn [af,ab,ac] aJ ak).g4 J O W C
 refine .sc [.slice ar (((idxOf (ix.names++[([]++n)])).names).length) au,.slice av (((idxOf (ix.names++[([]++n)])).AV).length) aw] bv fun aB aM al bz=>?_
 replace ⟨J,O,W,C⟩:=(so [am,af,ab,ac] aM).g4 J O W C
 refine .d<|.s ?_
 replace O:=O.Ah
 replace W:=W.Ah
 have bA:Cov (mtb [af,ab] aB.heap.size) aB ab:=⟨.inl (.inl AE)⟩
 have aN:Gb (am+1) aB.heap.size:=al.lt
 refine .gd (mtb [af,ab] aB.heap.size) 5 fun cH aO=>?_
 replace ⟨J,O,W,al,C⟩:=(se [am,af,ab,ac] aO).g5 J O W al C
 refine .ln 0 al (Ax (all_cons aL (all_cons aK all_nil)) aN)<|.r [1]<|.lb 2 al (Ax (all_cons aL (all_cons aK all_nil)) aN)<|.r [3]<|.go 4<|GE.CK (t':=30) (o:=0) (v:=.agg #[.slice ar (((idxOf (ix.names++[([]++n)])).names).length) au,.slice av (((idxOf (ix.names++[([]++n)])).AV).length) aw]) [.slice ar (((idxOf (ix.names++[([]++n)])).names).length) au,.slice av (((idxOf (ix.names++[([]++n)])).AV).length) aw] J AA AA AA fun cI aP=>?_
 replace ⟨O,W,C⟩:=(se [am,af,ab,ac] aP).g3 O W C
 intro cJ ay az bB
 have hkeep_:=Chg.toS ay (Cov.toS bA)
 replace ⟨O,W,C⟩:=(so [am,af,ab,ac] ay).g3 O W C
 refine ⟨hkeep_,?_⟩
 refine .d fun cK aQ=>?_
 replace ⟨az,O,W,C⟩:=(se [am,af,ab,ac] aQ).g4 az O W C
 replace O:=O.AU
 replace W:=W.AU
 exact .r 2<|.d<|T.Hc (v:=.agg #[.slice ar (((idxOf (ix.names++[([]++n)])).names).length) au,.slice av (((idxOf (ix.names++[([]++n)])).AV).length) aw]) (v':=vI ((((idxOf (ix.names++[([]++n)])).names).length):Int)) (v'':=.bool true) AA Tryz.func171 Tryz.results171 (Bf.cell (ad:=⟨ab,0,none⟩) AA ((az.has 0 [.slice ar (((idxOf (ix.names++[([]++n)])).names).length) au,.slice av (((idxOf (ix.names++[([]++n)])).AV).length) aw] AA).EW AA)) (Bf.tmp AA) (Bf.tmp AA) ⟨⟨_,(Ic rfl (congrArg (Value.int .i64) (by (rw [Ho ‹_› ‹_› ‹_›] <;> simp [idxOf]))) (congrArg Value.bool (by (rw [Ho ‹_› ‹_› ‹_›] <;> simp [idxOf])))),(VS.of (y:=(idxOf (ix.names++[([]++n)]))) ⟨_,rfl,⟨_,_,_,_,_,_,rfl,O.w1,W.w1⟩⟩ (by (rw [Ho ‹_› ‹_› ‹_›] <;> simp [idxOf])))⟩,C⟩
theorem JU (s:Sto) {w:World} {F:Nat→Prop} {a1:Option Addr} {n1 c1:Nat} (h1:RepS w F a1 n1 c1 s.idx.names) {a2:Option Addr} {n2 c2:Nat} (h2:RepS w F a2 n2 c2 s.idx.AV) {a3:Option Addr} {n3 c3:Nat} (h3:RepS w F a3 n3 c3 s.parts) {a4:Option Addr} {n4 c4:Nat} (h4:RepS w F a4 n4 c4 s.mem) (p0:s.mem.length≤1000) (p1:∀ m∈s.mem,1≤m.id∧m.id≤6):Calls Tryz.prog 136 [.agg #[.slice a1 n1 c1,.slice a2 n2 c2,.slice a3 n3 c3,.slice a4 n4 c4]].toArray w (As fun rv w'=>(∃ v0,rv=.tuple #[v0,.bool ((At s).2)]∧VS (fo F w.heap.size) w' ((At s).1:Sto) v0)∧Ext w w'):=by
 refine goT Tryz.func136 ?_
 obtain ⟨rfl,co,h1⟩:=h1.tp
 obtain ⟨rfl,cp,h2⟩:=h2.tp
 obtain ⟨rfl,cq,h3⟩:=h3.tp
 obtain ⟨rfl,cr,h4⟩:=h4.tp
 refine .s<|.g<|.np 34 [.slice a1 s.idx.names.length c1,.slice a2 s.idx.AV.length c2,.slice a3 s.parts.length c3,.slice a4 s.mem.length c4] fun aa cJ aB aC E bK=>?_
 have cu:Cov nil w aa:=Bc aB (Nat.le_refl _)
 replace ⟨h1,h2,h3,h4⟩:=(sn [] aC aB).g4 h1 h2 h3 h4
 have C:=aC
 refine .np 34 [.slice none 0 0,.slice none 0 0,.slice none 0 0,.slice none 0 0] fun ab az ay aT J bL=>?_
 have cv:=AS ay E.lt
 have cw:=C.cn ay
 replace ⟨h1,h2,h3,h4,E,C⟩:=(sn [aa] aT ay).g6 h1 h2 h3 h4 E C
 refine .r 1<|.d<|.s<|.s<|.g<|.r 1<|.lb E<|.r 1<|.eq (s.mem.length:Int) 0 (fun bM=>?_) (fun bM=>?_)
 ·refine .r 6<|.d<|.ct<|.s<|.g<|.ln E<|.sc [.slice a1 s.idx.names.length c1,.slice a2 s.idx.AV.length c2,.slice a3 s.parts.length c3,.slice a4 s.mem.length c4] J fun cK aU bN bO=>?_
  replace ⟨h1,h2,h3,h4,E,C⟩:=(so [ab,aa] aU).g6 h1 h2 h3 h4 E C
  exact .r 1<|.d<|.r2 Tryz.func136 Tryz.results136 (.bx bN) (.t (.bool false)) ⟨⟨_,(CS rfl (congrArg Value.bool (by (unfold At; (rw [if_pos AB]))))),(VS.of (y:=s) ⟨_,rfl,⟨_,_,_,_,_,_,_,_,_,_,_,_,rfl,h1.w1,h2.w1,h3.w1,h4.w1⟩⟩ (by (unfold At; (rw [if_pos AB]))))⟩,C⟩
 refine .r 2<|.lb E<|.r 1<|.bp ((s.parts.length:Int)≥6) (fun bP=>?_) (fun bP=>?_)
 ·refine .r 1<|.d<|.ct<|.s<|.g<|.ln E<|.sc [.slice a1 s.idx.names.length c1,.slice a2 s.idx.AV.length c2,.slice a3 s.parts.length c3,.slice a4 s.mem.length c4] J fun cL aV bQ bR=>?_
  replace ⟨h1,h2,h3,h4,E,C⟩:=(so [ab,aa] aV).g6 h1 h2 h3 h4 E C
  exact .r 1<|.d<|.r2 Tryz.func136 Tryz.results136 (.bx bQ) (.t (.bool false)) ⟨⟨_,(CS rfl (congrArg Value.bool (by (unfold At; (rw [if_pos AB]))))),(VS.of (y:=s) ⟨_,rfl,⟨_,_,_,_,_,_,_,_,_,_,_,_,rfl,h1.w1,h2.w1,h3.w1,h4.w1⟩⟩ (by (unfold At; (rw [if_pos AB]))))⟩,C⟩
 refine .r 1<|.d<|.cf<|.sk<|.s ?_
 replace h1:=h1.Ah
 replace h2:=h2.Ah
 replace h3:=h3.Ah
 replace h4:=h4.Ah
 have aW:Gb (aa+1) az.heap.size:=E.lt
 refine .gd (mtb [] az.heap.size) 5 fun bZ aD=>?_
 replace ⟨h1,h2,h3,h4,E,J,C⟩:=(se [ab,aa] aD).g7 h1 h2 h3 h4 E J C
 have au:Chg (mtb [] az.heap.size) az bZ:=Chg.Cc (Chg.refl (mtb [] az.heap.size) az) aD
 refine .r [1]<|.lb 2 E (Ax all_nil aW)<|.ln 4 E (Ax all_nil aW)<|.go 0<|.ns 0 42 [] fun cx aE=>?_
 replace ⟨h1,h2,h3,h4,E,J,C,au⟩:=(se [ab,aa] aE).g8 h1 h2 h3 h4 E J C au
 intro aq bS ae aF bc bd
 have bg:=AS ae E.lt
 have bh:=AS ae J.lt
 have bi:=Ad ae C.size
 have bj:=C.cn ae
 have bk:=au.cn ae
 replace ⟨h1,h2,h3,h4,E,J,C⟩:=(sn [ab,aa] aF ae).g7 h1 h2 h3 h4 E J C
 have av:Own (α:=Prt) bS aq 42 (nin (fo F w.heap.size) [aq,ab,aa]) 0 0 []:=Own.Ag bc
 refine .go 3<|GE.append (T:=31) (ty:=31) (args:=[vS aq 0 0,.slice a3 s.parts.length c3]) AA fun cy aG=>?_
 replace ⟨h1,h2,h3,h4,E,J,av,C⟩:=(se [aq,ab,aa] aG).g8 h1 h2 h3 h4 E J av C
 obtain ⟨am,cz,cA,aH,W,ac,aw,bm⟩:=av.append (P:=Tryz.prog) (T:=31) (ty:=31) AA (h3.base (fun _ _ h=>h.1)) (fun b _ h=>FQ AD h) AB
 refine ⟨_,_,aH,Chg.toS aw (Cov.toS bk),?_⟩
 have bn:=Ae ac bg E.lt
 have bo:=Ae ac bh J.lt
 have bq:=Bt ac bi C.size
 have b0:=Am ac bj C.size
 replace ⟨h1,h2,h3,h4,E,J,C⟩:=(sa [aq,ab,aa] aw ac).g7 h1 h2 h3 h4 E J C
 replace W:=W.rn aq
 have b6:=W.len; have b7:=W.max
 refine .d fun aX aI=>?_
 replace ⟨h1,h2,h3,h4,E,J,W,C⟩:=(se [am,ab,aa] aI).g8 h1 h2 h3 h4 E J W C
 replace h1:=h1.AU
 replace h2:=h2.AU
 replace h3:=h3.AU
 replace h4:=h4.AU
 refine .cl (HD s h1.ta h2.ta h3.ta h4.ta p0 p1 (w:=aX) (F:=all)) ?_
 rintro cB cC ⟨⟨_,rfl,⟨bT,cD,bU,bV,cE,bW,rfl,ag,ah⟩⟩,aJ⟩
 have ax:=al3 W.lt J.lt E.lt
 have aK:Gb w.heap.size aX.heap.size:=C.size
 replace ⟨h1,h2,E,J,W,C⟩:=(se [am,ab,aa] aJ).g6 h1 h2 E J W C
 have ag:=ag.fr ax aK
 replace ag:=ag.base (G':=fo F w.heap.size) (fun _ _ h=>.inr h)
 have b8:=ag.max
 have ah:=ah.fr ax aK
 replace ah:=ah.base (G':=fo F w.heap.size) (fun _ _ h=>.inr h)
 have b9:=ah.max
 have br:=ag.len
 subst br
 have bt:=ah.len
 subst bt
 refine .ns 1 42 [.slice bT (((BK s.mem).ids).length) bU,.slice bV (((BK s.mem).blocks).length) bW] fun aY cF ao aL bu bv=>?_
 have bw:=AS ao E.lt
 have bz:=AS ao J.lt
 have aM:=AS ao W.lt
 have bA:=Ad ao C.size
 replace ⟨h1,h2,E,J,W,ag,ah,C⟩:=(se [am,ab,aa] aL).g8 h1 h2 E J W ag ah C
 have aA:nin (fo F w.heap.size) [am,ab,aa] aY∧aY≠am:=BG (.inr bA) (all_cons aM (all_cons bz (all_cons bw all_nil))) aM
 refine RG.Ap (T:=31) (ty:=31) (y:=(BK s.mem)) W bu AA AA ⟨_,_,_,_,_,_,rfl,ag.oi,ah.oi⟩ aA AB fun ai aZ cG O aj aN=>?_
 have cd:=Ae aj bn E.lt
 have ce:=Ae aj bo J.lt
 have bB:=Bt aj bq C.size
 replace ⟨h1,h2,E,J,C⟩:=(sa [am,ab,aa] aN aj).g5 h1 h2 E J C
 replace O:=O.rn am
 have cg:=O.len; have ci:=O.max
 refine .r 1<|.ss 2 (vS ai (0+s.parts.length+1) aZ) E fun cH aO ar bC=>?_
 replace ⟨h1,h2,J,O,C⟩:=(so [ai,ab,aa] aO).g5 h1 h2 J O C
 refine .d<|.s<|.g<|.ns 0 107 [] fun ak bX al aP bD bE=>?_
 have cj:=AS al ar.lt
 have ck:=AS al J.lt
 have cm:=AS al O.lt
 have bF:=Ad al C.size
 replace ⟨h1,h2,ar,J,O,C⟩:=(sn [ai,ab,aa] aP al).g6 h1 h2 ar J O C
 have af:Own (α:=Smp) bX ak 107 (nin (fo F w.heap.size) [ak,ai,ab,aa]) 0 0 []:=Own.Ag bD
 refine .r 1<|.ss 3 (vS ak 0 0) ar fun cI aQ bG bH=>?_
 replace ⟨h1,h2,J,O,af,C⟩:=(so [ak,ai,ab,aa] aQ).g6 h1 h2 J O af C
 refine .d<|.s<|.g<|.ln bG<|.sc [.slice a1 s.idx.names.length c1,.slice a2 s.idx.AV.length c2,vS ai (0+s.parts.length+1) aZ,vS ak 0 0] J fun ba aR bI bJ=>?_
 replace ⟨h1,h2,O,af,C⟩:=(so [ak,ai,ab,aa] aR).g5 h1 h2 O af C
 refine .r 1<|.d ?_
 have aS:=O.sl (.inr bB)
 replace ⟨h1,h2,af⟩:=(sd ba [ak,ai,ab,aa] ai).g3 h1 h2 af
 have bY:=af.sl (.inr bF)
 replace ⟨h1,h2,aS⟩:=(sd ba [ak,ab,aa] ak).g3 h1 h2 aS
 exact .r2 Tryz.func136 Tryz.results136 (.bx bI) (.t (.bool true)) ⟨⟨_,(CS rfl (congrArg Value.bool (by (unfold At; (rw [if_neg AB] <;> simp))))),(VS.of (y:=(⟨(⟨s.idx.names,s.idx.AV⟩:Idx),(([]++s.parts)++[(BK s.mem)]),[]⟩:Sto)) ⟨_,rfl,⟨_,_,_,_,_,_,_,_,_,_,_,_,rfl,h1.w1,h2.w1,aS.w1,bY.w1⟩⟩ (by (unfold At; (rw [if_neg AB] <;> simp))))⟩,C⟩
theorem JV (s:Sto) (at_:Int) {w:World} {F:Nat→Prop} {a1:Option Addr} {n1 c1:Nat} (h1:RepS w F a1 n1 c1 s.idx.names) {a2:Option Addr} {n2 c2:Nat} (h2:RepS w F a2 n2 c2 s.idx.AV) {a3:Option Addr} {n3 c3:Nat} (h3:RepS w F a3 n3 c3 s.parts) {a4:Option Addr} {n4 c4:Nat} (h4:RepS w F a4 n4 c4 s.mem) (p0:s.parts.length≤100) (p1:∀ p∈s.parts,Cw p):Calls Tryz.prog 138 [.agg #[.slice a1 n1 c1,.slice a2 n2 c2,.slice a3 n3 c3,.slice a4 n4 c4],.int .i64 at_].toArray w (As fun rv w'=>(∃ v0,rv=.tuple #[v0,.bool ((Av s at_).2)]∧VS (fo F w.heap.size) w' ((Av s at_).1:Sto) v0)∧Ext w w'):=by
 refine goT Tryz.func138 ?_
 obtain ⟨rfl,cE,h1⟩:=h1.tp
 obtain ⟨rfl,cF,h2⟩:=h2.tp
 obtain ⟨rfl,cG,h3⟩:=h3.tp
 obtain ⟨rfl,cH,h4⟩:=h4.tp
 refine .s<|.g<|.np 34 [.slice a1 s.idx.names.length c1,.slice a2 s.idx.AV.length c2,.slice a3 s.parts.length c3,.slice a4 s.mem.length c4] fun W dw aB aC E bK=>?_
 have cI:Cov nil w W:=Bc aB (Nat.le_refl _)
 replace ⟨h1,h2,h3,h4⟩:=(sn [] aC aB).g4 h1 h2 h3 h4
 have C:=aC
 refine .np 34 [.slice none 0 0,.slice none 0 0,.slice none 0 0,.slice none 0 0] fun ae cg az aY J bL=>?_
 have cJ:=AS az E.lt
 have cK:=C.cn az
 replace ⟨h1,h2,h3,h4,E,C⟩:=(sn [W] aY az).g6 h1 h2 h3 h4 E C
 refine .r 1<|.d<|.s<|.s<|.g<|.r 2<|.lb E<|.r 1<|RG.int ((s.parts.length:Int) - 2) AA (by grind [inR])<|.cl (CO at_ 0 ((s.parts.length:Int) - 2) (w:=cg) (F:=all)) ?_
 rintro dx dy ⟨rfl,aZ⟩
 replace ⟨h1,h2,h3,h4,E,J,C⟩:=(se [ae,W] aZ).g7 h1 h2 h3 h4 E J C
 cases ba:(inR at_ 0 ((s.parts.length:Int) - 2))
 ·have cL:=Ex ba
  refine .r 1<|.d<|.ct<|.s<|.g<|.ln E<|.sc [.slice a1 s.idx.names.length c1,.slice a2 s.idx.AV.length c2,.slice a3 s.parts.length c3,.slice a4 s.mem.length c4] J fun dz bc bM bN=>?_
  replace ⟨h1,h2,h3,h4,E,C⟩:=(so [ae,W] bc).g6 h1 h2 h3 h4 E C
  exact .r 1<|.d<|.r2 Tryz.func138 Tryz.results138 (.bx bM) (.t (.bool false)) ⟨⟨_,(CS rfl (congrArg Value.bool (by rw [J9 ‹_›]))),(VS.of (y:=s) ⟨_,rfl,⟨_,_,_,_,_,_,_,_,_,_,_,_,rfl,h1.w1,h2.w1,h3.w1,h4.w1⟩⟩ (by rw [J9 ‹_›]))⟩,C⟩
 have cM:=CN ba
 refine .r 1<|.d<|.cf<|.sk<|.s<|.g<|.ns 0 42 [] fun aX ci am bd bO bP=>?_
 have bQ:=AS am E.lt
 have bR:=AS am J.lt
 have bS:=Ad am C.size
 have bT:=C.cn am
 replace ⟨h1,h2,h3,h4,E,J,C⟩:=(sn [ae,W] bd am).g7 h1 h2 h3 h4 E J C
 have bU:Own (α:=Prt) ci aX 42 (nin (fo F w.heap.size) [aX,ae,W]) 0 0 []:=Own.Ag bO
 refine .r 1<|.lb E<|.r 1<|RG.sub (t:=31) (lo:=none) (hi:=some (vI at_)) h3 0 ((at_).toNat) AA AA (.inl ⟨rfl,rfl⟩) (.inr ⟨_,_,rfl,by omega⟩) (by grind [inR]) (by grind [inR]) fun dA dB bk=>?_
 have cN:=bk.len; have cO:=bk.max
 refine RG.Jj (T:=31) (ty:=31) bU bk AA AA (fun b _ h=>FQ AD h) AB fun aj dC bV O ah bg=>?_
 have aD:=Ae ah bQ E.lt
 have bW:=Ae ah bR J.lt
 have bX:=Bt ah bS C.size
 have bY:=Am ah bT C.size
 replace ⟨h1,h2,h3,h4,E,J,C⟩:=(sa [aX,ae,W] bg ah).g7 h1 h2 h3 h4 E J C
 replace O:=O.rn aX
 have cP:=O.len; have cQ:=O.max
 refine .r 1<|.d<|.s ?_
 replace h1:=h1.Ah
 replace h2:=h2.Ah
 replace h3:=h3.Ah
 replace h4:=h4.Ah
 have aE:Gb (W+1) bV.heap.size:=E.lt
 refine .gd (mtb [aj] bV.heap.size) 14 fun cR aF=>?_
 replace ⟨h1,h2,h3,h4,E,J,O,C⟩:=(se [aj,ae,W] aF).g8 h1 h2 h3 h4 E J O C
 refine .r [0,1]<|.lb 2 E (Ax (all_cons (Nb.symm aD) all_nil) aE)<|.r [3] ?_
 have aG:(at_).toNat< s.parts.length:=(by grind [inR])
 refine GA.idx (i:=4) ((at_).toNat) (len:=s.parts.length) (z:=at_) (sz:=2) AA (by grind [inR]) aG (h3.addr (Nat.zero_lt_of_lt aG)) ?_
 obtain ⟨ao,au⟩:∃ y,s.parts[(at_).toNat]? = some y:=⟨_,AP (by grind [inR])⟩
 have cj:=AX au; have bZ:=AQ au
 obtain ⟨_,⟨cS,cT,cU,cV,cW,cX,rfl,aH,aI⟩,bm⟩:=h3.elem ((at_).toNat) ao au
 have bn:=aH.len
 subst bn
 have ck:=aH.max
 have bo:=aI.len
 subst bo
 have cm:=aI.max
 refine .lg 5 0 bm (h3.nS (Dt au) (all_cons AD all_nil))<|.r [6]<|.lb 7 E (Ax (all_cons (Nb.symm aD) all_nil) aE)<|.r [8]<|GA.int (i:=9) (at_+1) AA (by grind [inR]) ?_
 have aJ:(at_+1).toNat< s.parts.length:=(by grind [inR])
 refine GA.idx (i:=10) ((at_+1).toNat) (len:=s.parts.length) (z:=at_+1) (sz:=2) AA (by grind [inR]) aJ (h3.addr (Nat.zero_lt_of_lt aJ)) ?_
 obtain ⟨aq,av⟩:∃ y,s.parts[(at_+1).toNat]? = some y:=⟨_,AP (by grind [inR])⟩
 have co:=AX av; have b0:=AQ av
 obtain ⟨_,⟨cY,cZ,c7,c8,c9,da,rfl,aK,aL⟩,bq⟩:=h3.elem ((at_+1).toNat) aq av
 have br:=aK.len
 subst br
 have cp:=aK.max
 have bt:=aL.len
 subst bt
 have cq:=aL.max
 refine .lg 11 0 bq (h3.nS (Dt av) (all_cons AD all_nil))<|.go 12<|.cl (fun aM ai=>De ao aq (aH.ta.ext ai) (aI.ta.ext ai) (aK.ta.ext ai) (aL.ta.ext ai) (by grind) (by grind) (w:=aM) (F:=all)) ?_
 intro aM ai
 replace ⟨h1,h2,h3,h4,E,J,O,C⟩:=(se [aj,ae,W] ai).g8 h1 h2 h3 h4 E J O C
 rintro db de ⟨⟨_,rfl,⟨b6,df,b7,b8,dg,b9,rfl,aa,ab⟩⟩,aw⟩
 have ax:=al3 O.lt J.lt E.lt
 have aN:Gb w.heap.size aM.heap.size:=C.size
 have hkeep_:=aw
 replace ⟨h1,h2,h3,h4,E,J,O,C⟩:=(se [aj,ae,W] aw).g8 h1 h2 h3 h4 E J O C
 refine ⟨Ext.chg hkeep_,?_⟩
 have aa:=aa.fr ax aN
 replace aa:=aa.base (G':=fo F w.heap.size) (fun _ _ h=>.inr h)
 have cr:=aa.max
 have ab:=ab.fr ax aN
 replace ab:=ab.base (G':=fo F w.heap.size) (fun _ _ h=>.inr h)
 have cu:=ab.max
 have bu:=aa.len
 subst bu
 have bv:=ab.len
 subst bv
 refine .go 13<|.ns 1 42 [.slice b6 (((BT ao aq).ids).length) b7,.slice b8 (((BT ao aq).blocks).length) b9] fun dh aO=>?_
 replace ⟨h1,h2,h3,h4,E,J,O,aa,ab,C⟩:=(se [aj,ae,W] aO).g10 h1 h2 h3 h4 E J O aa ab C
 intro bh dj ak aP ay bw
 have bz:=AS ak E.lt
 have bA:=AS ak J.lt
 have aQ:=AS ak O.lt
 have bB:=Ad ak C.size
 replace ⟨h1,h2,h3,h4,E,J,O,aa,ab,C⟩:=(se [aj,ae,W] aP).g10 h1 h2 h3 h4 E J O aa ab C
 refine .d fun dm aR=>?_
 replace ⟨h1,h2,h3,h4,E,J,O,aa,ab,ay,C⟩:=(se [aj,ae,W] aR).g11 h1 h2 h3 h4 E J O aa ab ay C
 replace h1:=h1.AU
 replace h2:=h2.AU
 replace h3:=h3.AU
 replace h4:=h4.AU
 have aA:nin (fo F w.heap.size) [aj,ae,W] bh∧bh≠aj:=BG (.inr bB) (all_cons aQ (all_cons bA (all_cons bz all_nil))) aQ
 refine RG.Ap (T:=31) (ty:=31) (y:=(BT ao aq)) O ay AA AA ⟨_,_,_,_,_,_,rfl,aa.oi,ab.oi⟩ aA AB fun bi dp dq al af aS=>?_
 have bC:=Ae af aD E.lt
 have bD:=Ae af bW J.lt
 have bE:=Bt af bX C.size
 have cv:=Am af bY C.size
 replace ⟨h1,h2,h3,h4,E,J,C⟩:=(sa [aj,ae,W] aS af).g7 h1 h2 h3 h4 E J C
 replace al:=al.rn aj
 have cw:=al.len; have cx:=al.max
 refine .r 1<|.d<|.s<|.g<|.r 2<|.lb E<|.r 1<|RG.int (at_+2) AA (by grind [inR])<|RG.sub (t:=31) (lo:=some (vI (at_+2))) (hi:=none) h3 ((at_+2).toNat) s.parts.length AA AA (.inr ⟨_,_,rfl,by omega⟩) (.inl ⟨rfl,rfl⟩) (by grind [inR]) (by grind [inR]) fun dr dt aT=>?_
 have cy:=aT.len; have cz:=aT.max
 refine RG.Jj (T:=31) (ty:=31) al aT AA AA (fun b _ h=>FQ AD h) AB fun ar bj du ac ag aU=>?_
 have cA:=Ae ag bC E.lt
 have cB:=Ae ag bD J.lt
 have bF:=Bt ag bE C.size
 replace ⟨h1,h2,h4,E,J,C⟩:=(sa [bi,ae,W] aU ag).g6 h1 h2 h4 E J C
 replace ac:=ac.rn bi
 have cC:=ac.len; have cD:=ac.max
 refine .r 1<|.ss 2 (vS ar (0+((at_).toNat - 0)+1+(s.parts.length - (at_+2).toNat)) bj) E fun dv aV bG bH=>?_
 replace ⟨h1,h2,h4,J,ac,C⟩:=(so [ar,ae,W] aV).g6 h1 h2 h4 J ac C
 refine .d<|.s<|.g<|.ln bG<|.sc [.slice a1 s.idx.names.length c1,.slice a2 s.idx.AV.length c2,vS ar (0+((at_).toNat - 0)+1+(s.parts.length - (at_+2).toNat)) bj,.slice a4 s.mem.length c4] J fun cd aW bI bJ=>?_
 replace ⟨h1,h2,h4,ac,C⟩:=(so [ar,ae,W] aW).g5 h1 h2 h4 ac C
 refine .r 1<|.d ?_
 have ce:=ac.sl (.inr bF)
 replace ⟨h1,h2,h4⟩:=(sd cd [ar,ae,W] ar).g3 h1 h2 h4
 exact .r2 Tryz.func138 Tryz.results138 (.bx bI) (.t (.bool true)) ⟨⟨_,(CS rfl (congrArg Value.bool (by rw [MY ‹_› ‹_› ‹_›]))),(VS.of (y:=(⟨(⟨s.idx.names,s.idx.AV⟩:Idx),((([]++((s.parts.take ((at_).toNat)).drop 0))++[(BT ao aq)])++((s.parts.take s.parts.length).drop ((at_+2).toNat))),s.mem⟩:Sto)) ⟨_,rfl,⟨_,_,_,_,_,_,_,_,_,_,_,_,rfl,h1.w1,h2.w1,ce.w1,h4.w1⟩⟩ (by rw [MY ‹_› ‹_› ‹_›]))⟩,C⟩
theorem Kq (s:Sto) (n:List Tag) (r:Row) {w:World} {F:Nat→Prop} {a1:Option Addr} {n1 c1:Nat} (h1:RepS w F a1 n1 c1 s.idx.names) {a2:Option Addr} {n2 c2:Nat} (h2:RepS w F a2 n2 c2 s.idx.AV) {a3:Option Addr} {n3 c3:Nat} (h3:RepS w F a3 n3 c3 s.parts) {a4:Option Addr} {n4 c4:Nat} (h4:RepS w F a4 n4 c4 s.mem) {a5:Option Addr} {n5 c5:Nat} (h5:RepS w F a5 n5 c5 n) (p0:MX s) (p1:Fg n):Calls Tryz.prog 135 [.agg #[.slice a1 n1 c1,.slice a2 n2 c2,.slice a3 n3 c3,.slice a4 n4 c4],.slice a5 n5 c5,.agg #[.int .i64 r.t,.int .i64 r.v]].toArray w (As fun rv w'=>(∃ v0,rv=.tuple #[v0,.bool ((C3 s n r).2)]∧VS (fo F w.heap.size) w' ((C3 s n r).1:Sto) v0)∧Ext w w'):=by
 refine goT Tryz.func135 ?_
 obtain ⟨rfl,eX,h1⟩:=h1.tp
 obtain ⟨rfl,eY,h2⟩:=h2.tp
 obtain ⟨rfl,eZ,h3⟩:=h3.tp
 obtain ⟨rfl,e7,h4⟩:=h4.tp
 obtain ⟨rfl,e8,h5⟩:=h5.tp
 refine .s<|.g<|.np 34 [.slice a1 s.idx.names.length c1,.slice a2 s.idx.AV.length c2,.slice a3 s.parts.length c3,.slice a4 s.mem.length c4] fun ag fW b9 bA E dE=>?_
 replace ⟨h1,h2,h3,h4,h5⟩:=(sn [] bA b9).g5 h1 h2 h3 h4 h5
 have C:=bA
 refine .np 105 [vI r.t,vI r.v] fun ah fX cd ce O dF=>?_
 replace ⟨h1,h2,h3,h4,h5,E,C⟩:=(sn [ag] ce cd).g7 h1 h2 h3 h4 h5 E C
 refine .np 34 [.slice none 0 0,.slice none 0 0,.slice none 0 0,.slice none 0 0] fun ai dG aT cg W dH=>?_
 have fa:=AS aT E.lt
 have fb:=AS aT O.lt
 have fc:=C.cn aT
 replace ⟨h1,h2,h3,h4,h5,E,O,C⟩:=(sn [ah,ag] cg aT).g8 h1 h2 h3 h4 h5 E O C
 refine .r 1<|.d<|.s<|.g<|.r 1<|.ln E<|.r 1<|.cl (Kp s.idx n h1 h2 h5 p0.1 p1 (w:=dG) (F:=nin (fo F w.heap.size) [ai,ah,ag])) ?_
 rintro fY fZ ⟨⟨f0,rfl,⟨_,rfl,⟨bB,f5,bC,bD,f6,bE,rfl,ac,ae⟩⟩⟩,ci⟩
 have bF:=al3 W.lt O.lt E.lt
 have cj:Gb w.heap.size dG.heap.size:=C.size
 replace ⟨h1,h2,h3,h4,E,O,W,C⟩:=(se [ai,ah,ag] ci).g8 h1 h2 h3 h4 E O W C
 replace ac:=RepS.Aa (M:=[ai,ah,ag]) ac bF cj
 have fd:=ac.max
 replace ae:=RepS.Aa (M:=[ai,ah,ag]) ae bF cj
 have fe:=ae.max
 have dI:=ac.len
 subst dI
 have dJ:=ae.len
 subst dJ
 refine .r 3 ?_
 cases ff:(CI s.idx n).2.2
 ·refine .r 1<|.np 30 [.slice none 0 0,.slice none 0 0] fun dK f7 aN ck dL dM=>?_
  have fg:=AS aN E.lt
  have fh:=AS aN O.lt
  have fi:=AS aN W.lt
  have fj:=C.cn aN
  replace ⟨h1,h2,h3,h4,E,O,W,ac,ae,C⟩:=(sn [ai,ah,ag] ck aN).g10 h1 h2 h3 h4 E O W ac ae C
  refine .sc [.slice bB ((((CI s.idx n).1).names).length) bC,.slice bD ((((CI s.idx n).1).AV).length) bE] dL fun f8 cm fk dN=>?_
  replace ⟨h1,h2,h3,h4,E,O,W,ac,ae,C⟩:=(so [dK,ai,ah,ag] cm).g10 h1 h2 h3 h4 E O W ac ae C
  refine .r 2<|.d<|.s<|.s<|.g<|.r 13<|.d<|.ct<|.s<|.g<|.ln E<|.sc [.slice a1 s.idx.names.length c1,.slice a2 s.idx.AV.length c2,.slice a3 s.parts.length c3,.slice a4 s.mem.length c4] W fun f9 co dO dP=>?_
  replace ⟨h1,h2,h3,h4,E,O,ac,ae,C⟩:=(so [dK,ai,ah,ag] co).g9 h1 h2 h3 h4 E O ac ae C
  exact .r 1<|.d<|.r2 Tryz.func135 Tryz.results135 (.bx dO) (.t (.bool false)) ⟨⟨_,(CS rfl (congrArg Value.bool (by rw [QR ‹_›]))),(VS.of (y:=s) ⟨_,rfl,⟨_,_,_,_,_,_,_,_,_,_,_,_,rfl,h1.w1,h2.w1,h3.w1,h4.w1⟩⟩ (by rw [QR ‹_›]))⟩,C⟩
 refine .r 1<|.np 30 [.slice none 0 0,.slice none 0 0] fun ak ga aO cp dQ cu=>?_
 have d6:=AS aO E.lt
 have d7:=AS aO O.lt
 have d8:=AS aO W.lt
 have d9:=C.cn aO
 replace ⟨h1,h2,h3,h4,E,O,W,ac,ae,C⟩:=(sn [ai,ah,ag] cp aO).g10 h1 h2 h3 h4 E O W ac ae C
 refine .sc [.slice bB ((((CI s.idx n).1).names).length) bC,.slice bD ((((CI s.idx n).1).AV).length) bE] dQ fun dR bG J cv=>?_
 replace ⟨h1,h2,h3,h4,E,O,W,ac,ae,C⟩:=(so [ak,ai,ah,ag] bG).g10 h1 h2 h3 h4 E O W ac ae C
 refine .r 2<|.d<|.s<|.s<|.g<|.r 3<|.ln O<|.cl (Ft r (w:=dR) (F:=all)) ?_
 rintro fm fp ⟨rfl,bH⟩
 replace ⟨h1,h2,h3,h4,E,O,W,ac,ae,J,C⟩:=(se [ak,ai,ah,ag] bH).g11 h1 h2 h3 h4 E O W ac ae J C
 cases ec:(Bw r)
 ·refine .r 8<|.d<|.ct<|.s<|.g<|.ln E<|.sc [.slice a1 s.idx.names.length c1,.slice a2 s.idx.AV.length c2,.slice a3 s.parts.length c3,.slice a4 s.mem.length c4] W fun fq bI cw cx=>?_
  replace ⟨h1,h2,h3,h4,E,O,ac,ae,J,C⟩:=(so [ak,ai,ah,ag] bI).g10 h1 h2 h3 h4 E O ac ae J C
  exact .r 1<|.d<|.r2 Tryz.func135 Tryz.results135 (.bx cw) (.t (.bool false)) ⟨⟨_,(CS rfl (congrArg Value.bool (by rw [QS ‹_›]))),(VS.of (y:=s) ⟨_,rfl,⟨_,_,_,_,_,_,_,_,_,_,_,_,rfl,h1.w1,h2.w1,h3.w1,h4.w1⟩⟩ (by rw [QS ‹_›]))⟩,C⟩
 refine .r 4<|.lb E<|.r 1<|.bp ((s.mem.length:Int)≥20) (fun cy=>?_) (fun cy=>?_)
 ·refine .r 1<|.d<|.ct<|.s<|.g<|.ln E<|.sc [.slice a1 s.idx.names.length c1,.slice a2 s.idx.AV.length c2,.slice a3 s.parts.length c3,.slice a4 s.mem.length c4] W fun ft bJ cz cA=>?_
  replace ⟨h1,h2,h3,h4,E,O,ac,ae,J,C⟩:=(so [ak,ai,ah,ag] bJ).g10 h1 h2 h3 h4 E O ac ae J C
  exact .r 1<|.d<|.r2 Tryz.func135 Tryz.results135 (.bx cz) (.t (.bool false)) ⟨⟨_,(CS rfl (congrArg Value.bool (by rw [QT ‹_›]))),(VS.of (y:=s) ⟨_,rfl,⟨_,_,_,_,_,_,_,_,_,_,_,_,rfl,h1.w1,h2.w1,h3.w1,h4.w1⟩⟩ (by rw [QT ‹_›]))⟩,C⟩
 refine .r 1<|.d<|.cf<|.sk<|.s<|.g<|.ln E<|.np 34 [.slice none 0 0,.slice none 0 0,.slice none 0 0,.slice none 0 0] fun af fu aB bK cB cC=>?_
 have ed:=AS aB E.lt
 have ee:=AS aB O.lt
 have ef:=AS aB W.lt
 have eg:=AS aB J.lt
 have eh:=C.cn aB
 replace ⟨h1,h2,h3,h4,E,O,W,ac,ae,J,C⟩:=(sn [ak,ai,ah,ag] bK aB).g11 h1 h2 h3 h4 E O W ac ae J C
 refine .sc [.slice a1 s.idx.names.length c1,.slice a2 s.idx.AV.length c2,.slice a3 s.parts.length c3,.slice a4 s.mem.length c4] cB fun fv bL cD cE=>?_
 replace ⟨h1,h2,h3,h4,E,O,W,ac,ae,J,C⟩:=(so [af,ak,ai,ah,ag] bL).g11 h1 h2 h3 h4 E O W ac ae J C
 refine .d<|.s<|.g<|.ln J<|.r 1<|.sb 0 (.agg #[.slice bB ((((CI s.idx n).1).names).length) bC,.slice bD ((((CI s.idx n).1).AV).length) bE]) [.slice bB ((((CI s.idx n).1).names).length) bC,.slice bD ((((CI s.idx n).1).AV).length) bE,.slice a3 s.parts.length c3,.slice a4 s.mem.length c4] cD fun aA bM aa cF=>?_
 replace ⟨h1,h2,h3,h4,E,O,W,ac,ae,J,C⟩:=(so [af,ak,ai,ah,ag] bM).g11 h1 h2 h3 h4 E O W ac ae J C
 refine .d<|.s<|T.Du (X:=Nat × Nat × Nat) (mtb [] aA.heap.size) 8 (fun (ay,bv,aI)=>[(3,.pointer (some ⟨ag,0,none⟩)),(6,.pointer (some ⟨ai,0,none⟩)),(9,vI ((CI s.idx n).2.1)),(11,.pointer (some ⟨af,0,none⟩)),(40,vS ay (0+s.mem.length) bv),(44,vS aI 1 1)]) (fun (ay,bv,aI) bw=>Ext aA bw∧aA.heap.size≤ay∧aA.heap.size≤aI∧Nb aI ay∧Own bw ay 107 (nin (fo F w.heap.size) [ay,af,ak,ai,ah,ag]) (0+s.mem.length) bv (([]++s.mem):List Smp)∧Box bw aI 107 [vI ((CI s.idx n).2.1),vI r.t,vI r.v]) AA (fun dS aP=>?_) ?_
 ·replace h1:=h1.Ah
  replace h2:=h2.Ah
  replace h3:=h3.Ah
  replace h4:=h4.Ah
  replace ac:=ac.Ah
  replace ae:=ae.Ah
  have cG:Gb (ag+1) aA.heap.size:=E.lt
  have cH:Gb (ah+1) aA.heap.size:=O.lt
  replace ⟨h1,h2,h3,h4,E,O,W,ac,ae,J,aa,C⟩:=(se [af,ak,ai,ah,ag] aP).g12 h1 h2 h3 h4 E O W ac ae J aa C
  have ab:=aP
  have aj:Chg (mtb [] aA.heap.size) aA dS:=Chg.Cc (Chg.refl (mtb [] aA.heap.size) aA) aP
  refine .r [1]<|.lb 2 E (Ax all_nil cG)<|.r [4]<|.ln 5 O (Ax all_nil cH)<|.r [6]<|.tw 0 7 ?_ ?_
  ·refine .ns 0 107 [] fun fw aV=>?_
   replace ⟨h1,h2,h3,h4,E,O,W,ac,ae,J,aa,C⟩:=(se [af,ak,ai,ah,ag] aV).g12 h1 h2 h3 h4 E O W ac ae J aa C
   replace ⟨ab,aj⟩:=(se [af,ak,ai,ah,ag] aV).g2 ab aj
   intro am dT au aW cI cJ
   have ej:=AS au E.lt
   have ek:=AS au O.lt
   have en:=AS au W.lt
   have et:=AS au J.lt
   have ey:=AS au aa.lt
   have ez:=C.cn au
   have bN:=ab.cn au
   have bO:=aj.cn au
   replace ⟨h1,h2,h3,h4,E,O,W,ac,ae,J,aa,C⟩:=(sn [af,ak,ai,ah,ag] aW au).g12 h1 h2 h3 h4 E O W ac ae J aa C
   replace ⟨ab,aj⟩:=(sn [af,ak,ai,ah,ag] aW au).g2 ab aj
   have av:Own (α:=Smp) dT am 107 (nin (fo F w.heap.size) [am,af,ak,ai,ah,ag]) 0 0 []:=Own.Ag cI
   refine .tw 3 7 ?_ ?_
   ·refine GE.append (T:=32) (ty:=32) (args:=[vS am 0 0,.slice a4 s.mem.length c4]) AA fun fz aX=>?_
    replace ⟨h1,h2,h3,h4,E,O,W,ac,ae,J,aa,av⟩:=(se [am,af,ak,ai,ah,ag] aX).g12 h1 h2 h3 h4 E O W ac ae J aa av
    replace ⟨C,ab,aj⟩:=(se [am,af,ak,ai,ah,ag] aX).g3 C ab aj
    obtain ⟨aM,dU,fA,bP,aq,aL,aQ,cK⟩:=Own.Ay (P:=Tryz.prog) (T:=32) (ty:=32) Fc av AA h4 (fun b h e=>h.2 (e▸AD)) (by have:=p0.2.2.2; omega)
    refine ⟨_,_,bP,Chg.toS aQ (Cov.toS bO),?_⟩
    have cL:=Am aL bN ab.size
    replace ⟨h1,h2,h3,h4,E,O,W,ac,ae,J,aa,C⟩:=(sa [am,af,ak,ai,ah,ag] aQ aL).g12 h1 h2 h3 h4 E O W ac ae J aa C
    replace ⟨ab,aj⟩:=(sa [am,af,ak,ai,ah,ag] aQ aL).g2 ab aj
    replace aq:=aq.rn am
    have eA:=aq.len; have eB:=aq.max
    refine .go 7<|.ns 1 107 [vI ((CI s.idx n).2.1),vI r.t,vI r.v] fun fB aY=>?_
    replace ⟨h1,h2,h3,h4,E,O,W,ac,ae,J,aa,aq⟩:=(se [aM,af,ak,ai,ah,ag] aY).g12 h1 h2 h3 h4 E O W ac ae J aa aq
    replace ⟨C,ab,aj⟩:=(se [aM,af,ak,ai,ah,ag] aY).g3 C ab aj
    intro dV fC aZ ba bc cM
    have cN:=AS aZ aq.lt
    have cO:=ab.cn aZ
    replace ⟨h1,h2,h3,h4,E,O,W,ac,ae,J,aa,aq⟩:=(se [aM,af,ak,ai,ah,ag] ba).g12 h1 h2 h3 h4 E O W ac ae J aa aq
    replace ⟨C,ab,aj⟩:=(se [aM,af,ak,ai,ah,ag] ba).g3 C ab aj
    refine .d fun fD bd=>?_
    replace ⟨h1,h2,h3,h4,E,O,W,ac,ae,J,aa,aq⟩:=(se [aM,af,ak,ai,ah,ag] bd).g12 h1 h2 h3 h4 E O W ac ae J aa aq
    replace ⟨bc,C,ab,aj⟩:=(se [aM,af,ak,ai,ah,ag] bd).g4 bc C ab aj
    replace h1:=h1.AU
    replace h2:=h2.AU
    replace h3:=h3.AU
    replace h4:=h4.AU
    replace ac:=ac.AU
    replace ae:=ae.AU
    exact ⟨(aM,dU,dV),⟨AA,AA,AA,AA,AA,AA,trivial⟩,⟨ab,(Ac cL),(Ac cO),cN,aq,bc⟩⟩
   refine .ns 1 107 [vI ((CI s.idx n).2.1),vI r.t,vI r.v] fun fE bg=>?_
   replace ⟨h1,h2,h3,h4,E,O,W,ac,ae,J,aa,av⟩:=(se [am,af,ak,ai,ah,ag] bg).g12 h1 h2 h3 h4 E O W ac ae J aa av
   replace ⟨C,ab,aj⟩:=(se [am,af,ak,ai,ah,ag] bg).g3 C ab aj
   intro dW fF bh bi az cP
   have cQ:=AS bh av.lt
   have cR:=ab.cn bh
   replace ⟨h1,h2,h3,h4,E,O,W,ac,ae,J,aa,av⟩:=(se [am,af,ak,ai,ah,ag] bi).g12 h1 h2 h3 h4 E O W ac ae J aa av
   replace ⟨C,ab,aj⟩:=(se [am,af,ak,ai,ah,ag] bi).g3 C ab aj
   refine .go 3<|GE.append (T:=32) (ty:=32) (args:=[vS am 0 0,.slice a4 s.mem.length c4]) AA fun fG bj=>?_
   replace ⟨h1,h2,h3,h4,E,O,W,ac,ae,J,aa,av⟩:=(se [am,af,ak,ai,ah,ag] bj).g12 h1 h2 h3 h4 E O W ac ae J aa av
   replace ⟨az,C,ab,aj⟩:=(se [am,af,ak,ai,ah,ag] bj).g4 az C ab aj
   obtain ⟨bQ,dX,fH,bR,aC,aG,aR,cS⟩:=Own.Ay (P:=Tryz.prog) (T:=32) (ty:=32) Fc av AA h4 (fun b h e=>h.2 (e▸AD)) (by have:=p0.2.2.2; omega)
   refine ⟨_,_,bR,Chg.toS aR (Cov.toS bO),?_⟩
   have cT:=Ae aG (Nb.symm cQ) az.lt
   have cU:=Am aG bN ab.size
   replace ⟨h1,h2,h3,h4,E,O,W,ac,ae,J,aa,az⟩:=(sa [am,af,ak,ai,ah,ag] aR aG).g12 h1 h2 h3 h4 E O W ac ae J aa az
   replace ⟨C,ab,aj⟩:=(sa [am,af,ak,ai,ah,ag] aR aG).g3 C ab aj
   replace aC:=aC.rn am
   have eC:=aC.len; have eD:=aC.max
   refine .d fun fI bk=>?_
   replace ⟨h1,h2,h3,h4,E,O,W,ac,ae,J,aa,aC⟩:=(se [bQ,af,ak,ai,ah,ag] bk).g12 h1 h2 h3 h4 E O W ac ae J aa aC
   replace ⟨az,C,ab,aj⟩:=(se [bQ,af,ak,ai,ah,ag] bk).g4 az C ab aj
   replace h1:=h1.AU
   replace h2:=h2.AU
   replace h3:=h3.AU
   replace h4:=h4.AU
   replace ac:=ac.AU
   replace ae:=ae.AU
   exact ⟨(bQ,dX,dW),⟨AA,AA,AA,AA,AA,AA,trivial⟩,⟨ab,(Ac cU),(Ac cR),(Nb.symm cT),aC,az⟩⟩
  refine .ns 1 107 [vI ((CI s.idx n).2.1),vI r.t,vI r.v] fun fJ bm=>?_
  replace ⟨h1,h2,h3,h4,E,O,W,ac,ae,J,aa,C⟩:=(se [af,ak,ai,ah,ag] bm).g12 h1 h2 h3 h4 E O W ac ae J aa C
  replace ⟨ab,aj⟩:=(se [af,ak,ai,ah,ag] bm).g2 ab aj
  intro dY fK bS bn ao cV
  have cW:=ab.cn bS
  replace ⟨h1,h2,h3,h4,E,O,W,ac,ae,J,aa,C⟩:=(se [af,ak,ai,ah,ag] bn).g12 h1 h2 h3 h4 E O W ac ae J aa C
  replace ⟨ab,aj⟩:=(se [af,ak,ai,ah,ag] bn).g2 ab aj
  refine .go 0<|.ns 0 107 [] fun fL bo=>?_
  replace ⟨h1,h2,h3,h4,E,O,W,ac,ae,J,aa,ao⟩:=(se [af,ak,ai,ah,ag] bo).g12 h1 h2 h3 h4 E O W ac ae J aa ao
  replace ⟨C,ab,aj⟩:=(se [af,ak,ai,ah,ag] bo).g3 C ab aj
  intro aJ dZ ar bq cX cY
  have eE:=AS ar E.lt
  have eF:=AS ar O.lt
  have eG:=AS ar W.lt
  have eH:=AS ar J.lt
  have eI:=AS ar aa.lt
  have cZ:=AS ar ao.lt
  have eJ:=C.cn ar
  have c7:=ab.cn ar
  have c8:=aj.cn ar
  replace ⟨h1,h2,h3,h4,E,O,W,ac,ae,J,aa,ao⟩:=(sn [af,ak,ai,ah,ag] bq ar).g12 h1 h2 h3 h4 E O W ac ae J aa ao
  replace ⟨C,ab⟩:=(sn [af,ak,ai,ah,ag] bq ar).g2 C ab
  have br:Own (α:=Smp) dZ aJ 107 (nin (fo F w.heap.size) [aJ,af,ak,ai,ah,ag]) 0 0 []:=Own.Ag cX
  refine .go 3<|GE.append (T:=32) (ty:=32) (args:=[vS aJ 0 0,.slice a4 s.mem.length c4]) AA fun fM bt=>?_
  replace ⟨h1,h2,h3,h4,E,O,W,ac,ae,J,aa,ao⟩:=(se [aJ,af,ak,ai,ah,ag] bt).g12 h1 h2 h3 h4 E O W ac ae J aa ao
  replace ⟨br,C,ab⟩:=(se [aJ,af,ak,ai,ah,ag] bt).g3 br C ab
  obtain ⟨bT,d0,fN,bU,aD,aH,aS,c9⟩:=Own.Ay (P:=Tryz.prog) (T:=32) (ty:=32) Fc br AA h4 (fun b h e=>h.2 (e▸AD)) (by have:=p0.2.2.2; omega)
  refine ⟨_,_,bU,Chg.toS aS (Cov.toS c8),?_⟩
  have da:=Ae aH cZ ao.lt
  have db:=Am aH c7 ab.size
  replace ⟨h1,h2,h3,h4,E,O,W,ac,ae,J,aa,ao⟩:=(sa [aJ,af,ak,ai,ah,ag] aS aH).g12 h1 h2 h3 h4 E O W ac ae J aa ao
  replace ⟨C,ab⟩:=(sa [aJ,af,ak,ai,ah,ag] aS aH).g2 C ab
  replace aD:=aD.rn aJ
  have eK:=aD.len; have eL:=aD.max
  refine .d fun fO bu=>?_
  replace ⟨h1,h2,h3,h4,E,O,W,ac,ae,J,aa,ao⟩:=(se [bT,af,ak,ai,ah,ag] bu).g12 h1 h2 h3 h4 E O W ac ae J aa ao
  replace ⟨aD,C,ab⟩:=(se [bT,af,ak,ai,ah,ag] bu).g3 aD C ab
  replace h1:=h1.AU
  replace h2:=h2.AU
  replace h3:=h3.AU
  replace h4:=h4.AU
  replace ac:=ac.AU
  replace ae:=ae.AU
  exact ⟨(bT,d0,dY),⟨AA,AA,AA,AA,AA,AA,trivial⟩,⟨ab,(Ac db),(Ac cW),(Nb.symm da),aD,ao⟩⟩
 rintro ⟨ay,bv,aI⟩ fP bw ⟨bV,ax,aE,bW,bX,d3⟩
 have de:=Ab ax E.lt
 have df:=Ab ax O.lt
 have dg:=Ab ax W.lt
 have dh:=Ab ax J.lt
 have dj:=Ab ax aa.lt
 have dm:=Bd ax C.size
 have eM:Cov nil w ay:=BR ax C.size
 have dp:=Ab aE E.lt
 have dq:=Ab aE O.lt
 have dr:=Ab aE W.lt
 have dt:=Ab aE J.lt
 have du:=Ab aE aa.lt
 have dv:=Bd aE C.size
 replace ⟨h1,h2,h3,h4,E,O,W,ac,ae,J,aa,C⟩:=(sz [af,ak,ai,ah,ag] bV ax).g12 h1 h2 h3 h4 E O W ac ae J aa C
 have eN:=bX.len; have eO:=bX.max
 have bz:nin (fo F w.heap.size) [ay,af,ak,ai,ah,ag] aI∧aI≠ay:=BG (.inr dv) (all_cons bW (all_cons du (all_cons dt (all_cons dr (all_cons dq (all_cons dp all_nil)))))) bW
 refine RG.Ap (T:=32) (ty:=32) (y:=(⟨(CI s.idx n).2.1,(⟨r.t,r.v⟩:Row)⟩:Smp)) bX d3 AA AA rfl bz (by have:=p0.2.2.2; omega) fun aK cq fQ al aw bY=>?_
 have eP:=Ae aw de E.lt
 have eQ:=Ae aw df O.lt
 have eR:=Ae aw dg W.lt
 have eS:=Ae aw dh J.lt
 have eT:=Ae aw dj aa.lt
 have dw:=Bt aw dm C.size
 replace ⟨h1,h2,h3,h4,E,O,W,ac,ae,J,aa,C⟩:=(sa [ay,af,ak,ai,ah,ag] bY aw).g12 h1 h2 h3 h4 E O W ac ae J aa C
 replace al:=al.rn ay
 have eU:=al.len; have eV:=al.max
 refine .r 1<|.ss 3 (vS aK (0+s.mem.length+1) cq) aa fun cr bZ aF dx=>?_
 replace ⟨h1,h2,h3,h4,E,O,W,ac,ae,J,al,C⟩:=(so [aK,af,ak,ai,ah,ag] bZ).g12 h1 h2 h3 h4 E O W ac ae J al C
 refine .d<|.s<|.s<|.g<|.ln aF<|.r 1<|.cl (GU (⟨(⟨((CI s.idx n).1).names,((CI s.idx n).1).AV⟩:Idx),s.parts,(([]++s.mem)++[(⟨(CI s.idx n).2.1,(⟨r.t,r.v⟩:Row)⟩:Smp)])⟩:Sto) ((CI s.idx n).2.1) ac.ta ae.ta h3.ta (al.rep) p0.2.1 p0.2.2.1 (by have:=p0.2.2.2; simp; omega) (w:=cr) (F:=all)) ?_
 rintro fR fS ⟨⟨fT,fU,rfl,aU⟩,b0⟩
 have b6:=al6 al.lt aF.lt J.lt W.lt O.lt E.lt
 have dy:Gb w.heap.size cr.heap.size:=C.size
 replace ⟨h1,h2,h3,h4,E,W,ac,ae,aF,al,C⟩:=(se [aK,af,ak,ai,ah,ag] b0).g11 h1 h2 h3 h4 E W ac ae aF al C
 have aU:=aU.fr b6 dy
 replace aU:=aU.base (G':=fo F w.heap.size) (fun _ _ h=>.inr h)
 have eW:=aU.max
 refine .r 1<|.bp ((((rowsOf (⟨(⟨((CI s.idx n).1).names,((CI s.idx n).1).AV⟩:Idx),s.parts,(([]++s.mem)++[(⟨(CI s.idx n).2.1,(⟨r.t,r.v⟩:Row)⟩:Smp)])⟩:Sto) ((CI s.idx n).2.1)).length):Int) > 24) (fun dz=>?_) (fun dz=>?_)
 ·refine .d<|.ct<|.s<|.g<|.ln E<|.sc [.slice a1 s.idx.names.length c1,.slice a2 s.idx.AV.length c2,.slice a3 s.parts.length c3,.slice a4 s.mem.length c4] W fun fV b7 dA dB=>?_
  replace ⟨h1,h2,h3,h4,ac,ae,aF,al,C⟩:=(so [aK,af,ak,ai,ah,ag] b7).g9 h1 h2 h3 h4 ac ae aF al C
  exact .r 1<|.d<|.r2 Tryz.func135 Tryz.results135 (.bx dA) (.t (.bool false)) ⟨⟨_,(CS rfl (congrArg Value.bool (by rw [QU ‹_› ‹_› ‹_› ‹_›]))),(VS.of (y:=s) ⟨_,rfl,⟨_,_,_,_,_,_,_,_,_,_,_,_,rfl,h1.w1,h2.w1,h3.w1,h4.w1⟩⟩ (by rw [QU ‹_› ‹_› ‹_› ‹_›]))⟩,C⟩
 refine .d<|.cf<|.sk<|.s<|.g<|.ln aF<|.sc [.slice bB ((((CI s.idx n).1).names).length) bC,.slice bD ((((CI s.idx n).1).AV).length) bE,.slice a3 s.parts.length c3,vS aK (0+s.mem.length+1) cq] W fun d4 b8 dC dD=>?_
 replace ⟨h3,ac,ae,al,C⟩:=(so [aK,af,ak,ai,ah,ag] b8).g5 h3 ac ae al C
 refine .r 1<|.d ?_
 have d5:=al.sl (.inr dw)
 replace ⟨h3,ac,ae⟩:=(sd d4 [aK,af,ak,ai,ah,ag] aK).g3 h3 ac ae
 exact .r2 Tryz.func135 Tryz.results135 (.bx dC) (.t (.bool true)) ⟨⟨_,(CS rfl (congrArg Value.bool (by (rw [QV ‹_› ‹_› ‹_› ‹_›] <;> rfl)))),(VS.of (y:=(⟨(⟨((CI s.idx n).1).names,((CI s.idx n).1).AV⟩:Idx),s.parts,(([]++s.mem)++[(⟨(CI s.idx n).2.1,(⟨r.t,r.v⟩:Row)⟩:Smp)])⟩:Sto)) ⟨_,rfl,⟨_,_,_,_,_,_,_,_,_,_,_,_,rfl,ac.w1,ae.w1,h3.w1,d5.w1⟩⟩ (by (rw [QV ‹_› ‹_› ‹_› ‹_›] <;> rfl)))⟩,C⟩
end Go.Proofs.YtganlmloonielaaGreat
namespace Go.Proofs.YtganlmloonielaaGreat
def BO (s:Sto):Sto:=⟨idxOf s.idx.names,s.parts,s.mem⟩
def BH (d:Dsk):Dsk:=⟨d.files.filter (fun f=>d.list.contains f.num),d.list,d.names,d.next⟩
def BZ (d:Dsk) (s:Sto):List Stp :=
 if s.mem.length=0∨d.list.length≥6∨d.next≥999∨d.files.length≥20 then []
 else [⟨1,d.next,BK s.mem,[],[]⟩,⟨2,0,⟨[],[]⟩,d.list++[d.next],s.idx.names⟩]
theorem E0 {d:Dsk} {s:Sto} (h:(s.mem.length:Int)=0∨(d.list.length:Int)≥6∨d.next≥999∨(d.files.length:Int)≥20):BZ d s=[]:=by unfold BZ; rw [if_pos AB]
theorem FF {d:Dsk} {s:Sto} (h1:(s.mem.length:Int)≠0) (h2:¬ (d.list.length:Int)≥6) (h3:¬ d.next≥999) (h4:¬ (d.files.length:Int)≥20) :
 BZ d s=[⟨1,d.next,BK s.mem,[],[]⟩,⟨2,0,⟨[],[]⟩,d.list++[d.next],s.idx.names⟩]:=by unfold BZ; rw [if_neg AB]
theorem OX {α:Type} {l:List (List α)} {i:Nat} {k:List (List α)} {q:List α} (h:k++l.drop i=l) (hd:l.drop i=q::l.drop (i+1)):(k++[[]++q])++l.drop (i+1)=l:=by
 rw [hd] at h
 simpa using h
theorem QW {l:List Prt} {i:Nat} {k:List Prt} {q:Prt} {a:List Int} {b:List (List Row)} (h:k++l.drop i=l) (hd:l.drop i=q::l.drop (i+1)) (ha:a=q.ids) (hb:b=q.blocks):(k++[⟨a,b⟩])++l.drop (i+1)=l:=by
 subst ha hb
 rw [hd] at h
 simpa using h
end Go.Proofs.YtganlmloonielaaGreat
namespace Go.Proofs.YtganlmloonielaaGreat
set_option maxRecDepth 100000
set_option maxHeartbeats 4000000
theorem GV (d:Dsk) {w:World} {F:Nat→Prop} {a1:Option Addr} {n1 c1:Nat} (h1:RepS w F a1 n1 c1 d.files) {a2:Option Addr} {n2 c2:Nat} (h2:RepS w F a2 n2 c2 d.list) {a3:Option Addr} {n3 c3:Nat} (h3:RepS w F a3 n3 c3 d.names) (p0:d.files.length≤1000):Calls Tryz.prog 80 [.agg #[.slice a1 n1 c1,.slice a2 n2 c2,.slice a3 n3 c3,.int .i64 d.next]].toArray w (As fun rv w'=>VS (fo F w.heap.size) w' (BH d:Dsk) rv∧Ext w w'):=by
 refine goT Tryz.func80 ?_
 obtain ⟨rfl,bK,h1⟩:=h1.tp
 obtain ⟨rfl,bL,h2⟩:=h2.tp
 obtain ⟨rfl,bM,h3⟩:=h3.tp
 refine .s<|.g<|.np 27 [.slice a1 d.files.length c1,.slice a2 d.list.length c2,.slice a3 d.names.length c3,vI d.next] fun aa ci au av E aW=>?_
 have bN:Cov nil w aa:=Bc au (Nat.le_refl _)
 replace ⟨h1,h2,h3⟩:=(sn [] av au).g3 h1 h2 h3
 have C:=av
 refine .np 27 [.slice none 0 0,.slice none 0 0,.slice none 0 0,vI 0] fun ab cj al aD J aX=>?_
 have bO:=AS al E.lt
 have bP:=C.cn al
 replace ⟨h1,h2,h3,E,C⟩:=(sn [aa] aD al).g5 h1 h2 h3 E C
 refine .d<|.s<|.g<|.ns 0 66 [] fun aj aw ag aE aY aZ=>?_
 have ba:=AS ag E.lt
 have bc:=AS ag J.lt
 have bd:=Ad ag C.size
 have bg:=C.cn ag
 replace ⟨h1,h2,h3,E,J,C⟩:=(sn [ab,aa] aE ag).g6 h1 h2 h3 E J C
 have bh:Own (α:=Fil) aw aj 66 (nin (fo F w.heap.size) [aj,ab,aa]) 0 0 []:=Own.Ag aY
 refine .r 1<|.d<|.s<|.s<|.g<|.r 1<|.d<|.b 0<|T.loop (X:=(List Fil) × Nat × Nat × Nat × Nat) (([]:List Fil),aj,0,0,0) (fun (files,r_files,n_files,c_files,i)=>[(1,.pointer (some ⟨aa,0,none⟩)),(2,.pointer (some ⟨ab,0,none⟩)),(3,vS r_files n_files c_files),(4,vI (i:Int))]) (fun (files,r_files,n_files,c_files,i) aC=>Chg (ins [aj]) aw aC∧Own aC r_files 66 (nin (fo F w.heap.size) [r_files,ab,aa]) n_files c_files files∧OrB r_files aj aw.heap.size∧(i≤d.files.length)∧(files.length≤i)∧(files++(d.files.drop i).filter (fun f=>d.list.contains f.num)=d.files.filter (fun f=>d.list.contains f.num))) (fun (files,r_files,n_files,c_files,i)=>d.files.length - i) AA ⟨AA,AA,AA,AA,trivial⟩ ⟨Chg.refl _ _,bh,BJ,(by simp),(by simp),(by simp)⟩ ?_
 rintro ⟨files,r_files,n_files,c_files,i⟩ ck aC ⟨W,O,ac,bQ,bR,bS⟩ ak
 have bT:=Aw ac ba E.lt
 have bU:=Aw ac bc J.lt
 have bi:=Bv ac bd C.size
 have bV:=Ar ac bg C.size
 have bj:Cov (ins [aj]) aw aj:=⟨.inl AD⟩
 have bW:=Ar ac bj (Nat.le_refl _)
 have aF:Mv [aj,ab,aa] [r_files,ab,aa] aw aC:=Mv.inl W (all_cons AD all_nil) (all_cons (BV ac AD) (all_cons (.inl AE) (all_cons (.inl AF) all_nil)))
 replace ⟨h1,h2,h3,E,J,C⟩:=(sp aF W).g6 h1 h2 h3 E J C
 have bX:=O.len; have bY:=O.max
 refine .s<|.s<|.g<|.r 2<|.lb E<|.r 1<|.bp ((i:Int)< (d.files.length:Int)) (fun bk=>?_) (fun bk=>?_)
 ·refine .d<|.ct<|.sk<|.s<|.b 1<|.s<|.gd nil 7 fun cm aG=>?_
  replace ⟨h1,h2,h3,E,J,O,C,W⟩:=(se [r_files,ab,aa] aG).g8 h1 h2 h3 E J O C W
  refine .ln 0 E id<|.r [1]<|.lb 2 E id<|.r [3] ?_
  have bm:i< d.files.length:=AB
  refine .ix 4 i 3 h1 bm<|.r [5] ?_
  obtain ⟨ah,am⟩:∃ y,d.files[i]? = some y:=⟨_,AP AB⟩
  have bZ:=AX am; have bF:=AQ am
  obtain ⟨_,⟨co,cp,cq,cr,cu,cv,rfl,bn,bo⟩,bq⟩:=h1.elem i ah am
  have br:=bn.len
  subst br
  have b0:=bn.max
  have bt:=bo.len
  subst bt
  have b6:=bo.max
  refine .lh 6 0 bq id<|.d fun bG aH=>?_
  replace ⟨h1,h2,h3,E,J,O,C,W⟩:=(se [r_files,ab,aa] aH).g8 h1 h2 h3 E J O C W
  refine .cl (Fh d ah.num h1.ta h2.ta h3.ta (w:=bG) (F:=all)) ?_
  rintro cw cx ⟨rfl,aI⟩
  replace ⟨h1,h2,h3,E,J,O,C,W⟩:=(se [r_files,ab,aa] aI).g8 h1 h2 h3 E J O C W
  cases b7:(d.list.contains ah.num)
  ·exact .d<|.cf<|.sk<|.ib 1<|.g<|.r 1<|.it ((i:Int)+1)<|.r 1<|.d<|ak (files,r_files,n_files,c_files,i+1) _ _ ⟨AA,AA,AA,AA,trivial⟩ ⟨W,O,ac,AB,AB,(by grind)⟩ (by (simp only []; omega))
  refine .d<|.ct<|.g<|.r 2<|.lb E<|.r 1 ?_
  have bu:i< d.files.length:=AB
  refine .ix i 3 h1 bu ?_
  obtain ⟨_,⟨bH,b8,bv,bw,b9,bz,rfl,ao,aq⟩,bA⟩:=h1.elem i ah am
  have aK:=ao.len
  subst aK
  have aL:=aq.len
  subst aL
  refine .lg 0 bA<|.ns 1 66 [vI ah.num,.slice bH ah.part.ids.length bv,.slice bw ah.part.blocks.length bz] fun aJ cd ae ax aM aN=>?_
  have aO:=AS ae E.lt
  have aP:=AS ae J.lt
  have ay:=AS ae O.lt
  have aQ:=Ad ae C.size
  replace ⟨h2,h3,E,J,O,ao,aq,C,W⟩:=(se [r_files,ab,aa] ax).g9 h2 h3 E J O ao aq C W
  have ar:nin (fo F w.heap.size) [r_files,ab,aa] aJ∧aJ≠r_files:=BG (.inr aQ) (all_cons ay (all_cons aP (all_cons aO all_nil))) ay
  refine RG.Ap (T:=23) (ty:=23) (y:=ah) O aM AA AA ⟨_,_,_,_,_,_,rfl,ao.oi,aq.oi⟩ ar AB fun bB bC ce af ai az=>?_
  have aR:=Bo ai ac W.size
  replace ⟨h2,h3,E,J,C,W⟩:=(sa [r_files,ab,aa] az ai).g6 h2 h3 E J C W
  replace af:=af.rn r_files
  have bI:=af.len; have bJ:=af.max
  exact .r 1<|.d<|.ib 1<|.g<|.r 1<|.it ((i:Int)+1)<|.r 1<|.d<|ak ((files++[ah]),bB,n_files+1,bC,i+1) _ _ ⟨AA,AA,AA,AA,trivial⟩ ⟨W,af,aR,AB,AB,(by grind)⟩ (by (simp only []; omega))
 refine .d<|.cf<|.x 0 rfl<|.s<|.g<|.r 2<|.ss 0 (vS r_files n_files c_files) E fun cg aA aS aT=>?_
 replace ⟨h2,h3,J,O,C⟩:=(so [r_files,ab,aa] aA).g5 h2 h3 J O C
 refine .d<|.s<|.g<|.ln aS<|.sc [vS r_files n_files c_files,.slice a2 d.list.length c2,.slice a3 d.names.length c3,vI d.next] J fun bD aB aU aV=>?_
 replace ⟨h2,h3,O,C⟩:=(so [r_files,ab,aa] aB).g4 h2 h3 O C
 refine .d ?_
 have bE:=O.sl (.inr bi)
 replace ⟨h2,h3⟩:=(sd bD [r_files,ab,aa] r_files).g2 h2 h3
 exact .rb Tryz.func80 Tryz.results80 aU ⟨(VS.of (y:=(⟨files,d.list,d.names,d.next⟩:Dsk)) ⟨_,rfl,⟨_,_,_,_,_,_,_,_,_,rfl,bE.w1,h2.w1,h3.w1⟩⟩ (by grind [BH,AY])),C⟩
theorem F7 (d:Dsk) (s:Sto) {w:World} {F:Nat→Prop} {a1:Option Addr} {n1 c1:Nat} (h1:RepS w F a1 n1 c1 d.files) {a2:Option Addr} {n2 c2:Nat} (h2:RepS w F a2 n2 c2 d.list) {a3:Option Addr} {n3 c3:Nat} (h3:RepS w F a3 n3 c3 d.names) {a4:Option Addr} {n4 c4:Nat} (h4:RepS w F a4 n4 c4 s.idx.names) {a5:Option Addr} {n5 c5:Nat} (h5:RepS w F a5 n5 c5 s.idx.AV) {a6:Option Addr} {n6 c6:Nat} (h6:RepS w F a6 n6 c6 s.parts) {a7:Option Addr} {n7 c7:Nat} (h7:RepS w F a7 n7 c7 s.mem) (p0:s.mem.length≤1000) (p1:∀ m∈s.mem,1≤m.id∧m.id≤6) (p2:d.list.length≤1000) (p3:s.idx.names.length≤1000) (p4:∀ n∈s.idx.names,n.length≤1000):Calls Tryz.prog 56 [.agg #[.slice a1 n1 c1,.slice a2 n2 c2,.slice a3 n3 c3,.int .i64 d.next],.agg #[.slice a4 n4 c4,.slice a5 n5 c5,.slice a6 n6 c6,.slice a7 n7 c7]].toArray w (As fun rv w'=>VL (ge w.heap.size) w' (BZ d s:List Stp) rv∧Ext w w'):=by
 refine goT Tryz.func56 ?_
 obtain ⟨rfl,eN,h1⟩:=h1.tp
 obtain ⟨rfl,eO,h2⟩:=h2.tp
 obtain ⟨rfl,eP,h3⟩:=h3.tp
 obtain ⟨rfl,eQ,h4⟩:=h4.tp
 obtain ⟨rfl,eR,h5⟩:=h5.tp
 obtain ⟨rfl,eS,h6⟩:=h6.tp
 obtain ⟨rfl,eT,h7⟩:=h7.tp
 refine .s<|.g<|.np 27 [.slice a1 d.files.length c1,.slice a2 d.list.length c2,.slice a3 d.names.length c3,vI d.next] fun aa fI b6 bh E c9=>?_
 replace ⟨h2,h4,h5,h6,h7⟩:=(sn [] bh b6).g5 h2 h4 h5 h6 h7
 have C:=bh
 refine .np 34 [.slice a4 s.idx.names.length c4,.slice a5 s.idx.AV.length c5,.slice a6 s.parts.length c6,.slice a7 s.mem.length c7] fun ab aG b7 b8 J da=>?_
 replace ⟨h2,h4,h5,h6,h7,E,C⟩:=(sn [aa] b8 b7).g7 h2 h4 h5 h6 h7 E C
 refine .r 1<|.d<|.s<|.s<|.g<|.r 1<|.lb J<|.r 1<|.eq (s.mem.length:Int) 0 (fun db=>?_) (fun db=>?_)
 ·refine .r 17<|.d<|.ct<|.s<|.g<|.ns 0 44 [] fun bi de aK b9 df dg=>?_
  have eU:=AS aK E.lt
  have eV:=AS aK J.lt
  have dh:=Ad aK C.size
  replace ⟨h2,h4,h5,h6,h7,E,J,C⟩:=(sn [ab,aa] b9 aK).g8 h2 h4 h5 h6 h7 E J C
  have dj:Own (α:=Stp) de bi 44 (nin (ge w.heap.size) [bi,ab,aa]) 0 0 []:=Own.Ag df
  refine .r 1<|.d ?_
  have d0:=dj.sl dh
  replace ⟨h2,h4,h5,h6,h7⟩:=(sd de [bi,ab,aa] bi).g5 h2 h4 h5 h6 h7
  exact .rt Tryz.func56 Tryz.results56 (vS bi 0 0) ⟨(d0.vl (by rw [E0 AB]) (fun _ _ h=>h.1)),C⟩
 refine .r 2<|.lb E<|.r 1<|.bp ((d.list.length:Int)≥6) (fun dm=>?_) (fun dm=>?_)
 ·refine .r 12<|.d<|.ct<|.s<|.g<|.ns 0 44 [] fun bj dp aL cd dq dr=>?_
  have eW:=AS aL E.lt
  have eX:=AS aL J.lt
  have dt:=Ad aL C.size
  replace ⟨h2,h4,h5,h6,h7,E,J,C⟩:=(sn [ab,aa] cd aL).g8 h2 h4 h5 h6 h7 E J C
  have du:Own (α:=Stp) dp bj 44 (nin (ge w.heap.size) [bj,ab,aa]) 0 0 []:=Own.Ag dq
  refine .r 1<|.d ?_
  have d3:=du.sl dt
  replace ⟨h2,h4,h5,h6,h7⟩:=(sd dp [bj,ab,aa] bj).g5 h2 h4 h5 h6 h7
  exact .rt Tryz.func56 Tryz.results56 (vS bj 0 0) ⟨(d3.vl (by rw [E0 AB]) (fun _ _ h=>h.1)),C⟩
 refine .r 3<|.lb E<|.bp (d.next≥999) (fun dv=>?_) (fun dv=>?_)
 ·refine .r 7<|.d<|.ct<|.s<|.g<|.ns 0 44 [] fun bk dw aM ce dx dy=>?_
  have eY:=AS aM E.lt
  have eZ:=AS aM J.lt
  have dz:=Ad aM C.size
  replace ⟨h2,h4,h5,h6,h7,E,J,C⟩:=(sn [ab,aa] ce aM).g8 h2 h4 h5 h6 h7 E J C
  have dA:Own (α:=Stp) dw bk 44 (nin (ge w.heap.size) [bk,ab,aa]) 0 0 []:=Own.Ag dx
  refine .r 1<|.d ?_
  have d4:=dA.sl dz
  replace ⟨h2,h4,h5,h6,h7⟩:=(sd dw [bk,ab,aa] bk).g5 h2 h4 h5 h6 h7
  exact .rt Tryz.func56 Tryz.results56 (vS bk 0 0) ⟨(d4.vl (by rw [E0 AB]) (fun _ _ h=>h.1)),C⟩
 refine .r 3<|.lb E<|.r 1<|.bp ((d.files.length:Int)≥20) (fun dB=>?_) (fun dB=>?_)
 ·refine .r 1<|.d<|.ct<|.s<|.g<|.ns 0 44 [] fun bm dC aN cg dD dE=>?_
  have e7:=AS aN E.lt
  have e8:=AS aN J.lt
  have dF:=Ad aN C.size
  replace ⟨h2,h4,h5,h6,h7,E,J,C⟩:=(sn [ab,aa] cg aN).g8 h2 h4 h5 h6 h7 E J C
  have ck:Own (α:=Stp) dC bm 44 (nin (ge w.heap.size) [bm,ab,aa]) 0 0 []:=Own.Ag dD
  refine .r 1<|.d ?_
  have dG:=ck.sl dF
  replace ⟨h2,h4,h5,h6,h7⟩:=(sd dC [bm,ab,aa] bm).g5 h2 h4 h5 h6 h7
  exact .rt Tryz.func56 Tryz.results56 (vS bm 0 0) ⟨(dG.vl (by rw [E0 AB]) (fun _ _ h=>h.1)),C⟩
 refine .r 1<|.d<|.cf<|.sk<|.s<|T.Du (X:=Nat × Nat × Nat) (mtb [] aG.heap.size) 7 (fun (ak,ba,aB)=>[(2,.pointer (some ⟨aa,0,none⟩)),(3,.pointer (some ⟨ab,0,none⟩)),(31,vS ak (0+d.list.length) ba),(34,vS aB 1 1)]) (fun (ak,ba,aB) bc=>Ext aG bc∧aG.heap.size≤ak∧aG.heap.size≤aB∧Nb aB ak∧Own bc ak 3 (nin (ge w.heap.size) [ak,ab,aa]) (0+d.list.length) ba (([]++d.list):List Int)∧Box bc aB 3 [vI d.next]) AA (fun dH aH=>?_) ?_
 ·replace h2:=h2.Ah
  replace h4:=h4.Ah
  replace h5:=h5.Ah
  replace h6:=h6.Ah
  replace h7:=h7.Ah
  have bn:Gb (aa+1) aG.heap.size:=E.lt
  replace ⟨h2,h4,h5,h6,h7,E,J,C⟩:=(se [ab,aa] aH).g8 h2 h4 h5 h6 h7 E J C
  have O:=aH
  have W:Chg (mtb [] aG.heap.size) aG dH:=Chg.Cc (Chg.refl (mtb [] aG.heap.size) aG) aH
  refine .r [1]<|.lb 2 E (Ax all_nil bn)<|.r [4]<|.lb 5 E (Ax all_nil bn)<|.tw 0 6 ?_ ?_
  ·refine .ns 0 3 [] fun fa bo=>?_
   replace ⟨h2,h4,h5,h6,h7,E,J,C,O,W⟩:=(se [ab,aa] bo).g10 h2 h4 h5 h6 h7 E J C O W
   intro al dI ar bq cm co
   have d5:=AS ar E.lt
   have d6:=AS ar J.lt
   have d7:=C.cn ar
   have br:=O.cn ar
   have bt:=W.cn ar
   replace ⟨h2,h4,h5,h6,h7,E,J,C,O,W⟩:=(sn [ab,aa] bq ar).g10 h2 h4 h5 h6 h7 E J C O W
   have aj:Own (α:=Int) dI al 3 (nin (ge w.heap.size) [al,ab,aa]) 0 0 []:=Own.Ag cm
   refine .tw 3 6 ?_ ?_
   ·refine GE.append (T:=24) (ty:=24) (args:=[vS al 0 0,.slice a2 d.list.length c2]) AA fun fb bu=>?_
    replace ⟨h2,h4,h5,h6,h7,E,J,aj,C,O,W⟩:=(se [al,ab,aa] bu).g11 h2 h4 h5 h6 h7 E J aj C O W
    obtain ⟨bd,dJ,fc,bv,ah,aI,aP,cp⟩:=Own.Ay (P:=Tryz.prog) (T:=24) (ty:=24) BF aj AA h2 (fun b h e=>h.2 (e▸AD)) AB
    refine ⟨_,_,bv,Chg.toS aP (Cov.toS bt),?_⟩
    have cq:=Am aI br O.size
    replace ⟨h2,h4,h5,h6,h7,E,J,C,O,W⟩:=(sa [al,ab,aa] aP aI).g10 h2 h4 h5 h6 h7 E J C O W
    replace ah:=ah.rn al
    have d8:=ah.len; have d9:=ah.max
    refine .go 6<|.ns 1 3 [vI d.next] fun fd bw=>?_
    replace ⟨h2,h4,h5,h6,h7,E,J,ah,C,O,W⟩:=(se [bd,ab,aa] bw).g11 h2 h4 h5 h6 h7 E J ah C O W
    intro dK fe aQ bz aR cr
    have cu:=AS aQ ah.lt
    have cv:=O.cn aQ
    replace ⟨h2,h4,h5,h6,h7,E,J,ah,C,O,W⟩:=(se [bd,ab,aa] bz).g11 h2 h4 h5 h6 h7 E J ah C O W
    refine .d fun ff bA=>?_
    replace ⟨h2,h4,h5,h6,h7,E,J,ah,aR,C,O,W⟩:=(se [bd,ab,aa] bA).g12 h2 h4 h5 h6 h7 E J ah aR C O W
    replace h2:=h2.AU
    replace h4:=h4.AU
    replace h5:=h5.AU
    replace h6:=h6.AU
    replace h7:=h7.AU
    exact ⟨(bd,dJ,dK),⟨AA,AA,AA,AA,trivial⟩,⟨O,(Ac cq),(Ac cv),cu,ah,aR⟩⟩
   refine .ns 1 3 [vI d.next] fun fg bB=>?_
   replace ⟨h2,h4,h5,h6,h7,E,J,aj,C,O,W⟩:=(se [al,ab,aa] bB).g11 h2 h4 h5 h6 h7 E J aj C O W
   intro dL fh aS bC am cw
   have cx:=AS aS aj.lt
   have cy:=O.cn aS
   replace ⟨h2,h4,h5,h6,h7,E,J,aj,C,O,W⟩:=(se [al,ab,aa] bC).g11 h2 h4 h5 h6 h7 E J aj C O W
   refine .go 3<|GE.append (T:=24) (ty:=24) (args:=[vS al 0 0,.slice a2 d.list.length c2]) AA fun fi bD=>?_
   replace ⟨h2,h4,h5,h6,h7,E,J,aj,am,C,O,W⟩:=(se [al,ab,aa] bD).g12 h2 h4 h5 h6 h7 E J aj am C O W
   obtain ⟨ci,dM,fj,bE,au,aC,aT,cz⟩:=Own.Ay (P:=Tryz.prog) (T:=24) (ty:=24) BF aj AA h2 (fun b h e=>h.2 (e▸AD)) AB
   refine ⟨_,_,bE,Chg.toS aT (Cov.toS bt),?_⟩
   have cA:=Ae aC (Nb.symm cx) am.lt
   have cB:=Am aC br O.size
   replace ⟨h2,h4,h5,h6,h7,E,J,am,C,O,W⟩:=(sa [al,ab,aa] aT aC).g11 h2 h4 h5 h6 h7 E J am C O W
   replace au:=au.rn al
   have ec:=au.len; have ed:=au.max
   refine .d fun fk bF=>?_
   replace ⟨h2,h4,h5,h6,h7,E,J,au,am,C,O,W⟩:=(se [ci,ab,aa] bF).g12 h2 h4 h5 h6 h7 E J au am C O W
   replace h2:=h2.AU
   replace h4:=h4.AU
   replace h5:=h5.AU
   replace h6:=h6.AU
   replace h7:=h7.AU
   exact ⟨(ci,dM,dL),⟨AA,AA,AA,AA,trivial⟩,⟨O,(Ac cB),(Ac cy),(Nb.symm cA),au,am⟩⟩
  refine .ns 1 3 [vI d.next] fun fm bG=>?_
  replace ⟨h2,h4,h5,h6,h7,E,J,C,O,W⟩:=(se [ab,aa] bG).g10 h2 h4 h5 h6 h7 E J C O W
  intro dN fp bH bI ae cC
  have cD:=O.cn bH
  replace ⟨h2,h4,h5,h6,h7,E,J,C,O,W⟩:=(se [ab,aa] bI).g10 h2 h4 h5 h6 h7 E J C O W
  refine .go 0<|.ns 0 3 [] fun fq bJ=>?_
  replace ⟨h2,h4,h5,h6,h7,E,J,ae,C,O,W⟩:=(se [ab,aa] bJ).g11 h2 h4 h5 h6 h7 E J ae C O W
  intro aE dO ao bK cE cF
  have ee:=AS ao E.lt
  have ef:=AS ao J.lt
  have cG:=AS ao ae.lt
  have eg:=C.cn ao
  have cH:=O.cn ao
  have cI:=W.cn ao
  replace ⟨h2,h4,h5,h6,h7,E,J,ae,C,O⟩:=(sn [ab,aa] bK ao).g10 h2 h4 h5 h6 h7 E J ae C O
  have aU:Own (α:=Int) dO aE 3 (nin (ge w.heap.size) [aE,ab,aa]) 0 0 []:=Own.Ag cE
  refine .go 3<|GE.append (T:=24) (ty:=24) (args:=[vS aE 0 0,.slice a2 d.list.length c2]) AA fun ft bL=>?_
  replace ⟨h2,h4,h5,h6,h7,E,J,ae,aU,C,O⟩:=(se [aE,ab,aa] bL).g11 h2 h4 h5 h6 h7 E J ae aU C O
  obtain ⟨cj,dP,fu,bM,av,aD,aV,cJ⟩:=Own.Ay (P:=Tryz.prog) (T:=24) (ty:=24) BF aU AA h2 (fun b h e=>h.2 (e▸AD)) AB
  refine ⟨_,_,bM,Chg.toS aV (Cov.toS cI),?_⟩
  have cK:=Ae aD cG ae.lt
  have cL:=Am aD cH O.size
  replace ⟨h4,h5,h6,h7,E,J,ae,C,O⟩:=(sa [aE,ab,aa] aV aD).g9 h4 h5 h6 h7 E J ae C O
  replace av:=av.rn aE
  have eh:=av.len; have ej:=av.max
  refine .d fun fv bN=>?_
  replace ⟨h4,h5,h6,h7,E,J,ae,av,C,O⟩:=(se [cj,ab,aa] bN).g10 h4 h5 h6 h7 E J ae av C O
  replace h4:=h4.AU
  replace h5:=h5.AU
  replace h6:=h6.AU
  replace h7:=h7.AU
  exact ⟨(cj,dP,dN),⟨AA,AA,AA,AA,trivial⟩,⟨O,(Ac cL),(Ac cD),(Nb.symm cK),av,ae⟩⟩
 rintro ⟨ak,ba,aB⟩ fw bc ⟨bO,ay,aJ,bP,bQ,dQ⟩
 have cM:=Ab ay E.lt
 have cN:=Ab ay J.lt
 have cO:=Bd ay C.size
 have ek:Cov nil w ak:=BR ay C.size
 have cP:=Ab aJ E.lt
 have cQ:=Ab aJ J.lt
 have cR:=Bd aJ C.size
 replace ⟨h4,h5,h6,h7,E,J,C⟩:=(sz [ab,aa] bO ay).g7 h4 h5 h6 h7 E J C
 have en:=bQ.len; have et:=bQ.max
 have bg:nin (ge w.heap.size) [ak,ab,aa] aB∧aB≠ak:=BG cR (all_cons bP (all_cons cQ (all_cons cP all_nil))) bP
 refine RG.Ap (T:=24) (ty:=24) (y:=d.next) bQ dQ AA AA rfl bg AB fun aq dR fz ac ax bR=>?_
 have ey:=Ae ax cM E.lt
 have ez:=Ae ax cN J.lt
 have cS:=Bt ax cO C.size
 replace ⟨h4,h5,h6,h7,E,J,C⟩:=(sa [ak,ab,aa] bR ax).g7 h4 h5 h6 h7 E J C
 replace ac:=ac.rn ak
 have eA:=ac.len; have eB:=ac.max
 refine .r 1<|.d<|.s<|.gd nil 11 fun fA bS=>?_
 replace ⟨h4,h5,h6,h7,E,J,ac,C⟩:=(se [aq,ab,aa] bS).g8 h4 h5 h6 h7 E J ac C
 refine .r [0]<|.lb 1 E id<|.ln 2 J id<|.r [5,6,7]<|.lb 8 J id<|.go 3<|.cl (fun bT az=>HD s (h4.ta.ext az) (h5.ta.ext az) (h6.ta.ext az) (h7.ta.ext az) p0 p1 (w:=bT) (F:=all)) ?_
 intro bT az
 replace ⟨h4,E,J,ac,C⟩:=(se [aq,ab,aa] az).g5 h4 E J ac C
 rintro fB fC ⟨⟨_,rfl,⟨dS,fD,dT,dU,fE,dV,rfl,af,ag⟩⟩,aW⟩
 have aX:=al3 ac.lt J.lt E.lt
 have bU:Gb w.heap.size bT.heap.size:=C.size
 have hkeep_:=aW
 replace ⟨h4,E,J,ac,C⟩:=(se [aq,ab,aa] aW).g5 h4 E J ac C
 refine ⟨Ext.chg hkeep_,?_⟩
 have af:=af.fr aX bU
 have eC:=af.max
 have ag:=ag.fr aX bU
 have eD:=ag.max
 have cT:=af.len
 subst cT
 have cU:=ag.len
 subst cU
 refine .r [4]<|.go 9<|.cl (fun bV aY=>Cf s.idx.names (h4.ta.ext aY) AB (by intro n hn; have:=p4 n hn; omega) (w:=bV) (F:=all)) ?_
 intro bV aY
 replace ⟨E,J,ac,af,ag,C⟩:=(se [aq,ab,aa] aY).g6 E J ac af ag C
 rintro fF fG ⟨⟨aF,dW,dX,rfl,ai,aA⟩,aZ⟩
 have bW:=al3 ac.lt J.lt E.lt
 have cV:Gb w.heap.size bV.heap.size:=C.size
 have hkeep_:=aZ
 have eE:=Ab aA E.lt
 have eF:=Ab aA J.lt
 have eG:=Ab aA ac.lt
 have cW:=Bd aA C.size
 replace ⟨E,J,ac,af,ag,C⟩:=(sz [aq,ab,aa] aZ aA).g6 E J ac af ag C
 refine ⟨Ext.chg hkeep_,?_⟩
 replace ai:=Own.take (s0:=w.heap.size) (M:=[aq,ab,aa]) ai bW cV
 have eH:=ai.len; have eI:=ai.max
 refine .r [10]<|.d fun fH bX=>?_
 replace ⟨E,J,ac,af,ag,ai,C⟩:=(se [aF,aq,ab,aa] bX).g7 E J ac af ag ai C
 refine .ns 2 44 [vI 1,vI d.next,.slice dS (((BK s.mem).ids).length) dT,.slice dU (((BK s.mem).blocks).length) dV,.slice none 0 0,.slice none 0 0,vI 2,vI 0,.slice none 0 0,.slice none 0 0,vS aq (0+d.list.length+1) dR,vS aF dW dX] fun aO bY aw bZ cX cY=>?_
 have eJ:=AS aw E.lt
 have eK:=AS aw J.lt
 have eL:=AS aw ac.lt
 have eM:=AS aw ai.lt
 have cZ:=Ad aw C.size
 replace ⟨ac,af,ag,ai,C⟩:=(sn [aF,aq,ab,aa] bZ aw).g5 ac af ag ai C
 have b0:=ac.sl cS
 replace ⟨af,ag,ai⟩:=(sd bY [aO,aF,aq,ab,aa] aq).g3 af ag ai
 have dY:=ai.sl cW
 replace ⟨b0,af,ag⟩:=(sd bY [aO,aF,ab,aa] aF).g3 b0 af ag
 have c8:Own (α:=Stp) bY aO 44 (nin (ge w.heap.size) [aO,ab,aa]) 2 2 [(⟨1,d.next,(⟨(BK s.mem).ids,(BK s.mem).blocks⟩:Prt),([]:List Int),([]:List (List Tag))⟩:Stp),(⟨2,0,(⟨([]:List Int),([]:List (List Row))⟩:Prt),(([]++d.list)++[d.next]),s.idx.names⟩:Stp)]:=Own.lit cX rfl (by decide) ⟨⟨_,_,_,_,_,_,_,_,_,_,_,_,rfl,af.oi,ag.oi,(RepS.Ag _ _ none 0 (by decide)),(RepS.Ag _ _ none 0 (by decide))⟩,⟨_,_,_,_,_,_,_,_,_,_,_,_,rfl,(RepS.Ag _ _ none 0 (by decide)),(RepS.Ag _ _ none 0 (by decide)),b0.oi,dY.oi⟩,rfl⟩
 refine .r 1<|.d ?_
 have dZ:=c8.sl cZ
 exact .rt Tryz.func56 Tryz.results56 (vS aO 2 2) ⟨(dZ.vl (by (rw [FF ‹_› ‹_› ‹_› ‹_›] <;> simp)) (fun _ _ h=>h.1)),C⟩
theorem E1 (s:Sto) {w:World} {F:Nat→Prop} {a1:Option Addr} {n1 c1:Nat} (h1:RepS w F a1 n1 c1 s.idx.names) {a2:Option Addr} {n2 c2:Nat} (h2:RepS w F a2 n2 c2 s.idx.AV) {a3:Option Addr} {n3 c3:Nat} (h3:RepS w F a3 n3 c3 s.parts) {a4:Option Addr} {n4 c4:Nat} (h4:RepS w F a4 n4 c4 s.mem) (p0:MX s):Calls Tryz.prog 82 [.agg #[.slice a1 n1 c1,.slice a2 n2 c2,.slice a3 n3 c3,.slice a4 n4 c4]].toArray w (As fun rv w'=>(∃ (a0:Option Addr) (n0 c0:Nat) (a1:Option Addr) (n1 c1:Nat) (a2:Option Addr) (n2 c2:Nat) (r3 n3 c3:Nat),rv=.agg #[.slice a0 n0 c0,.slice a1 n1 c1,.slice a2 n2 c2,.slice (some ⟨r3,0,none⟩) n3 c3]∧RepS w' (nin (ge w.heap.size) [r3]) a0 n0 c0 ((((BO s)).idx).names)∧RepS w' (nin (ge w.heap.size) [r3]) a1 n1 c1 ((((BO s)).idx).AV)∧RepS w' (nin (ge w.heap.size) [r3]) a2 n2 c2 (((BO s)).parts)∧Own w' r3 107 (nin (ge w.heap.size) [r3]) n3 c3 (((BO s)).mem)∧w.heap.size≤r3)∧Ext w w'):=by
 refine goT Tryz.func82 ?_
 obtain ⟨rfl,iI,h1⟩:=h1.tp
 obtain ⟨rfl,iJ,h2⟩:=h2.tp
 obtain ⟨rfl,iK,h3⟩:=h3.tp
 obtain ⟨rfl,iL,h4⟩:=h4.tp
 refine .s<|.g<|.np 34 [.slice a1 s.idx.names.length c1,.slice a2 s.idx.AV.length c2,.slice a3 s.parts.length c3,.slice a4 s.mem.length c4] fun ab jL cY b7 O fi=>?_
 replace ⟨h1,h3,h4⟩:=(sn [] b7 cY).g3 h1 h3 h4
 have C:=b7
 refine .np 34 [.slice none 0 0,.slice none 0 0,.slice none 0 0,.slice none 0 0] fun ac jM b8 cZ J fj=>?_
 have iM:=C.cn b8
 replace ⟨h1,h3,h4,O,C⟩:=(sn [ab] cZ b8).g5 h1 h3 h4 O C
 refine .d<|.s<|.g<|.ns 0 42 [] fun bB b9 bi c7 fk fm=>?_
 have fp:=AS bi O.lt
 have fq:=AS bi J.lt
 have ft:=Ad bi C.size
 have fu:=C.cn bi
 replace ⟨h1,h3,h4,O,J,C⟩:=(sn [ac,ab] c7 bi).g6 h1 h3 h4 O J C
 have fv:Own (α:=Prt) b9 bB 42 (nin (ge w.heap.size) [bB,ac,ab]) 0 0 []:=Own.Ag fk
 refine .r 1<|.d<|.s<|.s<|.g<|.r 1<|.d<|.b 0<|T.loop (X:=(List Prt) × Nat × Nat × Nat × Nat) (([]:List Prt),bB,0,0,0) (fun (k,r_k,n_k,c_k,k1)=>[(1,.pointer (some ⟨ab,0,none⟩)),(2,.pointer (some ⟨ac,0,none⟩)),(3,vS r_k n_k c_k),(4,vI (k1:Int))]) (fun (k,r_k,n_k,c_k,k1) aU=>Chg (ins [bB]) b9 aU∧Own aU r_k 42 (nin (ge w.heap.size) [r_k,ac,ab]) n_k c_k k∧OrB r_k bB b9.heap.size∧(k1≤s.parts.length)∧(k.length≤k1)∧(k++s.parts.drop k1=s.parts)) (fun (k,r_k,n_k,c_k,k1)=>s.parts.length - k1) AA ⟨AA,AA,AA,AA,trivial⟩ ⟨Chg.refl _ _,fv,BJ,(by simp),(by simp),(by simp)⟩ ?_
 rintro ⟨k,r_k,n_k,c_k,k1⟩ jN aU ⟨W,E,aW,iN,iO,iP⟩ cd
 have ce:=Aw aW fp O.lt
 have iQ:=Aw aW fq J.lt
 have fw:=Bv aW ft C.size
 have iR:=Ar aW fu C.size
 have fz:Cov (ins [bB]) b9 bB:=⟨.inl AD⟩
 have iS:=Ar aW fz (Nat.le_refl _)
 have c8:Mv [bB,ac,ab] [r_k,ac,ab] b9 aU:=Mv.inl W (all_cons AD all_nil) (all_cons (BV aW AD) (all_cons (.inl AE) (all_cons (.inl AF) all_nil)))
 replace ⟨h1,h3,h4,O,J,C⟩:=(sp c8 W).g6 h1 h3 h4 O J C
 have iT:=E.len; have iU:=E.max
 refine .s<|.s<|.g<|.r 2<|.lb O<|.r 1<|.bp ((k1:Int)< (s.parts.length:Int)) (fun fA=>?_) (fun fA=>?_)
 ·refine .d<|.ct<|.sk<|.s<|.b 1<|.s<|.g<|.ns 0 3 [] fun cW gu aS c9 fB fC=>?_
  have fD:=AS aS O.lt
  have fE:=AS aS J.lt
  have fF:=AS aS E.lt
  have fG:=Ad aS C.size
  have fH:=C.cn aS
  have fI:=W.cn aS
  replace ⟨h1,h3,h4,O,J,E,C,W⟩:=(sn [r_k,ac,ab] c9 aS).g8 h1 h3 h4 O J E C W
  have fJ:Own (α:=Int) gu cW 3 (nin (ge w.heap.size) [cW,r_k,ac,ab]) 0 0 []:=Own.Ag fB
  refine .r 1<|.lb O<|.r 1 ?_
  have fK:k1< s.parts.length:=AB
  refine .ix k1 2 h3 fK<|.r 1 ?_
  obtain ⟨aB,bj⟩:∃ y,s.parts[k1]? = some y:=⟨_,AP AB⟩
  have iV:=AX bj; have gt:=AQ bj
  obtain ⟨_,⟨jO,jP,jQ,jR,jS,jT,rfl,dp,fL⟩,fM⟩:=h3.elem k1 aB bj
  have fN:=dp.len
  subst fN
  have iW:=dp.max
  have dq:=fL.len
  subst dq
  have gv:=fL.max
  refine .lh 0 fM<|RG.Ay (T:=24) (ty:=24) BF fJ dp AA AA (fun b h e=>h.2 (e▸AD)) (by have q1:=p0.2.1; have q2:=p0.2.2.2; (have q3:=p0.2.2.1 _ ‹_›; have q4:=q3.1; have q5:=q3.2.1; omega)) fun aC da iX ak au ci=>?_
  have dr:=Ae au fD O.lt
  have dt:=Ae au fE J.lt
  have du:=Ae au fF E.lt
  have dv:=Bt au fG C.size
  have gw:=Am au fH C.size
  have gx:=Am au fI W.size
  replace ⟨h1,h3,h4,O,J,E,C,W⟩:=(sa [cW,r_k,ac,ab] ci au).g8 h1 h3 h4 O J E C W
  replace ak:=ak.rn cW
  have gy:=ak.len; have gz:=ak.max
  refine .ns 0 91 [] fun az fR ax cj dw dx=>?_
  have dy:=AS ax O.lt
  have dz:=AS ax J.lt
  have dA:=AS ax E.lt
  have dB:=AS ax ak.lt
  have dC:=Ad ax C.size
  have dD:=C.cn ax
  have dE:=W.cn ax
  replace ⟨h1,h3,h4,O,J,E,ak,C,W⟩:=(sn [aC,r_k,ac,ab] cj ax).g9 h1 h3 h4 O J E ak C W
  have aQ:Own (α:=List Row) fR az 91 (nin (ge w.heap.size) [az,aC,r_k,ac,ab]) 0 0 []:=Own.Ag dw
  refine .r 1<|.np 42 [.slice none 0 0,.slice none 0 0] fun ah iY ay ck dF dG=>?_
  have gA:=AS ay O.lt
  have gC:=AS ay J.lt
  have dH:=AS ay E.lt
  have dI:=AS ay ak.lt
  have dJ:=AS ay aQ.lt
  have gD:=C.cn ay
  have gE:=W.cn ay
  replace ⟨h1,h3,h4,O,J,E,ak,aQ,C,W⟩:=(sn [az,aC,r_k,ac,ab] ck ay).g10 h1 h3 h4 O J E ak aQ C W
  refine .sc [vS aC (0+aB.ids.length) da,vS az 0 0] dF fun bk cm bG dK=>?_
  replace ⟨h1,h3,h4,O,J,E,ak,aQ,C,W⟩:=(so [ah,az,aC,r_k,ac,ab] cm).g10 h1 h3 h4 O J E ak aQ C W
  refine .d<|.s<|.s<|.g<|.r 1<|.d<|.b 2<|T.loop (X:=Nat × (List Int) × Nat × Nat × Nat × (List (List Row)) × Nat × Nat × Nat) (0,(([]++aB.ids):List Int),aC,0+aB.ids.length,da,([]:List (List Row)),az,0,0) (fun (k2,bD,r_k_0,n_k_0,c_k_0,bh,r_k_1,n_k_1,c_k_1)=>[(1,.pointer (some ⟨ab,0,none⟩)),(2,.pointer (some ⟨ac,0,none⟩)),(3,vS r_k n_k c_k),(4,vI (k1:Int)),(5,.pointer (some ⟨ah,0,none⟩)),(6,vI (k2:Int))]) (fun (k2,bD,r_k_0,n_k_0,c_k_0,bh,r_k_1,n_k_1,c_k_1) aw=>Chg (ins [aC,az,ah]) bk aw∧Own aw r_k_0 3 (nin (ge w.heap.size) [ah,r_k_1,r_k_0,r_k,ac,ab]) n_k_0 c_k_0 bD∧OrB r_k_0 aC bk.heap.size∧Own aw r_k_1 91 (nin (ge w.heap.size) [ah,r_k_1,r_k_0,r_k,ac,ab]) n_k_1 c_k_1 bh∧OrB r_k_1 az bk.heap.size∧Nb r_k_1 r_k_0∧Box aw ah 42 [vS r_k_0 n_k_0 c_k_0,vS r_k_1 n_k_1 c_k_1]∧(k2≤aB.blocks.length)∧(bD=aB.ids)∧(bh.length≤k2)∧(bh++aB.blocks.drop k2=aB.blocks)) (fun (k2,bD,r_k_0,n_k_0,c_k_0,bh,r_k_1,n_k_1,c_k_1)=>aB.blocks.length - k2) AA ⟨AA,AA,AA,AA,AA,AA,trivial⟩ ⟨Chg.refl _ _,ak,BJ,aQ,BJ,dB,bG,(by simp),(by simp),(by simp),(by simp)⟩ ?_
  rintro ⟨k2,bD,r_k_0,n_k_0,c_k_0,bh,r_k_1,n_k_1,c_k_1⟩ iZ aw ⟨ai,ae,aI,af,av,dL,ag,gF,gG,gH,gI⟩ bZ
  have dM:=Aw aI dr O.lt
  have gJ:=Aw aI dt J.lt
  have gK:=Aw aI du E.lt
  have dN:=Aw aI (Nb.symm dI) bG.lt
  have dO:=Bv aI dv C.size
  have dP:=Aw av dy O.lt
  have gL:=Aw av dz J.lt
  have gM:=Aw av dA E.lt
  have co:=Aw av (Nb.symm dJ) bG.lt
  have dQ:=Bv av dC C.size
  have gN:=Ar av dD C.size
  have gO:=Ar av dE W.size
  have dR:Cov (ins [aC,az,ah]) bk az:=⟨.inl AE⟩
  have gP:Cov (ins [aC,az,ah]) bk ah:=⟨.inl AF⟩
  have gQ:=Ar av dR (Nat.le_refl _)
  have cp:Mv [ah,az,aC,r_k,ac,ab] [ah,r_k_1,r_k_0,r_k,ac,ab] bk aw:=Mv.inl ai (all_cons AF (all_cons AE (all_cons AD all_nil))) (all_cons (.inl AD) (all_cons (BV av AE) (all_cons (BV aI AF) (all_cons (.inl AG) (all_cons (.inl AH) (all_cons (.inl AI) all_nil))))))
  replace ⟨h1,h3,h4,O,J,E,C,W⟩:=(sp cp ai).g8 h1 h3 h4 O J E C W
  have gR:=ae.len; have gS:=ae.max
  have gT:=af.len; have gU:=af.max
  refine .s<|.s<|.g<|.r 2<|.lb O<|.r 1 ?_
  have dS:k1< s.parts.length:=AB
  refine .ix k1 2 h3 dS<|.r 1 ?_
  obtain ⟨_,⟨ja,jb,jc,jd,je,jf,rfl,fS,fT⟩,dT⟩:=h3.elem k1 aB bj
  have dU:=fS.len
  subst dU
  have dV:=fT.len
  subst dV
  refine .lh 1 dT<|.r 1<|.bp ((k2:Int)< (aB.blocks.length:Int)) (fun dW=>?_) (fun dW=>?_)
  ·refine .d<|.ct<|.sk<|.s<|.b 3 ?_
   replace h1:=h1.Ah
   replace h3:=h3.Ah
   replace h4:=h4.Ah
   have dX:Gb (ab+1) aw.heap.size:=O.lt
   have dY:Gb (ah+1) aw.heap.size:=ag.lt
   refine .gd (mtb [r_k,r_k_0,r_k_1] aw.heap.size) 14 fun fU bH=>?_
   replace ⟨h1,h3,h4,O,J,E,ae,af,ag,C,W,ai⟩:=(se [ah,r_k_1,r_k_0,r_k,ac,ab] bH).g12 h1 h3 h4 O J E ae af ag C W ai
   have bI:Chg (mtb [r_k,r_k_0,r_k_1] aw.heap.size) aw fU:=Chg.Cc (Chg.refl (mtb [r_k,r_k_0,r_k_1] aw.heap.size) aw) bH
   refine .r [0]<|.lb 1 ag (Ax (all_cons dH (all_cons (Nb.symm dN) (all_cons (Nb.symm co) all_nil))) dY)<|.r [3]<|.lb 4 O (Ax (all_cons (Nb.symm ce) (all_cons (Nb.symm dM) (all_cons (Nb.symm dP) all_nil))) dX)<|.r [5] ?_
   have dZ:k1< s.parts.length:=AB
   refine .ix 6 k1 2 h3 dZ<|.r [7] ?_
   obtain ⟨_,⟨jg,jh,ji,jj,jk,jl,rfl,fV,bY⟩,d0⟩:=h3.elem k1 aB bj
   have d3:=fV.len
   subst d3
   have d4:=bY.len
   subst d4
   refine .lh 8 1 d0 (h3.nS (Dt bj) (all_cons AG (all_cons AF (all_cons AE all_nil))))<|.r [9] ?_
   have d5:k2< aB.blocks.length:=AB
   refine .ix 10 k2 1 bY d5 ?_
   obtain ⟨bE,bu⟩:∃ y,aB.blocks[k2]? = some y:=⟨_,AP AB⟩
   have gV:=AX bu; have fW:=AQ bu
   obtain ⟨_,⟨fX,jm,fY,rfl,aO⟩,d6⟩:=bY.elem k2 bE bu
   have d7:=aO.len
   subst d7
   have gW:=aO.max
   refine .lh 11 0 d6 (bY.nS (Dt bu) (all_cons AG (all_cons AF (all_cons AE all_nil))))<|.go 2<|.ns 0 105 [] fun jn bJ=>?_
   replace ⟨h1,h4,O,J,E,ae,af,ag,aO,C,W,ai⟩:=(se [ah,r_k_1,r_k_0,r_k,ac,ab] bJ).g12 h1 h4 O J E ae af ag aO C W ai
   replace bI:=(se [ah,r_k_1,r_k_0,r_k,ac,ab] bJ).g1 bI
   intro aY fZ al cq d8 d9
   have ec:=AS al O.lt
   have ed:=AS al J.lt
   have ee:=AS al E.lt
   have ef:=AS al ae.lt
   have eg:=AS al af.lt
   have eh:=AS al ag.lt
   have ej:=Ad al C.size
   have gX:=C.cn al
   have gY:=W.cn al
   have gZ:=ai.cn al
   have ek:=bI.cn al
   replace ⟨h1,h4,O,J,E,ae,af,ag,aO,C,W,ai⟩:=(sn [ah,r_k_1,r_k_0,r_k,ac,ab] cq al).g12 h1 h4 O J E ae af ag aO C W ai
   have bK:Own (α:=Row) fZ aY 105 (nin (ge w.heap.size) [aY,ah,r_k_1,r_k_0,r_k,ac,ab]) 0 0 []:=Own.Ag d8
   refine .go 12<|GE.append (T:=91) (ty:=91) (args:=[vS aY 0 0,.slice fX bE.length fY]) AA fun jo bL=>?_
   replace ⟨h1,h4,O,J,E,ae,af,ag,aO,bK,C,W⟩:=(se [aY,ah,r_k_1,r_k_0,r_k,ac,ab] bL).g12 h1 h4 O J E ae af ag aO bK C W
   replace ai:=(se [aY,ah,r_k_1,r_k_0,r_k,ac,ab] bL).g1 ai
   obtain ⟨aZ,f0,jp,cr,ao,am,bM,en⟩:=Own.Ay (P:=Tryz.prog) (T:=91) (ty:=91) Bx bK AA aO (fun b h e=>h.2 (e▸AD)) (by have q1:=p0.2.1; have q2:=p0.2.2.2; (have q3:=p0.2.2.1 _ ‹_›; have q4:=q3.1; have q5:=q3.2.1; (have q6:=q3.2.2 _ ‹_›; omega)))
   refine ⟨_,_,cr,Chg.toS bM (Cov.toS ek),?_⟩
   have g0:=Ae am ec O.lt
   have hC:=Ae am ed J.lt
   have hD:=Ae am ee E.lt
   have hE:=Ae am ef ae.lt
   have hH:=Ae am eg af.lt
   have hJ:=Ae am eh ag.lt
   have et:=Bt am ej C.size
   replace ⟨h1,h4,O,J,E,ae,af,ag,C,W,ai⟩:=(sa [aY,ah,r_k_1,r_k_0,r_k,ac,ab] bM am).g11 h1 h4 O J E ae af ag C W ai
   replace ao:=ao.rn aY
   have hN:=ao.len; have hO:=ao.max
   refine .go 13<|.ns 1 91 [vS aZ (0+bE.length) f0] fun jq cu=>?_
   replace ⟨h1,h4,O,J,E,ae,af,ag,ao,C,W,ai⟩:=(se [aZ,ah,r_k_1,r_k_0,r_k,ac,ab] cu).g12 h1 h4 O J E ae af ag ao C W ai
   intro db jr aD cv bN ey
   have ez:=AS aD O.lt
   have eA:=AS aD J.lt
   have eB:=AS aD E.lt
   have eC:=AS aD ae.lt
   have cw:=AS aD af.lt
   have eD:=AS aD ag.lt
   have eE:=Ad aD C.size
   replace ⟨h1,h4,O,J,E,ae,af,ag,ao,C,W,ai⟩:=(se [aZ,ah,r_k_1,r_k_0,r_k,ac,ab] cv).g12 h1 h4 O J E ae af ag ao C W ai
   refine .d fun f5 bO=>?_
   replace ⟨h1,h4,O,J,E,ae,af,ag,ao,bN,C,W⟩:=(se [aZ,ah,r_k_1,r_k_0,r_k,ac,ab] bO).g12 h1 h4 O J E ae af ag ao bN C W
   replace ai:=(se [aZ,ah,r_k_1,r_k_0,r_k,ac,ab] bO).g1 ai
   replace h1:=h1.AU
   replace h4:=h4.AU
   have f6:=ao.sl et
   replace ⟨h1,h4,E,ae,af⟩:=(sd f5 [aZ,ah,r_k_1,r_k_0,r_k,ac,ab] aZ).g5 h1 h4 E ae af
   have b0:nin (ge w.heap.size) [ah,r_k_1,r_k_0,r_k,ac,ab] db∧db≠r_k_1:=BG eE (all_cons eD (all_cons cw (all_cons eC (all_cons eB (all_cons eA (all_cons ez all_nil)))))) cw
   refine RG.Ap (T:=40) (ty:=40) (y:=([]++bE)) af bN AA AA ⟨_,_,_,rfl,f6.oi⟩ b0 (by have q1:=p0.2.1; have q2:=p0.2.2.2; (have q3:=p0.2.2.1 _ ‹_›; have q4:=q3.1; have q5:=q3.2.1; omega)) fun cx de js aJ aP cy=>?_
   have eF:=Ae aP dL ae.lt
   have hQ:=Ae aP co ag.lt
   have eG:=Bo aP av ai.size
   replace ⟨h1,h4,O,J,E,ae,ag,C,W,ai⟩:=(sa [ah,r_k_1,r_k_0,r_k,ac,ab] cy aP).g10 h1 h4 O J E ae ag C W ai
   replace aJ:=aJ.rn r_k_1
   have hV:=aJ.len; have hW:=aJ.max
   refine .r 1<|.ss 1 (vS cx (n_k_1+1) de) ag fun jt cz eH eI=>?_
   replace ⟨h1,h4,O,J,E,ae,aJ,C,W,ai⟩:=(so [ah,cx,r_k_0,r_k,ac,ab] cz).g10 h1 h4 O J E ae aJ C W ai
   exact .d<|.ib 3<|.g<|.r 1<|.it ((k2:Int)+1)<|.r 1<|.d<|bZ (k2+1,bD,r_k_0,n_k_0,c_k_0,(bh++[([]++bE)]),cx,n_k_1+1,de) _ _ ⟨AA,AA,AA,AA,AA,AA,trivial⟩ ⟨ai,ae,aI,aJ,eG,eF,eH,AB,‹_›,(by simp; omega),(by exact OX ‹_› ‹_›)⟩ (by (simp only []; omega))
  refine .d<|.cf<|.x 2 rfl<|.g<|.r 1<|.ln ag<|.ns 1 42 [vS r_k_0 n_k_0 c_k_0,vS r_k_1 n_k_1 c_k_1] fun df dg aR cA eJ eK=>?_
  have eL:=AS aR O.lt
  have eM:=AS aR J.lt
  have cB:=AS aR E.lt
  have eN:=AS aR ag.lt
  have eO:=Ad aR C.size
  replace ⟨h1,h4,O,J,E,ae,af,C,W⟩:=(se [ah,r_k_1,r_k_0,r_k,ac,ab] cA).g9 h1 h4 O J E ae af C W
  have cC:=ae.sl dO
  replace ⟨h1,h4,E,af⟩:=(sd dg [ah,r_k_1,r_k_0,r_k,ac,ab] r_k_0).g4 h1 h4 E af
  have f7:=af.sl dQ
  replace ⟨h1,h4,E,cC⟩:=(sd dg [ah,r_k_1,r_k,ac,ab] r_k_1).g4 h1 h4 E cC
  have b6:nin (ge w.heap.size) [ah,r_k,ac,ab] df∧df≠r_k:=BG eO (all_cons eN (all_cons cB (all_cons eM (all_cons eL all_nil)))) cB
  refine RG.Ap (T:=31) (ty:=31) (y:=(⟨bD,bh⟩:Prt)) E eJ AA AA ⟨_,_,_,_,_,_,rfl,cC.oi,f7.oi⟩ b6 (by have q1:=p0.2.1; have q2:=p0.2.2.2; omega) fun cD f8 dh aK bv cE=>?_
  have eP:=Bo bv aW W.size
  replace ⟨h1,h4,O,J,C,W⟩:=(sa [ah,r_k,ac,ab] cE bv).g6 h1 h4 O J C W
  replace aK:=aK.rn r_k
  have ia:=aK.len; have ic:=aK.max
  refine .r 1<|.d<|.ib 1<|.g<|.r 1<|.it ((k1:Int)+1)<|.r 1<|.d ?_
  have eQ:Mv [ah,cD,ac,ab] [cD,ac,ab] dh dh:=Mv.less (all_cons AE (all_cons AF (all_cons AG all_nil)))
  replace ⟨h1,h4,aK⟩:=(sp eQ (Chg.refl nil _)).g3 h1 h4 aK
  exact cd ((k++[(⟨bD,bh⟩:Prt)]),cD,n_k+1,f8,k1+1) _ _ ⟨AA,AA,AA,AA,trivial⟩ ⟨W,aK,eP,AB,(by simp; omega),(by exact QW ‹_› ‹_› ‹_› (by have q1:=AY (xs:=aB.blocks) (k:=k2) AB; have q2:bh++aB.blocks.drop k2=aB.blocks:=‹_›; rw [q1,List.append_nil] at q2; exact q2))⟩ (by (simp only []; omega))
 refine .d<|.cf<|.x 0 rfl<|.s<|T.Du (X:=(Option Addr) × Nat × (Option Addr) × Nat × Nat × Nat) (mtb [r_k] aU.heap.size) 9 (fun (bm,bn,bo,bq,aA,br)=>[(2,.pointer (some ⟨ac,0,none⟩)),(59,.agg #[.slice bm (((idxOf s.idx.names).names).length) bn,.slice bo (((idxOf s.idx.names).AV).length) bq]),(60,vS r_k n_k c_k),(64,vS aA (0+s.mem.length) br)]) (fun (bm,bn,bo,bq,aA,br) bF=>Ext aU bF∧aU.heap.size≤aA∧RepS bF (nin (ge w.heap.size) [aA,r_k,ac,ab]) bm (((idxOf s.idx.names).names).length) bn ((idxOf s.idx.names).names:List (List Tag))∧RepS bF (nin (ge w.heap.size) [aA,r_k,ac,ab]) bo (((idxOf s.idx.names).AV).length) bq ((idxOf s.idx.names).AV:List Pst)∧Own bF aA 107 (nin (ge w.heap.size) [aA,r_k,ac,ab]) (0+s.mem.length) br (([]++s.mem):List Smp)) AA (fun f9 bw=>?_) ?_
 ·replace h1:=h1.Ah
  replace h4:=h4.Ah
  have cF:Gb (ab+1) aU.heap.size:=O.lt
  replace ⟨h1,h4,O,J,E,C⟩:=(se [r_k,ac,ab] bw).g6 h1 h4 O J E C
  have aa:=bw
  have aj:Chg (mtb [r_k] aU.heap.size) aU f9:=Chg.Cc (Chg.refl (mtb [r_k] aU.heap.size) aU) bw
  refine .r [0,1]<|.lb 2 O (Ax (all_cons (Nb.symm ce) all_nil) cF)<|.r [4,6]<|.lb 7 O (Ax (all_cons (Nb.symm ce) all_nil) cF)<|.tw 3 5 ?_ ?_
  ·refine .cl (fun cG bP=>Eo s.idx.names (h1.ta.ext bP) p0.1.1 p0.1.2 (w:=cG) (F:=all)) ?_
   intro cG bP
   replace ⟨h1,h4,O,J,E,C,aa,aj⟩:=(se [r_k,ac,ab] bP).g8 h1 h4 O J E C aa aj
   rintro ju jv ⟨⟨_,rfl,⟨ga,jw,gb,gf,jx,gh,rfl,aq,ar⟩⟩,bQ⟩
   have bR:=al3 E.lt J.lt O.lt
   have cH:Gb w.heap.size cG.heap.size:=C.size
   have hkeep_:=bQ
   replace ⟨h1,h4,O,J,E,C,aa,aj⟩:=(se [r_k,ac,ab] bQ).g8 h1 h4 O J E C aa aj
   refine ⟨Ext.chg hkeep_,?_⟩
   have aq:=aq.fr bR cH
   have ie:=aq.max
   have ar:=ar.fr bR cH
   have ig:=ar.max
   have eR:=aq.len
   subst eR
   have eS:=ar.len
   subst eS
   refine .go 5<|.ns 0 107 [] fun jy cI=>?_
   replace ⟨h1,h4,O,J,E,aq,ar,C,aa,aj⟩:=(se [r_k,ac,ab] cI).g10 h1 h4 O J E aq ar C aa aj
   intro bt gi aE cJ eT eU
   have ii:=AS aE O.lt
   have ij:=AS aE J.lt
   have ik:=AS aE E.lt
   have il:=C.cn aE
   have eV:=aa.cn aE
   have eW:=aj.cn aE
   replace ⟨h1,h4,O,J,E,aq,ar,C,aa,aj⟩:=(sn [r_k,ac,ab] cJ aE).g10 h1 h4 O J E aq ar C aa aj
   have bS:Own (α:=Smp) gi bt 107 (nin (ge w.heap.size) [bt,r_k,ac,ab]) 0 0 []:=Own.Ag eT
   refine .go 8<|GE.append (T:=32) (ty:=32) (args:=[vS bt 0 0,.slice a4 s.mem.length c4]) AA fun jz cK=>?_
   replace ⟨h1,h4,O,J,E,aq,ar,bS,C,aa,aj⟩:=(se [bt,r_k,ac,ab] cK).g11 h1 h4 O J E aq ar bS C aa aj
   obtain ⟨dj,gj,jA,cL,aL,bz,bT,eX⟩:=Own.Ay (P:=Tryz.prog) (T:=32) (ty:=32) Fc bS AA h4 (fun b h e=>h.2 (e▸AD)) (by have q1:=p0.2.1; have q2:=p0.2.2.2; omega)
   refine ⟨_,_,cL,Chg.toS bT (Cov.toS eW),?_⟩
   have eY:=Am bz eV aa.size
   replace ⟨h1,h4,O,J,E,aq,ar,C,aa,aj⟩:=(sa [bt,r_k,ac,ab] bT bz).g10 h1 h4 O J E aq ar C aa aj
   replace aL:=aL.rn bt
   have im:=aL.len; have io:=aL.max
   refine .d fun jB cM=>?_
   replace ⟨h1,h4,O,J,E,aq,ar,aL,C,aa,aj⟩:=(se [dj,r_k,ac,ab] cM).g11 h1 h4 O J E aq ar aL C aa aj
   replace h1:=h1.AU
   replace h4:=h4.AU
   exact ⟨(ga,gb,gf,gh,dj,gj),⟨AA,AA,AA,AA,trivial⟩,⟨aa,(Ac eY),aq,ar,aL⟩⟩
  refine .ns 0 107 [] fun jC cN=>?_
  replace ⟨h1,h4,O,J,E,C,aa,aj⟩:=(se [r_k,ac,ab] cN).g8 h1 h4 O J E C aa aj
  intro aT gk aM cO eZ e7
  have ip:=AS aM J.lt
  have iq:=AS aM E.lt
  have ir:=C.cn aM
  have e8:=aa.cn aM
  have fa:=aj.cn aM
  replace ⟨h1,h4,O,J,E,C,aa⟩:=(sn [r_k,ac,ab] cO aM).g7 h1 h4 O J E C aa
  have aF:Own (α:=Smp) gk aT 107 (nin (ge w.heap.size) [aT,r_k,ac,ab]) 0 0 []:=Own.Ag eZ
  refine .go 3<|.cl (fun cP bU=>Eo s.idx.names (h1.ta.ext bU) p0.1.1 p0.1.2 (w:=cP) (F:=all)) ?_
  intro cP bU
  replace ⟨h4,O,J,E,aF,C,aa⟩:=(se [aT,r_k,ac,ab] bU).g7 h4 O J E aF C aa
  rintro jD jE ⟨⟨_,rfl,⟨gl,jF,gm,gn,jG,gp,rfl,aG,aH⟩⟩,bV⟩
  have bW:=al4 aF.lt E.lt J.lt O.lt
  have cQ:Gb w.heap.size cP.heap.size:=C.size
  have hkeep_:=bV
  replace ⟨h4,J,E,aF,C,aa⟩:=(se [aT,r_k,ac,ab] bV).g6 h4 J E aF C aa
  refine ⟨Ext.chg hkeep_,?_⟩
  have aG:=aG.fr bW cQ
  have iu:=aG.max
  have aH:=aH.fr bW cQ
  have iw:=aH.max
  have fb:=aG.len
  subst fb
  have fc:=aH.len
  subst fc
  refine .go 8<|GE.append (T:=32) (ty:=32) (args:=[vS aT 0 0,.slice a4 s.mem.length c4]) AA fun jH cR=>?_
  replace ⟨h4,J,E,aF,aG,aH,C,aa⟩:=(se [aT,r_k,ac,ab] cR).g8 h4 J E aF aG aH C aa
  obtain ⟨dm,gq,jI,cS,aN,bA,bX,fd⟩:=Own.Ay (P:=Tryz.prog) (T:=32) (ty:=32) Fc aF AA h4 (fun b h e=>h.2 (e▸AD)) (by have q1:=p0.2.1; have q2:=p0.2.2.2; omega)
  refine ⟨_,_,cS,Chg.toS bX (Cov.toS fa),?_⟩
  have fe:=Am bA e8 aa.size
  replace ⟨J,E,aG,aH,C,aa⟩:=(sa [aT,r_k,ac,ab] bX bA).g6 J E aG aH C aa
  replace aN:=aN.rn aT
  have iy:=aN.len; have iz:=aN.max
  refine .d fun jJ cT=>?_
  replace ⟨J,E,aN,aG,aH,C,aa⟩:=(se [dm,r_k,ac,ab] cT).g7 J E aN aG aH C aa
  exact ⟨(gl,gm,gn,gp,dm,gq),⟨AA,AA,AA,AA,trivial⟩,⟨aa,(Ac fe),aG,aH,aN⟩⟩
 rintro ⟨bm,bn,bo,bq,aA,br⟩ jK bF ⟨cU,ba,bc,bd,bg⟩
 have iA:=Ab ba J.lt
 have iB:=Ab ba E.lt
 have ff:=Bd ba C.size
 replace ⟨J,E,C⟩:=(sz [r_k,ac,ab] cU ba).g3 J E C
 have iC:=bc.len; have iD:=bc.max
 have iE:=bd.len; have iF:=bd.max
 have iG:=bg.len; have iH:=bg.max
 refine .r 1<|.sc [.slice bm (((idxOf s.idx.names).names).length) bn,.slice bo (((idxOf s.idx.names).AV).length) bq,vS r_k n_k c_k,vS aA (0+s.mem.length) br] J fun gr cV fg fh=>?_
 replace ⟨E,bc,bd,bg,C⟩:=(so [aA,r_k,ac,ab] cV).g5 E bc bd bg C
 refine .d ?_
 have gs:=E.sl fw
 replace ⟨bc,bd,bg⟩:=(sd gr [aA,r_k,ac,ab] r_k).g3 bc bd bg
 exact .rb Tryz.func82 Tryz.results82 fg ⟨⟨bm,((idxOf s.idx.names).names).length,bn,bo,((idxOf s.idx.names).AV).length,bq,(some ⟨r_k,0,none⟩),n_k,c_k,aA,(0+s.mem.length),br,rfl,((RepS.BI bc (all_cons AD all_nil)).eqx (by rfl)),((RepS.BI bd (all_cons AD all_nil)).eqx (by rfl)),((RepS.BI gs (all_cons AD all_nil)).eqx (by have q1:=AY (xs:=s.parts) (k:=k1) AB; have q2:k++s.parts.drop k1=s.parts:=‹_›; rw [q1,List.append_nil] at q2; exact q2)),((Own.BI bg (all_cons AD all_nil)).eqx (by rfl)),ff⟩,C⟩
end Go.Proofs.YtganlmloonielaaGreat
namespace Go.Proofs.YtganlmloonielaaGreat
def BD (d:Dsk) (n:Int):Prt:=(d.files.getD (Ao d n).toNat default).part
def Ai (d:Dsk):Sto:=⟨idxOf d.names,d.list.map (BD d),[]⟩
def KA (f:Fil):Fil:=⟨f.num,BT f.part ⟨[],[]⟩⟩
def Az (d:Dsk):Dsk:=⟨d.files.map KA,d.list,d.names,d.next⟩
def C4 (d:Dsk) (n:Int):List Fil:=if Ao d n≥0∧d.list.contains n=false then d.files.take (Ao d n).toNat++d.files.drop ((Ao d n).toNat+1) else d.files
def doD (d:Dsk) (x:Stp):Dsk :=
 if x.kind=1 then ⟨d.files++[⟨x.num,x.part⟩],d.list,d.names,x.num+1⟩
 else if x.kind=2 then ⟨d.files,x.list,x.names,d.next⟩
 else if x.kind=3 then ⟨C4 d x.num,d.list,d.names,d.next⟩
 else d
def toD (d:Dsk) (steps:List Stp) (cut:Int):Dsk:=(steps.take cut.toNat).foldl doD d
def Ba (d:Dsk) (at_:Int):List Stp :=
 if !(inR at_ 0 ((d.list.length:Int) - 2)) || decide (d.next≥999) || decide (d.files.length≥20) then []
 else
  let a:=d.list.getD at_.toNat 0
  let b:=d.list.getD (at_.toNat+1) 0
  [⟨1,d.next,BT (BD d a) (BD d b),[],[]⟩,⟨2,0,⟨[],[]⟩,d.list.take at_.toNat++[d.next]++d.list.drop (at_.toNat+2),d.names⟩,⟨3,a,⟨[],[]⟩,[],[]⟩,⟨3,b,⟨[],[]⟩,[],[]⟩]
def CH (w:Wld):Wld:=⟨BO (Ai (Az (BH w.disk))),Az (BH w.disk)⟩
def Bb (w:Wld) (steps:List Stp) (cut:Int) (s:Sto):Wld :=
 if steps.length=0∨cut< 0 then w
 else if cut< steps.length then CH ⟨w.store,toD w.disk steps cut⟩ else ⟨s,toD w.disk steps cut⟩
def doW (w:Wld) (e:Evt):Wld :=
 if e.kind=1 then (if BS e.name then ⟨(C3 w.store e.name e.row).1,w.disk⟩ else w)
 else if e.kind=2 then Bb w (BZ w.disk w.store) e.cut (At w.store).1
 else if e.kind=3 then Bb w (Ba w.disk e.at_) e.cut (Av w.store e.at_).1
 else if e.kind=4 then CH w
 else w
def Cx (w:Wld):Wld:=⟨BO w.store,Az w.disk⟩
theorem Jn (n:Int):∀ (fs:List Fil) (i:Nat),DH n i fs< (i:Int)+fs.length∧(DH n i fs = -1∨(i:Int)≤DH n i fs):=by
 intro fs
 induction fs with
 | nil=>intro i; simp [DH]; omega
 | cons f fs ih =>
   intro i
   have h:=ih (i+1)
   simp only [DH,List.length_cons]
   split <;> omega
theorem CC (d:Dsk) (n:Int):Ao d n< d.files.length:=by have:=Jn n d.files 0; unfold Ao; omega
theorem Ig {d:Dsk} {n:Int} (h:∀ n∈d.list,0≤Ao d n) (hm:n∈d.list):(Ao d n).toNat< d.files.length:=by
 have h1:=h n hm
 have h2:=CC d n
 omega
theorem Ih {d:Dsk} {n:Int} (h:∀ n∈d.list,0≤Ao d n) (hm:n∈d.list):Ao d n=((Ao d n).toNat:Int):=by
 have h1:=h n hm
 omega
theorem Dp {d:Dsk} {n:Int} {f:Fil} (h:d.files[(Ao d n).toNat]? = some f):BD d n=f.part:=by
 unfold BD; rw [List.getD_eq_getElem?_getD,h]; rfl
theorem mapStep {α β:Type} {l:List α} {f:α→β} {i:Nat} {k:List β} {q:α} {y:β} (h:k++(l.drop i).map f=l.map f) (hd:l.drop i=q::l.drop (i+1)) (hy:y=f q):(k++[y])++(l.drop (i+1)).map f=l.map f:=by
 subst hy
 rw [hd] at h
 simpa using h
theorem GW {α β:Type} {l:List α} {f:α→β} {i:Nat} {k:List β} (h:k++(l.drop i).map f=l.map f) (hi:l.length≤i):k=l.map f:=by
 rw [AY hi] at h
 simpa using h
theorem toStep {l:List Stp} {c:Nat} {i:Nat} {d:Dsk} {q:Stp} {Y:Dsk} (h:((l.take c).drop i).foldl doD d=Y) (hd:l.drop i=q::l.drop (i+1)) (hc:i< c):((l.take c).drop (i+1)).foldl doD (doD d q)=Y:=by
 have h1:(l.take c).drop i=q::(l.take c).drop (i+1):=by
  rw [List.drop_take,List.drop_take,hd,show c - i=(c - (i+1))+1 by omega]
  rfl
 rw [h1] at h
 exact h
theorem toEnd {l:List Stp} {c:Nat} {i:Nat} {d:Dsk} {Y:Dsk} (h:((l.take c).drop i).foldl doD d=Y) (hc:l.length≤i∨c≤i):d=Y:=by
 rw [List.drop_of_length_le (by rw [List.length_take]; omega)] at h
 exact h
theorem F8 {d:Dsk} {x:Stp} (h:x.kind=1):doD d x=⟨d.files++[⟨x.num,x.part⟩],d.list,d.names,x.num+1⟩:=by unfold doD; rw [if_pos h]
theorem HE {d:Dsk} {x:Stp} (h:x.kind=2):doD d x=⟨d.files,x.list,x.names,d.next⟩:=by unfold doD; rw [if_neg AB,if_pos h]
theorem FG {d:Dsk} {x:Stp} (h:x.kind=3):doD d x=⟨C4 d x.num,d.list,d.names,d.next⟩:=by unfold doD; rw [if_neg AB,if_neg AB,if_pos h]
theorem Tp {d:Dsk} {x:Stp} (h:x.kind≠1) (h2:x.kind≠2) (h3:x.kind≠3):doD d x=d:=by unfold doD; rw [if_neg h,if_neg h2,if_neg h3]
theorem Na {d:Dsk} {n:Int} (h:Ao d n≥0) (h2:d.list.contains n=false):C4 d n=d.files.take (Ao d n).toNat++d.files.drop ((Ao d n).toNat+1):=by unfold C4; rw [if_pos ⟨h,h2⟩]
theorem Lu {d:Dsk} {n:Int} (h:¬ Ao d n≥0∨d.list.contains n=true):C4 d n=d.files:=by unfold C4; rw [if_neg]; rintro ⟨h1,h2⟩; rcases h with h | h; exact h h1; rw [h2] at h; cases h
theorem Hq {d:Dsk} {a:Int} (h:inR a 0 ((d.list.length:Int) - 2)=false∨d.next≥999∨(d.files.length:Int)≥20):Ba d a=[]:=by
 unfold Ba
 rw [if_pos]
 rcases h with h | h | h
 ·simp [h]
 ·simp [h]
 ·have h:d.files.length≥20:=by omega
  simp [h]
theorem K6 {d:Dsk} {at_ a b:Int} {f g:Fil} (h:inR at_ 0 ((d.list.length:Int) - 2)=true) (h2:¬ d.next≥999) (h3:¬ (d.files.length:Int)≥20) (ha:d.list[at_.toNat]? = some a) (hb:d.list[(at_+1).toNat]? = some b)
 (hf:d.files[(Ao d a).toNat]? = some f) (hg:d.files[(Ao d b).toNat]? = some g) :
 Ba d at_=[⟨1,d.next,BT f.part g.part,[],[]⟩,⟨2,0,⟨[],[]⟩,(([]++(d.list.take at_.toNat).drop 0)++[d.next])++(d.list.take d.list.length).drop (at_+2).toNat,d.names⟩,⟨3,a,⟨[],[]⟩,[],[]⟩,⟨3,b,⟨[],[]⟩,[],[]⟩]:=by
 have h0:=CN h
 have e1:(at_+1).toNat=at_.toNat+1:=by omega
 have e2:(at_+2).toNat=at_.toNat+2:=by omega
 rw [e1] at hb
 have h4:¬ d.files.length≥20:=by omega
 unfold Ba
 rw [if_neg (by simp [h]; omega),← Dp hf,← Dp hg,e2,List.getD_eq_getElem?_getD,List.getD_eq_getElem?_getD,ha,hb]
 simp
theorem OY {d:Dsk} {x:Stp} (h:x.list.length≤1000) (hd:d.list.length≤1000):(doD d x).files.length≤d.files.length+1∧(doD d x).list.length≤1000:=by
 unfold doD C4
 split
 ·simp; exact hd
 ·split
  ·simp; exact h
  ·split
   ·simp only
    split <;> simp <;> omega
   ·omega
def JJ (x:Stp):Prop:=x.list.length≤1000∧x.names.length≤1000∧(∀ n∈x.names,n.length≤1000) ∧ -9000000≤x.num∧x.num≤9000000
end Go.Proofs.YtganlmloonielaaGreat
