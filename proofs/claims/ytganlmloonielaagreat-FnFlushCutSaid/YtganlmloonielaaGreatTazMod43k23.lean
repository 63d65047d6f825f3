/- One element taken out of a row in place: rules and laws. -/
import Derived.Test.YtganlmloonielaaGreatTazMod10k23
import Derived.Test.YtganlmloonielaaGreatTazMod42
set_option linter.unusedVariables false
set_option linter.unusedSimpArgs false
namespace Go.Proofs.YtganlmloonielaaGreat
def TJ (P:Program) (T t:TypeId) (sz:Nat):Bool :=
 (match P.underlying T with | some (.slice e)=>Nat.beq e t | _=>false) &&
 (match P.info? t with | some i=>(match i.zero with | some z=>Nat.beq z.cells.size sz&&z.cells.toList.all EH | none=>false) | none=>false)
theorem Own.Vk {α:Type} [Rep α] {w:World} {r:Nat} {t:TypeId} {F:Nat→Prop} {n c:Nat} {xs:List α} (h:Own w r t F n c xs):∃ cs,Box w r t cs∧cs.length=c * Rep.sz α:=by
 obtain ⟨cur,h1,h2⟩:=h.row
 exact ⟨cur.toList,by unfold Box; simpa using h1,by simpa using h2⟩
end Go.Proofs.YtganlmloonielaaGreat
namespace Go.Proofs.YtganlmloonielaaGreat
theorem U2 {d:Dsk} (h:DD d):d.files.length≤1000:=by have:=h.nf; omega
theorem U3 {d:Dsk} (h:DD d):∀ f∈d.files,Cw f.part:=fun f hf=>(h.file f hf).sz
theorem U4 {d:Dsk} (h:DD d):d.list.length≤1000:=by have:=h.nl; omega
theorem U5 {d:Dsk} (h:DD d):d.names.length≤1000:=by have:=h.g.len; omega
theorem U6 {d:Dsk} (h:DD d):∀ n∈d.names,n.length≤1000:=Rx h.g
theorem U8 {l:List Fil} {i:Nat} {k:List Fil} {q:Fil} (h:k++l.drop i=l) (hd:l.drop i=q::l.drop (i+1)):(k++[q])++l.drop (i+1)=l:=by
 rw [hd] at h
 simpa using h
theorem TZ {α:Type} {l:List α} {i:Nat} {k:List α} (h:k++l.drop i=l) (hi:l.length≤i):k=l:=by
 rw [AY hi] at h
 simpa using h
end Go.Proofs.YtganlmloonielaaGreat
namespace Go.Proofs.YtganlmloonielaaGreat
set_option maxRecDepth 100000
set_option maxHeartbeats 4000000
theorem EQ (d:Dsk) {w:World} {F:Nat→Prop} {a1:Option Addr} {n1 c1:Nat} (h1:RepS w F a1 n1 c1 d.files) {a2:Option Addr} {n2 c2:Nat} (h2:RepS w F a2 n2 c2 d.list) {a3:Option Addr} {n3 c3:Nat} (h3:RepS w F a3 n3 c3 d.names) (p0:d.files.length≤1000) (p1:∀ f∈d.files,Cw f.part) (p2:d.list.length≤1000) (p3:d.names.length≤1000) (p4:∀ n∈d.names,n.length≤1000):Calls Tryz.prog 60 [.agg #[.slice a1 n1 c1,.slice a2 n2 c2,.slice a3 n3 c3,.int .i64 d.next]].toArray w (As fun rv w'=>(∃ (r0 n0 c0:Nat) (a1:Option Addr) (n1 c1:Nat) (a2:Option Addr) (n2 c2:Nat),rv=.agg #[.slice (some ⟨r0,0,none⟩) n0 c0,.slice a1 n1 c1,.slice a2 n2 c2,.int .i64 (d.next)]∧Own w' r0 66 (nin (ge w.heap.size) [r0]) n0 c0 (d.files)∧w.heap.size≤r0∧RepS w' (nin (ge w.heap.size) [r0]) a1 n1 c1 (d.list)∧RepS w' (nin (ge w.heap.size) [r0]) a2 n2 c2 (d.names))∧Ext w w'):=by
 refine goT Tryz.func60 ?_
 obtain ⟨rfl,yc,h1⟩:=h1.tp
 obtain ⟨rfl,yd,h2⟩:=h2.tp
 obtain ⟨rfl,ye,h3⟩:=h3.tp
 refine .s<|.g<|.np 27 [.slice a1 d.files.length c1,.slice a2 d.list.length c2,.slice a3 d.names.length c3,vI d.next] fun ab yg sf lu W tO=>?_
 replace ⟨h1,h2,h3⟩:=(sn [] lu sf).g3 h1 h2 h3
 have J:=lu
 refine .np 27 [.slice none 0 0,.slice none 0 0,.slice none 0 0,vI 0] fun ac bk lv sh O tQ=>?_
 have yf:=J.cn lv
 replace ⟨h1,h2,h3,W,J⟩:=(sn [ab] sh lv).g5 h1 h2 h3 W J
 refine .d<|.s<|T.Du (X:=Nat × Nat × Nat × Nat × Nat × Nat × Nat) (mtb [] bk.heap.size) 12 (fun (aF,bM,bR,k9,ba,eR,eS)=>[(1,.pointer (some ⟨ab,0,none⟩)),(2,.pointer (some ⟨ac,0,none⟩)),(3,.pointer (some ⟨aF,0,none⟩)),(16,.agg #[vS bM 0 0,vS bR (0+d.list.length) k9,vS ba eR eS,vI d.next])]) (fun (aF,bM,bR,k9,ba,eR,eS) db=>Ext bk db∧bk.heap.size≤aF∧bk.heap.size≤bM∧bk.heap.size≤bR∧bk.heap.size≤ba∧Nb bM aF∧Nb bR aF∧Nb bR bM∧Nb ba aF∧Nb ba bM∧Nb ba bR∧Box db aF 27 [.slice none 0 0,.slice none 0 0,.slice none 0 0,vI 0]∧Own db bM 66 (nin (ge w.heap.size) [aF,bM,bR,ba,ac,ab]) 0 0 ([]:List Fil)∧Own db bR 3 (nin (ge w.heap.size) [aF,bM,bR,ba,ac,ab]) (0+d.list.length) k9 (([]++d.list):List Int)∧Own db ba 77 (nin (ge w.heap.size) [aF,bM,bR,ba,ac,ab]) eR eS (d.names:List (List Tag))) AA (fun sj ec=>?_) ?_
 ·replace h1:=h1.Ah
  replace h2:=h2.Ah
  replace h3:=h3.Ah
  have eT:Gb (ab+1) bk.heap.size:=W.lt
  replace ⟨h1,h2,h3,W,O,J⟩:=(se [ac,ab] ec).g6 h1 h2 h3 W O J
  have C:=ec
  have E:Chg (mtb [] bk.heap.size) bk sj:=Chg.Cc (Chg.refl (mtb [] bk.heap.size) bk) ec
  refine .r [2]<|.lb 3 W (Ax all_nil eT)<|.r [5]<|.lb 6 W (Ax all_nil eT)<|.r [8]<|.lb 9 W (Ax all_nil eT)<|GE.many [0,1,11] AA (all_cons ?_ (all_cons ?_ (all_cons ?_ all_nil)))
  ·refine .ns 0 66 [] fun vX ia=>?_
   replace ⟨h1,h2,h3,W,O,J,C,E⟩:=(se [ac,ab] ia).g8 h1 h2 h3 W O J C E
   intro ak sm eU ic l3 l4
   have ed:=C.cn eU
   replace ⟨h1,h2,h3,W,O,J,C,E⟩:=(sn [ac,ab] ic eU).g8 h1 h2 h3 W O J C E
   have ae:Own (α:=Fil) sm ak 66 (nin (ge w.heap.size) [ak,ac,ab]) 0 0 []:=Own.Ag l3
   refine .tw 1 11 ?_ ?_
   ·refine .ns 0 3 [] fun vY ie=>?_
    replace ⟨h1,h2,h3,W,O,ae,J,C,E⟩:=(se [ak,ac,ab] ie).g9 h1 h2 h3 W O ae J C E
    intro bt sq bN ig l6 l7
    have tT:=AS bN W.lt
    have tU:=AS bN O.lt
    have ii:=AS bN ae.lt
    have tV:=J.cn bN
    have ij:=C.cn bN
    have ik:=E.cn bN
    replace ⟨h1,h2,h3,W,O,ae,J,C,E⟩:=(sn [ak,ac,ab] ig bN).g9 h1 h2 h3 W O ae J C E
    have bm:Own (α:=Int) sq bt 3 (nin (ge w.heap.size) [bt,ak,ac,ab]) 0 0 []:=Own.Ag l6
    refine .tw 4 11 ?_ ?_
    ·refine GE.append (T:=24) (ty:=24) (args:=[vS bt 0 0,.slice a2 d.list.length c2]) AA fun vZ il=>?_
     replace ⟨h1,h2,h3,W,O,ae,bm,J,C,E⟩:=(se [bt,ak,ac,ab] il).g10 h1 h2 h3 W O ae bm J C E
     obtain ⟨aN,lw,v0,lc,ao,dA,eV,l8⟩:=Own.Ay (P:=Tryz.prog) (T:=24) (ty:=24) BF bm AA h2 (fun b h e=>h.2 (e▸AD)) AB
     refine ⟨_,_,lc,Chg.toS eV (Cov.toS ik),?_⟩
     have im:=Ae dA ii ae.lt
     have io:=Am dA ij C.size
     replace ⟨h1,h2,h3,W,O,ae,J,C,E⟩:=(sa [bt,ak,ac,ab] eV dA).g9 h1 h2 h3 W O ae J C E
     replace ao:=ao.rn bt
     have tW:=ao.len; have tY:=ao.max
     refine .tw 7 11 ?_ ?_
     ·refine .cl (fun gN eW=>Aj d.names (h3.ta.ext eW) AB (fun n hn=>by have:=p4 n hn; omega) (w:=gN) (F:=all)) ?_
      intro gN eW
      replace ⟨h1,h2,h3,W,O,ae,ao,J,C,E⟩:=(se [aN,ak,ac,ab] eW).g10 h1 h2 h3 W O ae ao J C E
      rintro v5 v6 ⟨⟨de,sr,su,rfl,bc,dB⟩,eX⟩
      have ip:=al4 ao.lt ae.lt O.lt W.lt
      have l9:Gb w.heap.size gN.heap.size:=J.size
      have hkeep_:=eX
      have ma:=Ab dB ae.lt
      have mb:=Ab dB ao.lt
      have mc:Cov nil bk de:=BR dB C.size
      replace ⟨h1,h2,h3,W,O,ae,ao,J,C,E⟩:=(sz [aN,ak,ac,ab] eX dB).g10 h1 h2 h3 W O ae ao J C E
      refine ⟨Ext.chg hkeep_,?_⟩
      replace bc:=Own.take (s0:=w.heap.size) (M:=[aN,ak,ac,ab]) bc ip l9
      have tZ:=bc.len; have t0:=bc.max
      refine .r [10]<|.go 11<|.nw (fun b=>.pointer (some ⟨b,0,none⟩)) 27 [.slice none 0 0,.slice none 0 0,.slice none 0 0,vI 0] fun v7 iq=>?_
      replace ⟨h1,h2,h3,W,O,ae,ao,bc,J,C,E⟩:=(se [de,aN,ak,ac,ab] iq).g11 h1 h2 h3 W O ae ao bc J C E
      intro eY v8 cE ir eZ me
      have mf:=AS cE ae.lt
      have mh:=AS cE ao.lt
      have mj:=AS cE bc.lt
      have ml:=C.cn cE
      replace ⟨h1,h2,h3,W,O,ae,ao,bc,J,C,E⟩:=(sn [de,aN,ak,ac,ab] ir cE).g11 h1 h2 h3 W O ae ao bc J C E
      refine .d fun ly iu=>?_
      replace ⟨h1,h2,h3,W,O,ae,ao,bc,eZ,J,C,E⟩:=(se [eY,de,aN,ak,ac,ab] iu).g12 h1 h2 h3 W O ae ao bc eZ J C E
      replace h1:=h1.AU
      replace h2:=h2.AU
      replace h3:=h3.AU
      have e7:Mv [eY,de,aN,ak,ac,ab] [eY,ak,aN,de,ac,ab] ly ly:=Mv.less (all_cons AD (all_cons AG (all_cons AF (all_cons AE (all_cons AH (all_cons AI all_nil))))))
      exact ⟨(eY,ak,aN,lw,de,sr,su),⟨AA,AA,AA,AA,trivial⟩,⟨C,(Ac ml),(Ac ed),(Ac io),(Ac mc),(Nb.symm mf),(Nb.symm mh),im,(Nb.symm mj),ma,mb,eZ,(Own.mv ae e7 (Chg.refl nil _) (fun h=>h)),(Own.mv ao e7 (Chg.refl nil _) (fun h=>h)),(Own.mv bc e7 (Chg.refl nil _) (fun h=>h))⟩⟩
     refine .nw (fun b=>.pointer (some ⟨b,0,none⟩)) 27 [.slice none 0 0,.slice none 0 0,.slice none 0 0,vI 0] fun v9 iw=>?_
     replace ⟨h1,h2,h3,W,O,ae,ao,J,C,E⟩:=(se [aN,ak,ac,ab] iw).g10 h1 h2 h3 W O ae ao J C E
     intro df we dC iy bw mo
     have mp:=AS dC ae.lt
     have mq:=AS dC ao.lt
     have mr:=C.cn dC
     replace ⟨h1,h2,h3,W,O,ae,ao,J,C,E⟩:=(sn [aN,ak,ac,ab] iy dC).g10 h1 h2 h3 W O ae ao J C E
     refine .go 7<|.cl (fun gO e8=>Aj d.names (h3.ta.ext e8) AB (fun n hn=>by have:=p4 n hn; omega) (w:=gO) (F:=all)) ?_
     intro gO e8
     replace ⟨h1,h2,h3,W,O,ae,ao,bw,J,C,E⟩:=(se [df,aN,ak,ac,ab] e8).g11 h1 h2 h3 W O ae ao bw J C E
     rintro wf wh ⟨⟨eA,sv,sw,rfl,bW,cF⟩,fa⟩
     have iz:=al5 bw.lt ao.lt ae.lt O.lt W.lt
     have mt:Gb w.heap.size gO.heap.size:=J.size
     have hkeep_:=fa
     have mu:=Ab cF ae.lt
     have mw:=Ab cF ao.lt
     have mz:=Ab cF bw.lt
     have mA:Cov nil bk eA:=BR cF C.size
     replace ⟨h1,h2,h3,W,O,ae,ao,bw,J,C,E⟩:=(sz [df,aN,ak,ac,ab] fa cF).g11 h1 h2 h3 W O ae ao bw J C E
     refine ⟨Ext.chg hkeep_,?_⟩
     replace bW:=Own.take (s0:=w.heap.size) (M:=[df,aN,ak,ac,ab]) bW iz mt
     have t1:=bW.len; have t2:=bW.max
     refine .r [10]<|.d fun lz iA=>?_
     replace ⟨h1,h2,h3,W,O,ae,ao,bw,bW,J,C,E⟩:=(se [eA,df,aN,ak,ac,ab] iA).g12 h1 h2 h3 W O ae ao bw bW J C E
     replace h1:=h1.AU
     replace h2:=h2.AU
     replace h3:=h3.AU
     have fb:Mv [eA,df,aN,ak,ac,ab] [df,ak,aN,eA,ac,ab] lz lz:=Mv.less (all_cons AE (all_cons AG (all_cons AF (all_cons AD (all_cons AH (all_cons AI all_nil))))))
     exact ⟨(df,ak,aN,lw,eA,sv,sw),⟨AA,AA,AA,AA,trivial⟩,⟨C,(Ac mr),(Ac ed),(Ac io),(Ac mA),(Nb.symm mp),(Nb.symm mq),im,mz,mu,mw,bw,(Own.mv ae fb (Chg.refl nil _) (fun h=>h)),(Own.mv ao fb (Chg.refl nil _) (fun h=>h)),(Own.mv bW fb (Chg.refl nil _) (fun h=>h))⟩⟩
    refine .nw (fun b=>.pointer (some ⟨b,0,none⟩)) 27 [.slice none 0 0,.slice none 0 0,.slice none 0 0,vI 0] fun wj iB=>?_
    replace ⟨h1,h2,h3,W,O,ae,bm,J,C,E⟩:=(se [bt,ak,ac,ab] iB).g10 h1 h2 h3 W O ae bm J C E
    intro bX wk dD iC aP mB
    have mC:=AS dD ae.lt
    have mD:=AS dD bm.lt
    have mE:=C.cn dD
    replace ⟨h1,h2,h3,W,O,ae,bm,J,C,E⟩:=(sn [bt,ak,ac,ab] iC dD).g10 h1 h2 h3 W O ae bm J C E
    refine .go 4<|GE.append (T:=24) (ty:=24) (args:=[vS bt 0 0,.slice a2 d.list.length c2]) AA fun wl iD=>?_
    replace ⟨h1,h2,h3,W,O,ae,bm,aP,J,C,E⟩:=(se [bX,bt,ak,ac,ab] iD).g11 h1 h2 h3 W O ae bm aP J C E
    obtain ⟨dg,sx,wm,ld,aT,cr,fc,mF⟩:=Own.Ay (P:=Tryz.prog) (T:=24) (ty:=24) BF bm AA h2 (fun b h e=>h.2 (e▸AE)) AB
    refine ⟨_,_,ld,Chg.toS fc (Cov.toS ik),?_⟩
    have mG:=Ae cr ii ae.lt
    have mH:=Ae cr (Nb.symm mD) aP.lt
    have mI:=Am cr ij C.size
    replace ⟨h1,h2,h3,W,O,ae,aP,J,C,E⟩:=(sa [bX,bt,ak,ac,ab] fc cr).g10 h1 h2 h3 W O ae aP J C E
    replace aT:=aT.rn bt
    have t3:=aT.len; have t4:=aT.max
    refine .go 7<|.cl (fun gP fd=>Aj d.names (h3.ta.ext fd) AB (fun n hn=>by have:=p4 n hn; omega) (w:=gP) (F:=all)) ?_
    intro gP fd
    replace ⟨h1,h2,h3,W,O,ae,aT,aP,J,C,E⟩:=(se [bX,dg,ak,ac,ab] fd).g11 h1 h2 h3 W O ae aT aP J C E
    rintro wn wo ⟨⟨eB,sy,sA,rfl,bY,cG⟩,fe⟩
    have iE:=al5 aP.lt aT.lt ae.lt O.lt W.lt
    have mJ:Gb w.heap.size gP.heap.size:=J.size
    have hkeep_:=fe
    have mK:=Ab cG ae.lt
    have mL:=Ab cG aT.lt
    have mM:=Ab cG aP.lt
    have mN:Cov nil bk eB:=BR cG C.size
    replace ⟨h1,h2,h3,W,O,ae,aT,aP,J,C,E⟩:=(sz [bX,dg,ak,ac,ab] fe cG).g11 h1 h2 h3 W O ae aT aP J C E
    refine ⟨Ext.chg hkeep_,?_⟩
    replace bY:=Own.take (s0:=w.heap.size) (M:=[bX,dg,ak,ac,ab]) bY iE mJ
    have t5:=bY.len; have t6:=bY.max
    refine .r [10]<|.d fun lA iF=>?_
    replace ⟨h1,h2,h3,W,O,ae,aT,aP,bY,J,C,E⟩:=(se [eB,bX,dg,ak,ac,ab] iF).g12 h1 h2 h3 W O ae aT aP bY J C E
    replace h1:=h1.AU
    replace h2:=h2.AU
    replace h3:=h3.AU
    have ff:Mv [eB,bX,dg,ak,ac,ab] [bX,ak,dg,eB,ac,ab] lA lA:=Mv.less (all_cons AE (all_cons AG (all_cons AF (all_cons AD (all_cons AH (all_cons AI all_nil))))))
    exact ⟨(bX,ak,dg,sx,eB,sy,sA),⟨AA,AA,AA,AA,trivial⟩,⟨C,(Ac mE),(Ac ed),(Ac mI),(Ac mN),(Nb.symm mC),mH,mG,mM,mK,mL,aP,(Own.mv ae ff (Chg.refl nil _) (fun h=>h)),(Own.mv aT ff (Chg.refl nil _) (fun h=>h)),(Own.mv bY ff (Chg.refl nil _) (fun h=>h))⟩⟩
   refine .nw (fun b=>.pointer (some ⟨b,0,none⟩)) 27 [.slice none 0 0,.slice none 0 0,.slice none 0 0,vI 0] fun wq iG=>?_
   replace ⟨h1,h2,h3,W,O,ae,J,C,E⟩:=(se [ak,ac,ab] iG).g9 h1 h2 h3 W O ae J C E
   intro bu wr ee iH aG mO
   have mP:=AS ee ae.lt
   have mQ:=C.cn ee
   replace ⟨h1,h2,h3,W,O,ae,J,C,E⟩:=(sn [ak,ac,ab] iH ee).g9 h1 h2 h3 W O ae J C E
   refine .go 1<|.ns 0 3 [] fun ws iI=>?_
   replace ⟨h1,h2,h3,W,O,ae,aG,J,C,E⟩:=(se [bu,ak,ac,ab] iI).g10 h1 h2 h3 W O ae aG J C E
   intro dZ sB bz iJ mR mS
   have t7:=AS bz W.lt
   have t8:=AS bz O.lt
   have mT:=AS bz ae.lt
   have mU:=AS bz aG.lt
   have t9:=J.cn bz
   have mV:=C.cn bz
   have mW:=E.cn bz
   replace ⟨h1,h2,h3,W,O,ae,aG,J,C,E⟩:=(sn [bu,ak,ac,ab] iJ bz).g10 h1 h2 h3 W O ae aG J C E
   have fg:Own (α:=Int) sB dZ 3 (nin (ge w.heap.size) [dZ,bu,ak,ac,ab]) 0 0 []:=Own.Ag mR
   refine .go 4<|GE.append (T:=24) (ty:=24) (args:=[vS dZ 0 0,.slice a2 d.list.length c2]) AA fun wt iK=>?_
   replace ⟨h1,h2,h3,W,O,ae,aG,fg,J,C,E⟩:=(se [dZ,bu,ak,ac,ab] iK).g11 h1 h2 h3 W O ae aG fg J C E
   obtain ⟨dh,sC,wu,lf,aU,cu,fh,mX⟩:=Own.Ay (P:=Tryz.prog) (T:=24) (ty:=24) BF fg AA h2 (fun b h e=>h.2 (e▸AD)) AB
   refine ⟨_,_,lf,Chg.toS fh (Cov.toS mW),?_⟩
   have mY:=Ae cu mT ae.lt
   have mZ:=Ae cu mU aG.lt
   have m0:=Am cu mV C.size
   replace ⟨h1,h2,h3,W,O,ae,aG,J,C,E⟩:=(sa [dZ,bu,ak,ac,ab] fh cu).g10 h1 h2 h3 W O ae aG J C E
   replace aU:=aU.rn dZ
   have ua:=aU.len; have ub:=aU.max
   refine .go 7<|.cl (fun gQ fi=>Aj d.names (h3.ta.ext fi) AB (fun n hn=>by have:=p4 n hn; omega) (w:=gQ) (F:=all)) ?_
   intro gQ fi
   replace ⟨h1,h2,h3,W,O,ae,aG,aU,J,C,E⟩:=(se [dh,bu,ak,ac,ab] fi).g11 h1 h2 h3 W O ae aG aU J C E
   rintro wv ww ⟨⟨eC,sD,sE,rfl,bZ,cH⟩,fj⟩
   have iL:=al5 aU.lt aG.lt ae.lt O.lt W.lt
   have m5:Gb w.heap.size gQ.heap.size:=J.size
   have hkeep_:=fj
   have m6:=Ab cH ae.lt
   have m7:=Ab cH aG.lt
   have m8:=Ab cH aU.lt
   have m9:Cov nil bk eC:=BR cH C.size
   replace ⟨h1,h2,h3,W,O,ae,aG,aU,J,C,E⟩:=(sz [dh,bu,ak,ac,ab] fj cH).g11 h1 h2 h3 W O ae aG aU J C E
   refine ⟨Ext.chg hkeep_,?_⟩
   replace bZ:=Own.take (s0:=w.heap.size) (M:=[dh,bu,ak,ac,ab]) bZ iL m5
   have uc:=bZ.len; have ud:=bZ.max
   refine .r [10]<|.d fun lB iM=>?_
   replace ⟨h1,h2,h3,W,O,ae,aG,aU,bZ,J,C,E⟩:=(se [eC,dh,bu,ak,ac,ab] iM).g12 h1 h2 h3 W O ae aG aU bZ J C E
   replace h1:=h1.AU
   replace h2:=h2.AU
   replace h3:=h3.AU
   have fk:Mv [eC,dh,bu,ak,ac,ab] [bu,ak,dh,eC,ac,ab] lB lB:=Mv.less (all_cons AF (all_cons AG (all_cons AE (all_cons AD (all_cons AH (all_cons AI all_nil))))))
   exact ⟨(bu,ak,dh,sC,eC,sD,sE),⟨AA,AA,AA,AA,trivial⟩,⟨C,(Ac mQ),(Ac ed),(Ac m0),(Ac m9),(Nb.symm mP),mZ,mY,m7,m6,m8,aG,(Own.mv ae fk (Chg.refl nil _) (fun h=>h)),(Own.mv aU fk (Chg.refl nil _) (fun h=>h)),(Own.mv bZ fk (Chg.refl nil _) (fun h=>h))⟩⟩
  ·refine .ns 0 3 [] fun wx iN=>?_
   replace ⟨h1,h2,h3,W,O,J,C,E⟩:=(se [ac,ab] iN).g8 h1 h2 h3 W O J C E
   intro aD sF b0 iO nc ng
   have ue:=AS b0 W.lt
   have uf:=AS b0 O.lt
   have ug:=J.cn b0
   have dE:=C.cn b0
   have dF:=E.cn b0
   replace ⟨h1,h2,h3,W,O,J,C,E⟩:=(sn [ac,ab] iO b0).g8 h1 h2 h3 W O J C E
   have al:Own (α:=Int) sF aD 3 (nin (ge w.heap.size) [aD,ac,ab]) 0 0 []:=Own.Ag nc
   refine GE.many [0,4,11] AA (all_cons ?_ (all_cons ?_ (all_cons ?_ all_nil)))
   ·refine .ns 0 66 [] fun wy iP=>?_
    replace ⟨h1,h2,h3,W,O,al,J,C,E⟩:=(se [aD,ac,ab] iP).g9 h1 h2 h3 W O al J C E
    intro aB sG ef iQ nh ni
    have iR:=AS ef al.lt
    have fm:=C.cn ef
    replace ⟨h1,h2,h3,W,O,al,J,C,E⟩:=(sn [aD,ac,ab] iQ ef).g9 h1 h2 h3 W O al J C E
    have ag:Own (α:=Fil) sG aB 66 (nin (ge w.heap.size) [aB,aD,ac,ab]) 0 0 []:=Own.Ag nh
    refine .tw 4 11 ?_ ?_
    ·refine GE.append (T:=24) (ty:=24) (args:=[vS aD 0 0,.slice a2 d.list.length c2]) AA fun wz iS=>?_
     replace ⟨h1,h2,h3,W,O,al,ag,J,C,E⟩:=(se [aB,aD,ac,ab] iS).g10 h1 h2 h3 W O al ag J C E
     obtain ⟨aO,lC,wA,li,aq,dG,fp,nj⟩:=Own.Ay (P:=Tryz.prog) (T:=24) (ty:=24) BF al AA h2 (fun b h e=>h.2 (e▸AE)) AB
     refine ⟨_,_,li,Chg.toS fp (Cov.toS dF),?_⟩
     have iT:=Ae dG (Nb.symm iR) ag.lt
     have iU:=Am dG dE C.size
     replace ⟨h1,h2,h3,W,O,ag,J,C,E⟩:=(sa [aB,aD,ac,ab] fp dG).g9 h1 h2 h3 W O ag J C E
     replace aq:=aq.rn aD
     have uh:=aq.len; have ui:=aq.max
     refine .tw 7 11 ?_ ?_
     ·refine .cl (fun gR fq=>Aj d.names (h3.ta.ext fq) AB (fun n hn=>by have:=p4 n hn; omega) (w:=gR) (F:=all)) ?_
      intro gR fq
      replace ⟨h1,h2,h3,W,O,aq,ag,J,C,E⟩:=(se [aB,aO,ac,ab] fq).g10 h1 h2 h3 W O aq ag J C E
      rintro wB wC ⟨⟨dj,sH,sI,rfl,bd,dH⟩,ft⟩
      have iV:=al4 ag.lt aq.lt O.lt W.lt
      have nq:Gb w.heap.size gR.heap.size:=J.size
      have hkeep_:=ft
      have nt:=Ab dH aq.lt
      have nu:=Ab dH ag.lt
      have nv:Cov nil bk dj:=BR dH C.size
      replace ⟨h1,h2,h3,W,O,aq,ag,J,C,E⟩:=(sz [aB,aO,ac,ab] ft dH).g10 h1 h2 h3 W O aq ag J C E
      refine ⟨Ext.chg hkeep_,?_⟩
      replace bd:=Own.take (s0:=w.heap.size) (M:=[aB,aO,ac,ab]) bd iV nq
      have uj:=bd.len; have uk:=bd.max
      refine .r [10]<|.go 11<|.nw (fun b=>.pointer (some ⟨b,0,none⟩)) 27 [.slice none 0 0,.slice none 0 0,.slice none 0 0,vI 0] fun wD iW=>?_
      replace ⟨h1,h2,h3,W,O,aq,ag,bd,J,C,E⟩:=(se [dj,aB,aO,ac,ab] iW).g11 h1 h2 h3 W O aq ag bd J C E
      intro fu wE cI iX fv nz
      have nA:=AS cI aq.lt
      have nB:=AS cI ag.lt
      have nC:=AS cI bd.lt
      have nD:=C.cn cI
      replace ⟨h1,h2,h3,W,O,aq,ag,bd,J,C,E⟩:=(sn [dj,aB,aO,ac,ab] iX cI).g11 h1 h2 h3 W O aq ag bd J C E
      refine .d fun lD iY=>?_
      replace ⟨h1,h2,h3,W,O,aq,ag,bd,fv,J,C,E⟩:=(se [fu,dj,aB,aO,ac,ab] iY).g12 h1 h2 h3 W O aq ag bd fv J C E
      replace h1:=h1.AU
      replace h2:=h2.AU
      replace h3:=h3.AU
      have fw:Mv [fu,dj,aB,aO,ac,ab] [fu,aB,aO,dj,ac,ab] lD lD:=Mv.less (all_cons AD (all_cons AF (all_cons AG (all_cons AE (all_cons AH (all_cons AI all_nil))))))
      exact ⟨(fu,aB,aO,lC,dj,sH,sI),⟨AA,AA,AA,AA,trivial⟩,⟨C,(Ac nD),(Ac fm),(Ac iU),(Ac nv),(Nb.symm nB),(Nb.symm nA),iT,(Nb.symm nC),nu,nt,fv,(Own.mv ag fw (Chg.refl nil _) (fun h=>h)),(Own.mv aq fw (Chg.refl nil _) (fun h=>h)),(Own.mv bd fw (Chg.refl nil _) (fun h=>h))⟩⟩
     refine .nw (fun b=>.pointer (some ⟨b,0,none⟩)) 27 [.slice none 0 0,.slice none 0 0,.slice none 0 0,vI 0] fun wF iZ=>?_
     replace ⟨h1,h2,h3,W,O,aq,ag,J,C,E⟩:=(se [aB,aO,ac,ab] iZ).g10 h1 h2 h3 W O aq ag J C E
     intro dm wG dI ja bA nE
     have nF:=AS dI aq.lt
     have nG:=AS dI ag.lt
     have nH:=C.cn dI
     replace ⟨h1,h2,h3,W,O,aq,ag,J,C,E⟩:=(sn [aB,aO,ac,ab] ja dI).g10 h1 h2 h3 W O aq ag J C E
     refine .go 7<|.cl (fun gS fz=>Aj d.names (h3.ta.ext fz) AB (fun n hn=>by have:=p4 n hn; omega) (w:=gS) (F:=all)) ?_
     intro gS fz
     replace ⟨h1,h2,h3,W,O,aq,ag,bA,J,C,E⟩:=(se [dm,aB,aO,ac,ab] fz).g11 h1 h2 h3 W O aq ag bA J C E
     rintro wH wI ⟨⟨eD,sJ,sK,rfl,b6,cJ⟩,fA⟩
     have jb:=al5 bA.lt ag.lt aq.lt O.lt W.lt
     have nI:Gb w.heap.size gS.heap.size:=J.size
     have hkeep_:=fA
     have nJ:=Ab cJ aq.lt
     have nK:=Ab cJ ag.lt
     have nL:=Ab cJ bA.lt
     have nM:Cov nil bk eD:=BR cJ C.size
     replace ⟨h1,h2,h3,W,O,aq,ag,bA,J,C,E⟩:=(sz [dm,aB,aO,ac,ab] fA cJ).g11 h1 h2 h3 W O aq ag bA J C E
     refine ⟨Ext.chg hkeep_,?_⟩
     replace b6:=Own.take (s0:=w.heap.size) (M:=[dm,aB,aO,ac,ab]) b6 jb nI
     have ul:=b6.len; have um:=b6.max
     refine .r [10]<|.d fun lE jc=>?_
     replace ⟨h1,h2,h3,W,O,aq,ag,bA,b6,J,C,E⟩:=(se [eD,dm,aB,aO,ac,ab] jc).g12 h1 h2 h3 W O aq ag bA b6 J C E
     replace h1:=h1.AU
     replace h2:=h2.AU
     replace h3:=h3.AU
     have fB:Mv [eD,dm,aB,aO,ac,ab] [dm,aB,aO,eD,ac,ab] lE lE:=Mv.less (all_cons AE (all_cons AF (all_cons AG (all_cons AD (all_cons AH (all_cons AI all_nil))))))
     exact ⟨(dm,aB,aO,lC,eD,sJ,sK),⟨AA,AA,AA,AA,trivial⟩,⟨C,(Ac nH),(Ac fm),(Ac iU),(Ac nM),(Nb.symm nG),(Nb.symm nF),iT,nL,nK,nJ,bA,(Own.mv ag fB (Chg.refl nil _) (fun h=>h)),(Own.mv aq fB (Chg.refl nil _) (fun h=>h)),(Own.mv b6 fB (Chg.refl nil _) (fun h=>h))⟩⟩
    refine .nw (fun b=>.pointer (some ⟨b,0,none⟩)) 27 [.slice none 0 0,.slice none 0 0,.slice none 0 0,vI 0] fun wJ jd=>?_
    replace ⟨h1,h2,h3,W,O,al,ag,J,C,E⟩:=(se [aB,aD,ac,ab] jd).g10 h1 h2 h3 W O al ag J C E
    intro b7 wK dJ je aQ nN
    have nO:=AS dJ al.lt
    have nP:=AS dJ ag.lt
    have nQ:=C.cn dJ
    replace ⟨h1,h2,h3,W,O,al,ag,J,C,E⟩:=(sn [aB,aD,ac,ab] je dJ).g10 h1 h2 h3 W O al ag J C E
    refine .go 4<|GE.append (T:=24) (ty:=24) (args:=[vS aD 0 0,.slice a2 d.list.length c2]) AA fun wL jf=>?_
    replace ⟨h1,h2,h3,W,O,al,ag,aQ,J,C,E⟩:=(se [b7,aB,aD,ac,ab] jf).g11 h1 h2 h3 W O al ag aQ J C E
    obtain ⟨dp,sL,wM,lj,aV,cv,fC,nR⟩:=Own.Ay (P:=Tryz.prog) (T:=24) (ty:=24) BF al AA h2 (fun b h e=>h.2 (e▸AF)) AB
    refine ⟨_,_,lj,Chg.toS fC (Cov.toS dF),?_⟩
    have nT:=Ae cv (Nb.symm iR) ag.lt
    have nU:=Ae cv (Nb.symm nO) aQ.lt
    have nV:=Am cv dE C.size
    replace ⟨h1,h2,h3,W,O,ag,aQ,J,C,E⟩:=(sa [b7,aB,aD,ac,ab] fC cv).g10 h1 h2 h3 W O ag aQ J C E
    replace aV:=aV.rn aD
    have un:=aV.len; have uo:=aV.max
    refine .go 7<|.cl (fun gT fD=>Aj d.names (h3.ta.ext fD) AB (fun n hn=>by have:=p4 n hn; omega) (w:=gT) (F:=all)) ?_
    intro gT fD
    replace ⟨h1,h2,h3,W,O,aV,ag,aQ,J,C,E⟩:=(se [b7,aB,dp,ac,ab] fD).g11 h1 h2 h3 W O aV ag aQ J C E
    rintro wN wO ⟨⟨eE,sM,sN,rfl,b8,cK⟩,fE⟩
    have jg:=al5 aQ.lt ag.lt aV.lt O.lt W.lt
    have nW:Gb w.heap.size gT.heap.size:=J.size
    have hkeep_:=fE
    have nX:=Ab cK aV.lt
    have nY:=Ab cK ag.lt
    have nZ:=Ab cK aQ.lt
    have n7:Cov nil bk eE:=BR cK C.size
    replace ⟨h1,h2,h3,W,O,aV,ag,aQ,J,C,E⟩:=(sz [b7,aB,dp,ac,ab] fE cK).g11 h1 h2 h3 W O aV ag aQ J C E
    refine ⟨Ext.chg hkeep_,?_⟩
    replace b8:=Own.take (s0:=w.heap.size) (M:=[b7,aB,dp,ac,ab]) b8 jg nW
    have uq:=b8.len; have ur:=b8.max
    refine .r [10]<|.d fun lF jh=>?_
    replace ⟨h1,h2,h3,W,O,aV,ag,aQ,b8,J,C,E⟩:=(se [eE,b7,aB,dp,ac,ab] jh).g12 h1 h2 h3 W O aV ag aQ b8 J C E
    replace h1:=h1.AU
    replace h2:=h2.AU
    replace h3:=h3.AU
    have fF:Mv [eE,b7,aB,dp,ac,ab] [b7,aB,dp,eE,ac,ab] lF lF:=Mv.less (all_cons AE (all_cons AF (all_cons AG (all_cons AD (all_cons AH (all_cons AI all_nil))))))
    exact ⟨(b7,aB,dp,sL,eE,sM,sN),⟨AA,AA,AA,AA,trivial⟩,⟨C,(Ac nQ),(Ac fm),(Ac nV),(Ac n7),(Nb.symm nP),nU,nT,nZ,nY,nX,aQ,(Own.mv ag fF (Chg.refl nil _) (fun h=>h)),(Own.mv aV fF (Chg.refl nil _) (fun h=>h)),(Own.mv b8 fF (Chg.refl nil _) (fun h=>h))⟩⟩
   ·refine GE.append (T:=24) (ty:=24) (args:=[vS aD 0 0,.slice a2 d.list.length c2]) AA fun wP ji=>?_
    replace ⟨h1,h2,h3,W,O,al,J,C,E⟩:=(se [aD,ac,ab] ji).g9 h1 h2 h3 W O al J C E
    obtain ⟨ai,d0,wQ,lk,aa,eF,fG,n8⟩:=Own.Ay (P:=Tryz.prog) (T:=24) (ty:=24) BF al AA h2 (fun b h e=>h.2 (e▸AD)) AB
    refine ⟨_,_,lk,Chg.toS fG (Cov.toS dF),?_⟩
    have cL:=Am eF dE C.size
    replace ⟨h1,h2,h3,W,O,J,C,E⟩:=(sa [aD,ac,ab] fG eF).g8 h1 h2 h3 W O J C E
    replace aa:=aa.rn aD
    have ut:=aa.len; have uu:=aa.max
    refine GE.many [0,7,11] AA (all_cons ?_ (all_cons ?_ (all_cons ?_ all_nil)))
    ·refine .ns 0 66 [] fun wR jj=>?_
     replace ⟨h1,h2,h3,W,O,aa,J,C,E⟩:=(se [ai,ac,ab] jj).g9 h1 h2 h3 W O aa J C E
     intro aI sO eg jk n9 oa
     have jl:=AS eg aa.lt
     have jm:=C.cn eg
     replace ⟨h1,h2,h3,W,O,aa,J,C,E⟩:=(sn [ai,ac,ab] jk eg).g9 h1 h2 h3 W O aa J C E
     have ay:Own (α:=Fil) sO aI 66 (nin (ge w.heap.size) [aI,ai,ac,ab]) 0 0 []:=Own.Ag n9
     refine .tw 7 11 ?_ ?_
     ·refine .cl (fun gU fH=>Aj d.names (h3.ta.ext fH) AB (fun n hn=>by have:=p4 n hn; omega) (w:=gU) (F:=all)) ?_
      intro gU fH
      replace ⟨h1,h2,h3,W,O,aa,ay,J,C,E⟩:=(se [aI,ai,ac,ab] fH).g10 h1 h2 h3 W O aa ay J C E
      rintro wS wT ⟨⟨dq,sP,sQ,rfl,bg,dK⟩,fI⟩
      have jn:=al4 ay.lt aa.lt O.lt W.lt
      have oc:Gb w.heap.size gU.heap.size:=J.size
      have hkeep_:=fI
      have od:=Ab dK aa.lt
      have oe:=Ab dK ay.lt
      have og:Cov nil bk dq:=BR dK C.size
      replace ⟨h1,h2,h3,W,O,aa,ay,J,C,E⟩:=(sz [aI,ai,ac,ab] fI dK).g10 h1 h2 h3 W O aa ay J C E
      refine ⟨Ext.chg hkeep_,?_⟩
      replace bg:=Own.take (s0:=w.heap.size) (M:=[aI,ai,ac,ab]) bg jn oc
      have uv:=bg.len; have uw:=bg.max
      refine .r [10]<|.go 11<|.nw (fun b=>.pointer (some ⟨b,0,none⟩)) 27 [.slice none 0 0,.slice none 0 0,.slice none 0 0,vI 0] fun wU jo=>?_
      replace ⟨h1,h2,h3,W,O,aa,ay,bg,J,C,E⟩:=(se [dq,aI,ai,ac,ab] jo).g11 h1 h2 h3 W O aa ay bg J C E
      intro fJ wV cM jp fK oh
      have ol:=AS cM aa.lt
      have om:=AS cM ay.lt
      have oo:=AS cM bg.lt
      have oq:=C.cn cM
      replace ⟨h1,h2,h3,W,O,aa,ay,bg,J,C,E⟩:=(sn [dq,aI,ai,ac,ab] jp cM).g11 h1 h2 h3 W O aa ay bg J C E
      refine .d fun lG jq=>?_
      replace ⟨h1,h2,h3,W,O,aa,ay,bg,fK,J,C,E⟩:=(se [fJ,dq,aI,ai,ac,ab] jq).g12 h1 h2 h3 W O aa ay bg fK J C E
      replace h1:=h1.AU
      replace h2:=h2.AU
      replace h3:=h3.AU
      have fL:Mv [fJ,dq,aI,ai,ac,ab] [fJ,aI,ai,dq,ac,ab] lG lG:=Mv.less (all_cons AD (all_cons AF (all_cons AG (all_cons AE (all_cons AH (all_cons AI all_nil))))))
      exact ⟨(fJ,aI,ai,d0,dq,sP,sQ),⟨AA,AA,AA,AA,trivial⟩,⟨C,(Ac oq),(Ac jm),(Ac cL),(Ac og),(Nb.symm om),(Nb.symm ol),(Nb.symm jl),(Nb.symm oo),oe,od,fK,(Own.mv ay fL (Chg.refl nil _) (fun h=>h)),(Own.mv aa fL (Chg.refl nil _) (fun h=>h)),(Own.mv bg fL (Chg.refl nil _) (fun h=>h))⟩⟩
     refine .nw (fun b=>.pointer (some ⟨b,0,none⟩)) 27 [.slice none 0 0,.slice none 0 0,.slice none 0 0,vI 0] fun wW jr=>?_
     replace ⟨h1,h2,h3,W,O,aa,ay,J,C,E⟩:=(se [aI,ai,ac,ab] jr).g10 h1 h2 h3 W O aa ay J C E
     intro dr wX dL js bB ou
     have ov:=AS dL aa.lt
     have ow:=AS dL ay.lt
     have oz:=C.cn dL
     replace ⟨h1,h2,h3,W,O,aa,ay,J,C,E⟩:=(sn [aI,ai,ac,ab] js dL).g10 h1 h2 h3 W O aa ay J C E
     refine .go 7<|.cl (fun gV fM=>Aj d.names (h3.ta.ext fM) AB (fun n hn=>by have:=p4 n hn; omega) (w:=gV) (F:=all)) ?_
     intro gV fM
     replace ⟨h1,h2,h3,W,O,aa,ay,bB,J,C,E⟩:=(se [dr,aI,ai,ac,ab] fM).g11 h1 h2 h3 W O aa ay bB J C E
     rintro wY wZ ⟨⟨eG,sR,sS,rfl,b9,cN⟩,fN⟩
     have jt:=al5 bB.lt ay.lt aa.lt O.lt W.lt
     have oA:Gb w.heap.size gV.heap.size:=J.size
     have hkeep_:=fN
     have oB:=Ab cN aa.lt
     have oC:=Ab cN ay.lt
     have oD:=Ab cN bB.lt
     have oE:Cov nil bk eG:=BR cN C.size
     replace ⟨h1,h2,h3,W,O,aa,ay,bB,J,C,E⟩:=(sz [dr,aI,ai,ac,ab] fN cN).g11 h1 h2 h3 W O aa ay bB J C E
     refine ⟨Ext.chg hkeep_,?_⟩
     replace b9:=Own.take (s0:=w.heap.size) (M:=[dr,aI,ai,ac,ab]) b9 jt oA
     have ux:=b9.len; have uy:=b9.max
     refine .r [10]<|.d fun lH ju=>?_
     replace ⟨h1,h2,h3,W,O,aa,ay,bB,b9,J,C,E⟩:=(se [eG,dr,aI,ai,ac,ab] ju).g12 h1 h2 h3 W O aa ay bB b9 J C E
     replace h1:=h1.AU
     replace h2:=h2.AU
     replace h3:=h3.AU
     have fO:Mv [eG,dr,aI,ai,ac,ab] [dr,aI,ai,eG,ac,ab] lH lH:=Mv.less (all_cons AE (all_cons AF (all_cons AG (all_cons AD (all_cons AH (all_cons AI all_nil))))))
     exact ⟨(dr,aI,ai,d0,eG,sR,sS),⟨AA,AA,AA,AA,trivial⟩,⟨C,(Ac oz),(Ac jm),(Ac cL),(Ac oE),(Nb.symm ow),(Nb.symm ov),(Nb.symm jl),oD,oC,oB,bB,(Own.mv ay fO (Chg.refl nil _) (fun h=>h)),(Own.mv aa fO (Chg.refl nil _) (fun h=>h)),(Own.mv b9 fO (Chg.refl nil _) (fun h=>h))⟩⟩
    ·refine .cl (fun gW fP=>Aj d.names (h3.ta.ext fP) AB (fun n hn=>by have:=p4 n hn; omega) (w:=gW) (F:=all)) ?_
     intro gW fP
     replace ⟨h1,h2,h3,W,O,aa,J,C,E⟩:=(se [ai,ac,ab] fP).g9 h1 h2 h3 W O aa J C E
     rintro w0 w4 ⟨⟨aM,lI,lJ,rfl,aw,eh⟩,fQ⟩
     have jv:=al3 aa.lt O.lt W.lt
     have oF:Gb w.heap.size gW.heap.size:=J.size
     have hkeep_:=fQ
     have jw:=Ab eh aa.lt
     have jx:Cov nil bk aM:=BR eh C.size
     replace ⟨h1,h2,h3,W,O,aa,J,C,E⟩:=(sz [ai,ac,ab] fQ eh).g9 h1 h2 h3 W O aa J C E
     refine ⟨Ext.chg hkeep_,?_⟩
     replace aw:=Own.take (s0:=w.heap.size) (M:=[ai,ac,ab]) aw jv oF
     have uz:=aw.len; have uA:=aw.max
     refine .tw 0 11 ?_ ?_
     ·refine .ns 0 66 [] fun w5 jy=>?_
      replace ⟨h1,h2,h3,W,O,aa,aw,J,C,E⟩:=(se [aM,ai,ac,ab] jy).g10 h1 h2 h3 W O aa aw J C E
      intro cw sT dM jz oG oH
      have oI:=AS dM aa.lt
      have oJ:=AS dM aw.lt
      have oK:=C.cn dM
      replace ⟨h1,h2,h3,W,O,aa,aw,J,C,E⟩:=(sn [aM,ai,ac,ab] jz dM).g10 h1 h2 h3 W O aa aw J C E
      have bO:Own (α:=Fil) sT cw 66 (nin (ge w.heap.size) [cw,aM,ai,ac,ab]) 0 0 []:=Own.Ag oG
      refine .r [10]<|.go 11<|.nw (fun b=>.pointer (some ⟨b,0,none⟩)) 27 [.slice none 0 0,.slice none 0 0,.slice none 0 0,vI 0] fun w6 jA=>?_
      replace ⟨h1,h2,h3,W,O,aa,aw,bO,J,C,E⟩:=(se [cw,aM,ai,ac,ab] jA).g11 h1 h2 h3 W O aa aw bO J C E
      intro fR w7 cO jB fS oL
      have oM:=AS cO aa.lt
      have oN:=AS cO aw.lt
      have oO:=AS cO bO.lt
      have oP:=C.cn cO
      replace ⟨h1,h2,h3,W,O,aa,aw,bO,J,C,E⟩:=(sn [cw,aM,ai,ac,ab] jB cO).g11 h1 h2 h3 W O aa aw bO J C E
      refine .d fun lK jC=>?_
      replace ⟨h1,h2,h3,W,O,aa,aw,bO,fS,J,C,E⟩:=(se [fR,cw,aM,ai,ac,ab] jC).g12 h1 h2 h3 W O aa aw bO fS J C E
      replace h1:=h1.AU
      replace h2:=h2.AU
      replace h3:=h3.AU
      have fT:Mv [fR,cw,aM,ai,ac,ab] [fR,cw,ai,aM,ac,ab] lK lK:=Mv.less (all_cons AD (all_cons AE (all_cons AG (all_cons AF (all_cons AH (all_cons AI all_nil))))))
      exact ⟨(fR,cw,ai,d0,aM,lI,lJ),⟨AA,AA,AA,AA,trivial⟩,⟨C,(Ac oP),(Ac oK),(Ac cL),(Ac jx),(Nb.symm oO),(Nb.symm oM),(Nb.symm oI),(Nb.symm oN),(Nb.symm oJ),jw,fS,(Own.mv bO fT (Chg.refl nil _) (fun h=>h)),(Own.mv aa fT (Chg.refl nil _) (fun h=>h)),(Own.mv aw fT (Chg.refl nil _) (fun h=>h))⟩⟩
     refine .nw (fun b=>.pointer (some ⟨b,0,none⟩)) 27 [.slice none 0 0,.slice none 0 0,.slice none 0 0,vI 0] fun w8 jD=>?_
     replace ⟨h1,h2,h3,W,O,aa,aw,J,C,E⟩:=(se [aM,ai,ac,ab] jD).g10 h1 h2 h3 W O aa aw J C E
     intro dt w9 dN jE bP oQ
     have oR:=AS dN aa.lt
     have oS:=AS dN aw.lt
     have oT:=C.cn dN
     replace ⟨h1,h2,h3,W,O,aa,aw,J,C,E⟩:=(sn [aM,ai,ac,ab] jE dN).g10 h1 h2 h3 W O aa aw J C E
     refine .go 0<|.ns 0 66 [] fun xa jF=>?_
     replace ⟨h1,h2,h3,W,O,aa,aw,bP,J,C,E⟩:=(se [dt,aM,ai,ac,ab] jF).g11 h1 h2 h3 W O aa aw bP J C E
     intro d3 sU cP jG oU oV
     have oW:=AS cP aa.lt
     have oX:=AS cP aw.lt
     have oY:=AS cP bP.lt
     have oZ:=C.cn cP
     replace ⟨h1,h2,h3,W,O,aa,aw,bP,J,C,E⟩:=(sn [dt,aM,ai,ac,ab] jG cP).g11 h1 h2 h3 W O aa aw bP J C E
     have fU:Own (α:=Fil) sU d3 66 (nin (ge w.heap.size) [d3,dt,aM,ai,ac,ab]) 0 0 []:=Own.Ag oU
     refine .r [10]<|.d fun lL jH=>?_
     replace ⟨h1,h2,h3,W,O,aa,aw,bP,fU,J,C,E⟩:=(se [d3,dt,aM,ai,ac,ab] jH).g12 h1 h2 h3 W O aa aw bP fU J C E
     replace h1:=h1.AU
     replace h2:=h2.AU
     replace h3:=h3.AU
     have fV:Mv [d3,dt,aM,ai,ac,ab] [dt,d3,ai,aM,ac,ab] lL lL:=Mv.less (all_cons AE (all_cons AD (all_cons AG (all_cons AF (all_cons AH (all_cons AI all_nil))))))
     exact ⟨(dt,d3,ai,d0,aM,lI,lJ),⟨AA,AA,AA,AA,trivial⟩,⟨C,(Ac oT),(Ac oZ),(Ac cL),(Ac jx),oY,(Nb.symm oR),(Nb.symm oW),(Nb.symm oS),(Nb.symm oX),jw,bP,(Own.mv fU fV (Chg.refl nil _) (fun h=>h)),(Own.mv aa fV (Chg.refl nil _) (fun h=>h)),(Own.mv aw fV (Chg.refl nil _) (fun h=>h))⟩⟩
    refine .nw (fun b=>.pointer (some ⟨b,0,none⟩)) 27 [.slice none 0 0,.slice none 0 0,.slice none 0 0,vI 0] fun xb jI=>?_
    replace ⟨h1,h2,h3,W,O,aa,J,C,E⟩:=(se [ai,ac,ab] jI).g9 h1 h2 h3 W O aa J C E
    intro aJ xc ej jJ az o0
    have jK:=AS ej aa.lt
    have jL:=C.cn ej
    replace ⟨h1,h2,h3,W,O,aa,J,C,E⟩:=(sn [ai,ac,ab] jJ ej).g9 h1 h2 h3 W O aa J C E
    refine .tw 0 7 ?_ ?_
    ·refine .ns 0 66 [] fun xd jM=>?_
     replace ⟨h1,h2,h3,W,O,aa,az,J,C,E⟩:=(se [aJ,ai,ac,ab] jM).g10 h1 h2 h3 W O aa az J C E
     intro cd sV dO jN o5 o6
     have o7:=AS dO aa.lt
     have o8:=AS dO az.lt
     have o9:=C.cn dO
     replace ⟨h1,h2,h3,W,O,aa,az,J,C,E⟩:=(sn [aJ,ai,ac,ab] jN dO).g10 h1 h2 h3 W O aa az J C E
     have bC:Own (α:=Fil) sV cd 66 (nin (ge w.heap.size) [cd,aJ,ai,ac,ab]) 0 0 []:=Own.Ag o5
     refine .go 7<|.cl (fun gX fW=>Aj d.names (h3.ta.ext fW) AB (fun n hn=>by have:=p4 n hn; omega) (w:=gX) (F:=all)) ?_
     intro gX fW
     replace ⟨h1,h2,h3,W,O,aa,az,bC,J,C,E⟩:=(se [cd,aJ,ai,ac,ab] fW).g11 h1 h2 h3 W O aa az bC J C E
     rintro xe xf ⟨⟨eH,sW,sX,rfl,ce,cQ⟩,fX⟩
     have jO:=al5 bC.lt az.lt aa.lt O.lt W.lt
     have pa:Gb w.heap.size gX.heap.size:=J.size
     have hkeep_:=fX
     have pb:=Ab cQ aa.lt
     have pc:=Ab cQ az.lt
     have pd:=Ab cQ bC.lt
     have pe:Cov nil bk eH:=BR cQ C.size
     replace ⟨h1,h2,h3,W,O,aa,az,bC,J,C,E⟩:=(sz [cd,aJ,ai,ac,ab] fX cQ).g11 h1 h2 h3 W O aa az bC J C E
     refine ⟨Ext.chg hkeep_,?_⟩
     replace ce:=Own.take (s0:=w.heap.size) (M:=[cd,aJ,ai,ac,ab]) ce jO pa
     have uB:=ce.len; have uC:=ce.max
     refine .r [10]<|.d fun lM jP=>?_
     replace ⟨h1,h2,h3,W,O,aa,az,bC,ce,J,C,E⟩:=(se [eH,cd,aJ,ai,ac,ab] jP).g12 h1 h2 h3 W O aa az bC ce J C E
     replace h1:=h1.AU
     replace h2:=h2.AU
     replace h3:=h3.AU
     have fY:Mv [eH,cd,aJ,ai,ac,ab] [aJ,cd,ai,eH,ac,ab] lM lM:=Mv.less (all_cons AF (all_cons AE (all_cons AG (all_cons AD (all_cons AH (all_cons AI all_nil))))))
     exact ⟨(aJ,cd,ai,d0,eH,sW,sX),⟨AA,AA,AA,AA,trivial⟩,⟨C,(Ac jL),(Ac o9),(Ac cL),(Ac pe),o8,(Nb.symm jK),(Nb.symm o7),pc,pd,pb,az,(Own.mv bC fY (Chg.refl nil _) (fun h=>h)),(Own.mv aa fY (Chg.refl nil _) (fun h=>h)),(Own.mv ce fY (Chg.refl nil _) (fun h=>h))⟩⟩
    refine .cl (fun gY fZ=>Aj d.names (h3.ta.ext fZ) AB (fun n hn=>by have:=p4 n hn; omega) (w:=gY) (F:=all)) ?_
    intro gY fZ
    replace ⟨h1,h2,h3,W,O,aa,az,J,C,E⟩:=(se [aJ,ai,ac,ab] fZ).g10 h1 h2 h3 W O aa az J C E
    rintro xg xh ⟨⟨cx,sY,sZ,rfl,bh,dP⟩,f0⟩
    have jQ:=al4 az.lt aa.lt O.lt W.lt
    have pf:Gb w.heap.size gY.heap.size:=J.size
    have hkeep_:=f0
    have pg:=Ab dP aa.lt
    have ph:=Ab dP az.lt
    have pi:Cov nil bk cx:=BR dP C.size
    replace ⟨h1,h2,h3,W,O,aa,az,J,C,E⟩:=(sz [aJ,ai,ac,ab] f0 dP).g10 h1 h2 h3 W O aa az J C E
    refine ⟨Ext.chg hkeep_,?_⟩
    replace bh:=Own.take (s0:=w.heap.size) (M:=[aJ,ai,ac,ab]) bh jQ pf
    have uD:=bh.len; have uE:=bh.max
    refine .go 0<|.ns 0 66 [] fun xi jR=>?_
    replace ⟨h1,h2,h3,W,O,aa,az,bh,J,C,E⟩:=(se [cx,aJ,ai,ac,ab] jR).g11 h1 h2 h3 W O aa az bh J C E
    intro d4 s2 cR jS pj pk
    have pl:=AS cR aa.lt
    have pm:=AS cR az.lt
    have pn:=AS cR bh.lt
    have po:=C.cn cR
    replace ⟨h1,h2,h3,W,O,aa,az,bh,J,C,E⟩:=(sn [cx,aJ,ai,ac,ab] jS cR).g11 h1 h2 h3 W O aa az bh J C E
    have f5:Own (α:=Fil) s2 d4 66 (nin (ge w.heap.size) [d4,cx,aJ,ai,ac,ab]) 0 0 []:=Own.Ag pj
    refine .r [10]<|.d fun lN jT=>?_
    replace ⟨h1,h2,h3,W,O,aa,az,bh,f5,J,C,E⟩:=(se [d4,cx,aJ,ai,ac,ab] jT).g12 h1 h2 h3 W O aa az bh f5 J C E
    replace h1:=h1.AU
    replace h2:=h2.AU
    replace h3:=h3.AU
    have f6:Mv [d4,cx,aJ,ai,ac,ab] [aJ,d4,ai,cx,ac,ab] lN lN:=Mv.less (all_cons AF (all_cons AD (all_cons AG (all_cons AE (all_cons AH (all_cons AI all_nil))))))
    exact ⟨(aJ,d4,ai,d0,cx,sY,sZ),⟨AA,AA,AA,AA,trivial⟩,⟨C,(Ac jL),(Ac po),(Ac cL),(Ac pi),pm,(Nb.symm jK),(Nb.symm pl),ph,(Nb.symm pn),pg,az,(Own.mv f5 f6 (Chg.refl nil _) (fun h=>h)),(Own.mv aa f6 (Chg.refl nil _) (fun h=>h)),(Own.mv bh f6 (Chg.refl nil _) (fun h=>h))⟩⟩
   refine .nw (fun b=>.pointer (some ⟨b,0,none⟩)) 27 [.slice none 0 0,.slice none 0 0,.slice none 0 0,vI 0] fun xj jU=>?_
   replace ⟨h1,h2,h3,W,O,al,J,C,E⟩:=(se [aD,ac,ab] jU).g9 h1 h2 h3 W O al J C E
   intro aA xk ek jV ah pp
   have jW:=AS ek al.lt
   have f7:=C.cn ek
   replace ⟨h1,h2,h3,W,O,al,J,C,E⟩:=(sn [aD,ac,ab] jV ek).g9 h1 h2 h3 W O al J C E
   refine .tw 0 4 ?_ ?_
   ·refine .ns 0 66 [] fun xl jX=>?_
    replace ⟨h1,h2,h3,W,O,al,ah,J,C,E⟩:=(se [aA,aD,ac,ab] jX).g10 h1 h2 h3 W O al ah J C E
    intro bI s3 dQ jY pq pr
    have pu:=AS dQ al.lt
    have pw:=AS dQ ah.lt
    have pz:=C.cn dQ
    replace ⟨h1,h2,h3,W,O,al,ah,J,C,E⟩:=(sn [aA,aD,ac,ab] jY dQ).g10 h1 h2 h3 W O al ah J C E
    have aR:Own (α:=Fil) s3 bI 66 (nin (ge w.heap.size) [bI,aA,aD,ac,ab]) 0 0 []:=Own.Ag pq
    refine .go 4<|GE.append (T:=24) (ty:=24) (args:=[vS aD 0 0,.slice a2 d.list.length c2]) AA fun xm jZ=>?_
    replace ⟨h1,h2,h3,W,O,al,ah,aR,J,C,E⟩:=(se [bI,aA,aD,ac,ab] jZ).g11 h1 h2 h3 W O al ah aR J C E
    obtain ⟨du,s4,xn,ll,aW,cy,f8,pA⟩:=Own.Ay (P:=Tryz.prog) (T:=24) (ty:=24) BF al AA h2 (fun b h e=>h.2 (e▸AF)) AB
    refine ⟨_,_,ll,Chg.toS f8 (Cov.toS dF),?_⟩
    have pB:=Ae cy (Nb.symm jW) ah.lt
    have pC:=Ae cy (Nb.symm pu) aR.lt
    have pD:=Am cy dE C.size
    replace ⟨h1,h2,h3,W,O,ah,aR,J,C,E⟩:=(sa [bI,aA,aD,ac,ab] f8 cy).g10 h1 h2 h3 W O ah aR J C E
    replace aW:=aW.rn aD
    have uF:=aW.len; have uG:=aW.max
    refine .go 7<|.cl (fun gZ f9=>Aj d.names (h3.ta.ext f9) AB (fun n hn=>by have:=p4 n hn; omega) (w:=gZ) (F:=all)) ?_
    intro gZ f9
    replace ⟨h1,h2,h3,W,O,aW,ah,aR,J,C,E⟩:=(se [bI,aA,du,ac,ab] f9).g11 h1 h2 h3 W O aW ah aR J C E
    rintro xo xp ⟨⟨eI,s5,s6,rfl,cg,cS⟩,ga⟩
    have j0:=al5 aR.lt ah.lt aW.lt O.lt W.lt
    have pE:Gb w.heap.size gZ.heap.size:=J.size
    have hkeep_:=ga
    have pF:=Ab cS aW.lt
    have pG:=Ab cS ah.lt
    have pH:=Ab cS aR.lt
    have pI:Cov nil bk eI:=BR cS C.size
    replace ⟨h1,h2,h3,W,O,aW,ah,aR,J,C,E⟩:=(sz [bI,aA,du,ac,ab] ga cS).g11 h1 h2 h3 W O aW ah aR J C E
    refine ⟨Ext.chg hkeep_,?_⟩
    replace cg:=Own.take (s0:=w.heap.size) (M:=[bI,aA,du,ac,ab]) cg j0 pE
    have uH:=cg.len; have uI:=cg.max
    refine .r [10]<|.d fun lO j1=>?_
    replace ⟨h1,h2,h3,W,O,aW,ah,aR,cg,J,C,E⟩:=(se [eI,bI,aA,du,ac,ab] j1).g12 h1 h2 h3 W O aW ah aR cg J C E
    replace h1:=h1.AU
    replace h2:=h2.AU
    replace h3:=h3.AU
    have gb:Mv [eI,bI,aA,du,ac,ab] [aA,bI,du,eI,ac,ab] lO lO:=Mv.less (all_cons AF (all_cons AE (all_cons AG (all_cons AD (all_cons AH (all_cons AI all_nil))))))
    exact ⟨(aA,bI,du,s4,eI,s5,s6),⟨AA,AA,AA,AA,trivial⟩,⟨C,(Ac f7),(Ac pz),(Ac pD),(Ac pI),pw,pB,pC,pG,pH,pF,ah,(Own.mv aR gb (Chg.refl nil _) (fun h=>h)),(Own.mv aW gb (Chg.refl nil _) (fun h=>h)),(Own.mv cg gb (Chg.refl nil _) (fun h=>h))⟩⟩
   refine GE.append (T:=24) (ty:=24) (args:=[vS aD 0 0,.slice a2 d.list.length c2]) AA fun xq j2=>?_
   replace ⟨h1,h2,h3,W,O,al,ah,J,C,E⟩:=(se [aA,aD,ac,ab] j2).g10 h1 h2 h3 W O al ah J C E
   obtain ⟨aK,lP,xr,lm,ar,dR,gf,pJ⟩:=Own.Ay (P:=Tryz.prog) (T:=24) (ty:=24) BF al AA h2 (fun b h e=>h.2 (e▸AE)) AB
   refine ⟨_,_,lm,Chg.toS gf (Cov.toS dF),?_⟩
   have j3:=Ae dR (Nb.symm jW) ah.lt
   have j4:=Am dR dE C.size
   replace ⟨h1,h2,h3,W,O,ah,J,C,E⟩:=(sa [aA,aD,ac,ab] gf dR).g9 h1 h2 h3 W O ah J C E
   replace ar:=ar.rn aD
   have uJ:=ar.len; have uK:=ar.max
   refine .tw 0 7 ?_ ?_
   ·refine .ns 0 66 [] fun xt j5=>?_
    replace ⟨h1,h2,h3,W,O,ar,ah,J,C,E⟩:=(se [aA,aK,ac,ab] j5).g10 h1 h2 h3 W O ar ah J C E
    intro ci s7 dS j6 pK pL
    have pM:=AS dS ar.lt
    have pN:=AS dS ah.lt
    have pO:=C.cn dS
    replace ⟨h1,h2,h3,W,O,ar,ah,J,C,E⟩:=(sn [aA,aK,ac,ab] j6 dS).g10 h1 h2 h3 W O ar ah J C E
    have bD:Own (α:=Fil) s7 ci 66 (nin (ge w.heap.size) [ci,aA,aK,ac,ab]) 0 0 []:=Own.Ag pK
    refine .go 7<|.cl (fun g0 gh=>Aj d.names (h3.ta.ext gh) AB (fun n hn=>by have:=p4 n hn; omega) (w:=g0) (F:=all)) ?_
    intro g0 gh
    replace ⟨h1,h2,h3,W,O,ar,ah,bD,J,C,E⟩:=(se [ci,aA,aK,ac,ab] gh).g11 h1 h2 h3 W O ar ah bD J C E
    rintro xu xv ⟨⟨eJ,s8,s9,rfl,cj,cT⟩,gi⟩
    have j7:=al5 bD.lt ah.lt ar.lt O.lt W.lt
    have pP:Gb w.heap.size g0.heap.size:=J.size
    have hkeep_:=gi
    have pQ:=Ab cT ar.lt
    have pR:=Ab cT ah.lt
    have pS:=Ab cT bD.lt
    have pT:Cov nil bk eJ:=BR cT C.size
    replace ⟨h1,h2,h3,W,O,ar,ah,bD,J,C,E⟩:=(sz [ci,aA,aK,ac,ab] gi cT).g11 h1 h2 h3 W O ar ah bD J C E
    refine ⟨Ext.chg hkeep_,?_⟩
    replace cj:=Own.take (s0:=w.heap.size) (M:=[ci,aA,aK,ac,ab]) cj j7 pP
    have uL:=cj.len; have uM:=cj.max
    refine .r [10]<|.d fun lQ j8=>?_
    replace ⟨h1,h2,h3,W,O,ar,ah,bD,cj,J,C,E⟩:=(se [eJ,ci,aA,aK,ac,ab] j8).g12 h1 h2 h3 W O ar ah bD cj J C E
    replace h1:=h1.AU
    replace h2:=h2.AU
    replace h3:=h3.AU
    have gj:Mv [eJ,ci,aA,aK,ac,ab] [aA,ci,aK,eJ,ac,ab] lQ lQ:=Mv.less (all_cons AF (all_cons AE (all_cons AG (all_cons AD (all_cons AH (all_cons AI all_nil))))))
    exact ⟨(aA,ci,aK,lP,eJ,s8,s9),⟨AA,AA,AA,AA,trivial⟩,⟨C,(Ac f7),(Ac pO),(Ac j4),(Ac pT),pN,j3,(Nb.symm pM),pR,pS,pQ,ah,(Own.mv bD gj (Chg.refl nil _) (fun h=>h)),(Own.mv ar gj (Chg.refl nil _) (fun h=>h)),(Own.mv cj gj (Chg.refl nil _) (fun h=>h))⟩⟩
   refine .cl (fun hC gk=>Aj d.names (h3.ta.ext gk) AB (fun n hn=>by have:=p4 n hn; omega) (w:=hC) (F:=all)) ?_
   intro hC gk
   replace ⟨h1,h2,h3,W,O,ar,ah,J,C,E⟩:=(se [aA,aK,ac,ab] gk).g10 h1 h2 h3 W O ar ah J C E
   rintro xw xx ⟨⟨cz,tb,tc,rfl,bi,dT⟩,gl⟩
   have j9:=al4 ah.lt ar.lt O.lt W.lt
   have pU:Gb w.heap.size hC.heap.size:=J.size
   have hkeep_:=gl
   have pV:=Ab dT ar.lt
   have pW:=Ab dT ah.lt
   have pX:Cov nil bk cz:=BR dT C.size
   replace ⟨h1,h2,h3,W,O,ar,ah,J,C,E⟩:=(sz [aA,aK,ac,ab] gl dT).g10 h1 h2 h3 W O ar ah J C E
   refine ⟨Ext.chg hkeep_,?_⟩
   replace bi:=Own.take (s0:=w.heap.size) (M:=[aA,aK,ac,ab]) bi j9 pU
   have uN:=bi.len; have uO:=bi.max
   refine .go 0<|.ns 0 66 [] fun xy ka=>?_
   replace ⟨h1,h2,h3,W,O,ar,ah,bi,J,C,E⟩:=(se [cz,aA,aK,ac,ab] ka).g11 h1 h2 h3 W O ar ah bi J C E
   intro d5 td cU kb pY pZ
   have p5:=AS cU ar.lt
   have p6:=AS cU ah.lt
   have p7:=AS cU bi.lt
   have p8:=C.cn cU
   replace ⟨h1,h2,h3,W,O,ar,ah,bi,J,C,E⟩:=(sn [cz,aA,aK,ac,ab] kb cU).g11 h1 h2 h3 W O ar ah bi J C E
   have gm:Own (α:=Fil) td d5 66 (nin (ge w.heap.size) [d5,cz,aA,aK,ac,ab]) 0 0 []:=Own.Ag pY
   refine .r [10]<|.d fun lR kd=>?_
   replace ⟨h1,h2,h3,W,O,ar,ah,bi,gm,J,C,E⟩:=(se [d5,cz,aA,aK,ac,ab] kd).g12 h1 h2 h3 W O ar ah bi gm J C E
   replace h1:=h1.AU
   replace h2:=h2.AU
   replace h3:=h3.AU
   have gn:Mv [d5,cz,aA,aK,ac,ab] [aA,d5,aK,cz,ac,ab] lR lR:=Mv.less (all_cons AF (all_cons AD (all_cons AG (all_cons AE (all_cons AH (all_cons AI all_nil))))))
   exact ⟨(aA,d5,aK,lP,cz,tb,tc),⟨AA,AA,AA,AA,trivial⟩,⟨C,(Ac f7),(Ac p8),(Ac j4),(Ac pX),p6,j3,(Nb.symm p5),pW,(Nb.symm p7),pV,ah,(Own.mv gm gn (Chg.refl nil _) (fun h=>h)),(Own.mv ar gn (Chg.refl nil _) (fun h=>h)),(Own.mv bi gn (Chg.refl nil _) (fun h=>h))⟩⟩
  refine .nw (fun b=>.pointer (some ⟨b,0,none⟩)) 27 [.slice none 0 0,.slice none 0 0,.slice none 0 0,vI 0] fun xz ke=>?_
  replace ⟨h1,h2,h3,W,O,J,C,E⟩:=(se [ac,ab] ke).g8 h1 h2 h3 W O J C E
  intro aj xA gp kf af p9
  have en:=C.cn gp
  replace ⟨h1,h2,h3,W,O,J,C,E⟩:=(sn [ac,ab] kf gp).g8 h1 h2 h3 W O J C E
  refine .tw 0 1 ?_ ?_
  ·refine .ns 0 66 [] fun xB kg=>?_
   replace ⟨h1,h2,h3,W,O,af,J,C,E⟩:=(se [aj,ac,ab] kg).g9 h1 h2 h3 W O af J C E
   intro bn te et kh qa qb
   have qc:=AS et af.lt
   have qd:=C.cn et
   replace ⟨h1,h2,h3,W,O,af,J,C,E⟩:=(sn [aj,ac,ab] kh et).g9 h1 h2 h3 W O af J C E
   have aH:Own (α:=Fil) te bn 66 (nin (ge w.heap.size) [bn,aj,ac,ab]) 0 0 []:=Own.Ag qa
   refine .go 1<|.ns 0 3 [] fun xC ki=>?_
   replace ⟨h1,h2,h3,W,O,af,aH,J,C,E⟩:=(se [bn,aj,ac,ab] ki).g10 h1 h2 h3 W O af aH J C E
   intro d6 tg bE kj qe qf
   have uP:=AS bE W.lt
   have uQ:=AS bE O.lt
   have qg:=AS bE af.lt
   have qh:=AS bE aH.lt
   have uR:=J.cn bE
   have qi:=C.cn bE
   have qj:=E.cn bE
   replace ⟨h1,h2,h3,W,O,af,aH,J,C,E⟩:=(sn [bn,aj,ac,ab] kj bE).g10 h1 h2 h3 W O af aH J C E
   have gq:Own (α:=Int) tg d6 3 (nin (ge w.heap.size) [d6,bn,aj,ac,ab]) 0 0 []:=Own.Ag qe
   refine .go 4<|GE.append (T:=24) (ty:=24) (args:=[vS d6 0 0,.slice a2 d.list.length c2]) AA fun xD kk=>?_
   replace ⟨h1,h2,h3,W,O,af,aH,gq,J,C,E⟩:=(se [d6,bn,aj,ac,ab] kk).g11 h1 h2 h3 W O af aH gq J C E
   obtain ⟨dv,th,xE,lp,aX,cA,gr,qk⟩:=Own.Ay (P:=Tryz.prog) (T:=24) (ty:=24) BF gq AA h2 (fun b h e=>h.2 (e▸AD)) AB
   refine ⟨_,_,lp,Chg.toS gr (Cov.toS qj),?_⟩
   have ql:=Ae cA qg af.lt
   have qm:=Ae cA qh aH.lt
   have qn:=Am cA qi C.size
   replace ⟨h1,h2,h3,W,O,af,aH,J,C,E⟩:=(sa [d6,bn,aj,ac,ab] gr cA).g10 h1 h2 h3 W O af aH J C E
   replace aX:=aX.rn d6
   have uS:=aX.len; have uT:=aX.max
   refine .go 7<|.cl (fun hD gs=>Aj d.names (h3.ta.ext gs) AB (fun n hn=>by have:=p4 n hn; omega) (w:=hD) (F:=all)) ?_
   intro hD gs
   replace ⟨h1,h2,h3,W,O,af,aH,aX,J,C,E⟩:=(se [dv,bn,aj,ac,ab] gs).g11 h1 h2 h3 W O af aH aX J C E
   rintro xF xG ⟨⟨eK,ti,tj,rfl,ck,cV⟩,gt⟩
   have kl:=al5 aX.lt aH.lt af.lt O.lt W.lt
   have qo:Gb w.heap.size hD.heap.size:=J.size
   have hkeep_:=gt
   have qp:=Ab cV af.lt
   have qq:=Ab cV aH.lt
   have qr:=Ab cV aX.lt
   have qs:Cov nil bk eK:=BR cV C.size
   replace ⟨h1,h2,h3,W,O,af,aH,aX,J,C,E⟩:=(sz [dv,bn,aj,ac,ab] gt cV).g11 h1 h2 h3 W O af aH aX J C E
   refine ⟨Ext.chg hkeep_,?_⟩
   replace ck:=Own.take (s0:=w.heap.size) (M:=[dv,bn,aj,ac,ab]) ck kl qo
   have uU:=ck.len; have uV:=ck.max
   refine .r [10]<|.d fun lS km=>?_
   replace ⟨h1,h2,h3,W,O,af,aH,aX,ck,J,C,E⟩:=(se [eK,dv,bn,aj,ac,ab] km).g12 h1 h2 h3 W O af aH aX ck J C E
   replace h1:=h1.AU
   replace h2:=h2.AU
   replace h3:=h3.AU
   have gu:Mv [eK,dv,bn,aj,ac,ab] [aj,bn,dv,eK,ac,ab] lS lS:=Mv.less (all_cons AG (all_cons AF (all_cons AE (all_cons AD (all_cons AH (all_cons AI all_nil))))))
   exact ⟨(aj,bn,dv,th,eK,ti,tj),⟨AA,AA,AA,AA,trivial⟩,⟨C,(Ac en),(Ac qd),(Ac qn),(Ac qs),qc,ql,qm,qp,qq,qr,af,(Own.mv aH gu (Chg.refl nil _) (fun h=>h)),(Own.mv aX gu (Chg.refl nil _) (fun h=>h)),(Own.mv ck gu (Chg.refl nil _) (fun h=>h))⟩⟩
  refine .ns 0 3 [] fun xH ko=>?_
  replace ⟨h1,h2,h3,W,O,af,J,C,E⟩:=(se [aj,ac,ab] ko).g9 h1 h2 h3 W O af J C E
  intro bq tk bQ kr qt qu
  have uW:=AS bQ W.lt
  have uX:=AS bQ O.lt
  have ks:=AS bQ af.lt
  have uY:=J.cn bQ
  have kt:=C.cn bQ
  have ku:=E.cn bQ
  replace ⟨h1,h2,h3,W,O,af,J,C⟩:=(sn [aj,ac,ab] kr bQ).g8 h1 h2 h3 W O af J C
  have bo:Own (α:=Int) tk bq 3 (nin (ge w.heap.size) [bq,aj,ac,ab]) 0 0 []:=Own.Ag qt
  refine .tw 0 4 ?_ ?_
  ·refine .ns 0 66 [] fun xI kv=>?_
   replace ⟨h1,h2,h3,W,O,af,bo,J,C⟩:=(se [bq,aj,ac,ab] kv).g9 h1 h2 h3 W O af bo J C
   intro bJ tm dU kw qv qw
   have qx:=AS dU af.lt
   have qy:=AS dU bo.lt
   have qz:=C.cn dU
   replace ⟨h1,h2,h3,W,O,af,bo,J,C⟩:=(sn [bq,aj,ac,ab] kw dU).g9 h1 h2 h3 W O af bo J C
   have aS:Own (α:=Fil) tm bJ 66 (nin (ge w.heap.size) [bJ,bq,aj,ac,ab]) 0 0 []:=Own.Ag qv
   refine .go 4<|GE.append (T:=24) (ty:=24) (args:=[vS bq 0 0,.slice a2 d.list.length c2]) AA fun xJ kx=>?_
   replace ⟨h1,h2,h3,W,O,af,bo,aS,J,C⟩:=(se [bJ,bq,aj,ac,ab] kx).g10 h1 h2 h3 W O af bo aS J C
   obtain ⟨dw,tq,xK,lq,aY,cB,gv,qA⟩:=Own.Ay (P:=Tryz.prog) (T:=24) (ty:=24) BF bo AA h2 (fun b h e=>h.2 (e▸AE)) AB
   refine ⟨_,_,lq,Chg.toS gv (Cov.toS ku),?_⟩
   have qB:=Ae cB ks af.lt
   have qC:=Ae cB (Nb.symm qy) aS.lt
   have qD:=Am cB kt C.size
   replace ⟨h1,h2,h3,W,O,af,aS,J,C⟩:=(sa [bJ,bq,aj,ac,ab] gv cB).g9 h1 h2 h3 W O af aS J C
   replace aY:=aY.rn bq
   have uZ:=aY.len; have u0:=aY.max
   refine .go 7<|.cl (fun hE gw=>Aj d.names (h3.ta.ext gw) AB (fun n hn=>by have:=p4 n hn; omega) (w:=hE) (F:=all)) ?_
   intro hE gw
   replace ⟨h1,h2,h3,W,O,af,aY,aS,J,C⟩:=(se [bJ,dw,aj,ac,ab] gw).g10 h1 h2 h3 W O af aY aS J C
   rintro xL xM ⟨⟨eL,tr,tt,rfl,cm,cW⟩,gx⟩
   have ky:=al5 aS.lt aY.lt af.lt O.lt W.lt
   have qE:Gb w.heap.size hE.heap.size:=J.size
   have hkeep_:=gx
   have qF:=Ab cW af.lt
   have qG:=Ab cW aY.lt
   have qH:=Ab cW aS.lt
   have qI:Cov nil bk eL:=BR cW C.size
   replace ⟨h1,h2,h3,W,O,af,aY,aS,J,C⟩:=(sz [bJ,dw,aj,ac,ab] gx cW).g10 h1 h2 h3 W O af aY aS J C
   refine ⟨Ext.chg hkeep_,?_⟩
   replace cm:=Own.take (s0:=w.heap.size) (M:=[bJ,dw,aj,ac,ab]) cm ky qE
   have u1:=cm.len; have u2:=cm.max
   refine .r [10]<|.d fun lT kz=>?_
   replace ⟨h1,h2,h3,W,O,af,aY,aS,cm,J,C⟩:=(se [eL,bJ,dw,aj,ac,ab] kz).g11 h1 h2 h3 W O af aY aS cm J C
   replace h1:=h1.AU
   replace h2:=h2.AU
   replace h3:=h3.AU
   have gy:Mv [eL,bJ,dw,aj,ac,ab] [aj,bJ,dw,eL,ac,ab] lT lT:=Mv.less (all_cons AG (all_cons AE (all_cons AF (all_cons AD (all_cons AH (all_cons AI all_nil))))))
   exact ⟨(aj,bJ,dw,tq,eL,tr,tt),⟨AA,AA,AA,AA,trivial⟩,⟨C,(Ac en),(Ac qz),(Ac qD),(Ac qI),qx,qB,qC,qF,qH,qG,af,(Own.mv aS gy (Chg.refl nil _) (fun h=>h)),(Own.mv aY gy (Chg.refl nil _) (fun h=>h)),(Own.mv cm gy (Chg.refl nil _) (fun h=>h))⟩⟩
  refine GE.append (T:=24) (ty:=24) (args:=[vS bq 0 0,.slice a2 d.list.length c2]) AA fun xN kA=>?_
  replace ⟨h1,h2,h3,W,O,af,bo,J,C⟩:=(se [bq,aj,ac,ab] kA).g9 h1 h2 h3 W O af bo J C
  obtain ⟨aL,lU,xO,ls,au,dV,gz,qJ⟩:=Own.Ay (P:=Tryz.prog) (T:=24) (ty:=24) BF bo AA h2 (fun b h e=>h.2 (e▸AD)) AB
  refine ⟨_,_,ls,Chg.toS gz (Cov.toS ku),?_⟩
  have kB:=Ae dV ks af.lt
  have kC:=Am dV kt C.size
  replace ⟨h1,h3,W,O,af,J,C⟩:=(sa [bq,aj,ac,ab] gz dV).g7 h1 h3 W O af J C
  replace au:=au.rn bq
  have u3:=au.len; have u4:=au.max
  refine .tw 0 7 ?_ ?_
  ·refine .ns 0 66 [] fun xP kD=>?_
   replace ⟨h1,h3,W,O,af,au,J,C⟩:=(se [aL,aj,ac,ab] kD).g8 h1 h3 W O af au J C
   intro co tu dW kE qK qL
   have qM:=AS dW af.lt
   have qN:=AS dW au.lt
   have qO:=C.cn dW
   replace ⟨h1,h3,W,O,af,au,J,C⟩:=(sn [aL,aj,ac,ab] kE dW).g8 h1 h3 W O af au J C
   have bF:Own (α:=Fil) tu co 66 (nin (ge w.heap.size) [co,aL,aj,ac,ab]) 0 0 []:=Own.Ag qK
   refine .go 7<|.cl (fun hH gA=>Aj d.names (h3.ta.ext gA) AB (fun n hn=>by have:=p4 n hn; omega) (w:=hH) (F:=all)) ?_
   intro hH gA
   replace ⟨h1,h3,W,O,af,au,bF,J,C⟩:=(se [co,aL,aj,ac,ab] gA).g9 h1 h3 W O af au bF J C
   rintro xQ xR ⟨⟨eM,tv,tx,rfl,cp,cX⟩,gC⟩
   have kF:=al5 bF.lt au.lt af.lt O.lt W.lt
   have qP:Gb w.heap.size hH.heap.size:=J.size
   have hkeep_:=gC
   have qQ:=Ab cX af.lt
   have qR:=Ab cX au.lt
   have qS:=Ab cX bF.lt
   have qT:Cov nil bk eM:=BR cX C.size
   replace ⟨h1,h3,W,O,af,au,bF,J,C⟩:=(sz [co,aL,aj,ac,ab] gC cX).g9 h1 h3 W O af au bF J C
   refine ⟨Ext.chg hkeep_,?_⟩
   replace cp:=Own.take (s0:=w.heap.size) (M:=[co,aL,aj,ac,ab]) cp kF qP
   have u5:=cp.len; have u6:=cp.max
   refine .r [10]<|.d fun lV kG=>?_
   replace ⟨h1,h3,W,O,af,au,bF,cp,J,C⟩:=(se [eM,co,aL,aj,ac,ab] kG).g10 h1 h3 W O af au bF cp J C
   replace h1:=h1.AU
   replace h3:=h3.AU
   have gD:Mv [eM,co,aL,aj,ac,ab] [aj,co,aL,eM,ac,ab] lV lV:=Mv.less (all_cons AG (all_cons AE (all_cons AF (all_cons AD (all_cons AH (all_cons AI all_nil))))))
   exact ⟨(aj,co,aL,lU,eM,tv,tx),⟨AA,AA,AA,AA,trivial⟩,⟨C,(Ac en),(Ac qO),(Ac kC),(Ac qT),qM,kB,(Nb.symm qN),qQ,qS,qR,af,(Own.mv bF gD (Chg.refl nil _) (fun h=>h)),(Own.mv au gD (Chg.refl nil _) (fun h=>h)),(Own.mv cp gD (Chg.refl nil _) (fun h=>h))⟩⟩
  refine .cl (fun hJ gE=>Aj d.names (h3.ta.ext gE) AB (fun n hn=>by have:=p4 n hn; omega) (w:=hJ) (F:=all)) ?_
  intro hJ gE
  replace ⟨h1,W,O,af,au,J,C⟩:=(se [aL,aj,ac,ab] gE).g7 h1 W O af au J C
  rintro xS xT ⟨⟨cC,tz,tA,rfl,bj,dX⟩,gF⟩
  have kH:=al4 au.lt af.lt O.lt W.lt
  have qU:Gb w.heap.size hJ.heap.size:=J.size
  have hkeep_:=gF
  have qV:=Ab dX af.lt
  have qW:=Ab dX au.lt
  have qX:Cov nil bk cC:=BR dX C.size
  replace ⟨h1,W,O,af,au,J,C⟩:=(sz [aL,aj,ac,ab] gF dX).g7 h1 W O af au J C
  refine ⟨Ext.chg hkeep_,?_⟩
  replace bj:=Own.take (s0:=w.heap.size) (M:=[aL,aj,ac,ab]) bj kH qU
  have u7:=bj.len; have u9:=bj.max
  refine .go 0<|.ns 0 66 [] fun xU kI=>?_
  replace ⟨h1,W,O,af,au,bj,J,C⟩:=(se [cC,aL,aj,ac,ab] kI).g8 h1 W O af au bj J C
  intro d7 tB cY kJ qY qZ
  have q0:=AS cY af.lt
  have q5:=AS cY au.lt
  have q6:=AS cY bj.lt
  have q7:=C.cn cY
  replace ⟨h1,W,O,af,au,bj,J,C⟩:=(sn [cC,aL,aj,ac,ab] kJ cY).g8 h1 W O af au bj J C
  have gG:Own (α:=Fil) tB d7 66 (nin (ge w.heap.size) [d7,cC,aL,aj,ac,ab]) 0 0 []:=Own.Ag qY
  refine .r [10]<|.d fun lW kK=>?_
  replace ⟨h1,W,O,af,au,bj,gG,J,C⟩:=(se [d7,cC,aL,aj,ac,ab] kK).g9 h1 W O af au bj gG J C
  replace h1:=h1.AU
  have gH:Mv [d7,cC,aL,aj,ac,ab] [aj,d7,aL,cC,ac,ab] lW lW:=Mv.less (all_cons AG (all_cons AD (all_cons AF (all_cons AE (all_cons AH (all_cons AI all_nil))))))
  exact ⟨(aj,d7,aL,lU,cC,tz,tA),⟨AA,AA,AA,AA,trivial⟩,⟨C,(Ac en),(Ac q7),(Ac kC),(Ac qX),q0,kB,(Nb.symm q5),qV,(Nb.symm q6),qW,af,(Own.mv gG gH (Chg.refl nil _) (fun h=>h)),(Own.mv au gH (Chg.refl nil _) (fun h=>h)),(Own.mv bj gH (Chg.refl nil _) (fun h=>h))⟩⟩
 rintro ⟨aF,bM,bR,k9,ba,eR,eS⟩ xV db ⟨gI,dY,cZ,c7,c8,q8,q9,ra,rc,rd,re,tC,eN,eO,eP⟩
 have va:=Ab dY W.lt
 have vc:=Ab dY O.lt
 have vd:Cov nil w aF:=BR dY J.size
 have ve:=Ab cZ W.lt
 have rf:=Ab cZ O.lt
 have rg:=Bd cZ J.size
 have rh:Cov nil w bM:=BR cZ J.size
 have rj:=Ab c7 W.lt
 have rk:=Ab c7 O.lt
 have rl:=Bd c7 J.size
 have vf:Cov nil w bR:=BR c7 J.size
 have rm:=Ab c8 W.lt
 have ro:=Ab c8 O.lt
 have rp:=Bd c8 J.size
 have vg:Cov nil w ba:=BR c8 J.size
 have kL:Mv [ac,ab] [aF,bM,bR,ba,ac,ab] bk db:=Mv.cons (Mv.cons (Mv.cons (Mv.cons (Mv.ext gI) c8) c7) cZ) dY
 replace ⟨h1,W,O,J⟩:=(sp kL gI).g4 h1 W O J
 have vh:=eN.len; have vi:=eN.max
 have vj:=eO.len; have vk:=eO.max
 have vm:=eP.len; have vn:=eP.max
 refine .sc [vS bM 0 0,vS bR (0+d.list.length) k9,vS ba eR eS,vI d.next] tC fun dx kM ey rq=>?_
 replace ⟨h1,W,O,eN,eO,eP,J⟩:=(so [aF,bM,bR,ba,ac,ab] kM).g7 h1 W O eN eO eP J
 refine .d<|.s<|.s<|.g<|.r 1<|.lb W<|.r 2<|.d<|.b 0<|T.loop (X:=Nat × (List Fil) × Nat × Nat × Nat × (List Int) × Nat × Nat × Nat × (List (List Tag)) × Nat × Nat × Nat × Int) (0,([]:List Fil),bM,0,0,(([]++d.list):List Int),bR,0+d.list.length,k9,(d.names:List (List Tag)),ba,eR,eS,d.next) (fun (k,dy,r_out_0,n_out_0,c_out_0,d8,r_out_1,n_out_1,c_out_1,d9,r_out_2,n_out_2,c_out_2,cD)=>[(2,.pointer (some ⟨ac,0,none⟩)),(3,.pointer (some ⟨aF,0,none⟩)),(18,.slice a1 d.files.length c1),(19,vI (d.files.length:Int)),(20,vI (k:Int))]) (fun (k,dy,r_out_0,n_out_0,c_out_0,d8,r_out_1,n_out_1,c_out_1,d9,r_out_2,n_out_2,c_out_2,cD) dz=>Chg (ins [bM,bR,ba,aF]) dx dz∧Own dz r_out_0 66 (nin (ge w.heap.size) [aF,r_out_0,r_out_1,r_out_2,ac,ab]) n_out_0 c_out_0 dy∧OrB r_out_0 bM dx.heap.size∧Own dz r_out_1 3 (nin (ge w.heap.size) [aF,r_out_0,r_out_1,r_out_2,ac,ab]) n_out_1 c_out_1 d8∧OrB r_out_1 bR dx.heap.size∧Own dz r_out_2 77 (nin (ge w.heap.size) [aF,r_out_0,r_out_1,r_out_2,ac,ab]) n_out_2 c_out_2 d9∧OrB r_out_2 ba dx.heap.size∧Nb r_out_1 r_out_0∧Nb r_out_2 r_out_0∧Nb r_out_2 r_out_1∧Box dz aF 27 [vS r_out_0 n_out_0 c_out_0,vS r_out_1 n_out_1 c_out_1,vS r_out_2 n_out_2 c_out_2,vI cD]∧(k≤d.files.length)∧(dy.length≤k)∧(dy++d.files.drop k=d.files)∧(d8=d.list)∧(d9=d.names)∧(cD=d.next)) (fun (k,dy,r_out_0,n_out_0,c_out_0,d8,r_out_1,n_out_1,c_out_1,d9,r_out_2,n_out_2,c_out_2,cD)=>d.files.length - k) AA ⟨AA,AA,AA,AA,AA,trivial⟩ ⟨Chg.refl _ _,eN,BJ,eO,BJ,eP,BJ,ra,rd,re,ey,AB,AB,(by rfl),(by rfl),(by rfl),AB⟩ ?_
 rintro ⟨k,dy,r_out_0,n_out_0,c_out_0,d8,r_out_1,n_out_1,c_out_1,d9,r_out_2,n_out_2,c_out_2,cD⟩ xW dz ⟨aE,ax,cq,av,c9,am,da,rr,ru,rx,aC,vo,vp,vq,vr,vt,vu⟩ hN
 have vv:=Aw cq rf O.lt
 have kN:=Aw cq q8 ey.lt
 have ry:=Bv cq rg J.size
 have vw:=Ar cq rh J.size
 have vx:=Aw c9 rj W.lt
 have vy:=Aw c9 rk O.lt
 have rz:=Aw c9 q9 ey.lt
 have rA:=Bv c9 rl J.size
 have vz:=Aw da rm W.lt
 have vA:=Aw da ro O.lt
 have rB:=Aw da rc ey.lt
 have rC:=Bv da rp J.size
 have rD:Cov (ins [bM,bR,ba,aF]) dx bM:=⟨.inl AD⟩
 have vB:Cov (ins [bM,bR,ba,aF]) dx aF:=⟨.inl AG⟩
 have vC:=Ar cq rD (Nat.le_refl _)
 have kO:Mv [aF,bM,bR,ba,ac,ab] [aF,r_out_0,r_out_1,r_out_2,ac,ab] dx dz:=Mv.inl aE (all_cons AE (all_cons AF (all_cons AG (all_cons AD all_nil)))) (all_cons (.inl AD) (all_cons (BV cq AE) (all_cons (BV c9 AF) (all_cons (BV da AG) (all_cons (.inl AH) (all_cons (.inl AI) all_nil))))))
 replace ⟨h1,W,O,J⟩:=(sp kO aE).g4 h1 W O J
 have vD:=ax.len; have vE:=ax.max
 have vF:=av.len; have vG:=av.max
 have vH:=am.len; have vJ:=am.max
 refine .s<|.g<|.bp ((k:Int)< (d.files.length:Int)) (fun rE=>?_) (fun rE=>?_)
 ·refine .d<|.s<|.ct<|.sk<|.s<|.b 1<|.s<|.g ?_
  have rF:k< d.files.length:=AB
  refine .ix k 3 h1 rF ?_
  obtain ⟨bS,gJ⟩:∃ y,d.files[k]? = some y:=⟨_,AP AB⟩
  have vK:=AX gJ; have tN:=AQ gJ
  obtain ⟨_,⟨tD,xX,tE,tF,xY,tG,rfl,bK,bL⟩,rG⟩:=h1.elem k bS gJ
  have rH:=bK.len
  subst rH
  have vL:=bK.max
  have rI:=bL.len
  subst rI
  have vM:=bL.max
  refine .lg 0 rG<|.np 66 [vI 0,.slice none 0 0,.slice none 0 0] fun bv xZ br kP rJ rK=>?_
  have vN:=AS br W.lt
  have vO:=AS br O.lt
  have vP:=AS br aC.lt
  have kQ:=AS br ax.lt
  have kR:=AS br av.lt
  have kS:=AS br am.lt
  have vQ:=J.cn br
  have vR:=aE.cn br
  replace ⟨W,O,aC,ax,av,am,bK,bL,J,aE⟩:=(sn [aF,r_out_0,r_out_1,r_out_2,ac,ab] kP br).g10 W O aC ax av am bK bL J aE
  refine .sc [vI bS.num,.slice tD bS.part.ids.length tE,.slice tF bS.part.blocks.length tG] rJ fun hO kT aZ rL=>?_
  replace ⟨W,O,aC,ax,av,am,bK,bL,J,aE⟩:=(so [bv,aF,r_out_0,r_out_1,r_out_2,ac,ab] kT).g10 W O aC ax av am bK bL J aE
  refine .d ?_
  replace bK:=bK.Ah
  replace bL:=bL.Ah
  have rM:Gb (aF+1) hO.heap.size:=aC.lt
  have kU:Gb (bv+1) hO.heap.size:=aZ.lt
  refine .gd (mtb [r_out_0,r_out_1,r_out_2] hO.heap.size) 9 fun x3 kV=>?_
  replace ⟨W,O,aC,ax,av,am,bK,bL,aZ,J,aE⟩:=(se [bv,aF,r_out_0,r_out_1,r_out_2,ac,ab] kV).g11 W O aC ax av am bK bL aZ J aE
  refine .r [0]<|.lb 1 aC (Ax (all_cons (Nb.symm kN) (all_cons (Nb.symm rz) (all_cons (Nb.symm rB) all_nil))) rM)<|.r [2]<|.lb 3 aZ (Ax (all_cons kQ (all_cons kR (all_cons kS all_nil))) kU)<|.r [4]<|.ln 5 aZ (Ax (all_cons kQ (all_cons kR (all_cons kS all_nil))) kU)<|.go 6<|.cl (fun hQ ez=>DP bS.part (bK.ta.ext ez) (bL.ta.ext ez) (p1 _ ‹_›) (w:=hQ) (F:=all)) ?_
  intro hQ ez
  replace ⟨W,O,aC,ax,av,am,aZ,J,aE⟩:=(se [bv,aF,r_out_0,r_out_1,r_out_2,ac,ab] ez).g9 W O aC ax av am aZ J aE
  rintro x4 x5 ⟨⟨_,rfl,⟨tH,x6,tJ,tK,x7,tL,rfl,bT,bU⟩⟩,gK⟩
  have gL:=al7 aZ.lt aC.lt ax.lt av.lt am.lt O.lt W.lt
  have kW:Gb w.heap.size hQ.heap.size:=J.size
  have hkeep_:=gK
  replace ⟨W,O,aC,ax,av,am,aZ,J,aE⟩:=(se [bv,aF,r_out_0,r_out_1,r_out_2,ac,ab] gK).g9 W O aC ax av am aZ J aE
  refine ⟨Ext.chg hkeep_,?_⟩
  have bT:=bT.fr gL kW
  have bU:=bU.fr gL kW
  have rN:=bT.len
  subst rN
  have rO:=bU.len
  subst rO
  refine .r [7]<|.go 8<|.ns 1 66 [vI bS.num,.slice tH bS.part.ids.length tJ,.slice tK bS.part.blocks.length tL] fun x8 kX=>?_
  replace ⟨W,O,aC,ax,av,am,aZ,bT,bU,J,aE⟩:=(se [bv,aF,r_out_0,r_out_1,r_out_2,ac,ab] kX).g11 W O aC ax av am aZ bT bU J aE
  intro lX x9 bG kY gM rP
  have rQ:=AS bG W.lt
  have rR:=AS bG O.lt
  have rS:=AS bG aC.lt
  have kZ:=AS bG ax.lt
  have rT:=AS bG av.lt
  have rU:=AS bG am.lt
  have rV:=AS bG aZ.lt
  have rW:=Ad bG J.size
  replace ⟨O,aC,ax,av,am,bT,bU,J,aE⟩:=(se [bv,aF,r_out_0,r_out_1,r_out_2,ac,ab] kY).g9 O aC ax av am bT bU J aE
  refine .d fun ya k5=>?_
  replace ⟨O,aC,ax,av,am,bT,bU,gM,J,aE⟩:=(se [bv,aF,r_out_0,r_out_1,r_out_2,ac,ab] k5).g10 O aC ax av am bT bU gM J aE
  have hV:nin (ge w.heap.size) [bv,aF,r_out_0,r_out_1,r_out_2,ac,ab] lX∧lX≠r_out_0:=BG rW (all_cons rV (all_cons rS (all_cons kZ (all_cons rT (all_cons rU (all_cons rR (all_cons rQ all_nil))))))) kZ
  refine RG.Ap (T:=23) (ty:=23) (y:=bS) ax gM AA AA ⟨_,_,_,_,_,_,rfl,bT.oi,bU.oi⟩ hV AB fun eQ lY yb bH bV k6=>?_
  have vU:=Ae bV kN aC.lt
  have rX:=Ae bV (Nb.symm rr) av.lt
  have rY:=Ae bV (Nb.symm ru) am.lt
  have rZ:=Bo bV cq aE.size
  replace ⟨O,aC,av,am,J,aE⟩:=(sa [bv,aF,r_out_0,r_out_1,r_out_2,ac,ab] k6 bV).g6 O aC av am J aE
  replace bH:=bH.rn r_out_0
  have vV:=bH.len; have vW:=bH.max
  refine .r 1<|.ss 0 (vS eQ (n_out_0+1) lY) aC fun lZ k7 r5 r6=>?_
  replace ⟨O,bH,av,am,J,aE⟩:=(so [bv,aF,eQ,r_out_1,r_out_2,ac,ab] k7).g6 O bH av am J aE
  refine .d<|.ib 1<|.g<|.it ((k:Int)+1)<|.r 1<|.d ?_
  have r7:Mv [bv,aF,eQ,r_out_1,r_out_2,ac,ab] [aF,eQ,r_out_1,r_out_2,ac,ab] lZ lZ:=Mv.less (all_cons AE (all_cons AF (all_cons AG (all_cons AH (all_cons AI (all_cons AJ all_nil))))))
  replace ⟨bH,av,am⟩:=(sp r7 (Chg.refl nil _)).g3 bH av am
  exact hN (k+1,(dy++[bS]),eQ,n_out_0+1,lY,d8,r_out_1,n_out_1,c_out_1,d9,r_out_2,n_out_2,c_out_2,cD) _ _ ⟨AA,AA,AA,AA,AA,trivial⟩ ⟨aE,bH,rZ,av,c9,am,da,(Nb.symm rX),(Nb.symm rY),rx,r5,AB,AB,(by exact U8 ‹_› ‹_›),‹_›,‹_›,‹_›⟩ (by (simp only []; omega))
 refine .d<|.s<|.cf<|.x 0 rfl<|.s<|.g<|.ln aC<|.sc [vS r_out_0 n_out_0 c_out_0,vS r_out_1 n_out_1 c_out_1,vS r_out_2 n_out_2 c_out_2,vI cD] O fun l0 k8 r8 r9=>?_
 replace ⟨ax,av,am,J⟩:=(so [aF,r_out_0,r_out_1,r_out_2,ac,ab] k8).g4 ax av am J
 refine .d ?_
 have hW:=av.sl rA
 replace ⟨ax,am⟩:=(sd l0 [aF,r_out_0,r_out_1,r_out_2,ac,ab] r_out_1).g2 ax am
 have tM:=am.sl rC
 replace ⟨ax,hW⟩:=(sd l0 [aF,r_out_0,r_out_2,ac,ab] r_out_2).g2 ax hW
 exact .rb Tryz.func60 Tryz.results60 r8 ⟨⟨r_out_0,n_out_0,c_out_0,(some ⟨r_out_1,0,none⟩),n_out_1,c_out_1,(some ⟨r_out_2,0,none⟩),n_out_2,c_out_2,(by rw [show cD=d.next from by assumption]),((Own.BI ax (all_cons AE all_nil)).eqx (by exact TZ ‹_› AB)),ry,((RepS.BI hW (all_cons AE all_nil)).eqx ‹_›),((RepS.BI tM (all_cons AE all_nil)).eqx ‹_›)⟩,J⟩
end Go.Proofs.YtganlmloonielaaGreat
