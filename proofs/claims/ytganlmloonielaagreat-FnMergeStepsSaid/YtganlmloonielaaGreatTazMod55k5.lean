/- The law FnOpen: plain laws. -/
import Derived.Test.YtganlmloonielaaGreatTazMod65k13
set_option linter.unusedVariables false
set_option linter.unusedSimpArgs false
namespace Go.Proofs.YtganlmloonielaaGreat
theorem P5 {d:Dsk} (h:Af d=true):(Aq d).parts.length=d.list.length:=by rw [IP h]; unfold Ai; rw [List.length_map]
end Go.Proofs.YtganlmloonielaaGreat
namespace Go.Proofs.YtganlmloonielaaGreat
section
variable {d:Dsk} {i:Int}
structure MgE (d:Dsk) (i:Int) (x y:Int):Prop where
 q:MgD d i.toNat x y
 i0:i=(i.toNat:Int)
 e:AT d i=[⟨1,d.next,BT (BD d x) (BD d y),[],[]⟩,⟨2,0,⟨[],[]⟩,d.list.take i.toNat++[d.next]++d.list.drop (i.toNat+2),d.names⟩,⟨3,x,⟨[],[]⟩,[],[]⟩,⟨3,y,⟨[],[]⟩,[],[]⟩]
theorem NM (hd:DD d) (h:¬ ((AT d i).length:Int)=0):∃ x y,MgE d i x y:=by
 obtain ⟨x,y,q,e,i0⟩:=MgD.of hd h
 exact ⟨x,y,q,i0,by rw [e,q.e]⟩
theorem BU (hd:DD d) (h:¬ ((AT d i).length:Int)=0):0≤i∧i.toNat+2≤d.list.length∧(Aq d).parts.length=d.list.length∧d.list.length≤6:=by
 obtain ⟨x,y,q⟩:=NM hd h
 have:=q.q.l
 have:=q.i0
 exact ⟨by omega,q.q.l,P5 (CV.2 q.q.v),q.q.v.nl⟩
theorem T7 (hd:DD d) (h:¬ ((AT d i).length:Int)=0) {u w:Prt} (hu:(Aq d).parts[i.toNat]? = some u) (hw:(Aq d).parts[(i+1).toNat]? = some w):Bu u w=(BT u w,true)∧∃ x y,MgE d i x y∧u=BD d x∧w=BD d y:=by
 obtain ⟨x,y,q⟩:=NM hd h
 have hk:=CV.2 q.q.v
 rw [D7 hk] at hu hw
 refine ⟨KZ q.q.sd q.q.v.so (AQ hu) (AQ hw),x,y,q,?_,?_⟩
 ·have:=q.q.open.1
  rw [this] at hu
  cases hu; rfl
 ·have h1:=q.q.open.2.1
  have:=q.i0
  rw [show (i+1).toNat=i.toNat+1 by omega,h1] at hw
  cases hw; rfl
theorem V2 (hd:DD d) (h:¬ ((AT d i).length:Int)=0) {u w:Prt} (hu:(Aq d).parts[i.toNat]? = some u) (hw:(Aq d).parts[(i+1).toNat]? = some w):(Bu u w).2=true:=by rw [(T7 hd h hu hw).1]
theorem ME (hd:DD d) (h:¬ ((AT d i).length:Int)=0) {s:Stp} (hs:(AT d i)[0]? = some s):s.kind=1∧s.num=d.next:=by
 obtain ⟨x,y,q⟩:=NM hd h
 rw [q.e] at hs
 cases hs
 exact ⟨rfl,rfl⟩
theorem V3 (hd:DD d) (h:¬ ((AT d i).length:Int)=0) {s:Stp} {u w:Prt} (hu:(Aq d).parts[i.toNat]? = some u) (hw:(Aq d).parts[(i+1).toNat]? = some w) (hs:(AT d i)[0]? = some s):(s.part==(Bu u w).1)=true:=by
 obtain ⟨e,x,y,q,eu,ew⟩:=T7 hd h hu hw
 rw [q.e] at hs
 cases hs
 rw [e,eu,ew]
 exact beq_self_eq_true _
theorem OG (hd:DD d) (h:¬ ((AT d i).length:Int)=0) {s:Stp} (hs:(AT d i)[1]? = some s):s.kind=2∧s.list=d.list.take i.toNat++[d.next]++d.list.drop (i.toNat+2):=by
 obtain ⟨x,y,q⟩:=NM hd h
 rw [q.e] at hs
 cases hs
 exact ⟨rfl,rfl⟩
theorem T8 (hd:DD d) (h:¬ ((AT d i).length:Int)=0) {s:Stp} (hs:(AT d i)[1]? = some s):(s.list==(([]++(d.list.take i.toNat).drop 0)++[d.next])++(d.list.take d.list.length).drop (i+2).toNat)=true:=by
 have:=(BU hd h).1
 rw [(OG hd h hs).2,List.nil_append,List.drop_zero,List.take_length,show (i+2).toNat=i.toNat+2 by omega]
 exact beq_self_eq_true _
theorem SI (hd:DD d) (h:¬ ((AT d i).length:Int)=0) {s:Stp} {n:Int} (hs:(AT d i)[2]? = some s) (hn:d.list[i.toNat]? = some n):s.kind=3∧s.num=n:=by
 obtain ⟨x,y,q⟩:=NM hd h
 rw [q.e] at hs
 cases hs
 have:=q.q.hx
 rw [hn] at this
 cases this
 exact ⟨rfl,rfl⟩
theorem T9 (hd:DD d) (h:¬ ((AT d i).length:Int)=0) {s:Stp} (hs:(AT d i)[2]? = some s):s.kind=3:=by
 obtain ⟨x,y,q⟩:=NM hd h
 rw [q.e] at hs
 cases hs
 rfl
theorem UA (hd:DD d) (h:¬ ((AT d i).length:Int)=0) {s:Stp} (hs:(AT d i)[3]? = some s):s.kind=3:=by
 obtain ⟨x,y,q⟩:=NM hd h
 rw [q.e] at hs
 cases hs
 rfl
theorem SJ (hd:DD d) (h:¬ ((AT d i).length:Int)=0) {s:Stp} {n:Int} (hs:(AT d i)[3]? = some s) (hn:d.list[(i+1).toNat]? = some n):s.num=n:=by
 obtain ⟨x,y,q⟩:=NM hd h
 rw [q.e] at hs
 cases hs
 have h1:=q.q.hy
 have:=q.i0
 rw [show (i+1).toNat=i.toNat+1 by omega,h1] at hn
 cases hn
 rfl
end
end Go.Proofs.YtganlmloonielaaGreat
namespace Go.Proofs.YtganlmloonielaaGreat
set_option maxRecDepth 100000
set_option maxHeartbeats 4000000
theorem G5 (code:List UInt8) {w:World} {F:Nat→Prop} {a1:Option Addr} {n1 c1:Nat} (h1:RepS w F a1 n1 c1 code)  : Calls Tryz.prog 6 [.slice a1 n1 c1].toArray w (As fun rv w'=>rv=.bool (true)∧Ext w w'):=by
 refine goT Tryz.func6 ?_
 obtain ⟨rfl,tk,h1⟩:=h1.tp
 refine .s<|.g<|.r 1<|.d<|.s<|.s<|.g<|.r 2<|.bp ((code.length:Int) > 1048576) (fun mS=>.d<|.ct<|.s<|.g<|.r 1<|.d<|.rt Tryz.func6 Tryz.results6 (.bool true) ⟨(congrArg Value.bool (by rfl)),(Chg.refl _ _)⟩) fun mS=>.d<|.cf<|.sk<|.s<|.g<|.r 1<|.cl (EG code h1 (w:=w) (F:=nin (fo F w.heap.size) [])) ?_
 rintro uP uQ ⟨⟨C,E,⟨uR,rfl,⟨_,rfl,⟨pw,uS,pz,pA,uT,pB,pC,uU,pD,rfl,ba,ab,bc⟩⟩⟩,tm⟩,kC⟩
 have eG:∀ q_∈([]:List Nat),q_< w.heap.size:=all_nil
 have gr:Gb w.heap.size w.heap.size:=(Nat.le_refl _)
 have J:=kC
 replace ba:=RepS.Aa (M:=[]) ba eG gr
 have tq:=ba.max
 replace ab:=RepS.Aa (M:=[]) ab eG gr
 have tr:=ab.max
 replace bc:=RepS.Aa (M:=[]) bc eG gr
 have tt:=bc.max
 have mT:=ba.len
 subst mT
 have mU:=ab.len
 subst mU
 have mV:=bc.len
 subst mV
 refine .r 3<|.np 27 [.slice none 0 0,.slice none 0 0,.slice none 0 0,vI 0] fun ao uV gs kD mW mX=>?_
 have tu:=J.cn gs
 replace ⟨ba,ab,bc,J⟩:=(sn [] kD gs).g4 ba ab bc J
 refine .sc [.slice pw C.files.length pz,.slice pA C.list.length pB,.slice pC C.names.length pD,vI C.next] mW fun mY kE O mZ=>?_
 replace ⟨ba,ab,bc,J⟩:=(so [ao] kE).g4 ba ab bc J
 refine .r 1<|.d<|.s<|.g<|.ln O<|.r 1<|.cl (EB C E ba.ta ab.ta bc.ta (by have q1:DD C∧_:=‹_›; with_reducible exact q1.1) (w:=mY) (F:=all)) ?_
 rintro uW m0 ⟨⟨m5,m6,rfl,aa⟩,kF⟩
 have kG:=al1 O.lt
 have m7:Gb w.heap.size mY.heap.size:=J.size
 replace ⟨ba,ab,bc,O,J⟩:=(se [ao] kF).g5 ba ab bc O J
 have aa:=aa.fr kG m7
 replace aa:=aa.base (G':=fo F w.heap.size) (fun _ _ h=>.inr h)
 have tv:=aa.max
 refine .r 1<|.d<|.s<|.s<|.g<|.r 1<|.ln O<|.r 1<|.cl (CB C E ba.ta ab.ta bc.ta (by have q1:DD C∧_:=‹_›; with_reducible exact q1.1) (w:=m0) (F:=all)) ?_
 rintro uX pE ⟨⟨uY,uZ,rfl,gt⟩,kH⟩
 have kI:=al1 O.lt
 have m8:Gb w.heap.size m0.heap.size:=J.size
 replace ⟨ba,ab,bc,O,aa,J⟩:=(se [ao] kH).g6 ba ab bc O aa J
 have gt:=gt.fr kI m8
 replace gt:=gt.base (G':=fo F w.heap.size) (fun _ _ h=>.inr h)
 refine .cl (Ct (AT C E) (AT C E) aa.ta gt.ta (w:=pE) (F:=all)) ?_
 rintro u0 iT ⟨rfl,kJ⟩
 replace ⟨ba,ab,bc,O,aa,J⟩:=(se [ao] kJ).g6 ba ab bc O aa J
 rw [show (((AT C E)==(AT C E)))=true from beq_self_eq_true _]
 refine .r 4<|.eq (((AT C E).length):Int) 0 (fun m9=>?_) (fun m9=>?_)
 ·refine .r 1<|.d<|.ct<|.s<|.g<|.r 1<|.ln O<|.r 1<|.cl (CB C E ba.ta ab.ta bc.ta (by have q1:DD C∧_:=‹_›; with_reducible exact q1.1) (w:=iT) (F:=all)) ?_
  rintro u1 pF ⟨⟨u2,u3,rfl,gu⟩,kK⟩
  have kL:=al1 O.lt
  have nc:Gb w.heap.size iT.heap.size:=J.size
  replace ⟨ba,ab,bc,O,aa,J⟩:=(se [ao] kK).g6 ba ab bc O aa J
  have gu:=gu.fr kL nc
  replace gu:=gu.base (G':=fo F w.heap.size) (fun _ _ h=>.inr h)
  refine .cl (Ct (AT C E) (AT C E) aa.ta gu.ta (w:=pF) (F:=all)) ?_
  rintro u4 u5 ⟨rfl,kM⟩
  replace ⟨ba,ab,bc,O,aa,J⟩:=(se [ao] kM).g6 ba ab bc O aa J
  rw [show (((AT C E)==(AT C E)))=true from beq_self_eq_true _]
  exact .r 1<|.d<|.rt Tryz.func6 Tryz.results6 (.bool true) ⟨(congrArg Value.bool (by rfl)),J⟩
 refine .r 1<|.d<|.cf<|.sk<|.s<|.g<|.ln O<|.cl (Bn C ba ab bc (by have q1:DD C∧_:=‹_›; with_reducible exact q1.1) (w:=iT) (F:=nin (fo F w.heap.size) [ao])) ?_
 rintro tx u6 ⟨⟨_,rfl,⟨ng,tz,nh,ni,tA,nj,nq,tB,nt,nu,tC,nv,rfl,eH,eI,aN,eJ⟩⟩,kN⟩
 have cg:=al1 O.lt
 have cq:Gb w.heap.size iT.heap.size:=J.size
 replace ⟨ab,O,aa,J⟩:=(se [ao] kN).g4 ab O aa J
 replace eH:=RepS.Aa (M:=[ao]) eH cg cq
 have pG:=eH.max
 replace eI:=RepS.Aa (M:=[ao]) eI cg cq
 have pH:=eI.max
 replace aN:=RepS.Aa (M:=[ao]) aN cg cq
 have pI:=aN.max
 replace eJ:=RepS.Aa (M:=[ao]) eJ cg cq
 have pJ:=eJ.max
 have kW:=eH.len
 subst kW
 have kX:=eI.len
 subst kX
 have kY:=aN.len
 subst kY
 have kZ:=eJ.len
 subst kZ
 refine .np 34 [.slice none 0 0,.slice none 0 0,.slice none 0 0,.slice none 0 0] fun ae tD cr gv k5 k6=>?_
 have pK:=AS cr O.lt
 have pL:=J.cn cr
 replace ⟨ab,O,aa,aN,J⟩:=(sn [ao] gv cr).g5 ab O aa aN J
 refine .sc [.slice ng ((((Aq C).idx).names).length) nh,.slice ni ((((Aq C).idx).AV).length) nj,.slice nq (((Aq C).parts).length) nt,.slice nu (((Aq C).mem).length) nv] k5 fun cp gw W k7=>?_
 replace ⟨ab,O,aa,aN,J⟩:=(so [ae,ao] gw).g5 ab O aa aN J
 refine .d<|.s ?_
 replace ab:=ab.Ah
 replace aa:=aa.Ah
 replace aN:=aN.Ah
 have gx:Gb (ae+1) cp.heap.size:=W.lt
 refine .gd (mtb [] cp.heap.size) 17 fun nz dy=>?_
 replace ⟨ab,O,aa,aN,W,J⟩:=(se [ae,ao] dy).g6 ab O aa aN W J
 have aG:Chg (mtb [] cp.heap.size) cp nz:=Chg.Cc (Chg.refl (mtb [] cp.heap.size) cp) dy
 refine .r [0]<|.lb 1 W (Ax all_nil gx)<|.r [2] ?_
 have gy:(E).toNat< ((Aq C).parts).length:=(by have q1:DD C∧_:=‹_›; have q2:=BU q1.1 (by with_reducible assumption:¬ ((AT C E).length:Int)=0); have q3:=Al q1.1 (by with_reducible assumption:¬ ((AT C E).length:Int)=0); omega)
 refine GA.idx (i:=3) ((E).toNat) (len:=((Aq C).parts).length) (z:=E) (sz:=2) AA (by have q1:DD C∧_:=‹_›; have q2:=BU q1.1 (by with_reducible assumption:¬ ((AT C E).length:Int)=0); have q3:=Al q1.1 (by with_reducible assumption:¬ ((AT C E).length:Int)=0); omega) gy (aN.addr (Nat.zero_lt_of_lt gy)) ?_
 obtain ⟨aS,cu⟩:∃ y,((Aq C).parts)[(E).toNat]? = some y:=⟨_,AP (by have q1:DD C∧_:=‹_›; have q2:=BU q1.1 (by with_reducible assumption:¬ ((AT C E).length:Int)=0); have q3:=Al q1.1 (by with_reducible assumption:¬ ((AT C E).length:Int)=0); omega)⟩
 have pM:=AX cu; have nA:=AQ cu
 obtain ⟨_,⟨tE,tF,tG,tH,tJ,tK,rfl,ag,ah⟩,k8⟩:=aN.elem ((E).toNat) aS cu
 have k9:=ag.len
 subst k9
 have pN:=ag.max
 have lc:=ah.len
 subst lc
 have pO:=ah.max
 refine .lg 4 0 k8 (aN.nS (Dt cu) all_nil)<|.r [5]<|.lb 6 W (Ax all_nil gx)<|.r [7]<|GA.int (i:=8) (E+1) AA (by have q1:DD C∧_:=‹_›; have q2:=BU q1.1 (by with_reducible assumption:¬ ((AT C E).length:Int)=0); have q3:=Al q1.1 (by with_reducible assumption:¬ ((AT C E).length:Int)=0); omega) ?_
 have gz:(E+1).toNat< ((Aq C).parts).length:=(by have q1:DD C∧_:=‹_›; have q2:=BU q1.1 (by with_reducible assumption:¬ ((AT C E).length:Int)=0); have q3:=Al q1.1 (by with_reducible assumption:¬ ((AT C E).length:Int)=0); omega)
 refine GA.idx (i:=9) ((E+1).toNat) (len:=((Aq C).parts).length) (z:=E+1) (sz:=2) AA (by have q1:DD C∧_:=‹_›; have q2:=BU q1.1 (by with_reducible assumption:¬ ((AT C E).length:Int)=0); have q3:=Al q1.1 (by with_reducible assumption:¬ ((AT C E).length:Int)=0); omega) gz (aN.addr (Nat.zero_lt_of_lt gz)) ?_
 obtain ⟨aT,cv⟩:∃ y,((Aq C).parts)[(E+1).toNat]? = some y:=⟨_,AP (by have q1:DD C∧_:=‹_›; have q2:=BU q1.1 (by with_reducible assumption:¬ ((AT C E).length:Int)=0); have q3:=Al q1.1 (by with_reducible assumption:¬ ((AT C E).length:Int)=0); omega)⟩
 have pP:=AX cv; have nB:=AQ cv
 obtain ⟨_,⟨tL,tM,tN,tO,tQ,tT,rfl,ai,aj⟩,ld⟩:=aN.elem ((E+1).toNat) aT cv
 have lf:=ai.len
 subst lf
 have pQ:=ai.max
 have li:=aj.len
 subst li
 have pR:=aj.max
 refine .lg 10 0 ld (aN.nS (Dt cv) all_nil)<|.tw 11 15 ?_ ?_
 ·refine .cl (fun gA bQ=>DR aS aT (ag.ta.ext bQ) (ah.ta.ext bQ) (ai.ta.ext bQ) (aj.ta.ext bQ) (by have q1:DD C∧_:=‹_›; exact ((Eb q1.1 (SF (by with_reducible assumption:¬ ((AT C E).length:Int)=0))).part _ ‹_›).sz) (by have q1:DD C∧_:=‹_›; exact ((Eb q1.1 (SF (by with_reducible assumption:¬ ((AT C E).length:Int)=0))).part _ ‹_›).sz) (w:=gA) (F:=all)) ?_
  intro gA bQ
  replace ⟨ab,O,aa,W,ag,ah,ai,aj,J,aG⟩:=(se [ae,ao] bQ).g10 ab O aa W ag ah ai aj J aG
  rintro tU tV ⟨⟨tW,rfl,⟨_,rfl,⟨kO,tY,kP,kQ,tZ,kR,rfl,ar,au⟩⟩⟩,dz⟩
  have dA:=al2 W.lt O.lt
  have gC:Gb w.heap.size gA.heap.size:=J.size
  have hkeep_:=dz
  replace ⟨ab,O,aa,W,ag,ah,ai,aj,J,aG⟩:=(se [ae,ao] dz).g10 ab O aa W ag ah ai aj J aG
  refine ⟨Ext.chg hkeep_,?_⟩
  have ar:=ar.fr dA gC
  replace ar:=ar.base (G':=fo F w.heap.size) (fun _ _ h=>.inr h)
  have pS:=ar.max
  have au:=au.fr dA gC
  replace au:=au.base (G':=fo F w.heap.size) (fun _ _ h=>.inr h)
  have pT:=au.max
  have lj:=ar.len
  subst lj
  have lk:=au.len
  subst lk
  have ll:((Bu aS aT).2)=true:=(by have q1:DD C∧_:=‹_›; exact V2 q1.1 (by with_reducible assumption:¬ ((AT C E).length:Int)=0) ‹_› ‹_›)
  rw [ll]
  refine .r [12,13,14]<|.go 15<|.nw (fun b=>.pointer (some ⟨b,0,none⟩)) 42 [.slice none 0 0,.slice none 0 0] fun t0 gD=>?_
  replace ⟨ab,O,aa,W,ag,ah,ai,aj,ar,au,J,aG⟩:=(se [ae,ao] gD).g12 ab O aa W ag ah ai aj ar au J aG
  intro ay t1 bR gE lm lp
  have pU:=AS bR O.lt
  have pV:=AS bR W.lt
  have pW:=J.cn bR
  have lq:=aG.cn bR
  replace ⟨ab,O,aa,W,ag,ah,ai,aj,ar,au,J,aG⟩:=(sn [ae,ao] gE bR).g12 ab O aa W ag ah ai aj ar au J aG
  refine .go 16<|GE.CK (t':=42) (o:=0) (v:=.agg #[.slice kO ((((Bu aS aT).1).ids).length) kP,.slice kQ ((((Bu aS aT).1).blocks).length) kR]) [.slice kO ((((Bu aS aT).1).ids).length) kP,.slice kQ ((((Bu aS aT).1).blocks).length) kR] lm AA AA AA fun t2 gF=>?_
  replace ⟨ab,O,aa,W,ag,ah,ai,aj,ar,au,J,aG⟩:=(se [ay,ae,ao] gF).g12 ab O aa W ag ah ai aj ar au J aG
  intro t3 dB aq ls
  have hkeep_:=Chg.toS dB (Cov.toS lq)
  replace ⟨ab,O,aa,W,ag,ah,ai,aj,ar,au,J,aG⟩:=(so [ay,ae,ao] dB).g12 ab O aa W ag ah ai aj ar au J aG
  refine ⟨hkeep_,?_⟩
  refine .d fun bW dC=>?_
  replace ⟨ab,O,aa,W,ag,ah,ai,aj,ar,au,aq,J⟩:=(se [ay,ae,ao] dC).g12 ab O aa W ag ah ai aj ar au aq J
  replace aG:=(se [ay,ae,ao] dC).g1 aG
  replace ab:=ab.AU
  replace aa:=aa.AU
  replace ag:=ag.AU
  replace ah:=ah.AU
  replace ai:=ai.AU
  replace aj:=aj.AU
  refine .r 1<|.d<|.s<|T.Du (X:=Nat × Nat × (Option Addr) × Nat) (mtb [] bW.heap.size) 15 (fun (bE,eK,eL,eM)=>[(3,.pointer (some ⟨ao,0,none⟩)),(4,vI E),(5,.slice m5 ((AT C E).length) m6),(7,.pointer (some ⟨ay,0,none⟩)),(8,.bool true),(63,vS bE (0+((E).toNat - 0)+1) eK),(68,.slice eL (C.list.length - (E+2).toNat) eM)]) (fun (bE,eK,eL,eM) eN=>Ext bW eN∧bW.heap.size≤bE∧Own eN bE 3 (nin (fo F w.heap.size) [bE,ay,ae,ao]) (0+((E).toNat - 0)+1) eK ((([]++((C.list.take ((E).toNat)).drop 0))++[C.next]):List Int)∧RepS eN (nin (fo F w.heap.size) [bE,ay,ae,ao]) eL (C.list.length - (E+2).toNat) eM (((C.list.take C.list.length).drop ((E+2).toNat)):List Int)) AA (fun nC cw=>?_) ?_
  ·replace ab:=ab.Ah
   replace aa:=aa.Ah
   replace ag:=ag.Ah
   replace ah:=ah.Ah
   replace ai:=ai.Ah
   replace aj:=aj.Ah
   replace ar:=ar.Ah
   replace au:=au.Ah
   have dD:Gb (ao+1) bW.heap.size:=O.lt
   replace ⟨ab,O,aa,W,ag,ah,ai,aj,ar,au,aq,J⟩:=(se [ay,ae,ao] cw).g12 ab O aa W ag ah ai aj ar au aq J
   have av:=cw
   have aB:Chg (mtb [] bW.heap.size) bW nC:=Chg.Cc (Chg.refl (mtb [] bW.heap.size) bW) cw
   refine .r [1]<|.lb 2 O (Ax all_nil dD)<|.r [3]<|GA.sub (i:=4) (t:=24) (lo:=none) (hi:=some (vI E)) AA ab 0 ((E).toNat) AA AA (.inl ⟨rfl,rfl⟩) (.inr ⟨_,_,rfl,by have q1:DD C∧_:=‹_›; have q2:=BU q1.1 (by with_reducible assumption:¬ ((AT C E).length:Int)=0); have q3:=Al q1.1 (by with_reducible assumption:¬ ((AT C E).length:Int)=0); omega⟩) (by have q1:DD C∧_:=‹_›; have q2:=BU q1.1 (by with_reducible assumption:¬ ((AT C E).length:Int)=0); have q3:=Al q1.1 (by with_reducible assumption:¬ ((AT C E).length:Int)=0); omega) (by have q1:DD C∧_:=‹_›; have q2:=BU q1.1 (by with_reducible assumption:¬ ((AT C E).length:Int)=0); have q3:=Al q1.1 (by with_reducible assumption:¬ ((AT C E).length:Int)=0); omega) fun gG gH aD=>?_
   have pX:=aD.len; have pY:=aD.max
   refine .r [6]<|.lb 7 O (Ax all_nil dD)<|.r [10]<|.lb 11 O (Ax all_nil dD)<|.r [12]<|GA.int (i:=13) (E+2) AA (by have q1:DD C∧_:=‹_›; have q2:=BU q1.1 (by with_reducible assumption:¬ ((AT C E).length:Int)=0); have q3:=Al q1.1 (by with_reducible assumption:¬ ((AT C E).length:Int)=0); omega)<|GA.sub (i:=14) (t:=24) (lo:=some (vI (E+2))) (hi:=none) AA ab ((E+2).toNat) C.list.length AA AA (.inr ⟨_,_,rfl,by have q1:DD C∧_:=‹_›; have q2:=BU q1.1 (by with_reducible assumption:¬ ((AT C E).length:Int)=0); have q3:=Al q1.1 (by with_reducible assumption:¬ ((AT C E).length:Int)=0); omega⟩) (.inl ⟨rfl,rfl⟩) (by have q1:DD C∧_:=‹_›; have q2:=BU q1.1 (by with_reducible assumption:¬ ((AT C E).length:Int)=0); have q3:=Al q1.1 (by with_reducible assumption:¬ ((AT C E).length:Int)=0); omega) (by have q1:DD C∧_:=‹_›; have q2:=BU q1.1 (by with_reducible assumption:¬ ((AT C E).length:Int)=0); have q3:=Al q1.1 (by with_reducible assumption:¬ ((AT C E).length:Int)=0); omega) fun gI gJ aC=>?_
   have pZ:=aC.len; have p0:=aC.max
   refine .tw 0 8 ?_ ?_
   ·refine .ns 0 3 [] fun t4 dE=>?_
    replace ⟨ab,O,aa,W,ag,ah,ai,aj,ar,au,aq,aD⟩:=(se [ay,ae,ao] dE).g12 ab O aa W ag ah ai aj ar au aq aD
    replace ⟨aC,J,av,aB⟩:=(se [ay,ae,ao] dE).g4 aC J av aB
    intro aO nD bk dF lu lv
    have gK:=AS bk O.lt
    have gL:=AS bk W.lt
    have gM:=AS bk aq.lt
    have gN:=J.cn bk
    have gO:=av.cn bk
    have cx:=aB.cn bk
    replace ⟨ab,O,aa,W,ag,ah,ai,aj,ar,au,aq,aD⟩:=(sn [ay,ae,ao] dF bk).g12 ab O aa W ag ah ai aj ar au aq aD
    replace ⟨aC,J,av,aB⟩:=(sn [ay,ae,ao] dF bk).g4 aC J av aB
    have aY:Own (α:=Int) nD aO 3 (nin (fo F w.heap.size) [aO,ay,ae,ao]) 0 0 []:=Own.Ag lu
    refine .tw 5 8 ?_ ?_
    ·refine GE.append (T:=24) (ty:=24) (args:=[vS aO 0 0,.slice gG ((E).toNat - 0) gH]) AA fun t5 dG=>?_
     replace ⟨ab,O,aa,W,ag,ah,ai,aj,ar,au,aq,aD⟩:=(se [aO,ay,ae,ao] dG).g12 ab O aa W ag ah ai aj ar au aq aD
     replace ⟨aC,aY,J,av,aB⟩:=(se [aO,ay,ae,ao] dG).g5 aC aY J av aB
     obtain ⟨bu,nE,t6,gP,aW,aX,cy,lw⟩:=Own.Ay (P:=Tryz.prog) (T:=24) (ty:=24) BF aY AA aD (fun b h e=>h.2 (e▸AD)) (by have q1:DD C∧_:=‹_›; have q2:=BU q1.1 (by with_reducible assumption:¬ ((AT C E).length:Int)=0); have q3:=Al q1.1 (by with_reducible assumption:¬ ((AT C E).length:Int)=0); omega)
     refine ⟨_,_,gP,Chg.toS cy (Cov.toS cx),?_⟩
     have p1:=Ae aX gK O.lt
     have p2:=Ae aX gL W.lt
     have p3:=Ae aX gM aq.lt
     have p4:=Am aX gN J.size
     have ly:=Am aX gO av.size
     have lz:=Am aX cx aB.size
     replace ⟨ab,O,aa,W,ag,ah,ai,aj,ar,au,aq,aD⟩:=(sa [aO,ay,ae,ao] cy aX).g12 ab O aa W ag ah ai aj ar au aq aD
     replace ⟨aC,J,av,aB⟩:=(sa [aO,ay,ae,ao] cy aX).g4 aC J av aB
     replace aW:=aW.rn aO
     have p5:=aW.len; have p6:=aW.max
     refine .go 8<|.ns 1 3 [vI C.next] fun t7 dH=>?_
     replace ⟨ab,O,aa,W,ag,ah,ai,aj,ar,au,aq,aD⟩:=(se [bu,ay,ae,ao] dH).g12 ab O aa W ag ah ai aj ar au aq aD
     replace ⟨aC,aW,J,av,aB⟩:=(se [bu,ay,ae,ao] dH).g5 aC aW J av aB
     intro gQ t8 bS dI dJ lA
     have lB:=AS bS O.lt
     have lC:=AS bS W.lt
     have lD:=AS bS aq.lt
     have gR:=AS bS aW.lt
     have lE:=Ad bS J.size
     replace ⟨ab,O,aa,W,ag,ah,ai,aj,ar,au,aq,aD⟩:=(se [bu,ay,ae,ao] dI).g12 ab O aa W ag ah ai aj ar au aq aD
     replace ⟨aC,aW,J,av,aB⟩:=(se [bu,ay,ae,ao] dI).g5 aC aW J av aB
     refine .go 9<|GE.append (T:=24) (ty:=24) (args:=[vS bu (0+((E).toNat - 0)) nE,vS gQ 1 1]) AA fun t9 dK=>?_
     replace ⟨ab,O,aa,W,ag,ah,ai,aj,ar,au,aq,aD⟩:=(se [bu,ay,ae,ao] dK).g12 ab O aa W ag ah ai aj ar au aq aD
     replace ⟨aC,aW,dJ,J,av,aB⟩:=(se [bu,ay,ae,ao] dK).g6 aC aW dJ J av aB
     have gh:nin (fo F w.heap.size) [bu,ay,ae,ao] gQ∧gQ≠bu:=BG (.inr lE) (all_cons gR (all_cons lD (all_cons lC (all_cons lB all_nil)))) gR
     obtain ⟨gS,nF,ua,gT,bG,b0,cz,lF⟩:=aW.Ap (P:=Tryz.prog) (T:=24) (ty:=24) (y:=C.next) AA dJ rfl gh (by have q1:DD C∧_:=‹_›; have q2:=BU q1.1 (by with_reducible assumption:¬ ((AT C E).length:Int)=0); have q3:=Al q1.1 (by with_reducible assumption:¬ ((AT C E).length:Int)=0); omega)
     refine ⟨_,_,gT,Chg.toS cz (Cov.toS lz),?_⟩
     have lG:=Am b0 ly av.size
     replace ⟨ab,O,aa,W,ag,ah,ai,aj,ar,au,aq,aD⟩:=(sa [bu,ay,ae,ao] cz b0).g12 ab O aa W ag ah ai aj ar au aq aD
     replace ⟨aC,J,av,aB⟩:=(sa [bu,ay,ae,ao] cz b0).g4 aC J av aB
     replace bG:=bG.rn bu
     have p7:=bG.len; have p8:=bG.max
     refine .d fun ub dL=>?_
     replace ⟨ab,O,aa,W,ag,ah,ai,aj,ar,au,aq,aD⟩:=(se [gS,ay,ae,ao] dL).g12 ab O aa W ag ah ai aj ar au aq aD
     replace ⟨aC,bG,J,av,aB⟩:=(se [gS,ay,ae,ao] dL).g5 aC bG J av aB
     replace ab:=ab.AU
     replace aa:=aa.AU
     replace ag:=ag.AU
     replace ah:=ah.AU
     replace ai:=ai.AU
     replace aj:=aj.AU
     replace ar:=ar.AU
     replace au:=au.AU
     replace aD:=aD.AU
     replace aC:=aC.AU
     exact ⟨(gS,nF,gI,gJ),⟨AA,AA,AA,AA,AA,AA,AA,trivial⟩,⟨av,(Ac lG),bG,aC⟩⟩
    refine .ns 1 3 [vI C.next] fun uc dM=>?_
    replace ⟨ab,O,aa,W,ag,ah,ai,aj,ar,au,aq,aD⟩:=(se [aO,ay,ae,ao] dM).g12 ab O aa W ag ah ai aj ar au aq aD
    replace ⟨aC,aY,J,av,aB⟩:=(se [aO,ay,ae,ao] dM).g5 aC aY J av aB
    intro gU ud bT dN bv lH
    have lI:=AS bT O.lt
    have lJ:=AS bT W.lt
    have lK:=AS bT aq.lt
    have lL:=AS bT aY.lt
    have lM:=Ad bT J.size
    replace ⟨ab,O,aa,W,ag,ah,ai,aj,ar,au,aq,aD⟩:=(se [aO,ay,ae,ao] dN).g12 ab O aa W ag ah ai aj ar au aq aD
    replace ⟨aC,aY,J,av,aB⟩:=(se [aO,ay,ae,ao] dN).g5 aC aY J av aB
    refine .go 5<|GE.append (T:=24) (ty:=24) (args:=[vS aO 0 0,.slice gG ((E).toNat - 0) gH]) AA fun ue dO=>?_
    replace ⟨ab,O,aa,W,ag,ah,ai,aj,ar,au,aq,aD⟩:=(se [aO,ay,ae,ao] dO).g12 ab O aa W ag ah ai aj ar au aq aD
    replace ⟨aC,aY,bv,J,av,aB⟩:=(se [aO,ay,ae,ao] dO).g6 aC aY bv J av aB
    obtain ⟨bX,nG,uf,gV,bH,aQ,cA,lN⟩:=Own.Ay (P:=Tryz.prog) (T:=24) (ty:=24) BF aY AA aD (fun b h e=>h.2 (e▸AD)) (by have q1:DD C∧_:=‹_›; have q2:=BU q1.1 (by with_reducible assumption:¬ ((AT C E).length:Int)=0); have q3:=Al q1.1 (by with_reducible assumption:¬ ((AT C E).length:Int)=0); omega)
    refine ⟨_,_,gV,Chg.toS cA (Cov.toS cx),?_⟩
    have p9:=Ae aQ gK O.lt
    have qa:=Ae aQ gL W.lt
    have qb:=Ae aQ gM aq.lt
    have gW:=Ae aQ (Nb.symm lL) bv.lt
    have qc:=Am aQ gN J.size
    have lO:=Am aQ gO av.size
    have lP:=Am aQ cx aB.size
    replace ⟨ab,O,aa,W,ag,ah,ai,aj,ar,au,aq,aD⟩:=(sa [aO,ay,ae,ao] cA aQ).g12 ab O aa W ag ah ai aj ar au aq aD
    replace ⟨aC,bv,J,av,aB⟩:=(sa [aO,ay,ae,ao] cA aQ).g5 aC bv J av aB
    replace bH:=bH.rn aO
    have qd:=bH.len; have qe:=bH.max
    refine .go 9<|GE.append (T:=24) (ty:=24) (args:=[vS bX (0+((E).toNat - 0)) nG,vS gU 1 1]) AA fun ug dP=>?_
    replace ⟨ab,O,aa,W,ag,ah,ai,aj,ar,au,aq,aD⟩:=(se [bX,ay,ae,ao] dP).g12 ab O aa W ag ah ai aj ar au aq aD
    replace ⟨aC,bH,bv,J,av,aB⟩:=(se [bX,ay,ae,ao] dP).g6 aC bH bv J av aB
    have gi:nin (fo F w.heap.size) [bX,ay,ae,ao] gU∧gU≠bX:=BG (.inr lM) (all_cons (Nb.symm gW) (all_cons lK (all_cons lJ (all_cons lI all_nil)))) (Nb.symm gW)
    obtain ⟨gX,nH,uh,gY,bI,b6,cB,lQ⟩:=bH.Ap (P:=Tryz.prog) (T:=24) (ty:=24) (y:=C.next) AA bv rfl gi (by have q1:DD C∧_:=‹_›; have q2:=BU q1.1 (by with_reducible assumption:¬ ((AT C E).length:Int)=0); have q3:=Al q1.1 (by with_reducible assumption:¬ ((AT C E).length:Int)=0); omega)
    refine ⟨_,_,gY,Chg.toS cB (Cov.toS lP),?_⟩
    have lR:=Am b6 lO av.size
    replace ⟨ab,O,aa,W,ag,ah,ai,aj,ar,au,aq,aD⟩:=(sa [bX,ay,ae,ao] cB b6).g12 ab O aa W ag ah ai aj ar au aq aD
    replace ⟨aC,J,av,aB⟩:=(sa [bX,ay,ae,ao] cB b6).g4 aC J av aB
    replace bI:=bI.rn bX
    have qf:=bI.len; have qg:=bI.max
    refine .d fun ui dQ=>?_
    replace ⟨ab,O,aa,W,ag,ah,ai,aj,ar,au,aq,aD⟩:=(se [gX,ay,ae,ao] dQ).g12 ab O aa W ag ah ai aj ar au aq aD
    replace ⟨aC,bI,J,av,aB⟩:=(se [gX,ay,ae,ao] dQ).g5 aC bI J av aB
    replace ab:=ab.AU
    replace aa:=aa.AU
    replace ag:=ag.AU
    replace ah:=ah.AU
    replace ai:=ai.AU
    replace aj:=aj.AU
    replace ar:=ar.AU
    replace au:=au.AU
    replace aD:=aD.AU
    replace aC:=aC.AU
    exact ⟨(gX,nH,gI,gJ),⟨AA,AA,AA,AA,AA,AA,AA,trivial⟩,⟨av,(Ac lR),bI,aC⟩⟩
   refine .ns 1 3 [vI C.next] fun uj dR=>?_
   replace ⟨ab,O,aa,W,ag,ah,ai,aj,ar,au,aq,aD⟩:=(se [ay,ae,ao] dR).g12 ab O aa W ag ah ai aj ar au aq aD
   replace ⟨aC,J,av,aB⟩:=(se [ay,ae,ao] dR).g4 aC J av aB
   intro gZ uk ci dS aP lS
   have lT:=AS ci O.lt
   have lU:=AS ci W.lt
   have lV:=AS ci aq.lt
   have lW:=Ad ci J.size
   replace ⟨ab,O,aa,W,ag,ah,ai,aj,ar,au,aq,aD⟩:=(se [ay,ae,ao] dS).g12 ab O aa W ag ah ai aj ar au aq aD
   replace ⟨aC,J,av,aB⟩:=(se [ay,ae,ao] dS).g4 aC J av aB
   refine .go 0<|.ns 0 3 [] fun ul dT=>?_
   replace ⟨ab,O,aa,W,ag,ah,ai,aj,ar,au,aq,aD⟩:=(se [ay,ae,ao] dT).g12 ab O aa W ag ah ai aj ar au aq aD
   replace ⟨aC,aP,J,av,aB⟩:=(se [ay,ae,ao] dT).g5 aC aP J av aB
   intro bY nI bi dU lX lY
   have lZ:=AS bi O.lt
   have l0:=AS bi W.lt
   have l3:=AS bi aq.lt
   have l4:=AS bi aP.lt
   have l6:=J.cn bi
   have l7:=av.cn bi
   have g0:=aB.cn bi
   replace ⟨ab,O,aa,W,ag,ah,ai,aj,ar,au,aq,aD⟩:=(sn [ay,ae,ao] dU bi).g12 ab O aa W ag ah ai aj ar au aq aD
   replace ⟨aC,aP,J,av,aB⟩:=(sn [ay,ae,ao] dU bi).g5 aC aP J av aB
   have dV:Own (α:=Int) nI bY 3 (nin (fo F w.heap.size) [bY,ay,ae,ao]) 0 0 []:=Own.Ag lX
   refine .go 5<|GE.append (T:=24) (ty:=24) (args:=[vS bY 0 0,.slice gG ((E).toNat - 0) gH]) AA fun um dW=>?_
   replace ⟨ab,O,aa,W,ag,ah,ai,aj,ar,au,aq,aD⟩:=(se [bY,ay,ae,ao] dW).g12 ab O aa W ag ah ai aj ar au aq aD
   replace ⟨aC,aP,dV,J,av,aB⟩:=(se [bY,ay,ae,ao] dW).g6 aC aP dV J av aB
   obtain ⟨bZ,nJ,un,hC,bJ,aR,cC,l8⟩:=Own.Ay (P:=Tryz.prog) (T:=24) (ty:=24) BF dV AA aD (fun b h e=>h.2 (e▸AD)) (by have q1:DD C∧_:=‹_›; have q2:=BU q1.1 (by with_reducible assumption:¬ ((AT C E).length:Int)=0); have q3:=Al q1.1 (by with_reducible assumption:¬ ((AT C E).length:Int)=0); omega)
   refine ⟨_,_,hC,Chg.toS cC (Cov.toS g0),?_⟩
   have qh:=Ae aR lZ O.lt
   have qi:=Ae aR l0 W.lt
   have qj:=Ae aR l3 aq.lt
   have hD:=Ae aR l4 aP.lt
   have qk:=Am aR l6 J.size
   have l9:=Am aR l7 av.size
   have ma:=Am aR g0 aB.size
   replace ⟨ab,O,aa,W,ag,ah,ai,aj,ar,au,aq,aC⟩:=(sa [bY,ay,ae,ao] cC aR).g12 ab O aa W ag ah ai aj ar au aq aC
   replace ⟨aP,J,av⟩:=(sa [bY,ay,ae,ao] cC aR).g3 aP J av
   replace bJ:=bJ.rn bY
   have ql:=bJ.len; have qm:=bJ.max
   refine .go 9<|GE.append (T:=24) (ty:=24) (args:=[vS bZ (0+((E).toNat - 0)) nJ,vS gZ 1 1]) AA fun uo dX=>?_
   replace ⟨ab,O,aa,W,ag,ah,ai,aj,ar,au,aq,aC⟩:=(se [bZ,ay,ae,ao] dX).g12 ab O aa W ag ah ai aj ar au aq aC
   replace ⟨aP,bJ,J,av⟩:=(se [bZ,ay,ae,ao] dX).g4 aP bJ J av
   have gj:nin (fo F w.heap.size) [bZ,ay,ae,ao] gZ∧gZ≠bZ:=BG (.inr lW) (all_cons (Nb.symm hD) (all_cons lV (all_cons lU (all_cons lT all_nil)))) (Nb.symm hD)
   obtain ⟨hE,nK,uq,hH,bK,b7,cD,mb⟩:=bJ.Ap (P:=Tryz.prog) (T:=24) (ty:=24) (y:=C.next) AA aP rfl gj (by have q1:DD C∧_:=‹_›; have q2:=BU q1.1 (by with_reducible assumption:¬ ((AT C E).length:Int)=0); have q3:=Al q1.1 (by with_reducible assumption:¬ ((AT C E).length:Int)=0); omega)
   refine ⟨_,_,hH,Chg.toS cD (Cov.toS ma),?_⟩
   have mc:=Am b7 l9 av.size
   replace ⟨ab,O,aa,W,ag,ah,ai,aj,ar,au,aq,aC⟩:=(sa [bZ,ay,ae,ao] cD b7).g12 ab O aa W ag ah ai aj ar au aq aC
   replace ⟨J,av⟩:=(sa [bZ,ay,ae,ao] cD b7).g2 J av
   replace bK:=bK.rn bZ
   have qn:=bK.len; have qo:=bK.max
   refine .d fun ur dY=>?_
   replace ⟨ab,O,aa,W,ag,ah,ai,aj,ar,au,aq,aC⟩:=(se [hE,ay,ae,ao] dY).g12 ab O aa W ag ah ai aj ar au aq aC
   replace ⟨bK,J,av⟩:=(se [hE,ay,ae,ao] dY).g3 bK J av
   replace ab:=ab.AU
   replace aa:=aa.AU
   replace ag:=ag.AU
   replace ah:=ah.AU
   replace ai:=ai.AU
   replace aj:=aj.AU
   replace ar:=ar.AU
   replace au:=au.AU
   replace aC:=aC.AU
   exact ⟨(hE,nK,gI,gJ),⟨AA,AA,AA,AA,AA,AA,AA,trivial⟩,⟨av,(Ac mc),bK,aC⟩⟩
  rintro ⟨bE,eK,eL,eM⟩ ut eN ⟨hJ,bU,hN,hO⟩
  have qp:=Ab bU O.lt
  have qq:=Ab bU W.lt
  have qr:=Ab bU aq.lt
  have qs:Cov nil w bE:=BR bU J.size
  replace ⟨ab,O,aa,W,ag,ah,ai,aj,ar,au,aq,J⟩:=(sz [ay,ae,ao] hJ bU).g12 ab O aa W ag ah ai aj ar au aq J
  have qt:=hN.len; have qu:=hN.max
  have qv:=hO.len; have qw:=hO.max
  refine RG.Ay (T:=24) (ty:=24) BF hN hO AA AA (fun b h e=>h.2 (e▸AD)) (by have q1:DD C∧_:=‹_›; have q2:=BU q1.1 (by with_reducible assumption:¬ ((AT C E).length:Int)=0); have q3:=Al q1.1 (by with_reducible assumption:¬ ((AT C E).length:Int)=0); omega) fun bF uu uv bL eO hQ=>?_
  replace ⟨ab,O,aa,W,ag,ah,ai,aj,ar,au,aq,J⟩:=(sa [bE,ay,ae,ao] hQ eO).g12 ab O aa W ag ah ai aj ar au aq J
  replace bL:=bL.rn bE
  have qx:=bL.len; have qy:=bL.max
  refine .r 1<|.d<|.s<|.gd nil 82 fun uw dZ=>?_
  replace ⟨ab,O,aa,W,ag,ah,ai,aj,ar,au,aq,bL⟩:=(se [bF,ay,ae,ao] dZ).g12 ab O aa W ag ah ai aj ar au aq bL
  replace J:=(se [bF,ay,ae,ao] dZ).g1 J
  refine .r [0,1,2,3]<|GA.eqI (i:=4) (a:=(((AT C E).length):Int)) (b:=4) AA (fun me=>?_) (fun me=>?_)
  ·refine .r [5,6,7] ?_
   have hV:0< (AT C E).length:=(by have q1:DD C∧_:=‹_›; have q2:=BU q1.1 (by with_reducible assumption:¬ ((AT C E).length:Int)=0); have q3:=Al q1.1 (by with_reducible assumption:¬ ((AT C E).length:Int)=0); omega)
   refine GA.idx (i:=8) 0 (len:=(AT C E).length) (z:=0) (sz:=6) AA (by have q1:DD C∧_:=‹_›; have q2:=BU q1.1 (by with_reducible assumption:¬ ((AT C E).length:Int)=0); have q3:=Al q1.1 (by with_reducible assumption:¬ ((AT C E).length:Int)=0); omega) hV (aa.addr (Nat.zero_lt_of_lt hV))<|.r [9] ?_
   obtain ⟨dw,d0⟩:∃ y,(AT C E)[0]? = some y:=⟨_,AP (by have q1:DD C∧_:=‹_›; have q2:=BU q1.1 (by with_reducible assumption:¬ ((AT C E).length:Int)=0); have q3:=Al q1.1 (by with_reducible assumption:¬ ((AT C E).length:Int)=0); omega)⟩
   have qz:=AX d0; have nL:=AQ d0
   obtain ⟨_,⟨ux,uy,uz,uA,uB,uC,uD,uE,uF,uG,uH,uI,rfl,hW,ia,kS,kT⟩,d3⟩:=aa.elem 0 dw d0
   have mf:=hW.len
   subst mf
   have qA:=hW.max
   have mh:=ia.len
   subst mh
   have qB:=ia.max
   have mj:=kS.len
   subst mj
   have qC:=kS.max
   have ml:=kT.len
   subst ml
   have qD:=kT.max
   refine .lh 10 0 d3 id<|GA.eqI (i:=11) (a:=dw.kind) (b:=1) AA (fun mo=>?_) (fun mo=>?_)
   ·refine .r [12,13,14] ?_
    have ic:0< (AT C E).length:=(by have q1:DD C∧_:=‹_›; have q2:=BU q1.1 (by with_reducible assumption:¬ ((AT C E).length:Int)=0); have q3:=Al q1.1 (by with_reducible assumption:¬ ((AT C E).length:Int)=0); omega)
    refine GA.idx (i:=15) 0 (len:=(AT C E).length) (z:=0) (sz:=6) AA (by have q1:DD C∧_:=‹_›; have q2:=BU q1.1 (by with_reducible assumption:¬ ((AT C E).length:Int)=0); have q3:=Al q1.1 (by with_reducible assumption:¬ ((AT C E).length:Int)=0); omega) ic (aa.addr (Nat.zero_lt_of_lt ic))<|.r [16]<|.lh 17 1 d3 id<|.r [18]<|.lb 19 O id<|GA.eqI (i:=20) (a:=dw.num) (b:=C.next) AA (fun mp=>?_) (fun mp=>?_)
    ·refine .r [21,22,23] ?_
     have ie:0< (AT C E).length:=(by have q1:DD C∧_:=‹_›; have q2:=BU q1.1 (by with_reducible assumption:¬ ((AT C E).length:Int)=0); have q3:=Al q1.1 (by with_reducible assumption:¬ ((AT C E).length:Int)=0); omega)
     refine GA.idx (i:=24) 0 (len:=(AT C E).length) (z:=0) (sz:=6) AA (by have q1:DD C∧_:=‹_›; have q2:=BU q1.1 (by with_reducible assumption:¬ ((AT C E).length:Int)=0); have q3:=Al q1.1 (by with_reducible assumption:¬ ((AT C E).length:Int)=0); omega) ie (aa.addr (Nat.zero_lt_of_lt ie))<|.r [25]<|.lg 26 2 d3 id<|.ln 27 aq id<|GA.Bz (i:=28) AA (fun nM cE=>DW (dw.part) ((Bu aS aT).1) (hW.ta.ext cE) (ia.ta.ext cE) (ar.ta.ext cE) (au.ta.ext cE) (w:=nM) (F:=all)) ?_
     have mq:((dw.part)==((Bu aS aT).1))=true:=(by have q1:DD C∧_:=‹_›; exact V3 q1.1 (by with_reducible assumption:¬ ((AT C E).length:Int)=0) ‹_› ‹_› ‹_›)
     rw [mq]
     refine .r [29,30,31] ?_
     have ig:1< (AT C E).length:=(by have q1:DD C∧_:=‹_›; have q2:=BU q1.1 (by with_reducible assumption:¬ ((AT C E).length:Int)=0); have q3:=Al q1.1 (by with_reducible assumption:¬ ((AT C E).length:Int)=0); omega)
     refine GA.idx (i:=32) 1 (len:=(AT C E).length) (z:=1) (sz:=6) AA (by have q1:DD C∧_:=‹_›; have q2:=BU q1.1 (by with_reducible assumption:¬ ((AT C E).length:Int)=0); have q3:=Al q1.1 (by with_reducible assumption:¬ ((AT C E).length:Int)=0); omega) ig (aa.addr (Nat.zero_lt_of_lt ig))<|.r [33] ?_
     obtain ⟨eP,d4⟩:∃ y,(AT C E)[1]? = some y:=⟨_,AP (by have q1:DD C∧_:=‹_›; have q2:=BU q1.1 (by with_reducible assumption:¬ ((AT C E).length:Int)=0); have q3:=Al q1.1 (by with_reducible assumption:¬ ((AT C E).length:Int)=0); omega)⟩
     have qE:=AX d4; have nN:=AQ d4
     obtain ⟨_,⟨uJ,uK,uL,uM,uN,uO,qF,qG,qH,qI,qJ,qK,rfl,kU,kV,d5,ii⟩,ij⟩:=aa.elem 1 eP d4
     have iU:=kU.len
     subst iU
     have nO:=kU.max
     have iV:=kV.len
     subst iV
     have nP:=kV.max
     have iW:=d5.len
     subst iW
     have nQ:=d5.max
     have iX:=ii.len
     subst iX
     have nR:=ii.max
     refine .lh 34 0 ij id<|GA.eqI (i:=35) (a:=eP.kind) (b:=2) AA (fun iY=>?_) (fun iY=>?_)
     ·refine .r [36,37,38] ?_
      have eQ:1< (AT C E).length:=(by have q1:DD C∧_:=‹_›; have q2:=BU q1.1 (by with_reducible assumption:¬ ((AT C E).length:Int)=0); have q3:=Al q1.1 (by with_reducible assumption:¬ ((AT C E).length:Int)=0); omega)
      refine GA.idx (i:=39) 1 (len:=(AT C E).length) (z:=1) (sz:=6) AA (by have q1:DD C∧_:=‹_›; have q2:=BU q1.1 (by with_reducible assumption:¬ ((AT C E).length:Int)=0); have q3:=Al q1.1 (by with_reducible assumption:¬ ((AT C E).length:Int)=0); omega) eQ (aa.addr (Nat.zero_lt_of_lt eQ))<|.r [40]<|.lh 41 4 ij id<|.r [42]<|GA.Bz (i:=43) AA (fun mr eR=>C6 eP.list ((([]++((C.list.take ((E).toNat)).drop 0))++[C.next])++((C.list.take C.list.length).drop ((E+2).toNat))) (d5.ta.ext eR) ((bL.rep).ext eR) (w:=mr) (F:=all)) ?_
      have iZ:(eP.list==((([]++((C.list.take ((E).toNat)).drop 0))++[C.next])++((C.list.take C.list.length).drop ((E+2).toNat))))=true:=(by have q1:DD C∧_:=‹_›; exact T8 q1.1 (by with_reducible assumption:¬ ((AT C E).length:Int)=0) ‹_›)
      rw [iZ]
      refine .r [44,45,46] ?_
      have eS:2< (AT C E).length:=(by have q1:DD C∧_:=‹_›; have q2:=BU q1.1 (by with_reducible assumption:¬ ((AT C E).length:Int)=0); have q3:=Al q1.1 (by with_reducible assumption:¬ ((AT C E).length:Int)=0); omega)
      refine GA.idx (i:=47) 2 (len:=(AT C E).length) (z:=2) (sz:=6) AA (by have q1:DD C∧_:=‹_›; have q2:=BU q1.1 (by with_reducible assumption:¬ ((AT C E).length:Int)=0); have q3:=Al q1.1 (by with_reducible assumption:¬ ((AT C E).length:Int)=0); omega) eS (aa.addr (Nat.zero_lt_of_lt eS))<|.r [48] ?_
      obtain ⟨d6,cF⟩:∃ y,(AT C E)[2]? = some y:=⟨_,AP (by have q1:DD C∧_:=‹_›; have q2:=BU q1.1 (by with_reducible assumption:¬ ((AT C E).length:Int)=0); have q3:=Al q1.1 (by with_reducible assumption:¬ ((AT C E).length:Int)=0); omega)⟩
      have nT:=AX cF; have mI:=AQ cF
      obtain ⟨_,⟨qL,qM,qN,qO,qP,qQ,qR,qS,qT,qU,qV,qW,rfl,ik,il,im,io⟩,eT⟩:=aa.elem 2 d6 cF
      have ja:=ik.len
      subst ja
      have nU:=ik.max
      have jb:=il.len
      subst jb
      have nV:=il.max
      have jc:=im.len
      subst jc
      have nW:=im.max
      have jd:=io.len
      subst jd
      have nX:=io.max
      refine .lh 49 0 eT id<|GA.eqI (i:=50) (a:=d6.kind) (b:=3) AA (fun je=>?_) (fun je=>?_)
      ·refine .r [51,52,53] ?_
       have eU:2< (AT C E).length:=(by have q1:DD C∧_:=‹_›; have q2:=BU q1.1 (by with_reducible assumption:¬ ((AT C E).length:Int)=0); have q3:=Al q1.1 (by with_reducible assumption:¬ ((AT C E).length:Int)=0); omega)
       refine GA.idx (i:=54) 2 (len:=(AT C E).length) (z:=2) (sz:=6) AA (by have q1:DD C∧_:=‹_›; have q2:=BU q1.1 (by with_reducible assumption:¬ ((AT C E).length:Int)=0); have q3:=Al q1.1 (by with_reducible assumption:¬ ((AT C E).length:Int)=0); omega) eU (aa.addr (Nat.zero_lt_of_lt eU))<|.r [55]<|.lh 56 1 eT id<|.r [57]<|.lb 58 O id<|.r [59] ?_
       have eV:(E).toNat< C.list.length:=(by have q1:DD C∧_:=‹_›; have q2:=BU q1.1 (by with_reducible assumption:¬ ((AT C E).length:Int)=0); have q3:=Al q1.1 (by with_reducible assumption:¬ ((AT C E).length:Int)=0); omega)
       refine GA.idx (i:=60) ((E).toNat) (len:=C.list.length) (z:=E) (sz:=1) AA (by have q1:DD C∧_:=‹_›; have q2:=BU q1.1 (by with_reducible assumption:¬ ((AT C E).length:Int)=0); have q3:=Al q1.1 (by with_reducible assumption:¬ ((AT C E).length:Int)=0); omega) eV (ab.addr (Nat.zero_lt_of_lt eV)) ?_
       obtain ⟨ip,cG⟩:∃ y,C.list[(E).toNat]? = some y:=⟨_,AP (by have q1:DD C∧_:=‹_›; have q2:=BU q1.1 (by with_reducible assumption:¬ ((AT C E).length:Int)=0); have q3:=Al q1.1 (by with_reducible assumption:¬ ((AT C E).length:Int)=0); omega)⟩
       have nY:=AX cG; have mJ:=AQ cG
       obtain ⟨_,rfl,jf⟩:=ab.elem ((E).toNat) ip cG
       refine .lh 61 0 jf id<|GA.eqI (i:=62) (a:=d6.num) (b:=ip) AA (fun jg=>?_) (fun jg=>?_)
       ·refine .r [63,64,65] ?_
        have eW:3< (AT C E).length:=(by have q1:DD C∧_:=‹_›; have q2:=BU q1.1 (by with_reducible assumption:¬ ((AT C E).length:Int)=0); have q3:=Al q1.1 (by with_reducible assumption:¬ ((AT C E).length:Int)=0); omega)
        refine GA.idx (i:=66) 3 (len:=(AT C E).length) (z:=3) (sz:=6) AA (by have q1:DD C∧_:=‹_›; have q2:=BU q1.1 (by with_reducible assumption:¬ ((AT C E).length:Int)=0); have q3:=Al q1.1 (by with_reducible assumption:¬ ((AT C E).length:Int)=0); omega) eW (aa.addr (Nat.zero_lt_of_lt eW))<|.r [67] ?_
        obtain ⟨d7,cH⟩:∃ y,(AT C E)[3]? = some y:=⟨_,AP (by have q1:DD C∧_:=‹_›; have q2:=BU q1.1 (by with_reducible assumption:¬ ((AT C E).length:Int)=0); have q3:=Al q1.1 (by with_reducible assumption:¬ ((AT C E).length:Int)=0); omega)⟩
        have nZ:=AX cH; have mK:=AQ cH
        obtain ⟨_,⟨qX,qY,qZ,q0,q5,q6,q7,q8,q9,ra,rc,rd,rfl,iq,ir,iu,iw⟩,eX⟩:=aa.elem 3 d7 cH
        have jh:=iq.len
        subst jh
        have n7:=iq.max
        have ji:=ir.len
        subst ji
        have n8:=ir.max
        have jj:=iu.len
        subst jj
        have n9:=iu.max
        have jk:=iw.len
        subst jk
        have oa:=iw.max
        refine .lh 68 0 eX id<|GA.eqI (i:=69) (a:=d7.kind) (b:=3) AA (fun jl=>?_) (fun jl=>?_)
        ·refine .r [70,71,72] ?_
         have eY:3< (AT C E).length:=(by have q1:DD C∧_:=‹_›; have q2:=BU q1.1 (by with_reducible assumption:¬ ((AT C E).length:Int)=0); have q3:=Al q1.1 (by with_reducible assumption:¬ ((AT C E).length:Int)=0); omega)
         refine GA.idx (i:=73) 3 (len:=(AT C E).length) (z:=3) (sz:=6) AA (by have q1:DD C∧_:=‹_›; have q2:=BU q1.1 (by with_reducible assumption:¬ ((AT C E).length:Int)=0); have q3:=Al q1.1 (by with_reducible assumption:¬ ((AT C E).length:Int)=0); omega) eY (aa.addr (Nat.zero_lt_of_lt eY))<|.r [74]<|.lh 75 1 eX id<|.r [76]<|.lb 77 O id<|.r [78]<|GA.int (i:=79) (E+1) AA (by have q1:DD C∧_:=‹_›; have q2:=BU q1.1 (by with_reducible assumption:¬ ((AT C E).length:Int)=0); have q3:=Al q1.1 (by with_reducible assumption:¬ ((AT C E).length:Int)=0); omega) ?_
         have eZ:(E+1).toNat< C.list.length:=(by have q1:DD C∧_:=‹_›; have q2:=BU q1.1 (by with_reducible assumption:¬ ((AT C E).length:Int)=0); have q3:=Al q1.1 (by with_reducible assumption:¬ ((AT C E).length:Int)=0); omega)
         refine GA.idx (i:=80) ((E+1).toNat) (len:=C.list.length) (z:=E+1) (sz:=1) AA (by have q1:DD C∧_:=‹_›; have q2:=BU q1.1 (by with_reducible assumption:¬ ((AT C E).length:Int)=0); have q3:=Al q1.1 (by with_reducible assumption:¬ ((AT C E).length:Int)=0); omega) eZ (ab.addr (Nat.zero_lt_of_lt eZ)) ?_
         obtain ⟨iy,cI⟩:∃ y,C.list[(E+1).toNat]? = some y:=⟨_,AP (by have q1:DD C∧_:=‹_›; have q2:=BU q1.1 (by with_reducible assumption:¬ ((AT C E).length:Int)=0); have q3:=Al q1.1 (by with_reducible assumption:¬ ((AT C E).length:Int)=0); omega)⟩
         have oc:=AX cI; have mL:=AQ cI
         obtain ⟨_,rfl,jm⟩:=ab.elem ((E+1).toNat) iy cI
         refine .lh 81 0 jm id<|.d fun re e7=>?_
         replace ⟨ab,O,aa,W,ag,ah,ai,aj,J⟩:=(se [bF,ay,ae,ao] e7).g9 ab O aa W ag ah ai aj J
         exact .r 3<|.d<|.rt Tryz.func6 Tryz.results6 (.bool (d7.num==iy)) ⟨(congrArg Value.bool (by have q1:DD C∧_:=‹_›; rw [SJ q1.1 (by with_reducible assumption:¬ ((AT C E).length:Int)=0) ‹_› ‹_›]; exact beq_self_eq_true _)),J⟩
        refine .r [70,71]<|GA.skip AA fun rf e8=>?_
        replace ⟨ab,O,aa,W,ag,ah,ai,aj,J⟩:=(se [bF,ay,ae,ao] e8).g9 ab O aa W ag ah ai aj J
        exact .r 3<|.d<|.rt Tryz.func6 Tryz.results6 (.bool false) ⟨(congrArg Value.bool (by exfalso; have q1:DD C∧_:=‹_›; have q2:=BU q1.1 (by with_reducible assumption:¬ ((AT C E).length:Int)=0); have q3:=Al q1.1 (by with_reducible assumption:¬ ((AT C E).length:Int)=0); (have q4:=UA q1.1 (by with_reducible assumption:¬ ((AT C E).length:Int)=0) ‹_›; omega))),J⟩
       refine .r [63,64,65,66,67,68,69,70,71]<|GA.skip AA fun rg fa=>?_
       replace ⟨ab,O,aa,W,ag,ah,ai,aj,J⟩:=(se [bF,ay,ae,ao] fa).g9 ab O aa W ag ah ai aj J
       exact .r 3<|.d<|.rt Tryz.func6 Tryz.results6 (.bool false) ⟨(congrArg Value.bool (by exfalso; have q1:DD C∧_:=‹_›; have q2:=BU q1.1 (by with_reducible assumption:¬ ((AT C E).length:Int)=0); have q3:=Al q1.1 (by with_reducible assumption:¬ ((AT C E).length:Int)=0); (have q4:=SI q1.1 (by with_reducible assumption:¬ ((AT C E).length:Int)=0) ‹_› ‹_›; omega))),J⟩
      refine .r [51,52,53,54,55,56,57,58,59,60,61,62,63,64,65,66,67,68,69,70,71]<|GA.skip AA fun rh fb=>?_
      replace ⟨ab,O,aa,W,ag,ah,ai,aj,J⟩:=(se [bF,ay,ae,ao] fb).g9 ab O aa W ag ah ai aj J
      exact .r 3<|.d<|.rt Tryz.func6 Tryz.results6 (.bool false) ⟨(congrArg Value.bool (by exfalso; have q1:DD C∧_:=‹_›; have q2:=BU q1.1 (by with_reducible assumption:¬ ((AT C E).length:Int)=0); have q3:=Al q1.1 (by with_reducible assumption:¬ ((AT C E).length:Int)=0); (have q4:=T9 q1.1 (by with_reducible assumption:¬ ((AT C E).length:Int)=0) ‹_›; omega))),J⟩
     refine .r [36,37,38,39,40,41,42,43,44,45,46,47,48,49,50,51,52,53,54,55,56,57,58,59,60,61,62,63,64,65,66,67,68,69,70,71]<|GA.skip AA fun rj fc=>?_
     replace ⟨ab,O,aa,W,ag,ah,ai,aj,J⟩:=(se [bF,ay,ae,ao] fc).g9 ab O aa W ag ah ai aj J
     exact .r 3<|.d<|.rt Tryz.func6 Tryz.results6 (.bool false) ⟨(congrArg Value.bool (by exfalso; have q1:DD C∧_:=‹_›; have q2:=BU q1.1 (by with_reducible assumption:¬ ((AT C E).length:Int)=0); have q3:=Al q1.1 (by with_reducible assumption:¬ ((AT C E).length:Int)=0); (have q4:=OG q1.1 (by with_reducible assumption:¬ ((AT C E).length:Int)=0) ‹_›; omega))),J⟩
    refine .r [21,22,23,24,25,26,27,28,29,30,31,32,33,34,35,36,37,38,39,40,41,42,43,44,45,46,47,48,49,50,51,52,53,54,55,56,57,58,59,60,61,62,63,64,65,66,67,68,69,70,71]<|GA.skip AA fun rk fd=>?_
    replace ⟨ab,O,aa,W,ag,ah,ai,aj,J⟩:=(se [bF,ay,ae,ao] fd).g9 ab O aa W ag ah ai aj J
    exact .r 3<|.d<|.rt Tryz.func6 Tryz.results6 (.bool false) ⟨(congrArg Value.bool (by exfalso; have q1:DD C∧_:=‹_›; have q2:=BU q1.1 (by with_reducible assumption:¬ ((AT C E).length:Int)=0); have q3:=Al q1.1 (by with_reducible assumption:¬ ((AT C E).length:Int)=0); (have q4:=ME q1.1 (by with_reducible assumption:¬ ((AT C E).length:Int)=0) ‹_›; omega))),J⟩
   refine .r [12,13,14,15,16,17,18,19,20,21,22,23,24,25,26,27,28,29,30,31,32,33,34,35,36,37,38,39,40,41,42,43,44,45,46,47,48,49,50,51,52,53,54,55,56,57,58,59,60,61,62,63,64,65,66,67,68,69,70,71]<|GA.skip AA fun rl fe=>?_
   replace ⟨ab,O,aa,W,ag,ah,ai,aj,J⟩:=(se [bF,ay,ae,ao] fe).g9 ab O aa W ag ah ai aj J
   exact .r 3<|.d<|.rt Tryz.func6 Tryz.results6 (.bool false) ⟨(congrArg Value.bool (by exfalso; have q1:DD C∧_:=‹_›; have q2:=BU q1.1 (by with_reducible assumption:¬ ((AT C E).length:Int)=0); have q3:=Al q1.1 (by with_reducible assumption:¬ ((AT C E).length:Int)=0); (have q4:=ME q1.1 (by with_reducible assumption:¬ ((AT C E).length:Int)=0) ‹_›; omega))),J⟩
  refine .r [5,6,7,8,9,10,11,12,13,14,15,16,17,18,19,20,21,22,23,24,25,26,27,28,29,30,31,32,33,34,35,36,37,38,39,40,41,42,43,44,45,46,47,48,49,50,51,52,53,54,55,56,57,58,59,60,61,62,63,64,65,66,67,68,69,70,71]<|GA.skip AA fun rm ff=>?_
  replace ⟨ab,O,aa,W,ag,ah,ai,aj,J⟩:=(se [bF,ay,ae,ao] ff).g9 ab O aa W ag ah ai aj J
  exact .r 3<|.d<|.rt Tryz.func6 Tryz.results6 (.bool false) ⟨(congrArg Value.bool (by exfalso; have q1:DD C∧_:=‹_›; have q2:=BU q1.1 (by with_reducible assumption:¬ ((AT C E).length:Int)=0); have q3:=Al q1.1 (by with_reducible assumption:¬ ((AT C E).length:Int)=0); omega)),J⟩
 refine .nw (fun b=>.pointer (some ⟨b,0,none⟩)) 42 [.slice none 0 0,.slice none 0 0] fun ro fg=>?_
 replace ⟨ab,O,aa,W,ag,ah,ai,aj,J,aG⟩:=(se [ae,ao] fg).g10 ab O aa W ag ah ai aj J aG
 intro az rp bz fh bA jn
 have od:=AS bz O.lt
 have oe:=AS bz W.lt
 have og:=J.cn bz
 have jo:=aG.cn bz
 replace ⟨ab,O,aa,W,ag,ah,ai,aj,J⟩:=(sn [ae,ao] fh bz).g9 ab O aa W ag ah ai aj J
 refine .go 11<|.cl (fun d8 bB=>DR aS aT (ag.ta.ext bB) (ah.ta.ext bB) (ai.ta.ext bB) (aj.ta.ext bB) (by have q1:DD C∧_:=‹_›; exact ((Eb q1.1 (SF (by with_reducible assumption:¬ ((AT C E).length:Int)=0))).part _ ‹_›).sz) (by have q1:DD C∧_:=‹_›; exact ((Eb q1.1 (SF (by with_reducible assumption:¬ ((AT C E).length:Int)=0))).part _ ‹_›).sz) (w:=d8) (F:=all)) ?_
 intro d8 bB
 replace ⟨ab,O,aa,W,bA,J⟩:=(se [az,ae,ao] bB).g6 ab O aa W bA J
 rintro rq rr ⟨⟨ru,rfl,⟨_,rfl,⟨iz,rx,iA,iB,ry,iC,rfl,ak,al⟩⟩⟩,cJ⟩
 have cK:=al3 bA.lt W.lt O.lt
 have fi:Gb w.heap.size d8.heap.size:=J.size
 have hkeep_:=cJ
 replace ⟨ab,O,aa,W,bA,J⟩:=(se [az,ae,ao] cJ).g6 ab O aa W bA J
 refine ⟨Ext.chg hkeep_,?_⟩
 have ak:=ak.fr cK fi
 replace ak:=ak.base (G':=fo F w.heap.size) (fun _ _ h=>.inr h)
 have oh:=ak.max
 have al:=al.fr cK fi
 replace al:=al.base (G':=fo F w.heap.size) (fun _ _ h=>.inr h)
 have ol:=al.max
 have jp:=ak.len
 subst jp
 have jq:=al.len
 subst jq
 have jr:((Bu aS aT).2)=true:=(by have q1:DD C∧_:=‹_›; exact V2 q1.1 (by with_reducible assumption:¬ ((AT C E).length:Int)=0) ‹_› ‹_›)
 rw [jr]
 refine .r [12,13,14]<|.go 16<|GE.CK (t':=42) (o:=0) (v:=.agg #[.slice iz ((((Bu aS aT).1).ids).length) iA,.slice iB ((((Bu aS aT).1).blocks).length) iC]) [.slice iz ((((Bu aS aT).1).ids).length) iA,.slice iB ((((Bu aS aT).1).blocks).length) iC] bA AA AA AA fun rz fj=>?_
 replace ⟨ab,O,aa,W,ak,al,J⟩:=(se [az,ae,ao] fj).g7 ab O aa W ak al J
 intro rA cL af js
 have hkeep_:=Chg.toS cL (Cov.toS jo)
 replace ⟨ab,O,aa,W,ak,al,J⟩:=(so [az,ae,ao] cL).g7 ab O aa W ak al J
 refine ⟨hkeep_,?_⟩
 refine .d fun bw fk=>?_
 replace ⟨ab,O,aa,W,af,ak,al,J⟩:=(se [az,ae,ao] fk).g8 ab O aa W af ak al J
 replace ab:=ab.AU
 replace aa:=aa.AU
 refine .r 1<|.d<|.s<|T.Du (X:=Nat × Nat × (Option Addr) × Nat) (mtb [] bw.heap.size) 15 (fun (bj,cM,cN,cO)=>[(3,.pointer (some ⟨ao,0,none⟩)),(4,vI E),(5,.slice m5 ((AT C E).length) m6),(7,.pointer (some ⟨az,0,none⟩)),(8,.bool true),(63,vS bj (0+((E).toNat - 0)+1) cM),(68,.slice cN (C.list.length - (E+2).toNat) cO)]) (fun (bj,cM,cN,cO) cP=>Ext bw cP∧bw.heap.size≤bj∧Own cP bj 3 (nin (fo F w.heap.size) [bj,az,ae,ao]) (0+((E).toNat - 0)+1) cM ((([]++((C.list.take ((E).toNat)).drop 0))++[C.next]):List Int)∧RepS cP (nin (fo F w.heap.size) [bj,az,ae,ao]) cN (C.list.length - (E+2).toNat) cO (((C.list.take C.list.length).drop ((E+2).toNat)):List Int)) AA (fun mt b8=>?_) ?_
 ·replace ab:=ab.Ah
  replace aa:=aa.Ah
  replace ak:=ak.Ah
  replace al:=al.Ah
  have cQ:Gb (ao+1) bw.heap.size:=O.lt
  replace ⟨ab,O,aa,W,af,ak,al,J⟩:=(se [az,ae,ao] b8).g8 ab O aa W af ak al J
  have am:=b8
  have ax:Chg (mtb [] bw.heap.size) bw mt:=Chg.Cc (Chg.refl (mtb [] bw.heap.size) bw) b8
  refine .r [1]<|.lb 2 O (Ax all_nil cQ)<|.r [3]<|GA.sub (i:=4) (t:=24) (lo:=none) (hi:=some (vI E)) AA ab 0 ((E).toNat) AA AA (.inl ⟨rfl,rfl⟩) (.inr ⟨_,_,rfl,by have q1:DD C∧_:=‹_›; have q2:=BU q1.1 (by with_reducible assumption:¬ ((AT C E).length:Int)=0); have q3:=Al q1.1 (by with_reducible assumption:¬ ((AT C E).length:Int)=0); omega⟩) (by have q1:DD C∧_:=‹_›; have q2:=BU q1.1 (by with_reducible assumption:¬ ((AT C E).length:Int)=0); have q3:=Al q1.1 (by with_reducible assumption:¬ ((AT C E).length:Int)=0); omega) (by have q1:DD C∧_:=‹_›; have q2:=BU q1.1 (by with_reducible assumption:¬ ((AT C E).length:Int)=0); have q3:=Al q1.1 (by with_reducible assumption:¬ ((AT C E).length:Int)=0); omega) fun d9 ec aA=>?_
  have om:=aA.len; have oo:=aA.max
  refine .r [6]<|.lb 7 O (Ax all_nil cQ)<|.r [10]<|.lb 11 O (Ax all_nil cQ)<|.r [12]<|GA.int (i:=13) (E+2) AA (by have q1:DD C∧_:=‹_›; have q2:=BU q1.1 (by with_reducible assumption:¬ ((AT C E).length:Int)=0); have q3:=Al q1.1 (by with_reducible assumption:¬ ((AT C E).length:Int)=0); omega)<|GA.sub (i:=14) (t:=24) (lo:=some (vI (E+2))) (hi:=none) AA ab ((E+2).toNat) C.list.length AA AA (.inr ⟨_,_,rfl,by have q1:DD C∧_:=‹_›; have q2:=BU q1.1 (by with_reducible assumption:¬ ((AT C E).length:Int)=0); have q3:=Al q1.1 (by with_reducible assumption:¬ ((AT C E).length:Int)=0); omega⟩) (.inl ⟨rfl,rfl⟩) (by have q1:DD C∧_:=‹_›; have q2:=BU q1.1 (by with_reducible assumption:¬ ((AT C E).length:Int)=0); have q3:=Al q1.1 (by with_reducible assumption:¬ ((AT C E).length:Int)=0); omega) (by have q1:DD C∧_:=‹_›; have q2:=BU q1.1 (by with_reducible assumption:¬ ((AT C E).length:Int)=0); have q3:=Al q1.1 (by with_reducible assumption:¬ ((AT C E).length:Int)=0); omega) fun ed ee aw=>?_
  have oq:=aw.len; have ou:=aw.max
  refine .tw 0 8 ?_ ?_
  ·refine .ns 0 3 [] fun rB fm=>?_
   replace ⟨ab,O,aa,W,af,ak,al,aA,aw,J,am,ax⟩:=(se [az,ae,ao] fm).g12 ab O aa W af ak al aA aw J am ax
   intro aH mu bd fp jt ju
   have fq:=AS bd O.lt
   have ft:=AS bd W.lt
   have fu:=AS bd af.lt
   have fv:=J.cn bd
   have fw:=am.cn bd
   have b9:=ax.cn bd
   replace ⟨ab,O,aa,W,af,ak,al,aA,aw,J,am,ax⟩:=(sn [az,ae,ao] fp bd).g12 ab O aa W af ak al aA aw J am ax
   have aM:Own (α:=Int) mu aH 3 (nin (fo F w.heap.size) [aH,az,ae,ao]) 0 0 []:=Own.Ag jt
   refine .tw 5 8 ?_ ?_
   ·refine GE.append (T:=24) (ty:=24) (args:=[vS aH 0 0,.slice d9 ((E).toNat - 0) ec]) AA fun rC cR=>?_
    replace ⟨ab,O,aa,W,af,ak,al,aA,aw,aM,J,am⟩:=(se [aH,az,ae,ao] cR).g12 ab O aa W af ak al aA aw aM J am
    replace ax:=(se [aH,az,ae,ao] cR).g1 ax
    obtain ⟨aZ,mw,rD,gk,aL,aU,cS,jv⟩:=Own.Ay (P:=Tryz.prog) (T:=24) (ty:=24) BF aM AA aA (fun b h e=>h.2 (e▸AD)) (by have q1:DD C∧_:=‹_›; have q2:=BU q1.1 (by with_reducible assumption:¬ ((AT C E).length:Int)=0); have q3:=Al q1.1 (by with_reducible assumption:¬ ((AT C E).length:Int)=0); omega)
    refine ⟨_,_,gk,Chg.toS cS (Cov.toS b9),?_⟩
    have ov:=Ae aU fq O.lt
    have ow:=Ae aU ft W.lt
    have oz:=Ae aU fu af.lt
    have oA:=Am aU fv J.size
    have jw:=Am aU fw am.size
    have jx:=Am aU b9 ax.size
    replace ⟨ab,O,aa,W,af,ak,al,aA,aw,J,am,ax⟩:=(sa [aH,az,ae,ao] cS aU).g12 ab O aa W af ak al aA aw J am ax
    replace aL:=aL.rn aH
    have oB:=aL.len; have oC:=aL.max
    refine .go 8<|.ns 1 3 [vI C.next] fun rE cT=>?_
    replace ⟨ab,O,aa,W,af,ak,al,aA,aw,aL,J,am⟩:=(se [aZ,az,ae,ao] cT).g12 ab O aa W af ak al aA aw aL J am
    replace ax:=(se [aZ,az,ae,ao] cT).g1 ax
    intro ef rF bC cU cV jy
    have jz:=AS bC O.lt
    have jA:=AS bC W.lt
    have jB:=AS bC af.lt
    have fz:=AS bC aL.lt
    have jC:=Ad bC J.size
    replace ⟨ab,O,aa,W,af,ak,al,aA,aw,aL,J,am⟩:=(se [aZ,az,ae,ao] cU).g12 ab O aa W af ak al aA aw aL J am
    replace ax:=(se [aZ,az,ae,ao] cU).g1 ax
    refine .go 9<|GE.append (T:=24) (ty:=24) (args:=[vS aZ (0+((E).toNat - 0)) mw,vS ef 1 1]) AA fun rG cW=>?_
    replace ⟨ab,O,aa,W,af,ak,al,aA,aw,aL,cV,J⟩:=(se [aZ,az,ae,ao] cW).g12 ab O aa W af ak al aA aw aL cV J
    replace ⟨am,ax⟩:=(se [aZ,az,ae,ao] cW).g2 am ax
    have eg:nin (fo F w.heap.size) [aZ,az,ae,ao] ef∧ef≠aZ:=BG (.inr jC) (all_cons fz (all_cons jB (all_cons jA (all_cons jz all_nil)))) fz
    obtain ⟨eh,mz,rH,gl,bm,cj,cX,jD⟩:=aL.Ap (P:=Tryz.prog) (T:=24) (ty:=24) (y:=C.next) AA cV rfl eg (by have q1:DD C∧_:=‹_›; have q2:=BU q1.1 (by with_reducible assumption:¬ ((AT C E).length:Int)=0); have q3:=Al q1.1 (by with_reducible assumption:¬ ((AT C E).length:Int)=0); omega)
    refine ⟨_,_,gl,Chg.toS cX (Cov.toS jx),?_⟩
    have jE:=Am cj jw am.size
    replace ⟨ab,O,aa,W,af,ak,al,aA,aw,J,am,ax⟩:=(sa [aZ,az,ae,ao] cX cj).g12 ab O aa W af ak al aA aw J am ax
    replace bm:=bm.rn aZ
    have oD:=bm.len; have oE:=bm.max
    refine .d fun rI cY=>?_
    replace ⟨ab,O,aa,W,af,ak,al,aA,aw,bm,J,am⟩:=(se [eh,az,ae,ao] cY).g12 ab O aa W af ak al aA aw bm J am
    replace ax:=(se [eh,az,ae,ao] cY).g1 ax
    replace ab:=ab.AU
    replace aa:=aa.AU
    replace ak:=ak.AU
    replace al:=al.AU
    replace aA:=aA.AU
    replace aw:=aw.AU
    exact ⟨(eh,mz,ed,ee),⟨AA,AA,AA,AA,AA,AA,AA,trivial⟩,⟨am,(Ac jE),bm,aw⟩⟩
   refine .ns 1 3 [vI C.next] fun rJ cZ=>?_
   replace ⟨ab,O,aa,W,af,ak,al,aA,aw,aM,J,am⟩:=(se [aH,az,ae,ao] cZ).g12 ab O aa W af ak al aA aw aM J am
   replace ax:=(se [aH,az,ae,ao] cZ).g1 ax
   intro ej rK bD c7 bg jF
   have jG:=AS bD O.lt
   have jH:=AS bD W.lt
   have jI:=AS bD af.lt
   have jJ:=AS bD aM.lt
   have jK:=Ad bD J.size
   replace ⟨ab,O,aa,W,af,ak,al,aA,aw,aM,J,am⟩:=(se [aH,az,ae,ao] c7).g12 ab O aa W af ak al aA aw aM J am
   replace ax:=(se [aH,az,ae,ao] c7).g1 ax
   refine .go 5<|GE.append (T:=24) (ty:=24) (args:=[vS aH 0 0,.slice d9 ((E).toNat - 0) ec]) AA fun rL c8=>?_
   replace ⟨ab,O,aa,W,af,ak,al,aA,aw,aM,bg,J⟩:=(se [aH,az,ae,ao] c8).g12 ab O aa W af ak al aA aw aM bg J
   replace ⟨am,ax⟩:=(se [aH,az,ae,ao] c8).g2 am ax
   obtain ⟨bM,mA,rM,gm,bn,aK,cd,jL⟩:=Own.Ay (P:=Tryz.prog) (T:=24) (ty:=24) BF aM AA aA (fun b h e=>h.2 (e▸AD)) (by have q1:DD C∧_:=‹_›; have q2:=BU q1.1 (by with_reducible assumption:¬ ((AT C E).length:Int)=0); have q3:=Al q1.1 (by with_reducible assumption:¬ ((AT C E).length:Int)=0); omega)
   refine ⟨_,_,gm,Chg.toS cd (Cov.toS b9),?_⟩
   have oF:=Ae aK fq O.lt
   have oG:=Ae aK ft W.lt
   have oH:=Ae aK fu af.lt
   have fA:=Ae aK (Nb.symm jJ) bg.lt
   have oI:=Am aK fv J.size
   have jM:=Am aK fw am.size
   have jN:=Am aK b9 ax.size
   replace ⟨ab,O,aa,W,af,ak,al,aA,aw,bg,J,am⟩:=(sa [aH,az,ae,ao] cd aK).g12 ab O aa W af ak al aA aw bg J am
   replace ax:=(sa [aH,az,ae,ao] cd aK).g1 ax
   replace bn:=bn.rn aH
   have oJ:=bn.len; have oK:=bn.max
   refine .go 9<|GE.append (T:=24) (ty:=24) (args:=[vS bM (0+((E).toNat - 0)) mA,vS ej 1 1]) AA fun rN c9=>?_
   replace ⟨ab,O,aa,W,af,ak,al,aA,aw,bn,bg,J⟩:=(se [bM,az,ae,ao] c9).g12 ab O aa W af ak al aA aw bn bg J
   replace ⟨am,ax⟩:=(se [bM,az,ae,ao] c9).g2 am ax
   have ek:nin (fo F w.heap.size) [bM,az,ae,ao] ej∧ej≠bM:=BG (.inr jK) (all_cons (Nb.symm fA) (all_cons jI (all_cons jH (all_cons jG all_nil)))) (Nb.symm fA)
   obtain ⟨en,mB,rO,gn,bo,ck,da,jO⟩:=bn.Ap (P:=Tryz.prog) (T:=24) (ty:=24) (y:=C.next) AA bg rfl ek (by have q1:DD C∧_:=‹_›; have q2:=BU q1.1 (by with_reducible assumption:¬ ((AT C E).length:Int)=0); have q3:=Al q1.1 (by with_reducible assumption:¬ ((AT C E).length:Int)=0); omega)
   refine ⟨_,_,gn,Chg.toS da (Cov.toS jN),?_⟩
   have jP:=Am ck jM am.size
   replace ⟨ab,O,aa,W,af,ak,al,aA,aw,J,am,ax⟩:=(sa [bM,az,ae,ao] da ck).g12 ab O aa W af ak al aA aw J am ax
   replace bo:=bo.rn bM
   have oL:=bo.len; have oM:=bo.max
   refine .d fun rP db=>?_
   replace ⟨ab,O,aa,W,af,ak,al,aA,aw,bo,J,am⟩:=(se [en,az,ae,ao] db).g12 ab O aa W af ak al aA aw bo J am
   replace ax:=(se [en,az,ae,ao] db).g1 ax
   replace ab:=ab.AU
   replace aa:=aa.AU
   replace ak:=ak.AU
   replace al:=al.AU
   replace aA:=aA.AU
   replace aw:=aw.AU
   exact ⟨(en,mB,ed,ee),⟨AA,AA,AA,AA,AA,AA,AA,trivial⟩,⟨am,(Ac jP),bo,aw⟩⟩
  refine .ns 1 3 [vI C.next] fun rQ fB=>?_
  replace ⟨ab,O,aa,W,af,ak,al,aA,aw,J,am,ax⟩:=(se [az,ae,ao] fB).g12 ab O aa W af ak al aA aw J am ax
  intro et rR bO fC aJ jQ
  have jR:=AS bO O.lt
  have jS:=AS bO W.lt
  have jT:=AS bO af.lt
  have jU:=Ad bO J.size
  replace ⟨ab,O,aa,af,ak,al,aA,aw,J,am,ax⟩:=(se [az,ae,ao] fC).g11 ab O aa af ak al aA aw J am ax
  refine .go 0<|.ns 0 3 [] fun rS fD=>?_
  replace ⟨ab,O,aa,af,ak,al,aA,aw,aJ,J,am,ax⟩:=(se [az,ae,ao] fD).g12 ab O aa af ak al aA aw aJ J am ax
  intro bN mC bh fE jV jW
  have jX:=AS bh O.lt
  have jY:=AS bh af.lt
  have jZ:=AS bh aJ.lt
  have j0:=J.cn bh
  have j1:=am.cn bh
  have fF:=ax.cn bh
  replace ⟨ab,O,aa,af,ak,al,aA,aw,aJ,J,am,ax⟩:=(sn [az,ae,ao] fE bh).g12 ab O aa af ak al aA aw aJ J am ax
  have de:Own (α:=Int) mC bN 3 (nin (fo F w.heap.size) [bN,az,ae,ao]) 0 0 []:=Own.Ag jV
  refine .go 5<|GE.append (T:=24) (ty:=24) (args:=[vS bN 0 0,.slice d9 ((E).toNat - 0) ec]) AA fun rT df=>?_
  replace ⟨ab,O,aa,af,ak,al,aA,aw,aJ,de,J,am⟩:=(se [bN,az,ae,ao] df).g12 ab O aa af ak al aA aw aJ de J am
  replace ax:=(se [bN,az,ae,ao] df).g1 ax
  obtain ⟨bV,mD,rU,gp,bq,aV,dg,j2⟩:=Own.Ay (P:=Tryz.prog) (T:=24) (ty:=24) BF de AA aA (fun b h e=>h.2 (e▸AD)) (by have q1:DD C∧_:=‹_›; have q2:=BU q1.1 (by with_reducible assumption:¬ ((AT C E).length:Int)=0); have q3:=Al q1.1 (by with_reducible assumption:¬ ((AT C E).length:Int)=0); omega)
  refine ⟨_,_,gp,Chg.toS dg (Cov.toS fF),?_⟩
  have oN:=Ae aV jX O.lt
  have oO:=Ae aV jY af.lt
  have fG:=Ae aV jZ aJ.lt
  have oP:=Am aV j0 J.size
  have j3:=Am aV j1 am.size
  have j4:=Am aV fF ax.size
  replace ⟨ab,O,aa,af,ak,al,aw,aJ,J,am⟩:=(sa [bN,az,ae,ao] dg aV).g10 ab O aa af ak al aw aJ J am
  replace bq:=bq.rn bN
  have oQ:=bq.len; have oR:=bq.max
  refine .go 9<|GE.append (T:=24) (ty:=24) (args:=[vS bV (0+((E).toNat - 0)) mD,vS et 1 1]) AA fun rV fH=>?_
  replace ⟨ab,O,aa,af,ak,al,aw,aJ,bq,J,am⟩:=(se [bV,az,ae,ao] fH).g11 ab O aa af ak al aw aJ bq J am
  have ey:nin (fo F w.heap.size) [bV,az,ae,ao] et∧et≠bV:=BG (.inr jU) (all_cons (Nb.symm fG) (all_cons jT (all_cons jS (all_cons jR all_nil)))) (Nb.symm fG)
  obtain ⟨iD,mE,rW,gq,br,cm,dh,j5⟩:=bq.Ap (P:=Tryz.prog) (T:=24) (ty:=24) (y:=C.next) AA aJ rfl ey (by have q1:DD C∧_:=‹_›; have q2:=BU q1.1 (by with_reducible assumption:¬ ((AT C E).length:Int)=0); have q3:=Al q1.1 (by with_reducible assumption:¬ ((AT C E).length:Int)=0); omega)
  refine ⟨_,_,gq,Chg.toS dh (Cov.toS j4),?_⟩
  have j6:=Am cm j3 am.size
  replace ⟨ab,O,aa,af,ak,al,aw,J,am⟩:=(sa [bV,az,ae,ao] dh cm).g9 ab O aa af ak al aw J am
  replace br:=br.rn bV
  have oS:=br.len; have oT:=br.max
  refine .d fun rX fI=>?_
  replace ⟨ab,O,aa,af,ak,al,aw,br,J,am⟩:=(se [iD,az,ae,ao] fI).g10 ab O aa af ak al aw br J am
  replace ab:=ab.AU
  replace aa:=aa.AU
  replace ak:=ak.AU
  replace al:=al.AU
  replace aw:=aw.AU
  exact ⟨(iD,mE,ed,ee),⟨AA,AA,AA,AA,AA,AA,AA,trivial⟩,⟨am,(Ac j6),br,aw⟩⟩
 rintro ⟨bj,cM,cN,cO⟩ rY cP ⟨fJ,bP,ez,eA⟩
 have oU:=Ab bP O.lt
 have oV:=Ab bP af.lt
 have oW:Cov nil w bj:=BR bP J.size
 replace ⟨ab,O,aa,af,ak,al,J⟩:=(sz [az,ae,ao] fJ bP).g7 ab O aa af ak al J
 have oX:=ez.len; have oY:=ez.max
 have oZ:=eA.len; have o0:=eA.max
 refine RG.Ay (T:=24) (ty:=24) BF ez eA AA AA (fun b h e=>h.2 (e▸AD)) (by have q1:DD C∧_:=‹_›; have q2:=BU q1.1 (by with_reducible assumption:¬ ((AT C E).length:Int)=0); have q3:=Al q1.1 (by with_reducible assumption:¬ ((AT C E).length:Int)=0); omega) fun mF rZ r5 bt dx fK=>?_
 replace ⟨ab,O,aa,af,ak,al,J⟩:=(sa [bj,az,ae,ao] fK dx).g7 ab O aa af ak al J
 replace bt:=bt.rn bj
 have o5:=bt.len; have o6:=bt.max
 refine .r 1<|.d<|.s<|.gd nil 82 fun r6 fL=>?_
 replace ⟨ab,O,aa,af,ak,al,bt,J⟩:=(se [mF,az,ae,ao] fL).g8 ab O aa af ak al bt J
 refine .r [0,1,2,3]<|GA.eqI (i:=4) (a:=(((AT C E).length):Int)) (b:=4) AA (fun j7=>?_) (fun j7=>?_)
 ·refine .r [5,6,7] ?_
  have fM:0< (AT C E).length:=(by have q1:DD C∧_:=‹_›; have q2:=BU q1.1 (by with_reducible assumption:¬ ((AT C E).length:Int)=0); have q3:=Al q1.1 (by with_reducible assumption:¬ ((AT C E).length:Int)=0); omega)
  refine GA.idx (i:=8) 0 (len:=(AT C E).length) (z:=0) (sz:=6) AA (by have q1:DD C∧_:=‹_›; have q2:=BU q1.1 (by with_reducible assumption:¬ ((AT C E).length:Int)=0); have q3:=Al q1.1 (by with_reducible assumption:¬ ((AT C E).length:Int)=0); omega) fM (aa.addr (Nat.zero_lt_of_lt fM))<|.r [9] ?_
  obtain ⟨co,dj⟩:∃ y,(AT C E)[0]? = some y:=⟨_,AP (by have q1:DD C∧_:=‹_›; have q2:=BU q1.1 (by with_reducible assumption:¬ ((AT C E).length:Int)=0); have q3:=Al q1.1 (by with_reducible assumption:¬ ((AT C E).length:Int)=0); omega)⟩
  have o7:=AX dj; have mM:=AQ dj
  obtain ⟨_,⟨r7,r8,r9,sf,sh,sj,sm,sq,sr,su,sv,sw,rfl,eB,eC,iE,iF⟩,dm⟩:=aa.elem 0 co dj
  have j8:=eB.len
  subst j8
  have o8:=eB.max
  have j9:=eC.len
  subst j9
  have o9:=eC.max
  have ka:=iE.len
  subst ka
  have pa:=iE.max
  have kb:=iF.len
  subst kb
  have pb:=iF.max
  refine .lh 10 0 dm id<|GA.eqI (i:=11) (a:=co.kind) (b:=1) AA (fun kd=>?_) (fun kd=>?_)
  ·refine .r [12,13,14] ?_
   have fN:0< (AT C E).length:=(by have q1:DD C∧_:=‹_›; have q2:=BU q1.1 (by with_reducible assumption:¬ ((AT C E).length:Int)=0); have q3:=Al q1.1 (by with_reducible assumption:¬ ((AT C E).length:Int)=0); omega)
   refine GA.idx (i:=15) 0 (len:=(AT C E).length) (z:=0) (sz:=6) AA (by have q1:DD C∧_:=‹_›; have q2:=BU q1.1 (by with_reducible assumption:¬ ((AT C E).length:Int)=0); have q3:=Al q1.1 (by with_reducible assumption:¬ ((AT C E).length:Int)=0); omega) fN (aa.addr (Nat.zero_lt_of_lt fN))<|.r [16]<|.lh 17 1 dm id<|.r [18]<|.lb 19 O id<|GA.eqI (i:=20) (a:=co.num) (b:=C.next) AA (fun ke=>?_) (fun ke=>?_)
   ·refine .r [21,22,23] ?_
    have fO:0< (AT C E).length:=(by have q1:DD C∧_:=‹_›; have q2:=BU q1.1 (by with_reducible assumption:¬ ((AT C E).length:Int)=0); have q3:=Al q1.1 (by with_reducible assumption:¬ ((AT C E).length:Int)=0); omega)
    refine GA.idx (i:=24) 0 (len:=(AT C E).length) (z:=0) (sz:=6) AA (by have q1:DD C∧_:=‹_›; have q2:=BU q1.1 (by with_reducible assumption:¬ ((AT C E).length:Int)=0); have q3:=Al q1.1 (by with_reducible assumption:¬ ((AT C E).length:Int)=0); omega) fO (aa.addr (Nat.zero_lt_of_lt fO))<|.r [25]<|.lg 26 2 dm id<|.ln 27 af id<|GA.Bz (i:=28) AA (fun mG ce=>DW (co.part) ((Bu aS aT).1) (eB.ta.ext ce) (eC.ta.ext ce) (ak.ta.ext ce) (al.ta.ext ce) (w:=mG) (F:=all)) ?_
    have kf:((co.part)==((Bu aS aT).1))=true:=(by have q1:DD C∧_:=‹_›; exact V3 q1.1 (by with_reducible assumption:¬ ((AT C E).length:Int)=0) ‹_› ‹_› ‹_›)
    rw [kf]
    refine .r [29,30,31] ?_
    have fP:1< (AT C E).length:=(by have q1:DD C∧_:=‹_›; have q2:=BU q1.1 (by with_reducible assumption:¬ ((AT C E).length:Int)=0); have q3:=Al q1.1 (by with_reducible assumption:¬ ((AT C E).length:Int)=0); omega)
    refine GA.idx (i:=32) 1 (len:=(AT C E).length) (z:=1) (sz:=6) AA (by have q1:DD C∧_:=‹_›; have q2:=BU q1.1 (by with_reducible assumption:¬ ((AT C E).length:Int)=0); have q3:=Al q1.1 (by with_reducible assumption:¬ ((AT C E).length:Int)=0); omega) fP (aa.addr (Nat.zero_lt_of_lt fP))<|.r [33] ?_
    obtain ⟨dp,dq⟩:∃ y,(AT C E)[1]? = some y:=⟨_,AP (by have q1:DD C∧_:=‹_›; have q2:=BU q1.1 (by with_reducible assumption:¬ ((AT C E).length:Int)=0); have q3:=Al q1.1 (by with_reducible assumption:¬ ((AT C E).length:Int)=0); omega)⟩
    have pc:=AX dq; have mN:=AQ dq
    obtain ⟨_,⟨sx,sy,sA,sB,sC,sD,sE,sF,sG,sH,sI,sJ,rfl,iG,iH,eD,iI⟩,fQ⟩:=aa.elem 1 dp dq
    have kg:=iG.len
    subst kg
    have pd:=iG.max
    have kh:=iH.len
    subst kh
    have pe:=iH.max
    have ki:=eD.len
    subst ki
    have pf:=eD.max
    have kj:=iI.len
    subst kj
    have pg:=iI.max
    refine .lh 34 0 fQ id<|GA.eqI (i:=35) (a:=dp.kind) (b:=2) AA (fun kk=>?_) (fun kk=>?_)
    ·refine .r [36,37,38] ?_
     have fR:1< (AT C E).length:=(by have q1:DD C∧_:=‹_›; have q2:=BU q1.1 (by with_reducible assumption:¬ ((AT C E).length:Int)=0); have q3:=Al q1.1 (by with_reducible assumption:¬ ((AT C E).length:Int)=0); omega)
     refine GA.idx (i:=39) 1 (len:=(AT C E).length) (z:=1) (sz:=6) AA (by have q1:DD C∧_:=‹_›; have q2:=BU q1.1 (by with_reducible assumption:¬ ((AT C E).length:Int)=0); have q3:=Al q1.1 (by with_reducible assumption:¬ ((AT C E).length:Int)=0); omega) fR (aa.addr (Nat.zero_lt_of_lt fR))<|.r [40]<|.lh 41 4 fQ id<|.r [42]<|GA.Bz (i:=43) AA (fun mH fS=>C6 dp.list ((([]++((C.list.take ((E).toNat)).drop 0))++[C.next])++((C.list.take C.list.length).drop ((E+2).toNat))) (eD.ta.ext fS) ((bt.rep).ext fS) (w:=mH) (F:=all)) ?_
     have kl:(dp.list==((([]++((C.list.take ((E).toNat)).drop 0))++[C.next])++((C.list.take C.list.length).drop ((E+2).toNat))))=true:=(by have q1:DD C∧_:=‹_›; exact T8 q1.1 (by with_reducible assumption:¬ ((AT C E).length:Int)=0) ‹_›)
     rw [kl]
     refine .r [44,45,46] ?_
     have fT:2< (AT C E).length:=(by have q1:DD C∧_:=‹_›; have q2:=BU q1.1 (by with_reducible assumption:¬ ((AT C E).length:Int)=0); have q3:=Al q1.1 (by with_reducible assumption:¬ ((AT C E).length:Int)=0); omega)
     refine GA.idx (i:=47) 2 (len:=(AT C E).length) (z:=2) (sz:=6) AA (by have q1:DD C∧_:=‹_›; have q2:=BU q1.1 (by with_reducible assumption:¬ ((AT C E).length:Int)=0); have q3:=Al q1.1 (by with_reducible assumption:¬ ((AT C E).length:Int)=0); omega) fT (aa.addr (Nat.zero_lt_of_lt fT))<|.r [48] ?_
     obtain ⟨eE,dr⟩:∃ y,(AT C E)[2]? = some y:=⟨_,AP (by have q1:DD C∧_:=‹_›; have q2:=BU q1.1 (by with_reducible assumption:¬ ((AT C E).length:Int)=0); have q3:=Al q1.1 (by with_reducible assumption:¬ ((AT C E).length:Int)=0); omega)⟩
     have ph:=AX dr; have mO:=AQ dr
     obtain ⟨_,⟨sK,sL,sM,sN,sO,sP,sQ,sR,sS,sT,sU,sV,rfl,iJ,iK,iL,iM⟩,fU⟩:=aa.elem 2 eE dr
     have km:=iJ.len
     subst km
     have pi:=iJ.max
     have ko:=iK.len
     subst ko
     have pj:=iK.max
     have kr:=iL.len
     subst kr
     have pk:=iL.max
     have ks:=iM.len
     subst ks
     have pl:=iM.max
     refine .lh 49 0 fU id<|GA.eqI (i:=50) (a:=eE.kind) (b:=3) AA (fun kt=>?_) (fun kt=>?_)
     ·refine .r [51,52,53] ?_
      have fV:2< (AT C E).length:=(by have q1:DD C∧_:=‹_›; have q2:=BU q1.1 (by with_reducible assumption:¬ ((AT C E).length:Int)=0); have q3:=Al q1.1 (by with_reducible assumption:¬ ((AT C E).length:Int)=0); omega)
      refine GA.idx (i:=54) 2 (len:=(AT C E).length) (z:=2) (sz:=6) AA (by have q1:DD C∧_:=‹_›; have q2:=BU q1.1 (by with_reducible assumption:¬ ((AT C E).length:Int)=0); have q3:=Al q1.1 (by with_reducible assumption:¬ ((AT C E).length:Int)=0); omega) fV (aa.addr (Nat.zero_lt_of_lt fV))<|.r [55]<|.lh 56 1 fU id<|.r [57]<|.lb 58 O id<|.r [59] ?_
      have fW:(E).toNat< C.list.length:=(by have q1:DD C∧_:=‹_›; have q2:=BU q1.1 (by with_reducible assumption:¬ ((AT C E).length:Int)=0); have q3:=Al q1.1 (by with_reducible assumption:¬ ((AT C E).length:Int)=0); omega)
      refine GA.idx (i:=60) ((E).toNat) (len:=C.list.length) (z:=E) (sz:=1) AA (by have q1:DD C∧_:=‹_›; have q2:=BU q1.1 (by with_reducible assumption:¬ ((AT C E).length:Int)=0); have q3:=Al q1.1 (by with_reducible assumption:¬ ((AT C E).length:Int)=0); omega) fW (ab.addr (Nat.zero_lt_of_lt fW)) ?_
      obtain ⟨iN,dt⟩:∃ y,C.list[(E).toNat]? = some y:=⟨_,AP (by have q1:DD C∧_:=‹_›; have q2:=BU q1.1 (by with_reducible assumption:¬ ((AT C E).length:Int)=0); have q3:=Al q1.1 (by with_reducible assumption:¬ ((AT C E).length:Int)=0); omega)⟩
      have pm:=AX dt; have mP:=AQ dt
      obtain ⟨_,rfl,ku⟩:=ab.elem ((E).toNat) iN dt
      refine .lh 61 0 ku id<|GA.eqI (i:=62) (a:=eE.num) (b:=iN) AA (fun kv=>?_) (fun kv=>?_)
      ·refine .r [63,64,65] ?_
       have fX:3< (AT C E).length:=(by have q1:DD C∧_:=‹_›; have q2:=BU q1.1 (by with_reducible assumption:¬ ((AT C E).length:Int)=0); have q3:=Al q1.1 (by with_reducible assumption:¬ ((AT C E).length:Int)=0); omega)
       refine GA.idx (i:=66) 3 (len:=(AT C E).length) (z:=3) (sz:=6) AA (by have q1:DD C∧_:=‹_›; have q2:=BU q1.1 (by with_reducible assumption:¬ ((AT C E).length:Int)=0); have q3:=Al q1.1 (by with_reducible assumption:¬ ((AT C E).length:Int)=0); omega) fX (aa.addr (Nat.zero_lt_of_lt fX))<|.r [67] ?_
       obtain ⟨eF,du⟩:∃ y,(AT C E)[3]? = some y:=⟨_,AP (by have q1:DD C∧_:=‹_›; have q2:=BU q1.1 (by with_reducible assumption:¬ ((AT C E).length:Int)=0); have q3:=Al q1.1 (by with_reducible assumption:¬ ((AT C E).length:Int)=0); omega)⟩
       have pn:=AX du; have mQ:=AQ du
       obtain ⟨_,⟨sW,sX,sY,sZ,s2,s3,s4,s5,s6,s7,s8,s9,rfl,iO,iP,iQ,iR⟩,fY⟩:=aa.elem 3 eF du
       have kw:=iO.len
       subst kw
       have po:=iO.max
       have kx:=iP.len
       subst kx
       have pp:=iP.max
       have ky:=iQ.len
       subst ky
       have pq:=iQ.max
       have kz:=iR.len
       subst kz
       have pr:=iR.max
       refine .lh 68 0 fY id<|GA.eqI (i:=69) (a:=eF.kind) (b:=3) AA (fun kA=>?_) (fun kA=>?_)
       ·refine .r [70,71,72] ?_
        have fZ:3< (AT C E).length:=(by have q1:DD C∧_:=‹_›; have q2:=BU q1.1 (by with_reducible assumption:¬ ((AT C E).length:Int)=0); have q3:=Al q1.1 (by with_reducible assumption:¬ ((AT C E).length:Int)=0); omega)
        refine GA.idx (i:=73) 3 (len:=(AT C E).length) (z:=3) (sz:=6) AA (by have q1:DD C∧_:=‹_›; have q2:=BU q1.1 (by with_reducible assumption:¬ ((AT C E).length:Int)=0); have q3:=Al q1.1 (by with_reducible assumption:¬ ((AT C E).length:Int)=0); omega) fZ (aa.addr (Nat.zero_lt_of_lt fZ))<|.r [74]<|.lh 75 1 fY id<|.r [76]<|.lb 77 O id<|.r [78]<|GA.int (i:=79) (E+1) AA (by have q1:DD C∧_:=‹_›; have q2:=BU q1.1 (by with_reducible assumption:¬ ((AT C E).length:Int)=0); have q3:=Al q1.1 (by with_reducible assumption:¬ ((AT C E).length:Int)=0); omega) ?_
        have f0:(E+1).toNat< C.list.length:=(by have q1:DD C∧_:=‹_›; have q2:=BU q1.1 (by with_reducible assumption:¬ ((AT C E).length:Int)=0); have q3:=Al q1.1 (by with_reducible assumption:¬ ((AT C E).length:Int)=0); omega)
        refine GA.idx (i:=80) ((E+1).toNat) (len:=C.list.length) (z:=E+1) (sz:=1) AA (by have q1:DD C∧_:=‹_›; have q2:=BU q1.1 (by with_reducible assumption:¬ ((AT C E).length:Int)=0); have q3:=Al q1.1 (by with_reducible assumption:¬ ((AT C E).length:Int)=0); omega) f0 (ab.addr (Nat.zero_lt_of_lt f0)) ?_
        obtain ⟨iS,dv⟩:∃ y,C.list[(E+1).toNat]? = some y:=⟨_,AP (by have q1:DD C∧_:=‹_›; have q2:=BU q1.1 (by with_reducible assumption:¬ ((AT C E).length:Int)=0); have q3:=Al q1.1 (by with_reducible assumption:¬ ((AT C E).length:Int)=0); omega)⟩
        have pu:=AX dv; have mR:=AQ dv
        obtain ⟨_,rfl,kB⟩:=ab.elem ((E+1).toNat) iS dv
        refine .lh 81 0 kB id<|.d fun tb f5=>?_
        replace J:=(se [] f5).g1 J
        exact .r 3<|.d<|.rt Tryz.func6 Tryz.results6 (.bool (eF.num==iS)) ⟨(congrArg Value.bool (by have q1:DD C∧_:=‹_›; rw [SJ q1.1 (by with_reducible assumption:¬ ((AT C E).length:Int)=0) ‹_› ‹_›]; exact beq_self_eq_true _)),J⟩
       refine .r [70,71]<|GA.skip AA fun tc f6=>?_
       replace J:=(se [] f6).g1 J
       exact .r 3<|.d<|.rt Tryz.func6 Tryz.results6 (.bool false) ⟨(congrArg Value.bool (by exfalso; have q1:DD C∧_:=‹_›; have q2:=BU q1.1 (by with_reducible assumption:¬ ((AT C E).length:Int)=0); have q3:=Al q1.1 (by with_reducible assumption:¬ ((AT C E).length:Int)=0); (have q4:=UA q1.1 (by with_reducible assumption:¬ ((AT C E).length:Int)=0) ‹_›; omega))),J⟩
      refine .r [63,64,65,66,67,68,69,70,71]<|GA.skip AA fun td f7=>?_
      replace J:=(se [] f7).g1 J
      exact .r 3<|.d<|.rt Tryz.func6 Tryz.results6 (.bool false) ⟨(congrArg Value.bool (by exfalso; have q1:DD C∧_:=‹_›; have q2:=BU q1.1 (by with_reducible assumption:¬ ((AT C E).length:Int)=0); have q3:=Al q1.1 (by with_reducible assumption:¬ ((AT C E).length:Int)=0); (have q4:=SI q1.1 (by with_reducible assumption:¬ ((AT C E).length:Int)=0) ‹_› ‹_›; omega))),J⟩
     refine .r [51,52,53,54,55,56,57,58,59,60,61,62,63,64,65,66,67,68,69,70,71]<|GA.skip AA fun te f8=>?_
     replace J:=(se [] f8).g1 J
     exact .r 3<|.d<|.rt Tryz.func6 Tryz.results6 (.bool false) ⟨(congrArg Value.bool (by exfalso; have q1:DD C∧_:=‹_›; have q2:=BU q1.1 (by with_reducible assumption:¬ ((AT C E).length:Int)=0); have q3:=Al q1.1 (by with_reducible assumption:¬ ((AT C E).length:Int)=0); (have q4:=T9 q1.1 (by with_reducible assumption:¬ ((AT C E).length:Int)=0) ‹_›; omega))),J⟩
    refine .r [36,37,38,39,40,41,42,43,44,45,46,47,48,49,50,51,52,53,54,55,56,57,58,59,60,61,62,63,64,65,66,67,68,69,70,71]<|GA.skip AA fun tg f9=>?_
    replace J:=(se [] f9).g1 J
    exact .r 3<|.d<|.rt Tryz.func6 Tryz.results6 (.bool false) ⟨(congrArg Value.bool (by exfalso; have q1:DD C∧_:=‹_›; have q2:=BU q1.1 (by with_reducible assumption:¬ ((AT C E).length:Int)=0); have q3:=Al q1.1 (by with_reducible assumption:¬ ((AT C E).length:Int)=0); (have q4:=OG q1.1 (by with_reducible assumption:¬ ((AT C E).length:Int)=0) ‹_›; omega))),J⟩
   refine .r [21,22,23,24,25,26,27,28,29,30,31,32,33,34,35,36,37,38,39,40,41,42,43,44,45,46,47,48,49,50,51,52,53,54,55,56,57,58,59,60,61,62,63,64,65,66,67,68,69,70,71]<|GA.skip AA fun th ga=>?_
   replace J:=(se [] ga).g1 J
   exact .r 3<|.d<|.rt Tryz.func6 Tryz.results6 (.bool false) ⟨(congrArg Value.bool (by exfalso; have q1:DD C∧_:=‹_›; have q2:=BU q1.1 (by with_reducible assumption:¬ ((AT C E).length:Int)=0); have q3:=Al q1.1 (by with_reducible assumption:¬ ((AT C E).length:Int)=0); (have q4:=ME q1.1 (by with_reducible assumption:¬ ((AT C E).length:Int)=0) ‹_›; omega))),J⟩
  refine .r [12,13,14,15,16,17,18,19,20,21,22,23,24,25,26,27,28,29,30,31,32,33,34,35,36,37,38,39,40,41,42,43,44,45,46,47,48,49,50,51,52,53,54,55,56,57,58,59,60,61,62,63,64,65,66,67,68,69,70,71]<|GA.skip AA fun ti gb=>?_
  replace J:=(se [] gb).g1 J
  exact .r 3<|.d<|.rt Tryz.func6 Tryz.results6 (.bool false) ⟨(congrArg Value.bool (by exfalso; have q1:DD C∧_:=‹_›; have q2:=BU q1.1 (by with_reducible assumption:¬ ((AT C E).length:Int)=0); have q3:=Al q1.1 (by with_reducible assumption:¬ ((AT C E).length:Int)=0); (have q4:=ME q1.1 (by with_reducible assumption:¬ ((AT C E).length:Int)=0) ‹_›; omega))),J⟩
 refine .r [5,6,7,8,9,10,11,12,13,14,15,16,17,18,19,20,21,22,23,24,25,26,27,28,29,30,31,32,33,34,35,36,37,38,39,40,41,42,43,44,45,46,47,48,49,50,51,52,53,54,55,56,57,58,59,60,61,62,63,64,65,66,67,68,69,70,71]<|GA.skip AA fun tj gf=>?_
 replace J:=(se [] gf).g1 J
 exact .r 3<|.d<|.rt Tryz.func6 Tryz.results6 (.bool false) ⟨(congrArg Value.bool (by exfalso; have q1:DD C∧_:=‹_›; have q2:=BU q1.1 (by with_reducible assumption:¬ ((AT C E).length:Int)=0); have q3:=Al q1.1 (by with_reducible assumption:¬ ((AT C E).length:Int)=0); omega)),J⟩
end Go.Proofs.YtganlmloonielaaGreat
