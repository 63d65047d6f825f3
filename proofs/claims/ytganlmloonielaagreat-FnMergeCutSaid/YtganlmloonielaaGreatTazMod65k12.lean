/- The laws on drawn disks: plain laws. -/
import Derived.Test.YtganlmloonielaaGreatTazMod30k18
import Derived.Test.YtganlmloonielaaGreatTazMod65k13
set_option linter.unusedVariables false
set_option linter.unusedSimpArgs false
namespace Go.Proofs.YtganlmloonielaaGreat
theorem NL {s:Sto} (h:SD s) (hk:Ak s=true) {k:Nat} (hl:k+2≤s.parts.length):DQ (D6 s k) [] 0 99=DQ s [] 0 99 :=
 Ka (x:=D6 s k) (s:=s) rfl (hk.trans (Gy h hk hl).symm) (fun _ id a b=>(FL (StoK.of h hk) hl a (by have:=h.nm.len; omega)).2) _ _
section
variable {d:Dsk} {i:Int}
theorem PD (hd:DD d) (h:¬ ((AT d i).length:Int)=0) {c:Int} (hc:0≤c):BP d (AT d i) c=toD d (Ba d i.toNat) c∧Af (BP d (AT d i) c)=true:=by
 obtain ⟨x,y,q,e,_⟩:=MgD.of hd h
 have o:=CV.2 (q.to c).1
 rw [e,MB (CV.2 q.v) hc o]
 exact ⟨rfl,o⟩
theorem Tj (hd:DD d) (h:¬ ((AT d i).length:Int)=0) {c:Int} (hc:0≤c):(DQ (Aq (BP d (AT d i) c)) [] 0 99==DQ (Aq d) [] 0 99)=true:=by
 obtain ⟨x,y,q,e,_⟩:=MgD.of hd h
 obtain ⟨e1,o⟩:=PD hd h hc
 rw [D7 o,e1,(q.to c).2,D7 (CV.2 q.v)]
 split
 ·exact beq_self_eq_true _
 ·rw [NL q.sd q.v.so (by rw [q.open.2.2]; exact q.l)]
  exact beq_self_eq_true _
theorem La {d:Dsk} {n:Int} (h:DskV d) (hf:∃ f∈d.files,f.num=n) (hn:n∉d.list):(C4 d n).length+1=d.files.length:=by
 have h1:=(E3 d n).2 hf
 have h2:=CC d n
 have h3:d.list.contains n=false:=by
  cases hc:d.list.contains n with
  | false=>rfl
  | true=>exact absurd (List.contains_iff_mem.1 hc) hn
 rw [Na h1 h3,List.length_append,List.length_take,List.length_drop]
 omega
theorem P8 {d:Dsk} {n:Int} (h:DskV d) {f:Fil} (hf:f∈d.files) (hn:f.num≠n):f∈C4 d n:=by
 unfold C4
 split
 ·rename_i hc
  obtain ⟨k,g1,g2⟩:=L9 d.files 0 f h.asc hf
  by_cases hk:k< (Ao d n).toNat
  ·refine List.mem_append.2 (.inl (List.mem_iff_getElem?.2 ⟨k,?_⟩))
   rw [List.getElem?_take,if_pos hk]
   exact g2
  ·by_cases hk2:k=(Ao d n).toNat
   ·obtain ⟨y,hy1,hy2,_⟩:=(fun hh=>O9 d.files n 0 hh) hc.1
    have hy1':d.files[(Ao d n).toNat]? = some y:=hy1
    rw [← hk2,g2] at hy1'
    cases hy1'
    exact absurd hy2 hn
   ·refine List.mem_append.2 (.inr (List.mem_iff_getElem?.2 ⟨k - ((Ao d n).toNat+1),?_⟩))
    rw [List.getElem?_drop,show (Ao d n).toNat+1+(k - ((Ao d n).toNat+1))=k by omega]
    exact g2
 ·exact hf
theorem SH (hd:DD d) (h:¬ ((AT d i).length:Int)=0):((BP d (AT d i) (AT d i).length).list.length:Int)=d.list.length - 1∧((BP d (AT d i) (AT d i).length).files.length:Int)=d.files.length - 1:=by
 rw [(PD hd h AB).1,Al hd h]
 obtain ⟨x,y,q,e,_⟩:=MgD.of hd h
 rw [q.e]
 have e2:doD (⟨d.files++[⟨d.next,BT (BD d x) (BD d y)⟩],d.list,d.names,d.next+1⟩:Dsk) ⟨2,0,⟨[],[]⟩,d.list.take i.toNat++[d.next]++d.list.drop (i.toNat+2),d.names⟩=mgD d i.toNat x y:=HE rfl
 rw [Db AB,F8 rfl,Db AB,e2,Db AB,FG rfl,Db AB,FG rfl,MA]
 obtain ⟨v2,_⟩:=q.v2
 obtain ⟨v3,_⟩:=v2.gone x
 have hnd:=q.v.nd
 rw [q.list] at hnd
 rw [List.nodup_append,List.nodup_cons,List.nodup_cons] at hnd
 obtain ⟨n1,⟨n2,n3,n4⟩,n5⟩:=hnd
 have hxy:x≠y:=fun e=>n2 (by rw [e]; simp)
 have mx:x∉(mgD d i.toNat x y).list:=fun hm=>by
  rcases q.mem x hm with hm | hm
  ·exact hm.2.1 rfl
  ·have:=q.v.lt x (AQ q.hx); omega
 have my:y∉(mgD d i.toNat x y).list:=fun hm=>by
  rcases q.mem y hm with hm | hm
  ·exact hm.2.2 rfl
  ·have:=q.v.lt y (AQ q.hy); omega
 obtain ⟨fx,hx1,hx2⟩:=q.v.at_ x (AQ q.hx)
 obtain ⟨fy,hy1,hy2⟩:=q.v.at_ y (AQ q.hy)
 have a1:=La v2 (n:=x) ⟨fx,List.mem_append.2 (.inl hx1),hx2⟩ mx
 have a2:=La v3 (n:=y) ⟨fy,P8 v2 (List.mem_append.2 (.inl hy1)) (by rw [hy2]; exact fun e=>hxy e.symm),hy2⟩ my
 have a3:(mgD d i.toNat x y).files.length=d.files.length+1:=by unfold mgD; simp
 have a4:(mgD d i.toNat x y).list.length+1=d.list.length:=by
  unfold mgD
  have:=q.l
  simp only [List.length_append,List.length_take,List.length_drop,List.length_cons,List.length_nil]
  omega
 have a5:(C4 (⟨C4 (mgD d i.toNat x y) x,(mgD d i.toNat x y).list,(mgD d i.toNat x y).names,(mgD d i.toNat x y).next⟩:Dsk) y).length+1=(C4 (mgD d i.toNat x y) x).length:=a2
 refine ⟨?_,?_⟩
 ·show ((mgD d i.toNat x y).list.length:Int)=_
  omega
 ·show ((C4 (⟨C4 (mgD d i.toNat x y) x,(mgD d i.toNat x y).list,(mgD d i.toNat x y).names,(mgD d i.toNat x y).next⟩:Dsk) y).length:Int)=_
  omega
end
end Go.Proofs.YtganlmloonielaaGreat
namespace Go.Proofs.YtganlmloonielaaGreat
set_option maxRecDepth 100000
set_option maxHeartbeats 4000000
theorem IV (code:List UInt8) (more:List UInt8) {w:World} {F:Nat→Prop} {a1:Option Addr} {n1 c1:Nat} (h1:RepS w F a1 n1 c1 code) {a2:Option Addr} {n2 c2:Nat} (h2:RepS w F a2 n2 c2 more)  : Calls Tryz.prog 11 [.slice a1 n1 c1,.slice a2 n2 c2].toArray w (As fun rv w'=>rv=.bool (true)∧Ext w w'):=by
 refine goT Tryz.func11 ?_
 obtain ⟨rfl,dg,h1⟩:=h1.tp
 obtain ⟨rfl,dh,h2⟩:=h2.tp
 refine .s<|.g<|.r 1<|.d<|.s<|.s<|.g<|.r 2<|.bp ((code.length:Int) > 1048576) (fun b0=>.r 5<|.d<|.ct<|.s<|.g<|.r 1<|.d<|.rt Tryz.func11 Tryz.results11 (.bool true) ⟨(congrArg Value.bool (by rfl)),(Chg.refl _ _)⟩) fun b0=>.r 3<|.bp ((more.length:Int) > 1048576) (fun b6=>.r 1<|.d<|.ct<|.s<|.g<|.r 1<|.d<|.rt Tryz.func11 Tryz.results11 (.bool true) ⟨(congrArg Value.bool (by rfl)),(Chg.refl _ _)⟩) fun b6=>.r 1<|.d<|.cf<|.sk<|.s<|.g<|.r 1<|.cl (EG code h1 (w:=w) (F:=nin (fo F w.heap.size) [])) ?_
 rintro ek en ⟨⟨C,O,⟨et,rfl,⟨_,rfl,⟨cG,ey,cH,cI,ez,cJ,cK,eA,cL,rfl,W,aa,ab⟩⟩⟩,dj⟩,bn⟩
 have aP:∀ q_∈([]:List Nat),q_< w.heap.size:=all_nil
 have aT:Gb w.heap.size w.heap.size:=(Nat.le_refl _)
 have E:=bn
 replace W:=RepS.Aa (M:=[]) W aP aT
 have dm:=W.max
 replace aa:=RepS.Aa (M:=[]) aa aP aT
 have dp:=aa.max
 replace ab:=RepS.Aa (M:=[]) ab aP aT
 have dq:=ab.max
 have b7:=W.len
 subst b7
 have b8:=aa.len
 subst b8
 have b9:=ab.len
 subst b9
 refine .r 3<|.np 27 [.slice none 0 0,.slice none 0 0,.slice none 0 0,vI 0] fun ae eB aU bo cd ce=>?_
 have dr:=E.cn aU
 replace ⟨W,aa,ab,E⟩:=(sn [] bo aU).g4 W aa ab E
 refine .sc [.slice cG C.files.length cH,.slice cI C.list.length cJ,.slice cK C.names.length cL,vI C.next] cd fun cg bq J ci=>?_
 replace ⟨W,aa,ab,E⟩:=(so [ae] bq).g4 W aa ab E
 refine .r 1<|.d<|.s<|.g<|.ln J<|.r 1<|.cl (EB C O W.ta aa.ta ab.ta (by have q1:DD C∧_:=‹_›; with_reducible exact q1.1) (w:=cg) (F:=all)) ?_
 rintro eC cj ⟨⟨eD,eE,rfl,am⟩,br⟩
 have bt:=al1 J.lt
 have ck:Gb w.heap.size cg.heap.size:=E.size
 replace ⟨W,aa,ab,J,E⟩:=(se [ae] br).g5 W aa ab J E
 have am:=am.fr bt ck
 replace am:=am.base (G':=fo F w.heap.size) (fun _ _ h=>.inr h)
 have dt:=am.max
 refine .r 1<|.d<|.s<|.s<|.g<|.r 1<|.ln J<|.r 1<|.cl (CB C O W.ta aa.ta ab.ta (by have q1:DD C∧_:=‹_›; with_reducible exact q1.1) (w:=cj) (F:=all)) ?_
 rintro eF cM ⟨⟨eG,eH,rfl,aV⟩,bu⟩
 have bv:=al1 J.lt
 have cm:Gb w.heap.size cj.heap.size:=E.size
 replace ⟨W,aa,ab,J,am,E⟩:=(se [ae] bu).g6 W aa ab J am E
 have aV:=aV.fr bv cm
 replace aV:=aV.base (G':=fo F w.heap.size) (fun _ _ h=>.inr h)
 refine .cl (Ct (AT C O) (AT C O) am.ta aV.ta (w:=cM) (F:=all)) ?_
 rintro eI bm ⟨rfl,bw⟩
 replace ⟨W,aa,ab,J,am,E⟩:=(se [ae] bw).g6 W aa ab J am E
 rw [show (((AT C O)==(AT C O)))=true from beq_self_eq_true _]
 refine .r 4<|.eq (((AT C O).length):Int) 0 (fun co=>?_) (fun co=>?_)
 ·refine .r 1<|.d<|.ct<|.s<|.g<|.r 1<|.ln J<|.r 1<|.cl (CB C O W.ta aa.ta ab.ta (by have q1:DD C∧_:=‹_›; with_reducible exact q1.1) (w:=bm) (F:=all)) ?_
  rintro eJ cN ⟨⟨eK,eL,rfl,aW⟩,bz⟩
  have bA:=al1 J.lt
  have cp:Gb w.heap.size bm.heap.size:=E.size
  replace ⟨W,aa,ab,J,am,E⟩:=(se [ae] bz).g6 W aa ab J am E
  have aW:=aW.fr bA cp
  replace aW:=aW.base (G':=fo F w.heap.size) (fun _ _ h=>.inr h)
  refine .cl (Ct (AT C O) (AT C O) am.ta aW.ta (w:=cN) (F:=all)) ?_
  rintro eM eN ⟨rfl,bB⟩
  replace ⟨W,aa,ab,J,am,E⟩:=(se [ae] bB).g6 W aa ab J am E
  rw [show (((AT C O)==(AT C O)))=true from beq_self_eq_true _]
  exact .r 1<|.d<|.rt Tryz.func11 Tryz.results11 (.bool true) ⟨(congrArg Value.bool (by rfl)),E⟩
 refine .r 1<|.d<|.cf<|.sk<|.s<|.g<|.r 4<|RG.int ((((AT C O).length):Int)+1) AA (by (have q1:DD C∧_:=‹_›; have q3:=q1.1.nl; have q4:=q1.1.nf; have q5:=Al q1.1 (by with_reducible assumption:¬ ((AT C O).length:Int)=0); omega))<|RG.rem (t:=3) (k:=.i64) (a:=(more.length:Int)) (b:=(((AT C O).length):Int)+1) AA AB<|.r 1<|.d<|.s<|.g<|.ln J<|.r 2<|.cl (Cl C (AT C O) (Int.tmod (more.length:Int) ((((AT C O).length):Int)+1)) W aa ab am (by have q1:DD C∧_:=‹_›; with_reducible exact q1.1) (by have q1:DD C∧_:=‹_›; exact fun _=>(Cb q1.1 _).1) (w:=bm) (F:=nin (fo F w.heap.size) [ae])) ?_
 rintro dx dy ⟨⟨_,rfl,⟨cq,dz,cr,cu,dA,cv,cw,dB,cx,rfl,ai,aj,ak⟩⟩,aX⟩
 have aB:=al1 J.lt
 have aK:Gb w.heap.size bm.heap.size:=E.size
 replace ⟨W,aa,ab,J,am,E⟩:=(se [ae] aX).g6 W aa ab J am E
 replace ai:=RepS.Aa (M:=[ae]) ai aB aK
 have cO:=ai.max
 replace aj:=RepS.Aa (M:=[ae]) aj aB aK
 have cP:=aj.max
 replace ak:=RepS.Aa (M:=[ae]) ak aB aK
 have cQ:=ak.max
 have bD:=ai.len
 subst bD
 have bE:=aj.len
 subst bE
 have bF:=ak.len
 subst bF
 refine .np 27 [.slice none 0 0,.slice none 0 0,.slice none 0 0,vI 0] fun af dC aC aY bG bH=>?_
 have cR:=AS aC J.lt
 have cS:=E.cn aC
 replace ⟨W,aa,ab,J,am,ai,aj,ak,E⟩:=(sn [ae] aY aC).g9 W aa ab J am ai aj ak E
 refine .sc [.slice cq (((BP C (AT C O) (Int.tmod (more.length:Int) ((((AT C O).length):Int)+1))).files).length) cr,.slice cu (((BP C (AT C O) (Int.tmod (more.length:Int) ((((AT C O).length):Int)+1))).list).length) cv,.slice cw (((BP C (AT C O) (Int.tmod (more.length:Int) ((((AT C O).length):Int)+1))).names).length) cx,vI ((BP C (AT C O) (Int.tmod (more.length:Int) ((((AT C O).length):Int)+1))).next)] bG fun bC aZ ac bI=>?_
 replace ⟨W,aa,ab,J,am,ai,aj,ak,E⟩:=(so [af,ae] aZ).g9 W aa ab J am ai aj ak E
 refine .d<|.s<|.g<|.ln J<|.r 3<|.cl (Cl C (AT C O) (((AT C O).length):Int) W aa ab am (by have q1:DD C∧_:=‹_›; with_reducible exact q1.1) (by have q1:DD C∧_:=‹_›; exact fun _=>(Cb q1.1 _).1) (w:=bC) (F:=nin (fo F w.heap.size) [af,ae])) ?_
 rintro dD dE ⟨⟨_,rfl,⟨cy,dF,cz,cA,dG,cB,cC,dH,cD,rfl,aQ,aR,aS⟩⟩,ba⟩
 have aD:=al2 ac.lt J.lt
 have aL:Gb w.heap.size bC.heap.size:=E.size
 replace ⟨W,aa,ab,J,ai,aj,ak,ac,E⟩:=(se [af,ae] ba).g9 W aa ab J ai aj ak ac E
 replace aQ:=RepS.Aa (M:=[af,ae]) aQ aD aL
 have cT:=aQ.max
 replace aR:=RepS.Aa (M:=[af,ae]) aR aD aL
 have cU:=aR.max
 replace aS:=RepS.Aa (M:=[af,ae]) aS aD aL
 have cV:=aS.max
 have bJ:=aQ.len
 subst bJ
 have bK:=aR.len
 subst bK
 have bL:=aS.len
 subst bL
 refine .np 27 [.slice none 0 0,.slice none 0 0,.slice none 0 0,vI 0] fun al dI aw bc bM bN=>?_
 have cW:=AS aw J.lt
 have cX:=AS aw ac.lt
 have cY:=E.cn aw
 replace ⟨W,aa,ab,J,ai,aj,ak,ac,E⟩:=(sn [af,ae] bc aw).g9 W aa ab J ai aj ak ac E
 refine .sc [.slice cy (((BP C (AT C O) (((AT C O).length):Int)).files).length) cz,.slice cA (((BP C (AT C O) (((AT C O).length):Int)).list).length) cB,.slice cC (((BP C (AT C O) (((AT C O).length):Int)).names).length) cD,vI ((BP C (AT C O) (((AT C O).length):Int)).next)] bM fun dJ bd ah bO=>?_
 replace ⟨W,aa,ab,J,ai,aj,ak,ac,E⟩:=(so [al,af,ae] bd).g9 W aa ab J ai aj ak ac E
 refine .d<|.s<|.gd nil 27 fun dK bg=>?_
 replace ⟨W,aa,ab,J,ai,aj,ak,ac,ah,E⟩:=(se [al,af,ae] bg).g10 W aa ab J ai aj ak ac ah E
 refine .ln 0 ac id<|GA.Bz (i:=1) AA (fun cE aM=>Bs (BP C (AT C O) (Int.tmod (more.length:Int) ((((AT C O).length):Int)+1))) (ai.ta.ext aM) (aj.ta.ext aM) (ak.ta.ext aM) (by have q1:DD C∧_:=‹_›; with_reducible exact (ER q1.1 (fun _=>(Cb q1.1 _).1))) (w:=cE) (F:=all)) ?_
 have bP:(Af (BP C (AT C O) (Int.tmod (more.length:Int) ((((AT C O).length):Int)+1))))=true:=(by have q1:DD C∧_:=‹_›; exact (PD q1.1 (by with_reducible assumption:¬ ((AT C O).length:Int)=0) (by exact Int.tmod_nonneg _ AB)).2)
 rw [bP]
 refine .r [2]<|.ln 3 ac id<|.ln 5 J id<|.go 4<|.cl (fun bh ax=>Bn (BP C (AT C O) (Int.tmod (more.length:Int) ((((AT C O).length):Int)+1))) (ai.ext ax) (aj.ext ax) (ak.ext ax) (by have q1:DD C∧_:=‹_›; with_reducible exact (ER q1.1 (fun _=>(Cb q1.1 _).1))) (w:=bh) (F:=nin (fo F w.heap.size) [al,af,ae])) ?_
 intro bh ax
 replace ⟨W,aa,ab,J,ac,ah,E⟩:=(se [al,af,ae] ax).g7 W aa ab J ac ah E
 rintro dL dM ⟨⟨_,rfl,⟨dN,dO,dP,dQ,dR,dS,dT,dU,dV,dW,dX,dY,rfl,aq,ar,au,av⟩⟩,aN⟩
 have ay:=al3 ah.lt ac.lt J.lt
 have aE:Gb w.heap.size bh.heap.size:=E.size
 have hkeep_:=aN
 replace ⟨W,aa,ab,J,ac,ah,E⟩:=(se [al,af,ae] aN).g7 W aa ab J ac ah E
 refine ⟨Ext.chg hkeep_,?_⟩
 replace aq:=RepS.Aa (M:=[al,af,ae]) aq ay aE
 have cZ:=aq.max
 replace ar:=RepS.Aa (M:=[al,af,ae]) ar ay aE
 have c7:=ar.max
 replace au:=RepS.Aa (M:=[al,af,ae]) au ay aE
 have c8:=au.max
 replace av:=RepS.Aa (M:=[al,af,ae]) av ay aE
 have c9:=av.max
 have bQ:=aq.len
 subst bQ
 have bR:=ar.len
 subst bR
 have bS:=au.len
 subst bS
 have bT:=av.len
 subst bT
 refine .go 6<|.cl (fun bi az=>Bn C (W.ext az) (aa.ext az) (ab.ext az) (by have q1:DD C∧_:=‹_›; with_reducible exact q1.1) (w:=bi) (F:=nin (fo F w.heap.size) [al,af,ae])) ?_
 intro bi az
 replace ⟨J,ac,ah,aq,ar,au,av,E⟩:=(se [al,af,ae] az).g8 J ac ah aq ar au av E
 rintro dZ d0 ⟨⟨_,rfl,⟨d3,d4,d5,d6,d7,d8,d9,ec,ed,ee,ef,eg,rfl,aG,aH,aI,aJ⟩⟩,aO⟩
 have aA:=al3 ah.lt ac.lt J.lt
 have aF:Gb w.heap.size bi.heap.size:=E.size
 have hkeep_:=aO
 replace ⟨J,ah,aq,ar,au,av,E⟩:=(se [al,af,ae] aO).g7 J ah aq ar au av E
 refine ⟨Ext.chg hkeep_,?_⟩
 replace aG:=RepS.Aa (M:=[al,af,ae]) aG aA aF
 have da:=aG.max
 replace aH:=RepS.Aa (M:=[al,af,ae]) aH aA aF
 have db:=aH.max
 replace aI:=RepS.Aa (M:=[al,af,ae]) aI aA aF
 have de:=aI.max
 replace aJ:=RepS.Aa (M:=[al,af,ae]) aJ aA aF
 have df:=aJ.max
 have bU:=aG.len
 subst bU
 have bV:=aH.len
 subst bV
 have bW:=aI.len
 subst bW
 have bX:=aJ.len
 subst bX
 refine GA.Bz (i:=7) AA (fun cF ao=>HG (Aq (BP C (AT C O) (Int.tmod (more.length:Int) ((((AT C O).length):Int)+1)))) (Aq C) (aq.ta.ext ao) (ar.ta.ext ao) (au.ta.ext ao) (av.ta.ext ao) (aG.ta.ext ao) (aH.ta.ext ao) (aI.ta.ext ao) (aJ.ta.ext ao) (by have q1:DD C∧_:=‹_›; with_reducible exact (Eb (ER q1.1 (fun _=>(Cb q1.1 _).1)) (PD q1.1 (by with_reducible assumption:¬ ((AT C O).length:Int)=0) (by exact Int.tmod_nonneg _ AB)).2)) (by have q1:DD C∧_:=‹_›; with_reducible exact (Eb q1.1 (SF (by with_reducible assumption:¬ ((AT C O).length:Int)=0)))) (w:=cF) (F:=all)) ?_
 have bY:(DQ (Aq (BP C (AT C O) (Int.tmod (more.length:Int) ((((AT C O).length):Int)+1)))) [] 0 99==DQ (Aq C) [] 0 99)=true:=(by have q1:DD C∧_:=‹_›; exact Tj q1.1 (by with_reducible assumption:¬ ((AT C O).length:Int)=0) (by exact Int.tmod_nonneg _ AB))
 rw [bY]
 refine .r [8,9,10]<|.lb 11 ah id<|.r [12,13]<|.lb 14 J id<|.r [15]<|GA.int (i:=16) ((C.list.length:Int) - 1) AA AB<|GA.eqI (i:=17) (a:=((((BP C (AT C O) (((AT C O).length):Int)).list).length):Int)) (b:=(C.list.length:Int) - 1) AA (fun bZ=>?_) (fun bZ=>?_)
 ·refine .r [18,19,20]<|.lb 21 ah id<|.r [22,23]<|.lb 24 J id<|.r [25]<|GA.int (i:=26) ((C.files.length:Int) - 1) AA AB<|.d fun eh bj=>?_
  replace E:=(se [] bj).g1 E
  exact .r 3<|.d<|.rt Tryz.func11 Tryz.results11 (.bool (((((BP C (AT C O) (((AT C O).length):Int)).files).length):Int)==(C.files.length:Int) - 1)) ⟨(congrArg Value.bool (by have q1:DD C∧_:=‹_›; have q2:=SH q1.1 (by with_reducible assumption:¬ ((AT C O).length:Int)=0); rw [beq_iff_eq]; omega)),E⟩
 refine .r [18,19]<|GA.skip AA fun ej bk=>?_
 replace E:=(se [] bk).g1 E
 exact .r 3<|.d<|.rt Tryz.func11 Tryz.results11 (.bool false) ⟨(congrArg Value.bool (by exfalso; have q1:DD C∧_:=‹_›; have q2:=SH q1.1 (by with_reducible assumption:¬ ((AT C O).length:Int)=0); omega)),E⟩
end Go.Proofs.YtganlmloonielaaGreat
