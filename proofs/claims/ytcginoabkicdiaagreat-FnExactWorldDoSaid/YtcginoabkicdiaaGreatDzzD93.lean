/- walks; pruned haves; hints pruned; squeezed -/
import Derived.Test.YtcginoabkicdiaaGreatDzzDt
import Derived.Test.YtcginoabkicdiaaGreatDzzMod16
open Go.Proofs.Tryz
set_option linter.unusedVariables false
set_option linter.unusedSimpArgs false
namespace Go.Proofs.YtcginoabkicdiaaGreat
set_option maxRecDepth 100000
set_option maxHeartbeats 4000000
variable {w:World} {F:Nat→Prop} {a1 a2 a3 a4:Option Addr} {n1 c1 n2 c2 n3 c3 n4 c4:Nat}
theorem Qn (b:List Row) (r:Row) (h1:RepS w F a1 n1 c1 b) (p0:b.length≤100000):Calls Tryz.prog 181 [.slice a1 n1 c1,.agg #[.int .i64 r.t,.int .i64 r.v]].toArray w (Af fun rv w'=>VO 70 w.heap.size w' (C4 r b:List Row) rv∧Ext w w'):=by
 refine goT func181 ?_
 obtain ⟨rfl,fd,h1⟩:=h1.tp
 refine .s<|.g<|.np 70 [vI r.t,vI r.v] fun ae fP b6 br ab dC=>?_
 replace h1:=(sn [] br b6).g1 h1
 have aa:=br
 clear br dC b6
 refine .r 1<|.d<|.s<|.g<|.ns 0 70 [] fun cz en aV b7 dD dE=>?_
 have dF:=Az aV ab.lt
 have dG:=C9 aV aa.size
 have dH:=aa.cn aV
 replace ⟨h1,ab,aa⟩:=(sn [ae] b7 aV).g3 h1 ab aa
 clear b7 dE aV
 have dI:Own (α:=Row) en cz 70 (nin (ge w.heap.size) [cz,ae]) 0 0 []:=Own.Bv dD
 refine .r 1<|RG.DQ (T:=159) (ty:=159) Bn dI h1 AA AA (fun b h e=>h.2 (e▸AI)) AB fun af cA dJ ac aP b8=>?_
 have fe:=En aP dF ab.lt
 have b9:=Gn aP dG aa.size
 have ff:=Ic aP dH aa.size
 replace ⟨ab,aa⟩:=(s1 b8).g2 ab aa
 clear b8
 replace ac:=ac.rn cz
 clear aP
 have fg:=ac.len
 refine .r 1<|.d<|.s<|.g<|.r 1<|.d<|.s<|.b 0<|T.loop (X:=Nat) 0 (fun at_=>[(3,.pointer (some ⟨ae,0,none⟩)),(5,vS af (0+b.length) cA),(6,vI (at_:Int))]) (fun at_ cB=>Chg (ins []) dJ cB∧(at_≤b.length)∧(b.take at_++C4 r (b.drop at_)=C4 r b)) (fun at_=>b.length - at_) AA ⟨AA,AA,AA,trivial⟩ ⟨Chg.refl _ _,AB,AD⟩ ?_
 rintro at_ fQ cB ⟨ay,fj,fm⟩ bu
 have cd:Mv [af,ae] [af,ae] dJ cB:=Mv.inl ay all_nil (all_cons (.inl AI) (all_cons (.inl AJ) all_nil))
 replace ⟨ab,ac,aa⟩:=(sp cd ay).g3 ab ac aa
 clear cd
 refine .s<|.s<|.gd nil 12 fun eB ce=>?_
 replace ⟨ab,ac,aa,ay⟩:=(se [af,ae] ce).g4 ab ac aa ay
 clear ce
 refine .r [0,1,2]<|GA.Em (i:=3) ((at_:Int)< ((0+b.length):Int)) AA (fun dK=>?_) (fun dK=>?_)
 ·refine .r [4,5,6] ?_
  have dL:at_< 0+b.length:=AB
  refine GA.idx (i:=7) (b:=af) (o:=0) at_ (len:=0+b.length) (z:=(at_:Int)) (sz:=2) AA AB dL rfl<|.r [8] ?_
  obtain ⟨ak,aJ⟩:∃ y,([]++b)[at_]? = some y:=⟨_,AU AB⟩
  obtain ⟨_,rfl,bv⟩:=ac.elem at_ ak aJ
  replace bv:Has eB ⟨af,0+at_ * Rep.sz Row,none⟩ [vI ak.t,vI ak.v]:=by rw [Nat.zero_add]; exact bv
  refine .lh 9 0 bv id<|.r [10]<|.lb 11 ab id<|.d fun fR cg=>?_
  replace ⟨ab,ac,aa,ay⟩:=(se [af,ae] cg).g4 ab ac aa ay
  clear cg
  refine .bp (ak.t< r.t) (fun dM=>.r 1<|.d<|.ct<|.sk<|.b 1<|.g<|.r 1<|.it ((at_:Int)+1)<|.r 1<|.d<|.ib 1<|bu (at_+1) _ _ ⟨AA,AA,AA,trivial⟩ ⟨ay,AB,(by exact Vr ‹_› ‹_› ‹_›)⟩ AB) fun dM=>.r 1<|.d<|.cf<|.x 0 rfl<|.s<|.s<|.gd nil 12 fun eC ci=>?_
  replace ⟨ab,ac,aa⟩:=(se [af,ae] ci).g3 ab ac aa
  clear ci
  refine .r [0,1,2]<|GA.Em (i:=3) ((at_:Int)< ((0+b.length):Int)) AA (fun dN=>?_) (fun dN=>?_)
  ·refine .r [4,5,6] ?_
   have dO:at_< 0+b.length:=AB
   refine GA.idx (i:=7) (b:=af) (o:=0) at_ (len:=0+b.length) (z:=(at_:Int)) (sz:=2) AA AB dO rfl<|.r [8] ?_
   obtain ⟨_,rfl,bw⟩:=ac.elem at_ ak aJ
   replace bw:Has eC ⟨af,0+at_ * Rep.sz Row,none⟩ [vI ak.t,vI ak.v]:=by rw [Nat.zero_add]; exact bw
   refine .lh 9 0 bw id<|.r [10]<|.lb 11 ab id<|.d fun eD cj=>?_
   replace ⟨ab,ac,aa⟩:=(se [af,ae] cj).g3 ab ac aa
   clear cj
   refine .eq ak.t r.t (fun dP=>?_) (fun dP=>?_)
   ·refine .r 1<|.d<|.ct<|.s<|.g<|.r 2<|.ln ab ?_
    have dQ:at_< 0+b.length:=AB
    refine RG.idx (b:=af) (o:=0) at_ (len:=0+b.length) (i:=(at_:Int)) (sz:=2) AA AB dQ rfl ?_
    obtain ⟨_,rfl,bz⟩:=ac.elem at_ ak aJ
    replace bz:Has eD ⟨af,0+at_ * Rep.sz Row,none⟩ [vI ak.t,vI ak.v]:=by rw [Nat.zero_add]; exact bz
    refine RG.G6 (t':=70) (i:=at_) (k:=0) (v:=.agg #[vI r.t,vI r.v]) (cs:=[vI ak.t,vI ak.v]) r ac aJ bz AA AA AA rfl fun fS dR ck dS=>?_
    replace ⟨ab,aa⟩:=(s1 ck).g2 ab aa
    clear ck dS
    exact .d<|.s<|.g<|.r 2<|.d<|.rt func181 results181 (vS af (0+b.length) cA) ⟨(VO.of dR (by exact Tf ‹_› ‹_› ‹_›) b9),aa⟩
   refine .r 1<|.d<|.cf<|.sk<|.s<|.g<|.ns 0 70 [] fun aQ eE aK cm dT dU=>?_
   have fq:=Az aK ab.lt
   have dV:=Az aK ac.lt
   have dW:=C9 aK aa.size
   have fu:=aa.cn aK
   replace ⟨ab,ac,aa⟩:=(sn [af,ae] cm aK).g3 ab ac aa
   clear cm dU aK
   have aL:Own (α:=Row) eE aQ 70 (nin (ge w.heap.size) [aQ,af,ae]) 0 0 []:=Own.Bv dT
   refine .r 2<|.ln ab<|.ns 1 70 [vI r.t,vI r.v] fun bq dX bA co cC cD=>?_
   have cE:=Az bA ac.lt
   replace ⟨ab,ac,aL,aa⟩:=(sn [aQ,af,ae] co bA).g4 ab ac aL aa
   clear co cD bA
   have cF:Own (α:=Row) dX bq 70 (nin (ge w.heap.size) [bq,aQ,af,ae]) 1 1 [r]:=Own.lit cC rfl AE ⟨rfl,rfl⟩
   refine .cl (Dj (i:=at_) (y:=r) ac (Own.Vp cF) cE AB AB) ?_
   rintro fv cp ⟨⟨bC,fw,rfl,az,aR⟩,aW⟩
   have cG:=Ib aR (Nb.symm dV) aL.lt
   have bD:Mv [bq,aQ,af,ae] [bq,aQ,bC,ae] dX cp:=Mv.Vq [bq,aQ] [ae] aW aR
   replace ⟨ab,aL,aa⟩:=(sp bD aW).g3 ab aL aa
   clear bD aW
   replace az:Own cp bC 70 (nin (ge w.heap.size) [bq,aQ,bC,ae]) _ _ _:=az.flat Bn
   clear aR
   have eF:=az.len
   refine RG.DQ (T:=159) (ty:=159) Bn aL (az.Vc Bn) AA AA (fun b h e=>cG (h.symm.trans e)) AB fun dY dZ fA aA bk bE=>?_
   have cH:=Gn bk dW aa.size
   replace ⟨ab,aa⟩:=(s1 bE).g2 ab aa
   clear bE
   replace aA:=aA.rn aQ
   clear bk
   exact .r 1<|.d<|.rt func181 results181 (vS dY (0+(0+b.length+1)) dZ) ⟨(VO.of aA (by exact X0 ‹_› ‹_› ‹_› ‹_›) cH),aa⟩
  refine .r [4]<|GA.skip AA fun fB bF=>?_
  replace ⟨ab,ac,aa⟩:=(se [af,ae] bF).g3 ab ac aa
  clear bF
  refine .r 2<|.d<|.cf<|.sk<|.s<|.g<|.ns 0 70 [] fun ag d0 am bG cI cJ=>?_
  have eJ:=Az am ab.lt
  have cK:=Az am ac.lt
  have cL:=C9 am aa.size
  have eK:=aa.cn am
  replace ⟨ab,ac,aa⟩:=(sn [af,ae] bG am).g3 ab ac aa
  clear bG cJ am
  have ao:Own (α:=Row) d0 ag 70 (nin (ge w.heap.size) [ag,af,ae]) 0 0 []:=Own.Bv cI
  refine .r 2<|.ln ab<|.ns 1 70 [vI r.t,vI r.v] fun aM cq aX bH cM cN=>?_
  have cO:=Az aX ac.lt
  replace ⟨ab,ac,ao,aa⟩:=(sn [ag,af,ae] bH aX).g4 ab ac ao aa
  clear bH cN aX
  have cP:Own (α:=Row) cq aM 70 (nin (ge w.heap.size) [aM,ag,af,ae]) 1 1 [r]:=Own.lit cM rfl AE ⟨rfl,rfl⟩
  refine .cl (Dj (i:=at_) (y:=r) ac (Own.Vp cP) cO AB AB) ?_
  rintro fC cr ⟨⟨bI,fD,rfl,aB,aS⟩,aY⟩
  have cQ:=Ib aS (Nb.symm cK) ao.lt
  have bJ:Mv [aM,ag,af,ae] [aM,ag,bI,ae] cq cr:=Mv.Vq [aM,ag] [ae] aY aS
  replace ⟨ab,ao,aa⟩:=(sp bJ aY).g3 ab ao aa
  clear bJ aY
  replace aB:Own cr bI 70 (nin (ge w.heap.size) [aM,ag,bI,ae]) _ _ _:=aB.flat Bn
  clear aS
  refine RG.DQ (T:=159) (ty:=159) Bn ao (aB.Vc Bn) AA AA (fun b h e=>cQ (h.symm.trans e)) AB fun d3 d4 fE aC bm bK=>?_
  have cR:=Gn bm cL aa.size
  replace ⟨ab,aa⟩:=(s1 bK).g2 ab aa
  clear bK
  replace aC:=aC.rn ag
  clear bm
  exact .r 1<|.d<|.rt func181 results181 (vS d3 (0+(0+b.length+1)) d4) ⟨(VO.of aC (by exact Qh ‹_› AB) cR),aa⟩
 refine .r [4]<|GA.skip AA fun fF bL=>?_
 replace ⟨ab,ac,aa⟩:=(se [af,ae] bL).g3 ab ac aa
 clear bL
 refine .r 2<|.d<|.cf<|.x 0 rfl<|.s<|.s<|.gd nil 12 fun d5 bM=>?_
 replace ⟨ab,ac,aa⟩:=(se [af,ae] bM).g3 ab ac aa
 clear bM
 refine .r [0,1,2]<|GA.Em (i:=3) ((at_:Int)< ((0+b.length):Int)) AA (fun cS=>?_) (fun cS=>?_)
 ·refine .r [4,5,6] ?_
  have cT:at_< 0+b.length:=AB
  refine GA.idx (i:=7) (b:=af) (o:=0) at_ (len:=0+b.length) (z:=(at_:Int)) (sz:=2) AA AB cT rfl<|.r [8] ?_
  obtain ⟨ah,aD⟩:∃ y,([]++b)[at_]? = some y:=⟨_,AU AB⟩
  obtain ⟨_,rfl,aZ⟩:=ac.elem at_ ah aD
  replace aZ:Has d5 ⟨af,0+at_ * Rep.sz Row,none⟩ [vI ah.t,vI ah.v]:=by rw [Nat.zero_add]; exact aZ
  refine .lh 9 0 aZ id<|.r [10]<|.lb 11 ab id<|.d fun d7 bN=>?_
  replace ⟨ab,ac,aa⟩:=(se [af,ae] bN).g3 ab ac aa
  clear bN
  refine .eq ah.t r.t (fun cU=>?_) (fun cU=>?_)
  ·refine .r 1<|.d<|.ct<|.s<|.g<|.r 2<|.ln ab ?_
   have cV:at_< 0+b.length:=AB
   refine RG.idx (b:=af) (o:=0) at_ (len:=0+b.length) (i:=(at_:Int)) (sz:=2) AA AB cV rfl ?_
   obtain ⟨_,rfl,ba⟩:=ac.elem at_ ah aD
   replace ba:Has d7 ⟨af,0+at_ * Rep.sz Row,none⟩ [vI ah.t,vI ah.v]:=by rw [Nat.zero_add]; exact ba
   refine RG.G6 (t':=70) (i:=at_) (k:=0) (v:=.agg #[vI r.t,vI r.v]) (cs:=[vI ah.t,vI ah.v]) r ac aD ba AA AA AA rfl fun fG cW bO cX=>?_
   replace ⟨ab,aa⟩:=(s1 bO).g2 ab aa
   clear bO cX
   exact .d<|.s<|.g<|.r 2<|.d<|.rt func181 results181 (vS af (0+b.length) cA) ⟨(VO.of cW (by exact Tf ‹_› ‹_› ‹_›) b9),aa⟩
  refine .r 1<|.d<|.cf<|.sk<|.s<|.g<|.ns 0 70 [] fun ai d8 aq bP cY cZ=>?_
  have eT:=Az aq ab.lt
  have c7:=Az aq ac.lt
  have c8:=C9 aq aa.size
  have eU:=aa.cn aq
  replace ⟨ab,ac,aa⟩:=(sn [af,ae] bP aq).g3 ab ac aa
  clear bP cZ aq
  have ar:Own (α:=Row) d8 ai 70 (nin (ge w.heap.size) [ai,af,ae]) 0 0 []:=Own.Bv cY
  refine .r 2<|.ln ab<|.ns 1 70 [vI r.t,vI r.v] fun aN cu bg bQ da db=>?_
  have de:=Az bg ac.lt
  replace ⟨ab,ac,ar,aa⟩:=(sn [ai,af,ae] bQ bg).g4 ab ac ar aa
  clear bQ db bg
  have df:Own (α:=Row) cu aN 70 (nin (ge w.heap.size) [aN,ai,af,ae]) 1 1 [r]:=Own.lit da rfl AE ⟨rfl,rfl⟩
  refine .cl (Dj (i:=at_) (y:=r) ac (Own.Vp df) de AB AB) ?_
  rintro fH cw ⟨⟨bR,fI,rfl,aE,aT⟩,bh⟩
  have dh:=Ib aT (Nb.symm c7) ar.lt
  have bS:Mv [aN,ai,af,ae] [aN,ai,bR,ae] cu cw:=Mv.Vq [aN,ai] [ae] bh aT
  replace ⟨ab,ar,aa⟩:=(sp bS bh).g3 ab ar aa
  clear bS bh
  replace aE:Own cw bR 70 (nin (ge w.heap.size) [aN,ai,bR,ae]) _ _ _:=aE.flat Bn
  clear aT
  refine RG.DQ (T:=159) (ty:=159) Bn ar (aE.Vc Bn) AA AA (fun b h e=>dh (h.symm.trans e)) AB fun d9 ec fJ aF bn bT=>?_
  have dj:=Gn bn c8 aa.size
  replace ⟨ab,aa⟩:=(s1 bT).g2 ab aa
  clear bT
  replace aF:=aF.rn ai
  clear bn
  exact .r 1<|.d<|.rt func181 results181 (vS d9 (0+(0+b.length+1)) ec) ⟨(VO.of aF (by exact Qh ‹_› AB) dj),aa⟩
 refine .r [4]<|GA.skip AA fun fK bU=>?_
 replace ⟨ab,ac,aa⟩:=(se [af,ae] bU).g3 ab ac aa
 clear bU
 refine .r 2<|.d<|.cf<|.sk<|.s<|.g<|.ns 0 70 [] fun aj ee aG bV dm dq=>?_
 have dt:=Az aG ac.lt
 have du:=C9 aG aa.size
 have eZ:=aa.cn aG
 replace ⟨ab,ac,aa⟩:=(sn [af,ae] bV aG).g3 ab ac aa
 clear bV dq aG
 have ax:Own (α:=Row) ee aj 70 (nin (ge w.heap.size) [aj,af,ae]) 0 0 []:=Own.Bv dm
 refine .r 2<|.ln ab<|.ns 1 70 [vI r.t,vI r.v] fun aO cx bi bW dv dw=>?_
 have dx:=Az bi ac.lt
 replace ⟨ac,ax,aa⟩:=(sn [aj,af,ae] bW bi).g3 ac ax aa
 clear bW dw bi
 have dy:Own (α:=Row) cx aO 70 (nin (ge w.heap.size) [aO,aj,af,ae]) 1 1 [r]:=Own.lit dv rfl AE ⟨rfl,rfl⟩
 refine .cl (Dj (i:=at_) (y:=r) ac (Own.Vp dy) dx AB AB) ?_
 rintro fM cy ⟨⟨bX,fN,rfl,aH,aU⟩,bj⟩
 have dA:=Ib aU (Nb.symm dt) ax.lt
 have bY:Mv [aO,aj,af,ae] [aO,aj,bX,ae] cx cy:=Mv.Vq [aO,aj] [ae] bj aU
 replace ⟨ax,aa⟩:=(sp bY bj).g2 ax aa
 clear bY bj
 replace aH:Own cy bX 70 (nin (ge w.heap.size) [aO,aj,bX,ae]) _ _ _:=aH.flat Bn
 clear aU
 have e7:=aH.len
 refine RG.DQ (T:=159) (ty:=159) Bn ax (aH.Vc Bn) AA AA (fun b h e=>dA (h.symm.trans e)) AB fun eg ej fO aI bo bZ=>?_
 have dB:=Gn bo du aa.size
 replace aa:=(s1 bZ).g1 aa
 clear bZ
 replace aI:=aI.rn aj
 clear bo
 exact .r 1<|.d<|.rt func181 results181 (vS eg (0+(0+b.length+1)) ej) ⟨(VO.of aI (by exact Qh ‹_› AB) dB),aa⟩
theorem Im (b:List Row) (r:Row) (h1:RepS w F a1 n1 c1 b) (p0:b.length≤100000):Calls Tryz.prog 181 [.slice a1 n1 c1,.agg #[.int .i64 r.t,.int .i64 r.v]].toArray w (Af fun rv w'=>VA w.heap.size w' (C4 r b:List Row) rv∧Ext w w'):=by
 refine (Qn b r h1 p0).mono ?_
 rintro e w' ⟨v,rfl,hv,hx⟩
 exact ⟨v,rfl,Za hv,hx⟩
theorem EN (s:Sto) (id:Int) (h1:RepS w F a1 n1 c1 s.idx.names) (h2:RepS w F a2 n2 c2 s.idx.AX) (h3:RepS w F a3 n3 c3 s.parts) (h4:RepS w F a4 n4 c4 s.mem) (p0:∀ p∈s.parts,PrtI p∧Ai p=true) (p1:∀ m∈s.mem,BS m.row=true) (p2:s.parts.length≤1000) (p3:s.mem.length≤1000):Calls Tryz.prog 125 [.agg #[.slice a1 n1 c1,.slice a2 n2 c2,.slice a3 n3 c3,.slice a4 n4 c4],.int .i64 id].toArray w (Af fun rv w'=>VA w.heap.size w' (rowsOf s id:List Row) rv∧Ext w w'):=by
 cases h1.len
 cases h2.len
 cases h3.len
 cases h4.len
 refine goT func125 ?_
 have Z:=((((St.i0 F w).p h1).p h2).p h3).p h4
 have Z:=Z.s0 0
 refine .s<|.g<|RG.Np Z fun aq w Z=>.r 1<|.d<|.s<|.g<|RG.N0 Row 0 Z fun aH w Z=>.r 1<|.d<|.s<|.s<|.g<|.r 1<|RG.Lb 1 Z<|.r 2<|.d<|.b 0 ?_
 have Z:=Z.fL 0 0 0 ([]:List Row)
 refine T.Lp (([]:List Row),sA aH,(0:Nat),(0:Nat)) (fun (out,a_out,c_out,k)=>([(1,vI id),(2,vP aq),(5,.slice a_out out.length c_out),(14,.slice a3 s.parts.length c3),(15,vI (s.parts.length:Int)),(16,vI (k:Int))],[],[⟨0,none,.sep [.s a_out c_out out]⟩,⟨0,none,.rep a_out c_out out⟩],s.parts.length - k,(k≤s.parts.length)∧(Blk out)∧((s.parts.drop k).foldl (CP id) out=s.parts.foldl (CP id) []))) [1,0] Z ⟨AB,AF,AF⟩ ?_
 rintro ⟨out,a_out,c_out,k⟩ bo w Z ⟨aO,aP,aQ⟩ ai
 refine .s<|.g<|.bp ((k:Int)< (s.parts.length:Int)) (fun ar=>?_) (fun ar=>?_)
 ·refine .d<|.s<|.ct<|.sk<|.s<|.b 1<|.s<|.g<|gx s.parts k fun ab af=>?_
  have aS:=Ab af; have aE:=AV af
  refine RG.Ix 6 af Z<|Z.el 6 af fun bq br bu bv Z=>?_
  refine RG.Lg 0 0 Z<|RG.Np Z fun bw w Z=>RG.Ss 0 Z fun w Z=>.d<|.s<|.g<|RG.Ln 0 Z<|.r 1<|RG.CL (Ft ab id (Z.a 1) (Z.a 2) (p0 _ ‹_›).1.sz) Z fun aI aJ w Z=>?_
  have aV:=Z.mf 0 (BA ab id)
  refine .r 2<|.d<|.b 2<|T.Lp ((out:List Row),a_out,c_out,(0:Nat)) (fun (aa,a_out1,c_out1,k1)=>([(1,vI id),(2,vP aq),(5,.slice a_out1 aa.length c_out1),(14,.slice a3 s.parts.length c3),(15,vI (s.parts.length:Int)),(16,vI (k:Int)),(22,.slice aI ((BA ab id).length) aJ),(23,vI (((BA ab id).length):Int)),(24,vI (k1:Int))],[],[⟨0,none,.sep [.s a_out1 c_out1 aa]⟩,⟨0,none,.rep a_out1 c_out1 aa⟩],(BA ab id).length - k1,(k1≤(BA ab id).length)∧(Blk aa)∧(((BA ab id).drop k1).foldl EU aa=CP id out ab))) [4,5] Z ⟨AB,‹_›,(by unfold BA CP; rw [if_pos (p0 _ ‹_›).2]; rfl)⟩ ?_
  rintro ⟨aa,a_out1,c_out1,k1⟩ bz w Z ⟨aW,aX,aY⟩ aj
  have aZ:=Z.mf 1 aa
  refine .s<|.g<|.bp ((k1:Int)< (((BA ab id).length):Int)) (fun ax=>?_) (fun ax=>?_)
  ·refine .d<|.s<|.ct<|.sk<|.s<|.b 3<|.s<|.g<|gx (BA ab id) k1 fun ao ag=>?_
   have ba:=Ab ag; have aF:=AV ag
   refine RG.Ix 2 ag Z<|Z.el 2 ag fun Z=>RG.Lg 0 0 Z<|RG.Np Z fun bA w Z=>RG.Ss 0 Z fun w Z=>.d<|.g<|.r 1<|RG.Ln 0 Z<|RG.DA 1 0 (Im aa ao (Z.a 2) (by (have q1:=Blk.len (by assumption:Blk aa); omega))) Z fun ay az w Z=>?_
   refine .r 1<|.d<|.ib 3<|.g<|.it ((k1:Int)+1)<|.r 1<|.d ?_
   have Z:=Z.sM 0 0 [0] [.s ay az (C4 ao aa)]
   exact aj (C4 ao aa,ay,az,k1+1) _ _ AA (Z.to 1 [0,2] 6) ⟨AB,(by exact Blk.ins ‹_› (((p0 ab ‹_›).1.ofI id).rows _ ‹_›)),(by rw [← F9 ‹_›]; exact EK ‹_› ‹_›)⟩ (by (simp only []; omega))
  refine .d<|.s<|.cf<|.x 2 rfl<|.ib 1<|.g<|.it ((k:Int)+1)<|.r 1<|.d ?_
  have Z:=Z.sM 0 0 [0] [.s a_out1 c_out1 aa]
  exact ai (aa,a_out1,c_out1,k+1) _ _ AA (Z.to 1 [0,2] 9) ⟨AB,‹_›,(by have q1:=E8 (by assumption:((BA ab id).drop k1).foldl EU aa=_) AB; have q2:=EK (by assumption:(s.parts.drop k).foldl (CP id) out=_) ‹_›; rw [← q1] at q2; exact q2)⟩ (by (simp only []; omega))
 refine .d<|.s<|.cf<|.x 0 rfl<|.s<|.s<|.g<|.r 1<|RG.Lb 0 Z<|.r 2<|.d<|.b 4<|T.Lp ((out:List Row),a_out,c_out,(0:Nat)) (fun (out,a_out,c_out,k)=>([(1,vI id),(5,.slice a_out out.length c_out),(34,.slice a4 s.mem.length c4),(35,vI (s.mem.length:Int)),(36,vI (k:Int))],[],[⟨0,none,.sep [.s a_out c_out out]⟩,⟨0,none,.rep a_out c_out out⟩],s.mem.length - k,(k≤s.mem.length)∧(Blk out)∧((s.mem.drop k).foldl (CZ id) out=rowsOf s id))) [0,1] Z ⟨AB,‹_›,(by have q1:out=s.parts.foldl (CP id) []:=E8 (by assumption:(s.parts.drop k).foldl (CP id) out=_) AB; rw [q1]; rfl)⟩ ?_
 rintro ⟨out,a_out,c_out,k⟩ bC w Z ⟨bi,bj,bk⟩ ae
 refine .s<|.g<|.bp ((k:Int)< (s.mem.length:Int)) (fun aA=>?_) (fun aA=>.d<|.s<|.cf<|.x 4 rfl<|.s<|.g<|.r 2<|.d<|T.Rt func125 results125 ⟨Z.rA 0 [0] out a_out c_out (by exact E8 ‹_› AB),Z.xt⟩)
 refine .d<|.s<|.ct<|.sk<|.s<|.b 5<|.s<|.g<|gx s.mem k fun ak ah=>?_
 have bm:=Ab ah; have aG:=AV ah
 refine RG.Ix 7 ah Z<|Z.el 7 ah fun Z=>RG.Lg 0 0 Z<|RG.Np Z fun bD w Z=>RG.Ss 0 Z fun w Z=>.d<|.s<|.g<|.r 1<|RG.Lb 0 Z<|.r 1<|.eq ak.id id (fun aB=>?_) (fun aB=>?_)
 ·refine .d<|.ct<|.g<|.r 2<|RG.Ln 0 Z<|RG.DA 1 0 (Im out ak.row (Z.a 2) (by (have q1:=Blk.len (by assumption:Blk out); omega))) Z fun aC aD w Z=>?_
  refine .r 1<|.d<|.ib 5<|.g<|.it ((k:Int)+1)<|.r 1<|.d ?_
  have Z:=Z.sM 0 0 [0] [.s aC aD (C4 ak.row out)]
  exact ae (C4 ak.row out,aC,aD,k+1) _ _ AA (Z.to 1 [0,2] 6) ⟨AB,(by exact Blk.ins ‹_› (p1 _ ‹_›)),(by have q1:=EK (by assumption:(s.mem.drop k).foldl (CZ id) out=_) ‹_›; (rw [Nj ‹_› ‹_›] at q1; exact q1))⟩ (by (simp only []; omega))
 refine .d<|.cf<|.sk<|.ib 5<|.g<|.it ((k:Int)+1)<|.r 1<|.d ?_
 have Z:=Z.sM 1 0 [0] [.s a_out c_out out]
 exact ae (out,a_out,c_out,k+1) _ _ AA (Z.to 1 [0,3] 4) ⟨AB,‹_›,(by have q1:=EK (by assumption:(s.mem.drop k).foldl (CZ id) out=_) ‹_›; (rw [HQ ‹_›] at q1; exact q1))⟩ (by (simp only []; omega))
theorem Am (p:Prt) (h1:RepS w F a1 n1 c1 p.ids) (h2:RepS w F a2 n2 c2 p.blocks) (p0:CR p):Calls Tryz.prog 105 [.agg #[.slice a1 n1 c1,.slice a2 n2 c2]].toArray w (Af fun rv w'=>VD w.heap.size w' (p:Prt) rv∧Ext w w'):=by
 cases h1.len
 cases h2.len
 refine goT func105 ?_
 have Z:=((St.i0 F w).p h1).p h2
 have aD:=h1.max
 have aE:=h2.max
 have Z:=Z.s0 0
 refine .s<|.g<|RG.Np Z fun ax w Z=>RG.Np Z fun aj w Z=>.d<|.s<|.g<|RG.N0 Int 0 Z fun aK w Z=>.r 1<|RG.Lb 2 Z<|RG.An (hs:=by (simp only [List.nil_append,List.length_nil,List.length_append,List.length_cons] <;> exact (by have q1:=p0.1; have q2:=p0.2.1; omega))) (hf:=.inr Av) 0 2 ([]:List Int) p.ids Z fun ay az w Z=>RG.N0 (Hd 0) 0 Z fun aA w Z=>?_
 have Z:=Z.o2r 0 0 (List Row) 0
 refine .r 1<|RG.Np Z fun ai w Z=>RG.Ss 0 Z fun w Z=>.d<|.s<|.s<|.g<|.r 1<|RG.Lb 4 Z<|.r 2<|.d<|.b 0<|T.Lp ((0:Nat),(([]++p.ids):List Int),ay,az,([]:List (List Row)),aA,(0:Nat),([]:List (Hd 0))) (fun (k,ab,r_out_0,c_out_0,aa,r_out_1,c_out_1,hs)=>([(2,vP aj),(3,vP ai),(13,.slice a2 p.blocks.length c2),(14,vI (p.blocks.length:Int)),(15,vI (k:Int))],[(0,.box ai 146 [vS r_out_0 ab.length c_out_0,vS r_out_1 aa.length c_out_1]),(1,.raw 0 r_out_1 159 c_out_1 aa hs),(2,.own 0 r_out_0 3 c_out_0 ab)],[⟨0,none,.sep [.e aa hs]⟩],p.blocks.length - k,(k≤p.blocks.length)∧(ab=p.ids)∧(aa.length≤k)∧(aa++p.blocks.drop k=p.blocks))) [0] Z ⟨AB,AF,AD,AF⟩ ?_
 rintro ⟨k,ab,r_out_0,c_out_0,aa,r_out_1,c_out_1,hs⟩ aL w Z ⟨aF,aG,aH,aI⟩ af
 refine .s<|.g<|.bp ((k:Int)< (p.blocks.length:Int)) (fun aq=>?_) (fun aq=>?_)
 ·refine .d<|.s<|.ct<|.sk<|.s<|.b 1<|.s<|.g<|gx p.blocks k fun ac ae=>?_
  have aJ:=Ab ae; have ar:=AV ae
  refine RG.Ix 3 ae Z<|Z.el 3 ae fun aM aN Z=>RG.Lh 0 0 Z<|.r 1<|.d<|T.GS 6 [ai,aj,ax] Z fun _ w Z=>.r [0]<|GA.Lb 1 0 Z<|.r [3]<|.go 2<|GE.N0 Row 0 Z fun aO w Z=>.go 4<|GE.An (hs:=by (simp only [List.nil_append,List.length_nil,List.length_append,List.length_cons] <;> exact (by have q1:=p0.1; (have q3:=p0.2.2 _ ‹_›; omega)))) (hf:=.inr Bn) 0 1 ([]:List Row) ac [1,4,5] Z fun ag ah w Z=>.go 5<|GE.Nb 1 Z fun aP w Z=>GA.Do Z fun w Z=>RG.Ar (hsz:=by exact (by have q1:=p0.1; have q2:=p0.2.1; omega)) 1 0 aa ([]++ac) hs (⟨Shp.cells ([]++ac) ([(some ⟨ag,0,none⟩,ah)]:List (Option Addr × Nat)),AA⟩:Hd 0) (Z.fL 1 2 0 ([]++ac)) fun aB aC w Z=>?_
  have Z:=Z.eA 1 0 [1,1] aa hs (⟨Shp.cells ([]++ac) ([(some ⟨ag,0,none⟩,ah)]:List (Option Addr × Nat)),AA⟩:Hd 0) ([]++ac) ([(some ⟨ag,0,none⟩,ah)]:List (Option Addr × Nat))
  refine .r 1<|RG.Ss 0 Z fun w Z=>.d<|.ib 1<|.g<|.it ((k:Int)+1)<|.r 1<|.d ?_
  have Z:=Z.sM 0 0 [0] [.e (aa++[([]++ac)]) (hs++[(⟨Shp.cells ([]++ac) ([(some ⟨ag,0,none⟩,ah)]:List (Option Addr × Nat)),AA⟩:Hd 0)])]
  exact af (k+1,ab,r_out_0,c_out_0,(aa++[([]++ac)]),aB,aC,(hs++[(⟨Shp.cells ([]++ac) ([(some ⟨ag,0,none⟩,ah)]:List (Option Addr × Nat)),AA⟩:Hd 0)])) _ _ AA (Z.to 0 [0] 7) ⟨AB,‹_›,(by simp; omega),(by exact RX ‹_› ‹_›)⟩ (by (simp only []; omega))
 refine .d<|.s<|.cf<|.x 0 rfl<|.s<|.g<|RG.Ln 0 Z<|RG.Ss 3 Z fun w Z=>.d ?_
 have Z:=(Z.fL 2 0 0 ab).eL 1 1 0 [1] aa hs
 exact T.Rb 1 func105 results105 Z ⟨Z.rD 1 [0,1] (⟨ab,aa⟩:Prt) [(some ⟨r_out_0,0,none⟩,c_out_0),(some ⟨r_out_1,0,none⟩,c_out_1)] (by exact ZK ‹_› (Tg ‹_› AB)),Z.xt⟩
theorem EO (list:List Prt) (h1:RepS w F a1 n1 c1 list) (p0:list.length≤1000) (p1:∀ p∈list,CR p):Calls Tryz.prog 103 [.slice a1 n1 c1].toArray w (Af fun rv w'=>VB 1 146 w.heap.size w' (list:List Prt) rv∧Ext w w'):=by
 cases h1.len
 refine goT func103 ?_
 have Z:=(St.i0 F w).p h1
 have Z:=Z.s0 0
 refine .s<|.g<|.r 1<|.d<|.s<|.g<|RG.N0 (Hd 1) 0 Z fun ak w Z=>?_
 have Z:=Z.o2r 0 0 Prt 1
 refine .r 1<|.d<|.s<|.s<|.g<|.r 3<|.d<|.b 0<|T.Lp (([]:List Prt),ak,(0:Nat),([]:List (Hd 1)),(0:Nat)) (fun (out,r_out,c_out,hs,k)=>([(3,vS r_out out.length c_out),(7,.slice a1 list.length c1),(8,vI (list.length:Int)),(9,vI (k:Int))],[(0,.raw 0 r_out 146 c_out out hs)],[⟨0,none,.sep [.e out hs]⟩],list.length - k,(k≤list.length)∧(out.length≤k)∧(out++list.drop k=list))) [0] Z ⟨AB,AD,AF⟩ ?_
 rintro ⟨out,r_out,c_out,hs,k⟩ aA w Z ⟨ar,ax,ay⟩ ac
 refine .s<|.g<|.bp ((k:Int)< (list.length:Int)) (fun ai=>?_) (fun ai=>.d<|.s<|.cf<|.x 0 rfl<|.s<|.g<|.r 2<|.d<|T.Rt func103 results103 ⟨Z.rB 0 0 [0] out hs (by exact Tg ‹_› AB),Z.xt⟩)
 refine .d<|.s<|.ct<|.sk<|.s<|.b 1<|.s<|.g<|gx list k fun aa ab=>?_
 have az:=Ab ab; have aj:=AV ab
 refine RG.Ix 3 ab Z<|Z.el 3 ab fun aB aC aD aE Z=>RG.Lg 0 0 Z<|RG.Np Z fun aF w Z=>RG.Ss 0 Z fun w Z=>.d<|.g<|.r 1<|RG.Ln 0 Z<|RG.DD 3 0 (Am aa (Z.a 1) (Z.a 2) (p1 _ ‹_›)) Z fun ae af ag ah w Z=>RG.Nb 1 Z fun aG w Z=>RG.Ar 1 0 out aa hs (⟨Shp.cells aa ([(ae,af),(ag,ah)]:List (Option Addr × Nat)),AA⟩:Hd 1) Z fun am ao w Z=>?_
 have Z:=Z.eA 0 0 [2,2,2] out hs (⟨Shp.cells aa ([(ae,af),(ag,ah)]:List (Option Addr × Nat)),AA⟩:Hd 1) aa ([(ae,af),(ag,ah)]:List (Option Addr × Nat))
 refine .r 1<|.d<|.ib 1<|.g<|.it ((k:Int)+1)<|.r 1<|.d ?_
 have Z:=Z.sM 0 0 [0] [.e (out++[aa]) (hs++[(⟨Shp.cells aa ([(ae,af),(ag,ah)]:List (Option Addr × Nat)),AA⟩:Hd 1)])]
 exact ac ((out++[aa]),am,ao,(hs++[(⟨Shp.cells aa ([(ae,af),(ag,ah)]:List (Option Addr × Nat)),AA⟩:Hd 1)]),k+1) _ _ AA (Z.to 1 [0] 9) ⟨AB,(by simp; omega),(by exact Ti ‹_› ‹_›)⟩ (by (simp only []; omega))
theorem Aq (names:List (List Tag)) (h1:RepS w F a1 n1 c1 names) (p0:names.length≤1100000) (p1:∀ n∈names,n.length≤1100000):Calls Tryz.prog 104 [.slice a1 n1 c1].toArray w (Af fun rv w'=>VB 0 69 w.heap.size w' (names:List (List Tag)) rv∧Ext w w'):=by
 cases h1.len
 refine goT func104 ?_
 have Z:=(St.i0 F w).p h1
 have Z:=Z.s0 0
 refine .s<|.g<|.r 1<|.d<|.s<|.g<|RG.N0 (Hd 0) 0 Z fun ai w Z=>?_
 have Z:=Z.o2r 0 0 (List Tag) 0
 refine .r 1<|.d<|.s<|.s<|.g<|.r 3<|.d<|.b 0<|T.Lp (([]:List (List Tag)),ai,(0:Nat),([]:List (Hd 0)),(0:Nat)) (fun (out,r_out,c_out,hs,k)=>([(3,vS r_out out.length c_out),(7,.slice a1 names.length c1),(8,vI (names.length:Int)),(9,vI (k:Int))],[(0,.raw 0 r_out 69 c_out out hs)],[⟨0,none,.sep [.e out hs]⟩],names.length - k,(k≤names.length)∧(out++names.drop k=names))) [0] Z ⟨AB,AF⟩ ?_
 rintro ⟨out,r_out,c_out,hs,k⟩ ax w Z ⟨ao,aq⟩ ac
 refine .s<|.g<|.bp ((k:Int)< (names.length:Int)) (fun ag=>?_) (fun ag=>.d<|.s<|.cf<|.x 0 rfl<|.s<|.g<|.r 2<|.d<|T.Rt func104 results104 ⟨Z.rB 0 0 [0] out hs (by grind),Z.xt⟩)
 refine .d<|.s<|.ct<|.sk<|.s<|.b 1<|.s<|.g<|gx names k fun aa ab=>?_
 have ar:=Ab ab; have ah:=AV ab
 refine RG.Ix 3 ab Z<|Z.el 3 ab fun ay az Z=>RG.Lh 0 0 Z<|.r 1<|.d<|.g<|.r 1<|RG.N0 Tag 0 Z fun aA w Z=>.r 1<|RG.An (hs:=by exact (by grind)) (hf:=.inr Lc) 0 1 ([]:List Tag) aa Z fun ae af w Z=>RG.Nb 1 Z fun aB w Z=>RG.Ar (hsz:=by exact (by grind)) 0 0 out ([]++aa) hs (⟨Shp.cells ([]++aa) ([(some ⟨ae,0,none⟩,af)]:List (Option Addr × Nat)),AA⟩:Hd 0) (Z.fL 1 2 0 ([]++aa)) fun aj ak w Z=>?_
 have Z:=Z.eA 1 0 [1,1] out hs (⟨Shp.cells ([]++aa) ([(some ⟨ae,0,none⟩,af)]:List (Option Addr × Nat)),AA⟩:Hd 0) ([]++aa) ([(some ⟨ae,0,none⟩,af)]:List (Option Addr × Nat))
 refine .r 1<|.d<|.ib 1<|.g<|.it ((k:Int)+1)<|.r 1<|.d ?_
 have Z:=Z.sM 0 0 [0] [.e (out++[([]++aa)]) (hs++[(⟨Shp.cells ([]++aa) ([(some ⟨ae,0,none⟩,af)]:List (Option Addr × Nat)),AA⟩:Hd 0)])]
 exact ac ((out++[([]++aa)]),aj,ak,(hs++[(⟨Shp.cells ([]++aa) ([(some ⟨ae,0,none⟩,af)]:List (Option Addr × Nat)),AA⟩:Hd 0)]),k+1) _ _ AA (Z.to 0 [0] 7) ⟨AB,(by grind)⟩ (by (simp only []; omega))
end Go.Proofs.YtcginoabkicdiaaGreat
namespace Go.Proofs.YtcginoabkicdiaaGreat
theorem Tt {α:Type}[Rep α] [Shp α] [Dp α] [Lf α] {s:Nat}{w:World}{y:α}{v:Value}(h:VD s w y v):VS (ge s) w y v:=let ⟨l,h1,h2,h3⟩:=h; ⟨_,h2,Dp.rp (Lf.mk_ l h1 h3)⟩
theorem Zb {α:Type}[Rep α] [Dp α] {s:Nat}{w:World}{ys:List α}{v:Value}(h:VA s w ys v):VL (ge s) w ys v:=let ⟨a,c,h1,h2⟩:=h; ⟨a,c,h1,DpS.rep (Eu h2 AI)⟩
variable {w:World} {F:Nat→Prop} {a1 a2 a3 a4:Option Addr} {n1 c1 n2 c2 n3 c3 n4 c4:Nat}
set_option maxRecDepth 100000 in
theorem JK (s:Sto) (id:Int) (h1:RepS w F a1 n1 c1 s.idx.names) (h2:RepS w F a2 n2 c2 s.idx.AX) (h3:RepS w F a3 n3 c3 s.parts) (h4:RepS w F a4 n4 c4 s.mem) (p0:∀ p∈s.parts,PrtI p∧Ai p=true) (p1:∀ m∈s.mem,BS m.row=true) (p2:s.parts.length≤1000) (p3:s.mem.length≤1000):Calls Tryz.prog 125 [.agg #[.slice a1 n1 c1,.slice a2 n2 c2,.slice a3 n3 c3,.slice a4 n4 c4],.int .i64 id].toArray w (Af fun rv w'=>VL (ge w.heap.size) w' (rowsOf s id:List Row) rv∧Ext w w'):=by
 refine (EN s id h1 h2 h3 h4 p0 p1 p2 p3).mono ?_
 rintro e w' ⟨v,rfl,h,hx⟩
 exact ⟨v,rfl,Zb h,hx⟩
set_option maxRecDepth 100000 in
theorem GG (p:Prt) (h1:RepS w F a1 n1 c1 p.ids) (h2:RepS w F a2 n2 c2 p.blocks) (p0:CR p):Calls Tryz.prog 105 [.agg #[.slice a1 n1 c1,.slice a2 n2 c2]].toArray w (Af fun rv w'=>VS (ge w.heap.size) w' (p:Prt) rv∧Ext w w'):=by
 refine (Am p h1 h2 p0).mono ?_
 rintro e w' ⟨v,rfl,h,hx⟩
 exact ⟨v,rfl,Tt h,hx⟩
end Go.Proofs.YtcginoabkicdiaaGreat
