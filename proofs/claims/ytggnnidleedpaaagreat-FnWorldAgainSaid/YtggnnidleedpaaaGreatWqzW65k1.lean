/- walks; pruned haves; hints pruned; squeezed -/
import Derived.Test.YtggnnidleedpaaaGreatWqzSwk1
import Derived.Test.YtggnnidleedpaaaGreatWqzW70
open Go.Proofs.Tryz
set_option linter.unusedVariables false
set_option linter.unusedSimpArgs false
namespace Go.Proofs.YtggnnidleedpaaaGreat
set_option maxRecDepth 100000
set_option maxHeartbeats 4000000
variable {w:World} {F:Nat→Prop} {a1 a2 a3 a4 a5 a6 a7:Option Addr} {n1 c1 n2 c2 n3 c3 n4 c4 n5 c5 n6 c6 n7 c7:Nat}
theorem K3 (w_:Wld) (h1:RepS w F a1 n1 c1 w_.store.idx.names) (h2:RepS w F a2 n2 c2 w_.store.idx.AY) (h3:RepS w F a3 n3 c3 w_.store.parts) (h4:RepS w F a4 n4 c4 w_.store.mem) (h5:RepS w F a5 n5 c5 w_.disk.files) (h6:RepS w F a6 n6 c6 w_.disk.list) (h7:RepS w F a7 n7 c7 w_.disk.names) (p0:SG w_.store) (p1:DD w_.disk):Calls Tryz.prog 22 [.agg #[.slice a1 n1 c1,.slice a2 n2 c2,.slice a3 n3 c3,.slice a4 n4 c4,.slice a5 n5 c5,.slice a6 n6 c6,.slice a7 n7 c7,.int .i64 w_.disk.next]].toArray w (Am fun rv w'=>rv=.bool (CY w_.disk w_.store)∧Ext w w'):=by
 cases h1.len
 cases h2.len
 cases h3.len
 cases h4.len
 cases h5.len
 cases h6.len
 cases h7.len
 refine goT func22 ?_
 have Z:=(((((((St.i0 F w).p h1).p h2).p h3).p h4).p h5).p h6).p h7
 exact .s<|.g<|RG.Np Z fun ah w Z=>.r 1<|.d<|.s<|.g<|.r 1<|RG.Ln 0 Z<|.r 1<|RG.Ln 0 Z<|RG.C0 (Gv w_.store w_.disk (Z.a 6) (Z.a 5) (Z.a 4) (Z.a 3) (Z.a 2) (Z.a 1) (Z.a 0) p0 p1) Z fun w Z=>.r 1<|.d<|T.rt func22 results22 (.bool (CY w_.disk w_.store)) ⟨(AG AF),Z.xt⟩
end Go.Proofs.YtggnnidleedpaaaGreat
namespace Go.Proofs.YtggnnidleedpaaaGreat
section
variable {w:Wld} {e:Evt}
theorem GM {es:List Evt}(h:EsD es) (h2:(Ay es).2=true):(Ay es).1.disk.next≤51:=by
 obtain ⟨_,e,hl⟩:=pv h h2
 have h3:=Pr es Cu
 have h4:Cu.disk.next=1:=rfl
 rw [e]
 unfold Bu
 omega
theorem UH (h:WV w) (q:FlD w.disk w.store) (k:e.kind=2) (h0:0≤e.cut) (hc:e.cut< 2):doW w e=⟨Al w.disk,BK (toD w.disk (As w.disk w.store) e.cut)⟩:=by
 rw [Gk k]
 have hl:=FI q
 rw [DL AB AB AB,F5 (w:=⟨w.store,toD w.disk (As w.disk w.store) e.cut⟩) (Kz h q _) (q.to _).1]
 show (⟨Al (toD w.disk (As w.disk w.store) e.cut),_⟩:Wld)=_
 rw [(q.to e.cut).2,if_pos hc]
end
theorem J1 (n:Nat){k:Int}(hk:0< k):0≤Int.tmod (n:Int) k∧Int.tmod (n:Int) k< k:=⟨Int.tmod_nonneg k AB,Int.tmod_lt_of_pos _ hk⟩
end Go.Proofs.YtggnnidleedpaaaGreat
namespace Go.Proofs.YtggnnidleedpaaaGreat
set_option maxRecDepth 100000
set_option maxHeartbeats 4000000
variable {w:World} {F:Nat→Prop} {a1 a2 a3 a4 a5 a6 a7 a8:Option Addr} {n1 c1 n2 c2 n3 c3 n4 c4 n5 c5 n6 c6 n7 c7 n8 c8:Nat}
theorem K5 (w_:Wld) (e:Evt) (h1:RepS w F a1 n1 c1 w_.store.idx.names) (h2:RepS w F a2 n2 c2 w_.store.idx.AY) (h3:RepS w F a3 n3 c3 w_.store.parts) (h4:RepS w F a4 n4 c4 w_.store.mem) (h5:RepS w F a5 n5 c5 w_.disk.files) (h6:RepS w F a6 n6 c6 w_.disk.list) (h7:RepS w F a7 n7 c7 w_.disk.names) (h8:RepS w F a8 n8 c8 e.name) (p0:WV w_) (p1:NmD e.name):Calls Tryz.prog 23 [.agg #[.slice a1 n1 c1,.slice a2 n2 c2,.slice a3 n3 c3,.slice a4 n4 c4,.slice a5 n5 c5,.slice a6 n6 c6,.slice a7 n7 c7,.int .i64 w_.disk.next],.agg #[.int .i64 e.kind,.int .i64 e.at_,.int .i64 e.cut,.slice a8 n8 c8,.int .i64 e.row.t,.int .i64 e.row.v]].toArray w (Am fun rv w'=>VS (fo F w.heap.size) w' (doW w_ e:Wld) rv∧Ext w w'):=by
 cases h1.len
 cases h2.len
 cases h3.len
 cases h4.len
 cases h5.len
 cases h6.len
 cases h7.len
 cases h8.len
 refine goT func23 ?_
 have Z:=((((((((St.i0 F w).p h1).p h2).p h3).p h4).p h5).p h6).p h7).p h8
 refine .s<|.g<|RG.Np Z fun dQ w Z=>RG.Np Z fun dR w Z=>RG.Np Z fun dS w Z=>.d<|.s<|.s<|.g<|RG.Ln 2 Z<|RG.C0 (K3 w_ (Z.a 7) (Z.a 6) (Z.a 5) (Z.a 4) (Z.a 3) (Z.a 2) (Z.a 1) (SG.of p0.sd) p0.dd) Z fun w Z=>?_
 have aV:(CY w_.disk w_.store)=true:=p0.fits
 rw [aV]
 refine .r 1<|.d<|.cf<|.sk<|.s<|T.Gd 8 Z fun w Z=>.r [0]<|GA.Ln 1 2 Z<|.r [3]<|GA.Ln 4 2 Z<|.tw 2 7 ?_ ?_
 ·refine GE.Cg (fun w Z=>CV (w_.store) (Z.a 7) (Z.a 6) (Z.a 5) (Z.a 4) p0.wd.wi.sto.nm p0.sd.nd p0.sd.sz) Z ?_
  rintro w _ w Z ⟨⟨cx,dT,cy,cz,dU,cA,cB,dV,cC,cD,dW,cE,rfl,aW,aX,ah,aY,ai,aZ,ba⟩,aj⟩
  refine ⟨Ext.chg aj,?_⟩
  cases aW.len
  cases aX.len
  cases ah.len
  cases ai.len
  have Z:=Z.so aj [.own 0 cB 48 cC (((AZ (w_.store))).parts),.own 0 cD 85 cE (((AZ (w_.store))).mem)] [.rep cx cy ((((AZ (w_.store))).idx).names),.rep cz cA ((((AZ (w_.store))).idx).AY)] (nd2 ba) (oN ah aY (oN ai aZ o0)) (fc aW (fc aX fn_))
  refine .tw 5 7 ?_ ?_
  ·refine GE.Cg (fun w Z=>CQ (w_.disk) (Z.a 5) (Z.a 4) (Z.a 3) (by exact Qc p0.dd) (by exact Qd p0.dd) (by exact Qe p0.dd) (by exact Qf p0.dd) (by exact Qg p0.dd)) Z ?_
   rintro w _ w Z ⟨⟨cF,dX,cG,cH,dY,cI,cJ,dZ,cK,rfl,ak,bd,bg,bh⟩,al⟩
   refine ⟨Ext.chg al,?_⟩
   cases ak.len
   cases bg.len
   cases bh.len
   have Z:=Z.so al [.own 0 cF 50 cG (((w_.disk)).files)] [.rep cH cI (((w_.disk)).list),.rep cJ cK (((w_.disk)).names)] nd1 (oN ak bd o0) (fc bg (fc bh fn_))
   refine .r [6]<|.go 7<|GE.Np Z fun d0 w Z=>GA.Dn Z fun w Z=>RG.Ss 0 Z fun w Z=>.d<|.s<|.g<|RG.Ln 5 Z ?_
   have Z:=((Z.sl 2).sl 2).sl 1
   refine RG.cl (Di (⟨(⟨(⟨(((AZ (w_.store))).idx).names,(((AZ (w_.store))).idx).AY⟩:Idx),((AZ (w_.store))).parts,((AZ (w_.store))).mem⟩:Sto),(⟨((w_.disk)).files,((w_.disk)).list,((w_.disk)).names,((w_.disk)).next⟩:Dsk)⟩:Wld) e (Z.rm 1 0 5) (Z.rm 1 0 6) (Z.rm 1 0 2) (Z.rm 1 0 1) (Z.rm 1 0 0) (Z.rm 1 0 3) (Z.rm 1 0 4) (Z.bc 0) (Z.rm 1 0 7) (by have q1:=p0.sd.copy; (rw [q1]; exact p0)) p1) ?_
   rintro _ w ⟨⟨rfl,cL,d3,cM,cN,d4,cO,cP,d5,cQ,cR,d6,cS,cT,d7,cU,cV,d8,cW,cX,d9,cY,bj,bk,bm,bn,bo,bq,br,bt⟩,bu⟩
   cases bk.len
   cases bm.len
   cases bn.len
   cases bo.len
   cases bq.len
   cases br.len
   cases bt.len
   have Z:=(Z.rx 0 (Uv bu) bj).aw Z AA [.rep cL cM (((((doW (⟨(⟨(⟨(((AZ (w_.store))).idx).names,(((AZ (w_.store))).idx).AY⟩:Idx),((AZ (w_.store))).parts,((AZ (w_.store))).mem⟩:Sto),(⟨((w_.disk)).files,((w_.disk)).list,((w_.disk)).names,((w_.disk)).next⟩:Dsk)⟩:Wld) e)).store).idx).names),.rep cN cO (((((doW (⟨(⟨(⟨(((AZ (w_.store))).idx).names,(((AZ (w_.store))).idx).AY⟩:Idx),((AZ (w_.store))).parts,((AZ (w_.store))).mem⟩:Sto),(⟨((w_.disk)).files,((w_.disk)).list,((w_.disk)).names,((w_.disk)).next⟩:Dsk)⟩:Wld) e)).store).idx).AY),.rep cP cQ ((((doW (⟨(⟨(⟨(((AZ (w_.store))).idx).names,(((AZ (w_.store))).idx).AY⟩:Idx),((AZ (w_.store))).parts,((AZ (w_.store))).mem⟩:Sto),(⟨((w_.disk)).files,((w_.disk)).list,((w_.disk)).names,((w_.disk)).next⟩:Dsk)⟩:Wld) e)).store).parts),.rep cR cS ((((doW (⟨(⟨(⟨(((AZ (w_.store))).idx).names,(((AZ (w_.store))).idx).AY⟩:Idx),((AZ (w_.store))).parts,((AZ (w_.store))).mem⟩:Sto),(⟨((w_.disk)).files,((w_.disk)).list,((w_.disk)).names,((w_.disk)).next⟩:Dsk)⟩:Wld) e)).store).mem),.rep cT cU ((((doW (⟨(⟨(⟨(((AZ (w_.store))).idx).names,(((AZ (w_.store))).idx).AY⟩:Idx),((AZ (w_.store))).parts,((AZ (w_.store))).mem⟩:Sto),(⟨((w_.disk)).files,((w_.disk)).list,((w_.disk)).names,((w_.disk)).next⟩:Dsk)⟩:Wld) e)).disk).files),.rep cV cW ((((doW (⟨(⟨(⟨(((AZ (w_.store))).idx).names,(((AZ (w_.store))).idx).AY⟩:Idx),((AZ (w_.store))).parts,((AZ (w_.store))).mem⟩:Sto),(⟨((w_.disk)).files,((w_.disk)).list,((w_.disk)).names,((w_.disk)).next⟩:Dsk)⟩:Wld) e)).disk).list),.rep cX cY ((((doW (⟨(⟨(⟨(((AZ (w_.store))).idx).names,(((AZ (w_.store))).idx).AY⟩:Idx),((AZ (w_.store))).parts,((AZ (w_.store))).mem⟩:Sto),(⟨((w_.disk)).files,((w_.disk)).list,((w_.disk)).names,((w_.disk)).next⟩:Dsk)⟩:Wld) e)).disk).names)] (fc bk.w1 (fc bm.w1 (fc bn.w1 (fc bo.w1 (fc bq.w1 (fc br.w1 (fc bt.w1 fn_)))))))
   exact .d<|.s<|.g<|RG.Ln 0 Z<|RG.Ss 1 Z fun w Z=>.d<|T.Rb 1 func23 results23 Z ⟨Z.rS (g:=1) (doW (⟨(⟨(⟨(((AZ (w_.store))).idx).names,(((AZ (w_.store))).idx).AY⟩:Idx),((AZ (w_.store))).parts,((AZ (w_.store))).mem⟩:Sto),(⟨((w_.disk)).files,((w_.disk)).list,((w_.disk)).names,((w_.disk)).next⟩:Dsk)⟩:Wld) e) [0,1,2,3,4,5,6] (by rw [p0.sd.copy]),Z.xt⟩
  refine GE.Np Z fun ec w Z=>.go 5<|GE.Cg (fun w Z=>CQ (w_.disk) (Z.a 5) (Z.a 4) (Z.a 3) (by exact Qc p0.dd) (by exact Qd p0.dd) (by exact Qe p0.dd) (by exact Qf p0.dd) (by exact Qg p0.dd)) Z ?_
  rintro w _ w Z ⟨⟨cZ,dp,bv,bw,dq,bz,bA,dt,bB,rfl,E,aM,am,ao⟩,aa⟩
  refine ⟨Ext.chg aa,?_⟩
  cases E.len
  cases am.len
  cases ao.len
  have Z:=Z.so aa [.own 0 cZ 50 bv (((w_.disk)).files)] [.rep bw bz (((w_.disk)).list),.rep bA bB (((w_.disk)).names)] nd1 (oN E aM o0) (fc am (fc ao fn_))
  refine .r [6]<|GA.Dn Z fun w Z=>RG.Ss 1 Z fun w Z=>.d<|.s<|.g<|RG.Ln 5 Z ?_
  have Z:=((Z.sl 2).sl 2).sl 0
  refine RG.cl (Di (⟨(⟨(⟨(((AZ (w_.store))).idx).names,(((AZ (w_.store))).idx).AY⟩:Idx),((AZ (w_.store))).parts,((AZ (w_.store))).mem⟩:Sto),(⟨((w_.disk)).files,((w_.disk)).list,((w_.disk)).names,((w_.disk)).next⟩:Dsk)⟩:Wld) e (Z.rm 1 0 5) (Z.rm 1 0 6) (Z.rm 1 0 2) (Z.rm 1 0 1) (Z.rm 1 0 0) (Z.rm 1 0 3) (Z.rm 1 0 4) (Z.bc 0) (Z.rm 1 0 7) (by have q1:=p0.sd.copy; (rw [q1]; exact p0)) p1) ?_
  rintro _ w ⟨⟨rfl,bC,du,bD,bE,dv,bF,bG,dw,bH,bI,dx,bJ,bK,dy,bL,bM,dz,bN,bO,dA,bP,aN,aq,ar,au,ax,ay,az,aA⟩,aO⟩
  cases aq.len
  cases ar.len
  cases au.len
  cases ax.len
  cases ay.len
  cases az.len
  cases aA.len
  have Z:=(Z.rx 0 (Uv aO) aN).aw Z AA [.rep bC bD (((((doW (⟨(⟨(⟨(((AZ (w_.store))).idx).names,(((AZ (w_.store))).idx).AY⟩:Idx),((AZ (w_.store))).parts,((AZ (w_.store))).mem⟩:Sto),(⟨((w_.disk)).files,((w_.disk)).list,((w_.disk)).names,((w_.disk)).next⟩:Dsk)⟩:Wld) e)).store).idx).names),.rep bE bF (((((doW (⟨(⟨(⟨(((AZ (w_.store))).idx).names,(((AZ (w_.store))).idx).AY⟩:Idx),((AZ (w_.store))).parts,((AZ (w_.store))).mem⟩:Sto),(⟨((w_.disk)).files,((w_.disk)).list,((w_.disk)).names,((w_.disk)).next⟩:Dsk)⟩:Wld) e)).store).idx).AY),.rep bG bH ((((doW (⟨(⟨(⟨(((AZ (w_.store))).idx).names,(((AZ (w_.store))).idx).AY⟩:Idx),((AZ (w_.store))).parts,((AZ (w_.store))).mem⟩:Sto),(⟨((w_.disk)).files,((w_.disk)).list,((w_.disk)).names,((w_.disk)).next⟩:Dsk)⟩:Wld) e)).store).parts),.rep bI bJ ((((doW (⟨(⟨(⟨(((AZ (w_.store))).idx).names,(((AZ (w_.store))).idx).AY⟩:Idx),((AZ (w_.store))).parts,((AZ (w_.store))).mem⟩:Sto),(⟨((w_.disk)).files,((w_.disk)).list,((w_.disk)).names,((w_.disk)).next⟩:Dsk)⟩:Wld) e)).store).mem),.rep bK bL ((((doW (⟨(⟨(⟨(((AZ (w_.store))).idx).names,(((AZ (w_.store))).idx).AY⟩:Idx),((AZ (w_.store))).parts,((AZ (w_.store))).mem⟩:Sto),(⟨((w_.disk)).files,((w_.disk)).list,((w_.disk)).names,((w_.disk)).next⟩:Dsk)⟩:Wld) e)).disk).files),.rep bM bN ((((doW (⟨(⟨(⟨(((AZ (w_.store))).idx).names,(((AZ (w_.store))).idx).AY⟩:Idx),((AZ (w_.store))).parts,((AZ (w_.store))).mem⟩:Sto),(⟨((w_.disk)).files,((w_.disk)).list,((w_.disk)).names,((w_.disk)).next⟩:Dsk)⟩:Wld) e)).disk).list),.rep bO bP ((((doW (⟨(⟨(⟨(((AZ (w_.store))).idx).names,(((AZ (w_.store))).idx).AY⟩:Idx),((AZ (w_.store))).parts,((AZ (w_.store))).mem⟩:Sto),(⟨((w_.disk)).files,((w_.disk)).list,((w_.disk)).names,((w_.disk)).next⟩:Dsk)⟩:Wld) e)).disk).names)] (fc aq.w1 (fc ar.w1 (fc au.w1 (fc ax.w1 (fc ay.w1 (fc az.w1 (fc aA.w1 fn_)))))))
  exact .d<|.s<|.g<|RG.Ln 0 Z<|RG.Ss 1 Z fun w Z=>.d<|T.Rb 1 func23 results23 Z ⟨Z.rS (g:=1) (doW (⟨(⟨(⟨(((AZ (w_.store))).idx).names,(((AZ (w_.store))).idx).AY⟩:Idx),((AZ (w_.store))).parts,((AZ (w_.store))).mem⟩:Sto),(⟨((w_.disk)).files,((w_.disk)).list,((w_.disk)).names,((w_.disk)).next⟩:Dsk)⟩:Wld) e) [0,1,2,3,4,5,6] (by rw [p0.sd.copy]),Z.xt⟩
 refine GE.Np Z fun dB w Z=>.go 2<|GE.Cg (fun w Z=>CV (w_.store) (Z.a 7) (Z.a 6) (Z.a 5) (Z.a 4) p0.wd.wi.sto.nm p0.sd.nd p0.sd.sz) Z ?_
 rintro w _ w Z ⟨⟨bQ,dC,bR,bS,dD,bT,bU,dE,bV,bW,dF,bX,rfl,aB,aC,ab,aP,ac,aQ,aR⟩,ae⟩
 refine ⟨Ext.chg ae,?_⟩
 cases aB.len
 cases aC.len
 cases ab.len
 cases ac.len
 have Z:=Z.so ae [.own 0 bU 48 bV (((AZ (w_.store))).parts),.own 0 bW 85 bX (((AZ (w_.store))).mem)] [.rep bQ bR ((((AZ (w_.store))).idx).names),.rep bS bT ((((AZ (w_.store))).idx).AY)] (nd2 aR) (oN ab aP (oN ac aQ o0)) (fc aB (fc aC fn_))
 refine .go 5<|GE.Cg (fun w Z=>CQ (w_.disk) (Z.a 5) (Z.a 4) (Z.a 3) (by exact Qc p0.dd) (by exact Qd p0.dd) (by exact Qe p0.dd) (by exact Qf p0.dd) (by exact Qg p0.dd)) Z ?_
 rintro w _ w Z ⟨⟨bY,dG,bZ,b0,dH,b6,b7,dI,b8,rfl,af,aS,aD,aE⟩,ag⟩
 refine ⟨Ext.chg ag,?_⟩
 cases af.len
 cases aD.len
 cases aE.len
 have Z:=Z.so ag [.own 0 bY 50 bZ (((w_.disk)).files)] [.rep b0 b6 (((w_.disk)).list),.rep b7 b8 (((w_.disk)).names)] nd1 (oN af aS o0) (fc aD (fc aE fn_))
 refine .r [6]<|GA.Dn Z fun w Z=>RG.Ss 3 Z fun w Z=>.d<|.s<|.g<|RG.Ln 5 Z ?_
 have Z:=((Z.sl 1).sl 1).sl 0
 refine RG.cl (Di (⟨(⟨(⟨(((AZ (w_.store))).idx).names,(((AZ (w_.store))).idx).AY⟩:Idx),((AZ (w_.store))).parts,((AZ (w_.store))).mem⟩:Sto),(⟨((w_.disk)).files,((w_.disk)).list,((w_.disk)).names,((w_.disk)).next⟩:Dsk)⟩:Wld) e (Z.rm 1 0 5) (Z.rm 1 0 6) (Z.rm 1 0 2) (Z.rm 1 0 1) (Z.rm 1 0 0) (Z.rm 1 0 3) (Z.rm 1 0 4) (Z.bc 0) (Z.rm 1 0 7) (by have q1:=p0.sd.copy; (rw [q1]; exact p0)) p1) ?_
 rintro _ w ⟨⟨rfl,b9,dJ,cd,ce,dK,cg,ci,dL,cj,ck,dM,cm,co,dN,cp,cq,dO,cr,cu,dP,cw,aT,aF,aG,aH,aI,aJ,aK,aL⟩,aU⟩
 cases aF.len
 cases aG.len
 cases aH.len
 cases aI.len
 cases aJ.len
 cases aK.len
 cases aL.len
 have Z:=(Z.rx 0 (Uv aU) aT).aw Z AA [.rep b9 cd (((((doW (⟨(⟨(⟨(((AZ (w_.store))).idx).names,(((AZ (w_.store))).idx).AY⟩:Idx),((AZ (w_.store))).parts,((AZ (w_.store))).mem⟩:Sto),(⟨((w_.disk)).files,((w_.disk)).list,((w_.disk)).names,((w_.disk)).next⟩:Dsk)⟩:Wld) e)).store).idx).names),.rep ce cg (((((doW (⟨(⟨(⟨(((AZ (w_.store))).idx).names,(((AZ (w_.store))).idx).AY⟩:Idx),((AZ (w_.store))).parts,((AZ (w_.store))).mem⟩:Sto),(⟨((w_.disk)).files,((w_.disk)).list,((w_.disk)).names,((w_.disk)).next⟩:Dsk)⟩:Wld) e)).store).idx).AY),.rep ci cj ((((doW (⟨(⟨(⟨(((AZ (w_.store))).idx).names,(((AZ (w_.store))).idx).AY⟩:Idx),((AZ (w_.store))).parts,((AZ (w_.store))).mem⟩:Sto),(⟨((w_.disk)).files,((w_.disk)).list,((w_.disk)).names,((w_.disk)).next⟩:Dsk)⟩:Wld) e)).store).parts),.rep ck cm ((((doW (⟨(⟨(⟨(((AZ (w_.store))).idx).names,(((AZ (w_.store))).idx).AY⟩:Idx),((AZ (w_.store))).parts,((AZ (w_.store))).mem⟩:Sto),(⟨((w_.disk)).files,((w_.disk)).list,((w_.disk)).names,((w_.disk)).next⟩:Dsk)⟩:Wld) e)).store).mem),.rep co cp ((((doW (⟨(⟨(⟨(((AZ (w_.store))).idx).names,(((AZ (w_.store))).idx).AY⟩:Idx),((AZ (w_.store))).parts,((AZ (w_.store))).mem⟩:Sto),(⟨((w_.disk)).files,((w_.disk)).list,((w_.disk)).names,((w_.disk)).next⟩:Dsk)⟩:Wld) e)).disk).files),.rep cq cr ((((doW (⟨(⟨(⟨(((AZ (w_.store))).idx).names,(((AZ (w_.store))).idx).AY⟩:Idx),((AZ (w_.store))).parts,((AZ (w_.store))).mem⟩:Sto),(⟨((w_.disk)).files,((w_.disk)).list,((w_.disk)).names,((w_.disk)).next⟩:Dsk)⟩:Wld) e)).disk).list),.rep cu cw ((((doW (⟨(⟨(⟨(((AZ (w_.store))).idx).names,(((AZ (w_.store))).idx).AY⟩:Idx),((AZ (w_.store))).parts,((AZ (w_.store))).mem⟩:Sto),(⟨((w_.disk)).files,((w_.disk)).list,((w_.disk)).names,((w_.disk)).next⟩:Dsk)⟩:Wld) e)).disk).names)] (fc aF.w1 (fc aG.w1 (fc aH.w1 (fc aI.w1 (fc aJ.w1 (fc aK.w1 (fc aL.w1 fn_)))))))
 exact .d<|.s<|.g<|RG.Ln 0 Z<|RG.Ss 1 Z fun w Z=>.d<|T.Rb 1 func23 results23 Z ⟨Z.rS (g:=1) (doW (⟨(⟨(⟨(((AZ (w_.store))).idx).names,(((AZ (w_.store))).idx).AY⟩:Idx),((AZ (w_.store))).parts,((AZ (w_.store))).mem⟩:Sto),(⟨((w_.disk)).files,((w_.disk)).list,((w_.disk)).names,((w_.disk)).next⟩:Dsk)⟩:Wld) e) [0,1,2,3,4,5,6] (by rw [p0.sd.copy]),Z.xt⟩
end Go.Proofs.YtggnnidleedpaaaGreat
namespace Go.Proofs.YtggnnidleedpaaaGreat
section
variable {w:Wld}
theorem GO {es:List Evt}(h:EsD es) (h2:(Ay es).2=true):NB (Ay es).1:=by
 obtain ⟨_,e,_⟩:=pv h h2
 rw [e]
 exact NB.foldl _ _ WV.new (fun _=>rfl) h
theorem fl2 {u v:Wld}(hu:WV u) (hv:WV v) (qu:FlD u.disk u.store) (qv:FlD v.disk v.store) (e:u.store=v.store) :
 Bd (doW u ⟨2,0,9,[],⟨0,0⟩⟩).store [] 0 99=Bd (doW v ⟨2,0,9,[],⟨0,0⟩⟩).store [] 0 99 ∧
  Bd (Bg (doW u ⟨2,0,9,[],⟨0,0⟩⟩).disk) [] 0 99=Bd (Bg (doW v ⟨2,0,9,[],⟨0,0⟩⟩).disk) [] 0 99:=by
 have au:=(hu.do (e:=⟨2,0,9,[],⟨0,0⟩⟩) NmD.nil).dk
 have av:=(hv.do (e:=⟨2,0,9,[],⟨0,0⟩⟩) NmD.nil).dk
 rw [F4 au,F4 av,Ie (e:=⟨2,0,9,[],⟨0,0⟩⟩) hu qu rfl AE,Ie (e:=⟨2,0,9,[],⟨0,0⟩⟩) hv qv rfl AE]
 show Bd (Ci u.store) [] 0 99=Bd (Ci v.store) [] 0 99∧Bd (Al (toD u.disk (As u.disk u.store) 9)) [] 0 99=Bd (Al (toD v.disk (As v.disk v.store) 9)) [] 0 99
 rw [(qu.to 9).2,(qv.to 9).2,if_neg AE,if_neg AE,e]
 exact ⟨rfl,rfl⟩
theorem Wt {x:Wld}{n:List Tag}{r:Row}{c:Int}(h:WV x) (nb:NB x) (hn:x.disk.next≤52) (h0:¬ (x.store.mem.length:Int) > 0) (h6:¬ (x.store.parts.length:Int)=6) (hnm:NmD n) (hok:Aq n=true) (hc:0≤c∧c< 2) :
 Bd (doW (doW (doW (doW x ⟨1,0,0,n,r⟩) ⟨2,0,c,[],⟨0,0⟩⟩) ⟨1,0,0,n,r⟩) ⟨2,0,9,[],⟨0,0⟩⟩).store [] 0 99=Bd (doW (doW x ⟨1,0,0,n,r⟩) ⟨2,0,9,[],⟨0,0⟩⟩).store [] 0 99 ∧
  Bd (Bg (doW (doW (doW (doW x ⟨1,0,0,n,r⟩) ⟨2,0,c,[],⟨0,0⟩⟩) ⟨1,0,0,n,r⟩) ⟨2,0,9,[],⟨0,0⟩⟩).disk) [] 0 99=Bd (Bg (doW (doW x ⟨1,0,0,n,r⟩) ⟨2,0,9,[],⟨0,0⟩⟩).disk) [] 0 99:=by
 have hm:x.store.mem=[]:=List.length_eq_zero_iff.1 AB
 have ex:x.store=Al x.disk:=by
  have e1:x.store.idx=idxOf x.disk.names:=h.sd.idx.trans (by rw [nb hm])
  have e2:x.store.parts=x.disk.list.map (Av x.disk):=h.p
  calc x.store=⟨x.store.idx,x.store.parts,x.store.mem⟩:=rfl
   _=Al x.disk:=by rw [e1,e2,hm]; rfl
 have ey:=Gi (w:=x) (e:=⟨1,0,0,n,r⟩) rfl hok
 have hy:WV (doW x ⟨1,0,0,n,r⟩):=h.do hnm
 cases hb:(CA x.store n r).2 with
 | false =>
   have ey2:doW x ⟨1,0,0,n,r⟩=x:=by
    rw [ey]
    show (⟨(CA x.store n r).1,x.disk⟩:Wld)=x
    rw [Sw hb]
   rw [ey2,KG h (.inl AB) rfl,ey2]
   exact ⟨rfl,rfl⟩
 | true =>
   have es:=(Mh hb).2.2.2.2
   have n1:=K4 x ⟨1,0,0,n,r⟩
   have ed:(doW x ⟨1,0,0,n,r⟩).disk=x.disk:=by rw [ey]
   have et:(doW x ⟨1,0,0,n,r⟩).store=FN x.store n r:=by
    rw [ey]
    show (CA x.store n r).1=_
    rw [es]
   generalize doW x ⟨1,0,0,n,r⟩=y at hy n1 ed et ⊢
   have hl:(y.store.mem.length:Int)=1:=by
    rw [et]
    show (((x.store.mem++[_]).length:Nat):Int)=1
    rw [hm]
    rfl
   have hp:y.store.parts.length=x.store.parts.length:=by rw [et]; rfl
   have qy:FlD y.disk y.store:=Su hy AB AB AB
   have hz:WV (doW y ⟨2,0,c,[],⟨0,0⟩⟩):=hy.do NmD.nil
   have ez:=UH (e:=⟨2,0,c,[],⟨0,0⟩⟩) hy qy rfl hc.1 hc.2
   have n2:=K4 y ⟨2,0,c,[],⟨0,0⟩⟩
   have ezs:(doW y ⟨2,0,c,[],⟨0,0⟩⟩).store=x.store:=by
    rw [ez]
    show Al y.disk=_
    rw [ed,← ex]
   generalize doW y ⟨2,0,c,[],⟨0,0⟩⟩=z at hz n2 ezs ⊢
   have hf:WV (doW z ⟨1,0,0,n,r⟩):=hz.do hnm
   have n3:=K4 z ⟨1,0,0,n,r⟩
   have ef:(doW z ⟨1,0,0,n,r⟩).store=y.store:=by
    rw [Gi (e:=⟨1,0,0,n,r⟩) rfl hok]
    show (CA z.store n r).1=_
    rw [ezs,es,et]
   generalize doW z ⟨1,0,0,n,r⟩=f at hf n3 ef ⊢
   have qf:FlD f.disk f.store:=Su hf AB (by rw [ef]; omega) (by rw [ef]; omega)
   exact fl2 hf hy qf qy ef
theorem Wu {n:List Tag}{r:Row}{c:Int}(h:WV w) (nb:NB w) (hn:w.disk.next≤51) (h0:¬ ((doW w ⟨2,0,9,[],⟨0,0⟩⟩).store.mem.length:Int) > 0) (h6:¬ ((doW w ⟨2,0,9,[],⟨0,0⟩⟩).store.parts.length:Int)=6)
 (hnm:NmD n) (hok:Aq n=true) (hc:0≤c∧c< 2) :
 (Bd (doW (doW (doW (doW (doW w ⟨2,0,9,[],⟨0,0⟩⟩) ⟨1,0,0,n,r⟩) ⟨2,0,c,[],⟨0,0⟩⟩) ⟨1,0,0,n,r⟩) ⟨2,0,9,[],⟨0,0⟩⟩).store [] 0 99==Bd (doW (doW (doW w ⟨2,0,9,[],⟨0,0⟩⟩) ⟨1,0,0,n,r⟩) ⟨2,0,9,[],⟨0,0⟩⟩).store [] 0 99)=true ∧
  (Bd (Bg (doW (doW (doW (doW (doW w ⟨2,0,9,[],⟨0,0⟩⟩) ⟨1,0,0,n,r⟩) ⟨2,0,c,[],⟨0,0⟩⟩) ⟨1,0,0,n,r⟩) ⟨2,0,9,[],⟨0,0⟩⟩).disk) [] 0 99==Bd (Bg (doW (doW (doW w ⟨2,0,9,[],⟨0,0⟩⟩) ⟨1,0,0,n,r⟩) ⟨2,0,9,[],⟨0,0⟩⟩).disk) [] 0 99)=true:=by
 have h1:=K4 w ⟨2,0,9,[],⟨0,0⟩⟩
 obtain ⟨e1,e2⟩:=Wt (n:=n) (r:=r) (c:=c) (h.do (e:=⟨2,0,9,[],⟨0,0⟩⟩) NmD.nil) (nb.do h _) AB h0 h6 hnm hok hc
 exact ⟨beq_iff_eq.2 e1,beq_iff_eq.2 e2⟩
theorem nma:NmD [⟨[97],[112]⟩]:=⟨by simp,fun t ht=>by
 simp only [List.mem_cons,List.not_mem_nil,or_false] at ht
 subst ht
 exact ⟨by decide,by decide⟩⟩
theorem nok:Aq [⟨[97],[112]⟩]=true:=by decide
theorem Ed (h:WV w):SD (Bg w.disk):=by rw [F4 h.dk,← Ui h]; exact (h.do NmD.nil).sd
theorem tb {P}{f}{a}{w}{b:Bool}(h:b=true) (q:Calls P f a w (Am fun rv w'=>rv=.bool b∧Ext w w')):Calls P f a w (Am fun rv w'=>rv=.bool true∧Ext w w'):=by
 subst h
 exact q
theorem wdo {w y:Wld}{e:Evt}(q:doW w e=y) (h:WV w) (he:NmD e.name):WV y:=by rw [← q]; exact h.do he
theorem J2 {x y z f a b:Wld}{n:List Tag}{r:Row}{c:Int}(h:WV w) (nb:NB w) (hn:w.disk.next≤51) (hnm:NmD n) (hok:Aq n=true) (hc:0≤c∧c< 2) (ex:doW w ⟨2,0,9,[],⟨0,0⟩⟩=x) (h0:¬ (x.store.mem.length:Int) > 0) (h6:¬ (x.store.parts.length:Int)=6)
 (ey:doW x ⟨1,0,0,n,r⟩=y) (ez:doW y ⟨2,0,c,[],⟨0,0⟩⟩=z) (ef:doW z ⟨1,0,0,n,r⟩=f) (ea:doW f ⟨2,0,9,[],⟨0,0⟩⟩=a) (eb:doW y ⟨2,0,9,[],⟨0,0⟩⟩=b) :
 (Bd a.store [] 0 99==Bd b.store [] 0 99)=true∧(Bd (Bg a.disk) [] 0 99==Bd (Bg b.disk) [] 0 99)=true:=by
 subst ex ey ez ef ea eb
 exact Wu h nb hn h0 h6 hnm hok hc
end
end Go.Proofs.YtggnnidleedpaaaGreat
namespace Go.Proofs.YtggnnidleedpaaaGreat
set_option maxRecDepth 100000
set_option maxHeartbeats 4000000
variable {w:World} {F:Nat→Prop} {a1 a2 a3 a4 a5 a6 a7 a8:Option Addr} {n1 c1 n2 c2 n3 c3 n4 c4 n5 c5 n6 c6 n7 c7 n8 c8:Nat}
theorem BP (w_:Wld) (e:Evt) (h1:RepS w F a1 n1 c1 w_.store.idx.names) (h2:RepS w F a2 n2 c2 w_.store.idx.AY) (h3:RepS w F a3 n3 c3 w_.store.parts) (h4:RepS w F a4 n4 c4 w_.store.mem) (h5:RepS w F a5 n5 c5 w_.disk.files) (h6:RepS w F a6 n6 c6 w_.disk.list) (h7:RepS w F a7 n7 c7 w_.disk.names) (h8:RepS w F a8 n8 c8 e.name) (p0:WV w_) (p1:NmD e.name):Calls Tryz.prog 23 [.agg #[.slice a1 n1 c1,.slice a2 n2 c2,.slice a3 n3 c3,.slice a4 n4 c4,.slice a5 n5 c5,.slice a6 n6 c6,.slice a7 n7 c7,.int .i64 w_.disk.next],.agg #[.int .i64 e.kind,.int .i64 e.at_,.int .i64 e.cut,.slice a8 n8 c8,.int .i64 e.row.t,.int .i64 e.row.v]].toArray w (Am fun rv w'=>(∃ (y:Wld),VS (fo F w.heap.size) w' (y:Wld) rv∧(doW w_ e=y))∧Ext w w'):=by
 refine (K5 w_ e h1 h2 h3 h4 h5 h6 h7 h8 p0 p1).mono ?_
 rintro r w' ⟨v,rfl,hv,hx⟩
 exact ⟨v,rfl,⟨_,hv,rfl⟩,hx⟩
theorem HL (code:List UInt8) (more:List UInt8) (h1:RepS w F a1 n1 c1 code) (h2:RepS w F a2 n2 c2 more)  : Calls Tryz.prog 11 [.slice a1 n1 c1,.slice a2 n2 c2].toArray w (Am fun rv w'=>rv=.bool (true)∧Ext w w'):=by
 cases h1.len
 cases h2.len
 refine goT func11 ?_
 have Z:=((St.i0 F w).p h1).p h2
 have bv:=h1.max
 have bw:=h2.max
 refine .s<|.g<|.r 1<|.d<|.s<|.s<|.g<|.r 2<|.bp ((code.length:Int) > 1048576) (fun aE=>.r 5<|.d<|.ct<|.s<|.g<|.r 1<|.d<|T.rt func11 results11 (.bool true) ⟨(AG AF),Z.xt⟩) fun aE=>.r 3<|.bp ((more.length:Int) > 1048576) (fun aF=>.r 1<|.d<|.ct<|.s<|.g<|.r 1<|.d<|T.rt func11 results11 (.bool true) ⟨(AG AF),Z.xt⟩) fun aF=>.r 1<|.d<|.cf<|.sk<|.s<|.g<|.r 1<|RG.cl (Ea code (Z.mg 1 1)) ?_
 rintro gP w ⟨⟨E,ba,bz⟩,aG⟩
 refine RG.vL Z ba aG ?_
 intro gQ gR Z
 refine .r 1<|.d<|.s<|.g<|.r 1<|RG.CT (us:=[.bool ((Ay E).2)]) (DQ E (Z.mg 1 0) (by have q1:EsD E:=‹_›; first | exact q1 | exact q1.take _)) Z fun gS gT gU gV gW gX gY gZ g0 hC hE hH hN hO w Z=>.r 2 ?_
 cases aq:(Ay E).2
 ·refine .r 1<|RG.Np Z fun hQ w Z=>RG.Ss 0 Z fun w Z=>.r 1<|.d<|.s<|.g<|.r 1<|RG.CT (us:=[.bool ((Ay E).2)]) (DR E (Z.mg 1 7) (by have q1:EsD E:=‹_›; first | exact q1 | exact q1.take _)) Z fun hV hW ia ic ie ig ii ij ik il im io ip iq w Z=>?_
  rw [aq]
  exact .r 3<|RG.Np Z fun ir w Z=>RG.Ss 0 Z fun w Z=>.r 1<|.d<|.s<|.s<|.g<|.r 2<|RG.eqv (v:=.bool false) (v':=.bool (false != false)) AA AD<|.r 1<|RG.Ln 1 Z<|RG.Ln 0 Z<|RG.C0 (tb (beq_self_eq_true _) (Ct ((Ay E).1) ((Ay E).1) (Z.a 7) (Z.a 8) (Z.a 9) (Z.a 10) (Z.a 11) (Z.a 12) (Z.a 13) (Z.a 0) (Z.a 1) (Z.a 2) (Z.a 3) (Z.a 4) (Z.a 5) (Z.a 6))) Z fun w Z=>.r 6<|.d<|.ct<|.s<|.g<|.r 2<|RG.eqv (v:=.bool true) (v':=.bool (false==false)) AA AD<|.r 1<|RG.Ln 1 Z<|RG.Ln 0 Z<|RG.C0 (tb (beq_self_eq_true _) (Ct ((Ay E).1) ((Ay E).1) (Z.a 7) (Z.a 8) (Z.a 9) (Z.a 10) (Z.a 11) (Z.a 12) (Z.a 13) (Z.a 0) (Z.a 1) (Z.a 2) (Z.a 3) (Z.a 4) (Z.a 5) (Z.a 6))) Z fun w Z=>.r 2<|.d<|T.rt func11 results11 (.bool true) ⟨(AG AF),Z.xt⟩
 refine .r 1<|RG.Np Z fun iu w Z=>RG.Ss 0 Z fun w Z=>.r 1<|.d<|.s<|.g<|.r 1<|RG.CT (us:=[.bool ((Ay E).2)]) (DR E (Z.mg 1 7) (by have q1:EsD E:=‹_›; first | exact q1 | exact q1.take _)) Z fun iw iy iz iA iB iC iD iE iF iG iH iI iJ iK w Z=>?_
 rw [aq]
 refine .r 3<|RG.Np Z fun iL w Z=>RG.Ss 0 Z fun w Z=>.r 1<|.d<|.s<|.s<|.g<|.r 2<|RG.eqv (v:=.bool false) (v':=.bool (true != true)) AA AD<|.r 1<|RG.Ln 1 Z<|RG.Ln 0 Z<|RG.C0 (tb (beq_self_eq_true _) (Ct ((Ay E).1) ((Ay E).1) (Z.a 7) (Z.a 8) (Z.a 9) (Z.a 10) (Z.a 11) (Z.a 12) (Z.a 13) (Z.a 0) (Z.a 1) (Z.a 2) (Z.a 3) (Z.a 4) (Z.a 5) (Z.a 6))) Z fun w Z=>.r 6<|.d<|.cf<|.sk<|.s<|.g<|RG.Ln 1 Z<|.r 1<|RG.cl (BP ((Ay E).1) (⟨2,0,9,([]:List Tag),(⟨0,0⟩:Row)⟩:Evt) (Z.mg 1 7) (Z.mg 1 8) (Z.mg 1 9) (Z.mg 1 10) (Z.mg 1 11) (Z.mg 1 12) (Z.mg 1 13) (Z.ng 1) (by have q1:EsD E:=‹_›; repeat' first | exact (pv q1 ‹_›).1 | exact NmD.nil | exact nma | refine wdo ‹_› ?_ ?_) (by first | exact NmD.nil | exact nma)) ?_
 rintro iM w ⟨⟨ax,bd,bA⟩,aH⟩
 refine RG.vS Z bd aH ?_
 intro iN iO iP iQ iR iS iT iU iV iW iX iY iZ ja Z
 refine RG.Np Z fun jb w Z=>RG.Ss 0 Z fun w Z=>.d<|.s<|.s<|.g<|.r 2<|RG.Lb 0 Z<|.r 1<|.bp ((ax.store.mem.length:Int) > 0) (fun aI=>.r 7<|.d<|.ct<|.s<|.g<|.r 1<|.d<|T.rt func11 results11 (.bool true) ⟨(AG AF),Z.xt⟩) fun aI=>.r 3<|RG.Lb 0 Z<|.r 1<|.eq (ax.store.parts.length:Int) 6 (fun aJ=>.r 1<|.d<|.ct<|.s<|.g<|.r 1<|.d<|T.rt func11 results11 (.bool true) ⟨(AG AF),Z.xt⟩) fun aJ=>.r 1<|.d<|.cf<|.sk<|.s<|.g<|.r 1<|RG.Nl 1 ([(⟨[97],[112]⟩:Tag)]:List Tag) [] Z fun jc w Z=>.r 5<|RG.Np Z fun jd w Z=>RG.Ss 0 Z fun w Z=>.d<|.s<|.g<|RG.Ln 2 Z<|RG.Ln 0 Z ?_
 have Z:=Z.sl 1
 refine RG.cl (BP ax (⟨1,0,0,([(⟨[97],[112]⟩:Tag)]:List Tag),(⟨Int.tmod (more.length:Int) 90,21⟩:Row)⟩:Evt) (Z.mg 1 1) (Z.mg 1 2) (Z.mg 1 3) (Z.mg 1 4) (Z.mg 1 5) (Z.mg 1 6) (Z.mg 1 7) (Z.mg 1 0) (by have q1:EsD E:=‹_›; repeat' first | exact (pv q1 ‹_›).1 | exact NmD.nil | exact nma | refine wdo ‹_› ?_ ?_) (by first | exact NmD.nil | exact nma)) ?_
 rintro je w ⟨⟨ab,bg,bB⟩,aK⟩
 refine RG.vS Z bg aK ?_
 intro bC bD bE bF bG bH bI bJ bK bL bM bN bO bP Z
 refine RG.Np Z fun bQ w Z=>RG.Ss 0 Z fun w Z=>.d<|.s<|T.Gd 9 Z fun w Z=>GA.Ln 0 0 Z<|.r [1,2,3,4]<|GA.Ln 6 1 Z<|.tw 5 8 ?_ ?_
 ·refine GE.Cg (fun w Z=>BP ab (⟨2,0,Int.tmod (more.length:Int) 2,([]:List Tag),(⟨0,0⟩:Row)⟩:Evt) (Z.mg 1 0) (Z.mg 1 1) (Z.mg 1 2) (Z.mg 1 3) (Z.mg 1 4) (Z.mg 1 5) (Z.mg 1 6) (Z.ng 1) (by have q1:EsD E:=‹_›; repeat' first | exact (pv q1 ‹_›).1 | exact NmD.nil | exact nma | refine wdo ‹_› ?_ ?_) (by first | exact NmD.nil | exact nma)) Z ?_
  rintro w bR w Z ⟨⟨ar,aL,bh⟩,ac⟩
  refine ⟨Ext.chg ac,?_⟩
  refine GA.vS Z aL ac ?_
  intro bS bT bU bV bW bX bY bZ b0 b6 b7 b8 b9 cd Z
  refine .tw 7 8 ?_ ?_
  ·refine GE.Cg (fun w Z=>BP ar (⟨1,0,0,([(⟨[97],[112]⟩:Tag)]:List Tag),(⟨Int.tmod (more.length:Int) 90,21⟩:Row)⟩:Evt) (Z.mg 1 0) (Z.mg 1 1) (Z.mg 1 2) (Z.mg 1 3) (Z.mg 1 4) (Z.mg 1 5) (Z.mg 1 6) (Z.mg 1 14) (by have q1:EsD E:=‹_›; repeat' first | exact (pv q1 ‹_›).1 | exact NmD.nil | exact nma | refine wdo ‹_› ?_ ?_) (by first | exact NmD.nil | exact nma)) Z ?_
   rintro w ce w Z ⟨⟨aM,aN,bi⟩,ae⟩
   refine ⟨Ext.chg ae,?_⟩
   refine GA.vS Z aN ae ?_
   intro cg ci cj ck cm co cp cq cr cu cw cx cy cz Z
   refine .go 8<|GE.Np Z fun cA w Z=>GA.Dn Z fun w Z=>RG.Ss 0 Z fun w Z=>.d<|.s<|.g<|RG.Ln 0 Z<|.r 1<|RG.cl (BP aM (⟨2,0,9,([]:List Tag),(⟨0,0⟩:Row)⟩:Evt) (Z.mg 1 0) (Z.mg 1 1) (Z.mg 1 2) (Z.mg 1 3) (Z.mg 1 4) (Z.mg 1 5) (Z.mg 1 6) (Z.ng 1) (by have q1:EsD E:=‹_›; repeat' first | exact (pv q1 ‹_›).1 | exact NmD.nil | exact nma | refine wdo ‹_› ?_ ?_) (by first | exact NmD.nil | exact nma)) ?_
   rintro cB w ⟨⟨af,aO,bj⟩,ay⟩
   refine RG.vS Z aO ay ?_
   intro cC cD cE cF cG cH cI cJ cK cL cM cN cO cP Z
   refine RG.Np Z fun cQ w Z=>RG.Ss 0 Z fun w Z=>.d<|.s<|.g<|RG.Ln 2 Z<|.r 1<|RG.cl (BP ab (⟨2,0,9,([]:List Tag),(⟨0,0⟩:Row)⟩:Evt) (Z.mg 1 21) (Z.mg 1 22) (Z.mg 1 23) (Z.mg 1 24) (Z.mg 1 25) (Z.mg 1 26) (Z.mg 1 27) (Z.ng 1) (by have q1:EsD E:=‹_›; repeat' first | exact (pv q1 ‹_›).1 | exact NmD.nil | exact nma | refine wdo ‹_› ?_ ?_) (by first | exact NmD.nil | exact nma)) ?_
   rintro cR w ⟨⟨ag,aP,bk⟩,az⟩
   refine RG.vS Z aP az ?_
   intro cS cT cU cV cW cX cY cZ c7 c8 da db de df Z
   refine RG.Np Z fun dh w Z=>RG.Ss 0 Z fun w Z=>.d<|.s<|T.Gd 11 Z fun w Z=>.r [0]<|GA.Ln 1 1 Z<|.r [2]<|GA.Ln 3 0 Z<|GA.C0 4 Z (fun w Z=>tb (by have q1:EsD E:=‹_›; first | exact (J2 (pv q1 ‹_›).1 (GO q1 ‹_›) (GM q1 ‹_›) nma nok (J1 more.length (k:=2) AB) ‹_› ‹_› ‹_› ‹_› ‹_› ‹_› ‹_› ‹_›).1 | exact (J2 (pv q1 ‹_›).1 (GO q1 ‹_›) (GM q1 ‹_›) nma nok (J1 more.length (k:=2) AB) ‹_› ‹_› ‹_› ‹_› ‹_› ‹_› ‹_› ‹_›).2) (Cj (af.store) (ag.store) (Z.a 7) (Z.a 8) (Z.a 9) (Z.a 10) (Z.a 0) (Z.a 1) (Z.a 2) (Z.a 3) (by have q1:EsD E:=‹_›; (first | refine WV.sd ?_ | refine Ed ?_); repeat' first | exact (pv q1 ‹_›).1 | exact NmD.nil | exact nma | refine wdo ‹_› ?_ ?_) (by have q1:EsD E:=‹_›; (first | refine WV.sd ?_ | refine Ed ?_); repeat' first | exact (pv q1 ‹_›).1 | exact NmD.nil | exact nma | refine wdo ‹_› ?_ ?_))) ?_
   refine .r [5,6]<|GA.Ln 7 1 Z<|.r [9]<|GA.Ln 10 0 Z<|.go 8<|GE.CS (fun w Z=>CJ (af.disk) (Z.mg 1 11) (Z.mg 1 12) (Z.mg 1 13) (by have q1:EsD E:=‹_›; refine WV.dd ?_; repeat' first | exact (pv q1 ‹_›).1 | exact NmD.nil | exact nma | refine wdo ‹_› ?_ ?_)) Z (fun dj dm dp dq dt du dv dw w Z=>?_)
   refine GA.Dn Z fun w Z=>RG.CS (CJ (ag.disk) (Z.mg 1 8) (Z.mg 1 9) (Z.mg 1 10) (by have q1:EsD E:=‹_›; refine WV.dd ?_; repeat' first | exact (pv q1 ‹_›).1 | exact NmD.nil | exact nma | refine wdo ‹_› ?_ ?_)) Z (fun dx dy dz dA dB dC dD dE w Z=>?_)
   refine RG.C0 (tb (by have q1:EsD E:=‹_›; first | exact (J2 (pv q1 ‹_›).1 (GO q1 ‹_›) (GM q1 ‹_›) nma nok (J1 more.length (k:=2) AB) ‹_› ‹_› ‹_› ‹_› ‹_› ‹_› ‹_› ‹_›).1 | exact (J2 (pv q1 ‹_›).1 (GO q1 ‹_›) (GM q1 ‹_›) nma nok (J1 more.length (k:=2) AB) ‹_› ‹_› ‹_› ‹_› ‹_› ‹_› ‹_› ‹_›).2) (Cj (Bg (af.disk)) (Bg (ag.disk)) (Z.a 4) (Z.a 5) (Z.a 6) (Z.a 7) (Z.a 0) (Z.a 1) (Z.a 2) (Z.a 3) (by have q1:EsD E:=‹_›; (first | refine WV.sd ?_ | refine Ed ?_); repeat' first | exact (pv q1 ‹_›).1 | exact NmD.nil | exact nma | refine wdo ‹_› ?_ ?_) (by have q1:EsD E:=‹_›; (first | refine WV.sd ?_ | refine Ed ?_); repeat' first | exact (pv q1 ‹_›).1 | exact NmD.nil | exact nma | refine wdo ‹_› ?_ ?_))) Z (fun w Z=>?_)
   exact .r 2<|.d<|T.rt func11 results11 (.bool true) ⟨(AG AF),Z.xt⟩
  refine GE.Np Z fun dF w Z=>.go 7<|GE.Cg (fun w Z=>BP ar (⟨1,0,0,([(⟨[97],[112]⟩:Tag)]:List Tag),(⟨Int.tmod (more.length:Int) 90,21⟩:Row)⟩:Evt) (Z.mg 1 0) (Z.mg 1 1) (Z.mg 1 2) (Z.mg 1 3) (Z.mg 1 4) (Z.mg 1 5) (Z.mg 1 6) (Z.mg 1 14) (by have q1:EsD E:=‹_›; repeat' first | exact (pv q1 ‹_›).1 | exact NmD.nil | exact nma | refine wdo ‹_› ?_ ?_) (by first | exact NmD.nil | exact nma)) Z ?_
  rintro w dG w Z ⟨⟨aQ,aR,bm⟩,ah⟩
  refine ⟨Ext.chg ah,?_⟩
  refine GA.vS Z aR ah ?_
  intro dH dI dJ dK dL dM dN dO dP dQ dR dS dT dU Z
  refine GA.Dn Z fun w Z=>RG.Ss 0 Z fun w Z=>.d<|.s<|.g<|RG.Ln 0 Z<|.r 1<|RG.cl (BP aQ (⟨2,0,9,([]:List Tag),(⟨0,0⟩:Row)⟩:Evt) (Z.mg 1 0) (Z.mg 1 1) (Z.mg 1 2) (Z.mg 1 3) (Z.mg 1 4) (Z.mg 1 5) (Z.mg 1 6) (Z.ng 1) (by have q1:EsD E:=‹_›; repeat' first | exact (pv q1 ‹_›).1 | exact NmD.nil | exact nma | refine wdo ‹_› ?_ ?_) (by first | exact NmD.nil | exact nma)) ?_
  rintro dV w ⟨⟨ai,aS,bn⟩,aA⟩
  refine RG.vS Z aS aA ?_
  intro dW dX dY dZ d0 d3 d4 d5 d6 d7 d8 d9 ec ee Z
  refine RG.Np Z fun eg w Z=>RG.Ss 0 Z fun w Z=>.d<|.s<|.g<|RG.Ln 2 Z<|.r 1<|RG.cl (BP ab (⟨2,0,9,([]:List Tag),(⟨0,0⟩:Row)⟩:Evt) (Z.mg 1 21) (Z.mg 1 22) (Z.mg 1 23) (Z.mg 1 24) (Z.mg 1 25) (Z.mg 1 26) (Z.mg 1 27) (Z.ng 1) (by have q1:EsD E:=‹_›; repeat' first | exact (pv q1 ‹_›).1 | exact NmD.nil | exact nma | refine wdo ‹_› ?_ ?_) (by first | exact NmD.nil | exact nma)) ?_
  rintro eh w ⟨⟨aj,aT,bo⟩,aB⟩
  refine RG.vS Z aT aB ?_
  intro ej ek en eA eB eC eD eE eF eG eH eI eJ eK Z
  refine RG.Np Z fun eL w Z=>RG.Ss 0 Z fun w Z=>.d<|.s<|T.Gd 11 Z fun w Z=>.r [0]<|GA.Ln 1 1 Z<|.r [2]<|GA.Ln 3 0 Z<|GA.C0 4 Z (fun w Z=>tb (by have q1:EsD E:=‹_›; first | exact (J2 (pv q1 ‹_›).1 (GO q1 ‹_›) (GM q1 ‹_›) nma nok (J1 more.length (k:=2) AB) ‹_› ‹_› ‹_› ‹_› ‹_› ‹_› ‹_› ‹_›).1 | exact (J2 (pv q1 ‹_›).1 (GO q1 ‹_›) (GM q1 ‹_›) nma nok (J1 more.length (k:=2) AB) ‹_› ‹_› ‹_› ‹_› ‹_› ‹_› ‹_› ‹_›).2) (Cj (ai.store) (aj.store) (Z.a 7) (Z.a 8) (Z.a 9) (Z.a 10) (Z.a 0) (Z.a 1) (Z.a 2) (Z.a 3) (by have q1:EsD E:=‹_›; (first | refine WV.sd ?_ | refine Ed ?_); repeat' first | exact (pv q1 ‹_›).1 | exact NmD.nil | exact nma | refine wdo ‹_› ?_ ?_) (by have q1:EsD E:=‹_›; (first | refine WV.sd ?_ | refine Ed ?_); repeat' first | exact (pv q1 ‹_›).1 | exact NmD.nil | exact nma | refine wdo ‹_› ?_ ?_))) ?_
  refine .r [5,6]<|GA.Ln 7 1 Z<|.r [9]<|GA.Ln 10 0 Z<|.go 8<|GE.CS (fun w Z=>CJ (ai.disk) (Z.mg 1 11) (Z.mg 1 12) (Z.mg 1 13) (by have q1:EsD E:=‹_›; refine WV.dd ?_; repeat' first | exact (pv q1 ‹_›).1 | exact NmD.nil | exact nma | refine wdo ‹_› ?_ ?_)) Z (fun eM eN eO eP eQ eR eS eT w Z=>?_)
  refine GA.Dn Z fun w Z=>RG.CS (CJ (aj.disk) (Z.mg 1 8) (Z.mg 1 9) (Z.mg 1 10) (by have q1:EsD E:=‹_›; refine WV.dd ?_; repeat' first | exact (pv q1 ‹_›).1 | exact NmD.nil | exact nma | refine wdo ‹_› ?_ ?_)) Z (fun eU eV eW eX eY eZ e7 e8 w Z=>?_)
  refine RG.C0 (tb (by have q1:EsD E:=‹_›; first | exact (J2 (pv q1 ‹_›).1 (GO q1 ‹_›) (GM q1 ‹_›) nma nok (J1 more.length (k:=2) AB) ‹_› ‹_› ‹_› ‹_› ‹_› ‹_› ‹_› ‹_›).1 | exact (J2 (pv q1 ‹_›).1 (GO q1 ‹_›) (GM q1 ‹_›) nma nok (J1 more.length (k:=2) AB) ‹_› ‹_› ‹_› ‹_› ‹_› ‹_› ‹_› ‹_›).2) (Cj (Bg (ai.disk)) (Bg (aj.disk)) (Z.a 4) (Z.a 5) (Z.a 6) (Z.a 7) (Z.a 0) (Z.a 1) (Z.a 2) (Z.a 3) (by have q1:EsD E:=‹_›; (first | refine WV.sd ?_ | refine Ed ?_); repeat' first | exact (pv q1 ‹_›).1 | exact NmD.nil | exact nma | refine wdo ‹_› ?_ ?_) (by have q1:EsD E:=‹_›; (first | refine WV.sd ?_ | refine Ed ?_); repeat' first | exact (pv q1 ‹_›).1 | exact NmD.nil | exact nma | refine wdo ‹_› ?_ ?_))) Z (fun w Z=>?_)
  exact .r 2<|.d<|T.rt func11 results11 (.bool true) ⟨(AG AF),Z.xt⟩
 refine GE.Np Z fun fa w Z=>.go 5<|GE.Cg (fun w Z=>BP ab (⟨2,0,Int.tmod (more.length:Int) 2,([]:List Tag),(⟨0,0⟩:Row)⟩:Evt) (Z.mg 1 0) (Z.mg 1 1) (Z.mg 1 2) (Z.mg 1 3) (Z.mg 1 4) (Z.mg 1 5) (Z.mg 1 6) (Z.ng 1) (by have q1:EsD E:=‹_›; repeat' first | exact (pv q1 ‹_›).1 | exact NmD.nil | exact nma | refine wdo ‹_› ?_ ?_) (by first | exact NmD.nil | exact nma)) Z ?_
 rintro w fb w Z ⟨⟨aU,aV,bq⟩,ak⟩
 refine ⟨Ext.chg ak,?_⟩
 refine GA.vS Z aV ak ?_
 intro fd fe ff fg fi fj fm fp fq fu fv fw fA fB Z
 refine .go 7<|GE.Cg (fun w Z=>BP aU (⟨1,0,0,([(⟨[97],[112]⟩:Tag)]:List Tag),(⟨Int.tmod (more.length:Int) 90,21⟩:Row)⟩:Evt) (Z.mg 1 0) (Z.mg 1 1) (Z.mg 1 2) (Z.mg 1 3) (Z.mg 1 4) (Z.mg 1 5) (Z.mg 1 6) (Z.mg 1 14) (by have q1:EsD E:=‹_›; repeat' first | exact (pv q1 ‹_›).1 | exact NmD.nil | exact nma | refine wdo ‹_› ?_ ?_) (by first | exact NmD.nil | exact nma)) Z ?_
 rintro w fC w Z ⟨⟨aW,aX,br⟩,al⟩
 refine ⟨Ext.chg al,?_⟩
 refine GA.vS Z aX al ?_
 intro fD fE fF fG fH fI fJ fK fL fM fN fO fP fQ Z
 refine GA.Dn Z fun w Z=>RG.Ss 0 Z fun w Z=>.d<|.s<|.g<|RG.Ln 0 Z<|.r 1<|RG.cl (BP aW (⟨2,0,9,([]:List Tag),(⟨0,0⟩:Row)⟩:Evt) (Z.mg 1 0) (Z.mg 1 1) (Z.mg 1 2) (Z.mg 1 3) (Z.mg 1 4) (Z.mg 1 5) (Z.mg 1 6) (Z.ng 1) (by have q1:EsD E:=‹_›; repeat' first | exact (pv q1 ‹_›).1 | exact NmD.nil | exact nma | refine wdo ‹_› ?_ ?_) (by first | exact NmD.nil | exact nma)) ?_
 rintro fR w ⟨⟨am,aY,bt⟩,aC⟩
 refine RG.vS Z aY aC ?_
 intro fS fT fU fV fW fX fY fZ f0 f5 f6 f7 f8 f9 Z
 refine RG.Np Z fun gb w Z=>RG.Ss 0 Z fun w Z=>.d<|.s<|.g<|RG.Ln 2 Z<|.r 1<|RG.cl (BP ab (⟨2,0,9,([]:List Tag),(⟨0,0⟩:Row)⟩:Evt) (Z.mg 1 21) (Z.mg 1 22) (Z.mg 1 23) (Z.mg 1 24) (Z.mg 1 25) (Z.mg 1 26) (Z.mg 1 27) (Z.ng 1) (by have q1:EsD E:=‹_›; repeat' first | exact (pv q1 ‹_›).1 | exact NmD.nil | exact nma | refine wdo ‹_› ?_ ?_) (by first | exact NmD.nil | exact nma)) ?_
 rintro gf w ⟨⟨ao,aZ,bu⟩,aD⟩
 refine RG.vS Z aZ aD ?_
 intro gh gi gj gk gl gm gn gp gq gr gs gt gu gv Z
 refine RG.Np Z fun gw w Z=>RG.Ss 0 Z fun w Z=>.d<|.s<|T.Gd 11 Z fun w Z=>.r [0]<|GA.Ln 1 1 Z<|.r [2]<|GA.Ln 3 0 Z<|GA.C0 4 Z (fun w Z=>tb (by have q1:EsD E:=‹_›; first | exact (J2 (pv q1 ‹_›).1 (GO q1 ‹_›) (GM q1 ‹_›) nma nok (J1 more.length (k:=2) AB) ‹_› ‹_› ‹_› ‹_› ‹_› ‹_› ‹_› ‹_›).1 | exact (J2 (pv q1 ‹_›).1 (GO q1 ‹_›) (GM q1 ‹_›) nma nok (J1 more.length (k:=2) AB) ‹_› ‹_› ‹_› ‹_› ‹_› ‹_› ‹_› ‹_›).2) (Cj (am.store) (ao.store) (Z.a 7) (Z.a 8) (Z.a 9) (Z.a 10) (Z.a 0) (Z.a 1) (Z.a 2) (Z.a 3) (by have q1:EsD E:=‹_›; (first | refine WV.sd ?_ | refine Ed ?_); repeat' first | exact (pv q1 ‹_›).1 | exact NmD.nil | exact nma | refine wdo ‹_› ?_ ?_) (by have q1:EsD E:=‹_›; (first | refine WV.sd ?_ | refine Ed ?_); repeat' first | exact (pv q1 ‹_›).1 | exact NmD.nil | exact nma | refine wdo ‹_› ?_ ?_))) ?_
 refine .r [5,6]<|GA.Ln 7 1 Z<|.r [9]<|GA.Ln 10 0 Z<|.go 8<|GE.CS (fun w Z=>CJ (am.disk) (Z.mg 1 11) (Z.mg 1 12) (Z.mg 1 13) (by have q1:EsD E:=‹_›; refine WV.dd ?_; repeat' first | exact (pv q1 ‹_›).1 | exact NmD.nil | exact nma | refine wdo ‹_› ?_ ?_)) Z (fun gy gz gA gC gD gE gF gG w Z=>?_)
 refine GA.Dn Z fun w Z=>RG.CS (CJ (ao.disk) (Z.mg 1 8) (Z.mg 1 9) (Z.mg 1 10) (by have q1:EsD E:=‹_›; refine WV.dd ?_; repeat' first | exact (pv q1 ‹_›).1 | exact NmD.nil | exact nma | refine wdo ‹_› ?_ ?_)) Z (fun gH gI gJ gK gL gM gN gO w Z=>?_)
 refine RG.C0 (tb (by have q1:EsD E:=‹_›; first | exact (J2 (pv q1 ‹_›).1 (GO q1 ‹_›) (GM q1 ‹_›) nma nok (J1 more.length (k:=2) AB) ‹_› ‹_› ‹_› ‹_› ‹_› ‹_› ‹_› ‹_›).1 | exact (J2 (pv q1 ‹_›).1 (GO q1 ‹_›) (GM q1 ‹_›) nma nok (J1 more.length (k:=2) AB) ‹_› ‹_› ‹_› ‹_› ‹_› ‹_› ‹_› ‹_›).2) (Cj (Bg (am.disk)) (Bg (ao.disk)) (Z.a 4) (Z.a 5) (Z.a 6) (Z.a 7) (Z.a 0) (Z.a 1) (Z.a 2) (Z.a 3) (by have q1:EsD E:=‹_›; (first | refine WV.sd ?_ | refine Ed ?_); repeat' first | exact (pv q1 ‹_›).1 | exact NmD.nil | exact nma | refine wdo ‹_› ?_ ?_) (by have q1:EsD E:=‹_›; (first | refine WV.sd ?_ | refine Ed ?_); repeat' first | exact (pv q1 ‹_›).1 | exact NmD.nil | exact nma | refine wdo ‹_› ?_ ?_))) Z (fun w Z=>?_)
 exact .r 2<|.d<|T.rt func11 results11 (.bool true) ⟨(AG AF),Z.xt⟩
end Go.Proofs.YtggnnidleedpaaaGreat
