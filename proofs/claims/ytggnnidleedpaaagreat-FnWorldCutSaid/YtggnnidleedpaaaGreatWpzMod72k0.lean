/- The laws on plays: one behind the other, a flush, half a flush, a merge; plain laws. -/
import Derived.Test.YtggnnidleedpaaaGreatWpzMod72k7
open Go.Proofs.Tryz
set_option linter.unusedVariables false
set_option linter.unusedSimpArgs false
namespace Go.Proofs.YtggnnidleedpaaaGreat
theorem Qe {es:List Evt}{k:Int}{w Y:Wld}{e:Evt}(h:(es.drop k.toNat).foldl doW w=Y) (h0:0≤k) (hd:es[k.toNat]? = some e):(es.drop (k+1).toNat).foldl doW (doW w e)=Y:=by
 rw [show (k+1).toNat=k.toNat+1 by omega]
 exact Kw h (Bf hd)
theorem So {es:List Evt}{k:Nat}(h:EsD es) (h2:(AZ es).2=true):(AZ ((es.take k).drop 0)).2=true:=by
 obtain ⟨_,_,hl⟩:=pv h h2
 rw [Gt (by rw [List.length_drop,List.length_take]; omega)]
theorem Wf {es:List Evt}{k:Nat}(h:EsD es) (h2:(AZ es).2=true):(es.drop k).foldl doW (AZ ((es.take k).drop 0)).1=(AZ es).1:=by
 obtain ⟨_,e1,hl⟩:=pv h h2
 have e2:(AZ ((es.take k).drop 0)).1=Fk (es.take k):=by
  rw [Gt (by rw [List.length_drop,List.length_take]; omega)]
  rfl
 rw [e1,e2]
 unfold Fk
 rw [← List.foldl_append,List.take_append_drop]
theorem Vo {es:List Evt}{k:Nat}(h:EsD es) (h2:(AZ es).2=true):WV (AZ ((es.take k).drop 0)).1:=(pv (h.take k) (So h h2)).1
end Go.Proofs.YtggnnidleedpaaaGreat
namespace Go.Proofs.YtggnnidleedpaaaGreat
set_option maxRecDepth 100000
set_option maxHeartbeats 4000000
variable {w:World} {F:Nat→Prop} {a1 a2:Option Addr} {n1 c1 n2 c2:Nat}
theorem Ig (code:List UInt8) (more:List UInt8) (h1:RepS w F a1 n1 c1 code) (h2:RepS w F a2 n2 c2 more)  : Calls Tryz.prog 6 [.slice a1 n1 c1,.slice a2 n2 c2].toArray w (Am fun rv w'=>rv=.bool (true)∧Ext w w'):=by
 cases h1.len
 cases h2.len
 refine goT func6 ?_
 have Z:=((St.i0 F w).p h1).p h2
 refine .s<|.g<|.r 1<|.d<|.s<|.s<|.g<|.r 2<|.bp ((code.length:Int) > 1048576) (fun au=>.r 5<|.d<|.ct<|.s<|.g<|.r 1<|.d<|T.rt func6 results6 (.bool true) ⟨(AG AF),Z.xt⟩) fun au=>.r 3<|.bp ((more.length:Int) > 1048576) (fun ax=>.r 1<|.d<|.ct<|.s<|.g<|.r 1<|.d<|T.rt func6 results6 (.bool true) ⟨(AG AF),Z.xt⟩) fun ax=>.r 1<|.d<|.cf<|.sk<|.s<|.g<|.r 1<|RG.cl (Bi code (Z.mg 1 1)) ?_
 rintro bA w ⟨⟨E,aR,br⟩,ay⟩
 refine RG.vL Z aR ay ?_
 intro aS aT Z
 refine .r 1<|.d<|.s<|.g<|.r 1<|RG.CT (us:=[.bool ((AZ E).2)]) (Bv E (Z.mg 1 0) (by have q1:EsD E:=‹_›; exact q1)) Z fun bB bC bD bE bF bG bH bI bJ bK bL bM bN bO w Z=>.r 2 ?_
 cases ao:(AZ E).2
 ·refine .r 1<|RG.Np Z fun bP w Z=>RG.Ss 0 Z fun w Z=>.r 1<|.d<|.s<|.g<|.r 1<|RG.CT (us:=[.bool ((AZ E).2)]) (BL E (Z.mg 1 7) (by have q1:EsD E:=‹_›; exact q1)) Z fun bQ bR bS bT bU bV bW bX bY bZ b0 b6 b7 b8 w Z=>?_
  rw [ao]
  refine .r 3<|RG.Np Z fun b9 w Z=>RG.Ss 0 Z fun w Z=>.r 1<|.d<|.s<|.s<|.g<|.r 2<|RG.eqv (v:=.bool false) (v':=.bool (false != false)) AA AD<|.r 1<|RG.Ln 1 Z<|RG.Ln 0 Z<|RG.C0 (As ((AZ E).1) ((AZ E).1) (Z.a 7) (Z.a 8) (Z.a 9) (Z.a 10) (Z.a 11) (Z.a 12) (Z.a 13) (Z.a 0) (Z.a 1) (Z.a 2) (Z.a 3) (Z.a 4) (Z.a 5) (Z.a 6)) Z fun w Z=>?_
  rw [show ((((AZ E).1)==((AZ E).1)))=true from beq_self_eq_true _]
  refine .r 6<|.d<|.ct<|.s<|.g<|.r 2<|RG.eqv (v:=.bool true) (v':=.bool (false==false)) AA AD<|.r 1<|RG.Ln 1 Z<|RG.Ln 0 Z<|RG.C0 (As ((AZ E).1) ((AZ E).1) (Z.a 7) (Z.a 8) (Z.a 9) (Z.a 10) (Z.a 11) (Z.a 12) (Z.a 13) (Z.a 0) (Z.a 1) (Z.a 2) (Z.a 3) (Z.a 4) (Z.a 5) (Z.a 6)) Z fun w Z=>?_
  rw [show ((((AZ E).1)==((AZ E).1)))=true from beq_self_eq_true _]
  exact .r 2<|.d<|T.rt func6 results6 (.bool true) ⟨(AG AF),Z.xt⟩
 refine .r 1<|RG.Np Z fun aU w Z=>RG.Ss 0 Z fun w Z=>.r 1<|.d<|.s<|.g<|.r 1<|RG.CT (us:=[.bool ((AZ E).2)]) (BL E (Z.mg 1 7) (by have q1:EsD E:=‹_›; exact q1)) Z fun cd ce cg ci cj ck cm co cp cq cr cu cw cx w Z=>?_
 rw [ao]
 refine .r 3<|RG.Np Z fun cy w Z=>RG.Ss 0 Z fun w Z=>.r 1<|.d<|.s<|.s<|.g<|.r 2<|RG.eqv (v:=.bool false) (v':=.bool (true != true)) AA AD<|.r 1<|RG.Ln 1 Z<|RG.Ln 0 Z<|RG.C0 (As ((AZ E).1) ((AZ E).1) (Z.a 7) (Z.a 8) (Z.a 9) (Z.a 10) (Z.a 11) (Z.a 12) (Z.a 13) (Z.a 0) (Z.a 1) (Z.a 2) (Z.a 3) (Z.a 4) (Z.a 5) (Z.a 6)) Z fun w Z=>?_
 rw [show ((((AZ E).1)==((AZ E).1)))=true from beq_self_eq_true _]
 refine .r 6<|.d<|.cf<|.sk<|.s<|.g<|.r 4<|RG.int ((E.length:Int)+1) AA (by (have q1:EsD E:=‹_›; have q2:=(pv q1 ‹_›).2.2; omega))<|RG.rem (t:=3) (k:=.i64) (a:=(more.length:Int)) (b:=(E.length:Int)+1) AA AB<|.r 1<|.d<|.s<|.g<|.r 2<|RG.Sb (hlh:=(by have q2:=(GM more.length (k:=(E.length:Int)+1) AB); omega)) (hh:=(by have q2:=(GM more.length (k:=(E.length:Int)+1) AB); omega)) (hhi:=bdI (Int.tmod (more.length:Int) ((E.length:Int)+1)) (by have q2:=(GM more.length (k:=(E.length:Int)+1) AB); omega)) 14 0 (((Int.tmod (more.length:Int) ((E.length:Int)+1))).toNat) E Z fun cz cA Z=>RG.CT (us:=[.bool ((AZ ((E.take (((Int.tmod (more.length:Int) ((E.length:Int)+1))).toNat)).drop 0)).2)]) (Bv ((E.take (((Int.tmod (more.length:Int) ((E.length:Int)+1))).toNat)).drop 0) (Z.mg 1 0) (by have q1:EsD E:=‹_›; exact q1.take _)) Z fun aV aW aX aY aZ ba bd bg bh bi bj bk bm bn w Z=>?_
 have az:((AZ ((E.take (((Int.tmod (more.length:Int) ((E.length:Int)+1))).toNat)).drop 0)).2)=true:=(by have q1:EsD E:=‹_›; exact So q1 ‹_›)
 rw [az]
 refine .r 3<|RG.Np Z fun aA w Z=>RG.Ss 0 Z fun w Z=>.r 1<|.d<|.s<|.s<|.g<|.r 2<|.d<|.b 0<|T.Lp ((Int.tmod (more.length:Int) ((E.length:Int)+1)),(((((AZ ((E.take (((Int.tmod (more.length:Int) ((E.length:Int)+1))).toNat)).drop 0)).1).store).idx).names:List (List Tag)),aV,aW,(((((AZ ((E.take (((Int.tmod (more.length:Int) ((E.length:Int)+1))).toNat)).drop 0)).1).store).idx).AY:List Pst),aX,aY,((((AZ ((E.take (((Int.tmod (more.length:Int) ((E.length:Int)+1))).toNat)).drop 0)).1).store).parts:List Prt),aZ,ba,((((AZ ((E.take (((Int.tmod (more.length:Int) ((E.length:Int)+1))).toNat)).drop 0)).1).store).mem:List Smp),bd,bg,((((AZ ((E.take (((Int.tmod (more.length:Int) ((E.length:Int)+1))).toNat)).drop 0)).1).disk).files:List Fil),bh,bi,((((AZ ((E.take (((Int.tmod (more.length:Int) ((E.length:Int)+1))).toNat)).drop 0)).1).disk).list:List Int),bj,bk,((((AZ ((E.take (((Int.tmod (more.length:Int) ((E.length:Int)+1))).toNat)).drop 0)).1).disk).names:List (List Tag)),bm,bn,(((AZ ((E.take (((Int.tmod (more.length:Int) ((E.length:Int)+1))).toNat)).drop 0)).1).disk).next) (fun (k,aa,a_k_0,c_k_0,ab,a_k_1,c_k_1,ac,a_k_2,c_k_2,ae,a_k_3,c_k_3,af,a_k_4,c_k_4,ag,a_k_5,c_k_5,ah,a_k_6,c_k_6,aj)=>([(5,.slice aS E.length aT),(6,vP aU),(11,vP aA),(12,.bool true),(13,vI k)],[(0,.box aA 38 [.slice a_k_0 aa.length c_k_0,.slice a_k_1 ab.length c_k_1,.slice a_k_2 ac.length c_k_2,.slice a_k_3 ae.length c_k_3,.slice a_k_4 af.length c_k_4,.slice a_k_5 ag.length c_k_5,.slice a_k_6 ah.length c_k_6,vI aj])],[⟨1,none,.rep a_k_0 c_k_0 aa⟩,⟨1,none,.rep a_k_1 c_k_1 ab⟩,⟨1,none,.rep a_k_2 c_k_2 ac⟩,⟨1,none,.rep a_k_3 c_k_3 ae⟩,⟨1,none,.rep a_k_4 c_k_4 af⟩,⟨1,none,.rep a_k_5 c_k_5 ag⟩,⟨1,none,.rep a_k_6 c_k_6 ah⟩],E.length - k.toNat,(0≤k∧k≤E.length)∧((E.drop k.toNat).foldl doW ⟨⟨⟨aa,ab⟩,ac,ae⟩,⟨af,ag,ah,aj⟩⟩=(AZ E).1)∧(WV ⟨⟨⟨aa,ab⟩,ac,ae⟩,⟨af,ag,ah,aj⟩⟩))) [0,1,2,3,4,5,6] Z ⟨(by have q2:=(GM more.length (k:=(E.length:Int)+1) AB); omega),(by have q1:EsD E:=‹_›; exact Wf q1 ‹_›),(by have q1:EsD E:=‹_›; exact Vo q1 ‹_›)⟩ ?_
 rintro ⟨k,aa,a_k_0,c_k_0,ab,a_k_1,c_k_1,ac,a_k_2,c_k_2,ae,a_k_3,c_k_3,af,a_k_4,c_k_4,ag,a_k_5,c_k_5,ah,a_k_6,c_k_6,aj⟩ cB w Z ⟨bt,bu,bv⟩ am
 refine .s<|.s<|.g<|.r 3<|.bp (k< (E.length:Int)) (fun aB=>?_) (fun aB=>?_)
 ·exact .d<|.ct<|.sk<|.s<|.b 1<|T.Gd 5 Z fun w Z=>GA.Ln 0 0 Z<|.r [1,2]<|gxm (h:=AB) E (k.toNat) fun ak al aQ=>GA.Jx (hz:=AB) 3 29 k al Z<|Z.el 29 al fun cC bz Z=>GA.Lg 4 0 0 Z<|GA.Dn Z fun w Z=>RG.CS (BI (⟨(⟨(⟨aa,ab⟩:Idx),ac,ae⟩:Sto),(⟨af,ag,ah,aj⟩:Dsk)⟩:Wld) ak (Z.mg 1 2) (Z.mg 1 3) (Z.mg 1 4) (Z.mg 1 5) (Z.mg 1 6) (Z.mg 1 7) (Z.mg 1 8) (Z.mg 1 1) (by assumption:WV ⟨⟨⟨aa,ab⟩,ac,ae⟩,⟨af,ag,ah,aj⟩⟩) (by have q1:EsD E:=‹_›; exact (q1 _ ‹_›).1)) Z fun aC aD aE aF aG aH aI aJ aK aL aM aN aO aP w Z=>RG.Ss 0 Z fun w Z=>.d<|.ib 1<|.g<|.r 1<|RG.int (k+1) AA (by (have q1:EsD E:=‹_›; have q2:=(pv q1 ‹_›).2.2; omega))<|.r 1<|.d<|am (k+1,(((doW (⟨(⟨(⟨aa,ab⟩:Idx),ac,ae⟩:Sto),(⟨af,ag,ah,aj⟩:Dsk)⟩:Wld) ak).store).idx).names,aC,aD,(((doW (⟨(⟨(⟨aa,ab⟩:Idx),ac,ae⟩:Sto),(⟨af,ag,ah,aj⟩:Dsk)⟩:Wld) ak).store).idx).AY,aE,aF,((doW (⟨(⟨(⟨aa,ab⟩:Idx),ac,ae⟩:Sto),(⟨af,ag,ah,aj⟩:Dsk)⟩:Wld) ak).store).parts,aG,aH,((doW (⟨(⟨(⟨aa,ab⟩:Idx),ac,ae⟩:Sto),(⟨af,ag,ah,aj⟩:Dsk)⟩:Wld) ak).store).mem,aI,aJ,((doW (⟨(⟨(⟨aa,ab⟩:Idx),ac,ae⟩:Sto),(⟨af,ag,ah,aj⟩:Dsk)⟩:Wld) ak).disk).files,aK,aL,((doW (⟨(⟨(⟨aa,ab⟩:Idx),ac,ae⟩:Sto),(⟨af,ag,ah,aj⟩:Dsk)⟩:Wld) ak).disk).list,aM,aN,((doW (⟨(⟨(⟨aa,ab⟩:Idx),ac,ae⟩:Sto),(⟨af,ag,ah,aj⟩:Dsk)⟩:Wld) ak).disk).names,aO,aP,((doW (⟨(⟨(⟨aa,ab⟩:Idx),ac,ae⟩:Sto),(⟨af,ag,ah,aj⟩:Dsk)⟩:Wld) ak).disk).next) _ _ AA (Z.to 0 [0,1,2,3,4,5,6] 16) ⟨AB,(by exact Qe ‹_› AB ‹_›),(by have q1:EsD E:=‹_›; exact WV.do ‹_› (q1 _ ‹_›).1)⟩ (by simp only []; omega)
 refine .d<|.cf<|.x 0 rfl<|.s<|.g<|.r 2<|RG.Ln 0 Z<|RG.Ln 2 Z<|RG.C0 (As (⟨(⟨(⟨aa,ab⟩:Idx),ac,ae⟩:Sto),(⟨af,ag,ah,aj⟩:Dsk)⟩:Wld) ((AZ E).1) (Z.a 0) (Z.a 1) (Z.a 2) (Z.a 3) (Z.a 4) (Z.a 5) (Z.a 6) (Z.a 22) (Z.a 23) (Z.a 24) (Z.a 25) (Z.a 26) (Z.a 27) (Z.a 28)) Z fun w Z=>?_
 have ar:((⟨(⟨(⟨aa,ab⟩:Idx),ac,ae⟩:Sto),(⟨af,ag,ah,aj⟩:Dsk)⟩:Wld)==((AZ E).1))=true:=(by exact beq_iff_eq.2 (Md ‹_› AB))
 rw [ar]
 exact .r 2<|.d<|T.rt func6 results6 (.bool true) ⟨(AG AF),Z.xt⟩
end Go.Proofs.YtggnnidleedpaaaGreat
