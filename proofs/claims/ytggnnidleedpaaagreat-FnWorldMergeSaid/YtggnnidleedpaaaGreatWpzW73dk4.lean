/- walks; hints pruned; squeezed -/
import Derived.Test.YtggnnidleedpaaaGreatWpzMod30k11
import Derived.Test.YtggnnidleedpaaaGreatWpzMod72k7
import Derived.Test.YtggnnidleedpaaaGreatWpzMod72k10
open Go.Proofs.Tryz
set_option linter.unusedVariables false
set_option linter.unusedSimpArgs false
namespace Go.Proofs.YtggnnidleedpaaaGreat
set_option maxRecDepth 100000
set_option maxHeartbeats 4000000
variable {w:World} {F:Nat→Prop} {a1 a2:Option Addr} {n1 c1 n2 c2:Nat}
theorem HE (code:List UInt8) (more:List UInt8) (h1:RepS w F a1 n1 c1 code) (h2:RepS w F a2 n2 c2 more)  : Calls Tryz.prog 10 [.slice a1 n1 c1,.slice a2 n2 c2].toArray w (Am fun rv w'=>rv=.bool (true)∧Ext w w'):=by
 cases h1.len
 cases h2.len
 refine goT func10 ?_
 have Z:=((St.i0 F w).p h1).p h2
 have am:=h1.max
 have ao:=h2.max
 refine .s<|.g<|.r 1<|.d<|.s<|.s<|.g<|.r 2<|.bp ((code.length:Int) > 1048576) (fun af=>.r 5<|.d<|.ct<|.s<|.g<|.r 1<|.d<|T.rt func10 results10 (.bool true) ⟨(AG AF),Z.xt⟩) fun af=>.r 3<|.bp ((more.length:Int) > 1048576) (fun ag=>.r 1<|.d<|.ct<|.s<|.g<|.r 1<|.d<|T.rt func10 results10 (.bool true) ⟨(AG AF),Z.xt⟩) fun ag=>.r 1<|.d<|.cf<|.sk<|.s<|.g<|.r 1<|RG.cl (Bi code (Z.mg 1 1)) ?_
 rintro bg w ⟨⟨E,al,aq⟩,ah⟩
 refine RG.vL Z al ah ?_
 intro bh bi Z
 refine .r 1<|.d<|.s<|.g<|.r 1<|RG.CT (us:=[.bool ((AZ E).2)]) (Bv E (Z.mg 1 0) (by have q1:EsD E:=‹_›; exact q1)) Z fun bj bk bm bn bo bq br bt bu bv bw bz bA bB w Z=>.r 2 ?_
 cases ab:(AZ E).2
 ·refine .r 1<|RG.Np Z fun bC w Z=>RG.Ss 0 Z fun w Z=>.r 1<|.d<|.s<|.g<|.r 1<|RG.CT (us:=[.bool ((AZ E).2)]) (BL E (Z.mg 1 7) (by have q1:EsD E:=‹_›; exact q1)) Z fun bD bE bF bG bH bI bJ bK bL bM bN bO bP bQ w Z=>?_
  rw [ab]
  refine .r 3<|RG.Np Z fun bR w Z=>RG.Ss 0 Z fun w Z=>.r 1<|.d<|.s<|.s<|.g<|.r 2<|RG.eqv (v:=.bool false) (v':=.bool (false != false)) AA AD<|.r 1<|RG.Ln 1 Z<|RG.Ln 0 Z<|RG.C0 (As ((AZ E).1) ((AZ E).1) (Z.a 7) (Z.a 8) (Z.a 9) (Z.a 10) (Z.a 11) (Z.a 12) (Z.a 13) (Z.a 0) (Z.a 1) (Z.a 2) (Z.a 3) (Z.a 4) (Z.a 5) (Z.a 6)) Z fun w Z=>?_
  rw [show ((((AZ E).1)==((AZ E).1)))=true from beq_self_eq_true _]
  refine .r 6<|.d<|.ct<|.s<|.g<|.r 2<|RG.eqv (v:=.bool true) (v':=.bool (false==false)) AA AD<|.r 1<|RG.Ln 1 Z<|RG.Ln 0 Z<|RG.C0 (As ((AZ E).1) ((AZ E).1) (Z.a 7) (Z.a 8) (Z.a 9) (Z.a 10) (Z.a 11) (Z.a 12) (Z.a 13) (Z.a 0) (Z.a 1) (Z.a 2) (Z.a 3) (Z.a 4) (Z.a 5) (Z.a 6)) Z fun w Z=>?_
  rw [show ((((AZ E).1)==((AZ E).1)))=true from beq_self_eq_true _]
  exact .r 2<|.d<|T.rt func10 results10 (.bool true) ⟨(AG AF),Z.xt⟩
 refine .r 1<|RG.Np Z fun bS w Z=>RG.Ss 0 Z fun w Z=>.r 1<|.d<|.s<|.g<|.r 1<|RG.CT (us:=[.bool ((AZ E).2)]) (BL E (Z.mg 1 7) (by have q1:EsD E:=‹_›; exact q1)) Z fun bT bU bV bW bX bY bZ b0 b6 b7 b8 b9 cd ce w Z=>?_
 rw [ab]
 refine .r 3<|RG.Np Z fun cg w Z=>RG.Ss 0 Z fun w Z=>.r 1<|.d<|.s<|.s<|.g<|.r 2<|RG.eqv (v:=.bool false) (v':=.bool (true != true)) AA AD<|.r 1<|RG.Ln 1 Z<|RG.Ln 0 Z<|RG.C0 (As ((AZ E).1) ((AZ E).1) (Z.a 7) (Z.a 8) (Z.a 9) (Z.a 10) (Z.a 11) (Z.a 12) (Z.a 13) (Z.a 0) (Z.a 1) (Z.a 2) (Z.a 3) (Z.a 4) (Z.a 5) (Z.a 6)) Z fun w Z=>?_
 rw [show ((((AZ E).1)==((AZ E).1)))=true from beq_self_eq_true _]
 refine .r 6<|.d<|.cf<|.sk<|.s<|.s<|.g<|.r 2<|RG.Lb 1 Z<|.r 1<|.bp ((((AZ E).1.disk.list.length):Int)< 2) (fun ai=>.d<|.ct<|.s<|.g<|.r 1<|.d<|T.rt func10 results10 (.bool true) ⟨(AG AF),Z.xt⟩) fun ai=>.d<|.cf<|.sk<|.s<|.g<|.r 4<|RG.Lb 1 Z<|.r 1<|RG.int ((((AZ E).1.disk.list.length):Int) - 1) AA (by (have q1:EsD E:=‹_›; have q2:=F0 (pv q1 ‹_›).1; have q3:=Kz (pv q1 ‹_›).1; omega))<|RG.rem (t:=3) (k:=.i64) (a:=(more.length:Int)) (b:=(((AZ E).1.disk.list.length):Int) - 1) AA AB<|.r 1<|.d<|.s<|.g<|RG.Ln 1 Z<|.r 5<|RG.CS (BI ((AZ E).1) (⟨3,(Int.tmod (more.length:Int) ((((AZ E).1.disk.list.length):Int) - 1)),Int.tmod (more.length:Int) 5,([]:List Tag),(⟨0,0⟩:Row)⟩:Evt) (Z.mg 1 7) (Z.mg 1 8) (Z.mg 1 9) (Z.mg 1 10) (Z.mg 1 11) (Z.mg 1 12) (Z.mg 1 13) (Z.ng 1) (by have q1:EsD E:=‹_›; exact (pv q1 ‹_›).1) (by have q1:EsD E:=‹_›; exact NmD.nil)) Z fun cj ck cm co cp cq cr cu cw cx cy cz cA cB w Z=>RG.Np Z fun cC w Z=>RG.Ss 0 Z fun w Z=>.d<|.s<|.g<|RG.Ln 0 Z<|.r 1<|RG.CS (BI (doW ((AZ E).1) (⟨3,(Int.tmod (more.length:Int) ((((AZ E).1.disk.list.length):Int) - 1)),Int.tmod (more.length:Int) 5,([]:List Tag),(⟨0,0⟩:Row)⟩:Evt)) (⟨4,0,0,([]:List Tag),(⟨0,0⟩:Row)⟩:Evt) (Z.mg 1 0) (Z.mg 1 1) (Z.mg 1 2) (Z.mg 1 3) (Z.mg 1 4) (Z.mg 1 5) (Z.mg 1 6) (Z.ng 1) (by have q1:EsD E:=‹_›; exact WV.do (pv q1 ‹_›).1 NmD.nil) (by have q1:EsD E:=‹_›; exact NmD.nil)) Z fun cD cE cF cG cH cI cJ cK cL cM cN cO cP au w Z=>RG.Np Z fun ax w Z=>RG.Ss 0 Z fun w Z=>.d<|.s<|.g<|RG.Ln 3 Z<|.r 1<|RG.CS (BI ((AZ E).1) (⟨4,0,0,([]:List Tag),(⟨0,0⟩:Row)⟩:Evt) (Z.mg 1 21) (Z.mg 1 22) (Z.mg 1 23) (Z.mg 1 24) (Z.mg 1 25) (Z.mg 1 26) (Z.mg 1 27) (Z.ng 1) (by have q1:EsD E:=‹_›; exact (pv q1 ‹_›).1) (by have q1:EsD E:=‹_›; exact NmD.nil)) Z fun ay az aA aB aC aD aE aF aG aH aI aJ aK aL w Z=>RG.Np Z fun aM w Z=>RG.Ss 0 Z fun w Z=>.d<|.s<|.g<|RG.Ln 4 Z<|.r 2<|RG.CS (BI ((AZ E).1) (⟨3,(Int.tmod (more.length:Int) ((((AZ E).1.disk.list.length):Int) - 1)),9,([]:List Tag),(⟨0,0⟩:Row)⟩:Evt) (Z.mg 1 28) (Z.mg 1 29) (Z.mg 1 30) (Z.mg 1 31) (Z.mg 1 32) (Z.mg 1 33) (Z.mg 1 34) (Z.ng 1) (by have q1:EsD E:=‹_›; exact (pv q1 ‹_›).1) (by have q1:EsD E:=‹_›; exact NmD.nil)) Z fun aN aO aP aQ aR aS aT aU aV aW aX aY aZ ba w Z=>RG.Np Z fun bd w Z=>RG.Ss 0 Z fun w Z=>.d<|.s<|.g<|.r 1<|RG.Ln 2 Z<|.r 1<|RG.Ln 1 Z<|RG.C0 (Ck ((doW (doW ((AZ E).1) (⟨3,(Int.tmod (more.length:Int) ((((AZ E).1.disk.list.length):Int) - 1)),Int.tmod (more.length:Int) 5,([]:List Tag),(⟨0,0⟩:Row)⟩:Evt)) (⟨4,0,0,([]:List Tag),(⟨0,0⟩:Row)⟩:Evt)).store) ((doW ((AZ E).1) (⟨4,0,0,([]:List Tag),(⟨0,0⟩:Row)⟩:Evt)).store) (Z.a 14) (Z.a 15) (Z.a 16) (Z.a 17) (Z.a 7) (Z.a 8) (Z.a 9) (Z.a 10) (by have q1:EsD E:=‹_›; exact (WV.sd (WV.do (WV.do (pv q1 ‹_›).1 NmD.nil) NmD.nil))) (by have q1:EsD E:=‹_›; exact (WV.sd (WV.do (pv q1 ‹_›).1 NmD.nil)))) Z fun w Z=>?_
 have ac:(Bj ((doW (doW ((AZ E).1) (⟨3,(Int.tmod (more.length:Int) ((((AZ E).1.disk.list.length):Int) - 1)),Int.tmod (more.length:Int) 5,([]:List Tag),(⟨0,0⟩:Row)⟩:Evt)) (⟨4,0,0,([]:List Tag),(⟨0,0⟩:Row)⟩:Evt)).store) [] 0 99==Bj ((doW ((AZ E).1) (⟨4,0,0,([]:List Tag),(⟨0,0⟩:Row)⟩:Evt)).store) [] 0 99)=true:=(by have q1:EsD E:=‹_›; exact (UI (a:=Int.tmod (more.length:Int) (((AZ E).1.disk.list.length:Int) - 1)) (c:=Int.tmod (more.length:Int) 5) (pv q1 ‹_›).1 (by have q9:=HR q1 ‹_›; omega) (GM more.length (k:=(((AZ E).1.disk.list.length:Int) - 1)) AB).1 (by have q8:=GM more.length (k:=(((AZ E).1.disk.list.length:Int) - 1)) AB; omega) (GM more.length (k:=5) AB)).1)
 rw [ac]
 refine .r 2<|RG.Ln 0 Z<|.r 1<|RG.Ln 5 Z<|RG.C0 (Ck ((doW ((AZ E).1) (⟨3,(Int.tmod (more.length:Int) ((((AZ E).1.disk.list.length):Int) - 1)),9,([]:List Tag),(⟨0,0⟩:Row)⟩:Evt)).store) ((AZ E).1.store) (Z.a 0) (Z.a 1) (Z.a 2) (Z.a 3) (Z.a 35) (Z.a 36) (Z.a 37) (Z.a 38) (by have q1:EsD E:=‹_›; exact (WV.sd (WV.do (pv q1 ‹_›).1 NmD.nil))) (by have q1:EsD E:=‹_›; exact (WV.sd (pv q1 ‹_›).1))) Z fun w Z=>?_
 have ae:(Bj ((doW ((AZ E).1) (⟨3,(Int.tmod (more.length:Int) ((((AZ E).1.disk.list.length):Int) - 1)),9,([]:List Tag),(⟨0,0⟩:Row)⟩:Evt)).store) [] 0 99==Bj ((AZ E).1.store) [] 0 99)=true:=(by have q1:EsD E:=‹_›; exact (UI (a:=Int.tmod (more.length:Int) (((AZ E).1.disk.list.length:Int) - 1)) (c:=Int.tmod (more.length:Int) 5) (pv q1 ‹_›).1 (by have q9:=HR q1 ‹_›; omega) (GM more.length (k:=(((AZ E).1.disk.list.length:Int) - 1)) AB).1 (by have q8:=GM more.length (k:=(((AZ E).1.disk.list.length:Int) - 1)) AB; omega) (GM more.length (k:=5) AB)).2.1)
 rw [ae]
 exact .r 4<|RG.Lb 0 Z<|.r 3<|RG.Lb 5 Z<|.r 1<|RG.int ((((AZ E).1.disk.list.length):Int) - 1) AA (by (have q1:EsD E:=‹_›; have q2:=F0 (pv q1 ‹_›).1; have q3:=Kz (pv q1 ‹_›).1; omega))<|.r 3<|.d<|T.rt func10 results10 (.bool ((((((doW ((AZ E).1) (⟨3,(Int.tmod (more.length:Int) ((((AZ E).1.disk.list.length):Int) - 1)),9,([]:List Tag),(⟨0,0⟩:Row)⟩:Evt)).disk).list).length):Int)==(((AZ E).1.disk.list.length):Int) - 1)) ⟨(AG (by (have q1:EsD E:=‹_›; have q2:=(UI (a:=Int.tmod (more.length:Int) (((AZ E).1.disk.list.length:Int) - 1)) (c:=Int.tmod (more.length:Int) 5) (pv q1 ‹_›).1 (by have q9:=HR q1 ‹_›; omega) (GM more.length (k:=(((AZ E).1.disk.list.length:Int) - 1)) AB).1 (by have q8:=GM more.length (k:=(((AZ E).1.disk.list.length:Int) - 1)) AB; omega) (GM more.length (k:=5) AB)).2.2; rw [beq_iff_eq]; omega))),Z.xt⟩
end Go.Proofs.YtggnnidleedpaaaGreat
