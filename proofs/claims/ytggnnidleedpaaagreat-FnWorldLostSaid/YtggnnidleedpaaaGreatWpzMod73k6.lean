/- The laws on plays: a fall, who asks, what a fall takes; plain laws. -/
import Derived.Test.YtggnnidleedpaaaGreatWpzMod30k11
import Derived.Test.YtggnnidleedpaaaGreatWpzMod72k7
import Derived.Test.YtggnnidleedpaaaGreatWpzMod73k8
open Go.Proofs.Tryz
set_option linter.unusedVariables false
set_option linter.unusedSimpArgs false
namespace Go.Proofs.YtggnnidleedpaaaGreat
section
variable {w:Wld}
theorem nm1 {x:Txt}(h:x=(⟨[97]⟩:Txt)∨x=(⟨[98]⟩:Txt)):NmD [⟨x.s,[113]⟩]:=⟨by simp,fun t ht=>by
 simp only [List.mem_cons,List.not_mem_nil,or_false] at ht
 subst ht
 rcases h with rfl | rfl
 ·exact ⟨by decide,by decide⟩
 ·exact ⟨by decide,by decide⟩⟩
theorem Wy (h:WV w) (h0:¬ ((doW w ⟨2,0,9,[],⟨0,0⟩⟩).store.mem.length:Int) > 0){n:List Tag}{r:Row}(hn:NmD n) :
 (Bj (doW (doW (doW w ⟨2,0,9,[],⟨0,0⟩⟩) ⟨1,0,0,n,r⟩) ⟨4,0,0,[],⟨0,0⟩⟩).store [] 0 99==Bj (doW w ⟨2,0,9,[],⟨0,0⟩⟩).store [] 0 99)=true:=by
 have hx:WV (doW w ⟨2,0,9,[],⟨0,0⟩⟩):=h.do NmD.nil
 have hy:WV (doW (doW w ⟨2,0,9,[],⟨0,0⟩⟩) ⟨1,0,0,n,r⟩):=hx.do hn
 rw [N3 hy]
 have ed:(doW (doW w ⟨2,0,9,[],⟨0,0⟩⟩) ⟨1,0,0,n,r⟩).disk=(doW w ⟨2,0,9,[],⟨0,0⟩⟩).disk:=by
  cases hk:At n with
  | false=>rw [Iu (e:=⟨1,0,0,n,r⟩) rfl hk]
  | true=>rw [KX (e:=⟨1,0,0,n,r⟩) rfl hk]
 rw [ed,N2 hx (List.length_eq_zero_iff.1 AB)]
 exact beq_self_eq_true _
end
end Go.Proofs.YtggnnidleedpaaaGreat
namespace Go.Proofs.YtggnnidleedpaaaGreat
set_option maxRecDepth 100000
set_option maxHeartbeats 4000000
variable {w:World} {F:Nat→Prop} {a1 a2:Option Addr} {n1 c1 n2 c2:Nat}
theorem Hn (code:List UInt8) (more:List UInt8) (h1:RepS w F a1 n1 c1 code) (h2:RepS w F a2 n2 c2 more)  : Calls Tryz.prog 12 [.slice a1 n1 c1,.slice a2 n2 c2].toArray w (Am fun rv w'=>rv=.bool (true)∧Ext w w'):=by
 cases h1.len
 cases h2.len
 refine goT func12 ?_
 have Z:=((St.i0 F w).p h1).p h2
 have am:=h1.max
 have ao:=h2.max
 refine .s<|.g<|.r 1<|.d<|.s<|.s<|.g<|.r 2<|.bp ((code.length:Int) > 1048576) (fun ah=>.r 5<|.d<|.ct<|.s<|.g<|.r 1<|.d<|T.rt func12 results12 (.bool true) ⟨(AG AF),Z.xt⟩) fun ah=>.r 3<|.bp ((more.length:Int) > 1048576) (fun ai=>.r 1<|.d<|.ct<|.s<|.g<|.r 1<|.d<|T.rt func12 results12 (.bool true) ⟨(AG AF),Z.xt⟩) fun ai=>.r 1<|.d<|.cf<|.sk<|.s<|.g<|.r 1<|RG.cl (Bi code (Z.mg 1 1)) ?_
 rintro aT w ⟨⟨E,al,aq⟩,aj⟩
 refine RG.vL Z al aj ?_
 intro aU aV Z
 refine .r 1<|.d<|.s<|.g<|.r 1<|RG.CT (us:=[.bool ((AZ E).2)]) (Bv E (Z.mg 1 0) (by have q1:EsD E:=‹_›; first | exact q1 | exact q1.take _)) Z fun aW aX aY aZ ba bd bg bh bi bj bk bm bn bo w Z=>.r 2 ?_
 cases af:(AZ E).2
 ·refine .r 1<|RG.Np Z fun bq w Z=>RG.Ss 0 Z fun w Z=>.r 1<|.d<|.s<|.g<|.r 1<|RG.CT (us:=[.bool ((AZ E).2)]) (BL E (Z.mg 1 7) (by have q1:EsD E:=‹_›; first | exact q1 | exact q1.take _)) Z fun br bt bu bv bw bz bA bB bC bD bE bF bG bH w Z=>?_
  rw [af]
  refine .r 3<|RG.Np Z fun bI w Z=>RG.Ss 0 Z fun w Z=>.r 1<|.d<|.s<|.s<|.g<|.r 2<|RG.eqv (v:=.bool false) (v':=.bool (false != false)) AA AD<|.r 1<|RG.Ln 1 Z<|RG.Ln 0 Z<|RG.C0 (As ((AZ E).1) ((AZ E).1) (Z.a 7) (Z.a 8) (Z.a 9) (Z.a 10) (Z.a 11) (Z.a 12) (Z.a 13) (Z.a 0) (Z.a 1) (Z.a 2) (Z.a 3) (Z.a 4) (Z.a 5) (Z.a 6)) Z fun w Z=>?_
  rw [show ((((AZ E).1)==((AZ E).1)))=true from beq_self_eq_true _]
  refine .r 6<|.d<|.ct<|.s<|.g<|.r 2<|RG.eqv (v:=.bool true) (v':=.bool (false==false)) AA AD<|.r 1<|RG.Ln 1 Z<|RG.Ln 0 Z<|RG.C0 (As ((AZ E).1) ((AZ E).1) (Z.a 7) (Z.a 8) (Z.a 9) (Z.a 10) (Z.a 11) (Z.a 12) (Z.a 13) (Z.a 0) (Z.a 1) (Z.a 2) (Z.a 3) (Z.a 4) (Z.a 5) (Z.a 6)) Z fun w Z=>?_
  rw [show ((((AZ E).1)==((AZ E).1)))=true from beq_self_eq_true _]
  exact .r 2<|.d<|T.rt func12 results12 (.bool true) ⟨(AG AF),Z.xt⟩
 refine .r 1<|RG.Np Z fun bJ w Z=>RG.Ss 0 Z fun w Z=>.r 1<|.d<|.s<|.g<|.r 1<|RG.CT (us:=[.bool ((AZ E).2)]) (BL E (Z.mg 1 7) (by have q1:EsD E:=‹_›; first | exact q1 | exact q1.take _)) Z fun bK bL bM bN bO bP bQ bR bS bT bU bV bW bX w Z=>?_
 rw [af]
 refine .r 3<|RG.Np Z fun bY w Z=>RG.Ss 0 Z fun w Z=>.r 1<|.d<|.s<|.s<|.g<|.r 2<|RG.eqv (v:=.bool false) (v':=.bool (true != true)) AA AD<|.r 1<|RG.Ln 1 Z<|RG.Ln 0 Z<|RG.C0 (As ((AZ E).1) ((AZ E).1) (Z.a 7) (Z.a 8) (Z.a 9) (Z.a 10) (Z.a 11) (Z.a 12) (Z.a 13) (Z.a 0) (Z.a 1) (Z.a 2) (Z.a 3) (Z.a 4) (Z.a 5) (Z.a 6)) Z fun w Z=>?_
 rw [show ((((AZ E).1)==((AZ E).1)))=true from beq_self_eq_true _]
 refine .r 6<|.d<|.cf<|.sk<|.s<|.g<|RG.Ln 1 Z<|.r 1<|RG.CS (BI ((AZ E).1) (⟨2,0,9,([]:List Tag),(⟨0,0⟩:Row)⟩:Evt) (Z.mg 1 7) (Z.mg 1 8) (Z.mg 1 9) (Z.mg 1 10) (Z.mg 1 11) (Z.mg 1 12) (Z.mg 1 13) (Z.ng 1) (by have q1:EsD E:=‹_›; first | exact (pv q1 ‹_›).1 | exact (WV.do (pv q1 ‹_›).1 NmD.nil) | exact WV.do (WV.do (pv q1 ‹_›).1 NmD.nil) (nm1 ‹_›)) (by first | exact NmD.nil | exact nm1 ‹_›)) Z fun bZ b0 b6 b7 b8 b9 cd ce cg ci cj ck cm co w Z=>RG.Np Z fun cp w Z=>RG.Ss 0 Z fun w Z=>.d<|.s<|.s<|.g<|.r 2<|RG.Lb 0 Z<|.r 1<|.bp ((((((doW ((AZ E).1) (⟨2,0,9,([]:List Tag),(⟨0,0⟩:Row)⟩:Evt)).store).mem).length):Int) > 0) (fun ak=>.d<|.ct<|.s<|.g<|.r 1<|.d<|T.rt func12 results12 (.bool true) ⟨(AG AF),Z.xt⟩) fun ak=>.d<|.cf<|.sk<|.s<|.g<|RG.Nl 1 ([(⟨[97]⟩:Txt),(⟨[98]⟩:Txt)]:List Txt) [] Z fun cq w Z=>.r 3<|gx (h:=(by have q2:=GM more.length (k:=2) AB; simp; omega)) ([(⟨[97]⟩:Txt),(⟨[98]⟩:Txt)]:List Txt) ((Int.tmod (more.length:Int) 2).toNat) fun ac ab=>?_
 have ar:=Bf ab; have ae:=AV ab
 simp only [List.mem_cons,List.not_mem_nil,or_false] at ae
 refine RG.Jo (hz:=(by have q2:=GM more.length (k:=2) AB; simp; omega)) 0 (Int.tmod (more.length:Int) 2) ab Z<|Z.eo 0 ab fun Z=>RG.Lt 0 0 Z<|.r 1<|RG.Nl 1 ([(⟨ac.s,[113]⟩:Tag)]:List Tag) [] Z fun cu w Z=>.r 1<|.d<|.s<|.g<|RG.Ln 2 Z<|.r 6 ?_
 have Z:=Z.sl 0
 refine RG.CS (BI (doW ((AZ E).1) (⟨2,0,9,([]:List Tag),(⟨0,0⟩:Row)⟩:Evt)) (⟨1,0,0,([(⟨ac.s,[113]⟩:Tag)]:List Tag),(⟨Int.tmod (more.length:Int) 90,33⟩:Row)⟩:Evt) (Z.mg 1 1) (Z.mg 1 2) (Z.mg 1 3) (Z.mg 1 4) (Z.mg 1 5) (Z.mg 1 6) (Z.mg 1 7) (Z.mg 1 0) (by have q1:EsD E:=‹_›; first | exact (pv q1 ‹_›).1 | exact (WV.do (pv q1 ‹_›).1 NmD.nil) | exact WV.do (WV.do (pv q1 ‹_›).1 NmD.nil) (nm1 ‹_›)) (by first | exact NmD.nil | exact nm1 ‹_›)) Z fun cw cx cy cz cA cB cC au ax ay az aA aB aC w Z=>RG.Np Z fun aD w Z=>RG.Ss 0 Z fun w Z=>.d<|.s<|.g<|RG.Ln 0 Z<|.r 1<|RG.CS (BI (doW (doW ((AZ E).1) (⟨2,0,9,([]:List Tag),(⟨0,0⟩:Row)⟩:Evt)) (⟨1,0,0,([(⟨ac.s,[113]⟩:Tag)]:List Tag),(⟨Int.tmod (more.length:Int) 90,33⟩:Row)⟩:Evt)) (⟨4,0,0,([]:List Tag),(⟨0,0⟩:Row)⟩:Evt) (Z.mg 1 0) (Z.mg 1 1) (Z.mg 1 2) (Z.mg 1 3) (Z.mg 1 4) (Z.mg 1 5) (Z.mg 1 6) (Z.ng 1) (by have q1:EsD E:=‹_›; first | exact (pv q1 ‹_›).1 | exact (WV.do (pv q1 ‹_›).1 NmD.nil) | exact WV.do (WV.do (pv q1 ‹_›).1 NmD.nil) (nm1 ‹_›)) (by first | exact NmD.nil | exact nm1 ‹_›)) Z fun aE aF aG aH aI aJ aK aL aM aN aO aP aQ aR w Z=>RG.Np Z fun aS w Z=>RG.Ss 0 Z fun w Z=>.d<|.s<|.g<|.r 1<|RG.Ln 0 Z<|.r 1<|RG.Ln 3 Z<|RG.C0 (Ck ((doW (doW (doW ((AZ E).1) (⟨2,0,9,([]:List Tag),(⟨0,0⟩:Row)⟩:Evt)) (⟨1,0,0,([(⟨ac.s,[113]⟩:Tag)]:List Tag),(⟨Int.tmod (more.length:Int) 90,33⟩:Row)⟩:Evt)) (⟨4,0,0,([]:List Tag),(⟨0,0⟩:Row)⟩:Evt)).store) ((doW ((AZ E).1) (⟨2,0,9,([]:List Tag),(⟨0,0⟩:Row)⟩:Evt)).store) (Z.a 0) (Z.a 1) (Z.a 2) (Z.a 3) (Z.a 15) (Z.a 16) (Z.a 17) (Z.a 18) (by have q1:EsD E:=‹_›; first | exact WV.sd (WV.do (WV.do (WV.do (pv q1 ‹_›).1 NmD.nil) (nm1 ‹_›)) NmD.nil) | exact WV.sd (WV.do (pv q1 ‹_›).1 NmD.nil)) (by have q1:EsD E:=‹_›; exact WV.sd (WV.do (pv q1 ‹_›).1 NmD.nil))) Z fun w Z=>?_
 have ag:(Bj ((doW (doW (doW ((AZ E).1) (⟨2,0,9,([]:List Tag),(⟨0,0⟩:Row)⟩:Evt)) (⟨1,0,0,([(⟨ac.s,[113]⟩:Tag)]:List Tag),(⟨Int.tmod (more.length:Int) 90,33⟩:Row)⟩:Evt)) (⟨4,0,0,([]:List Tag),(⟨0,0⟩:Row)⟩:Evt)).store) [] 0 99==Bj ((doW ((AZ E).1) (⟨2,0,9,([]:List Tag),(⟨0,0⟩:Row)⟩:Evt)).store) [] 0 99)=true:=(by have q1:EsD E:=‹_›; exact Wy (pv q1 ‹_›).1 ‹_› (nm1 ‹_›))
 rw [ag]
 exact .r 3<|RG.Lb 0 Z<|.r 4<|.d<|T.rt func12 results12 (.bool ((((((doW (doW (doW ((AZ E).1) (⟨2,0,9,([]:List Tag),(⟨0,0⟩:Row)⟩:Evt)) (⟨1,0,0,([(⟨ac.s,[113]⟩:Tag)]:List Tag),(⟨Int.tmod (more.length:Int) 90,33⟩:Row)⟩:Evt)) (⟨4,0,0,([]:List Tag),(⟨0,0⟩:Row)⟩:Evt)).store).mem).length):Int)==0)) ⟨(AG (by first | rfl | (have q1:EsD E:=‹_›; rw [Sr (WV.do (WV.do (pv q1 ‹_›).1 NmD.nil) (nm1 ‹_›))]; rfl) | (simp_all; done))),Z.xt⟩
end Go.Proofs.YtggnnidleedpaaaGreat
