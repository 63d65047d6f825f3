/- The laws on plays: one behind the other, a flush, half a flush, a merge; plain laws. -/
import Derived.Test.YtggnnidleedpaaaGreatWpzMod30k11
import Derived.Test.YtggnnidleedpaaaGreatWpzMod72k3
open Go.Proofs.Tryz
set_option linter.unusedVariables false
set_option linter.unusedSimpArgs false
namespace Go.Proofs.YtggnnidleedpaaaGreat
section
variable {w:Wld} {c:Int}
theorem Vn (h:WV w) (hn:w.disk.next≤60) (h0:¬ (w.store.mem.length:Int)=0) (h6:¬ (w.store.parts.length:Int)=6) :
 (Bj (doW w ⟨2,0,9,[],⟨0,0⟩⟩).store [] 0 99==Bj w.store [] 0 99)=true∧(Bj (doW (doW w ⟨2,0,9,[],⟨0,0⟩⟩) ⟨4,0,0,[],⟨0,0⟩⟩).store [] 0 99==Bj w.store [] 0 99)=true∧(doW w ⟨2,0,9,[],⟨0,0⟩⟩).store.mem.length=0:=by
 have q:=UF h hn h0 h6
 have hx:WV (doW w ⟨2,0,9,[],⟨0,0⟩⟩):=h.do NmD.nil
 have e:=Mh (e:=⟨2,0,9,[],⟨0,0⟩⟩) h q rfl AE
 rw [K0 hx rfl]
 rw [e]
 refine ⟨by rw [FH h q]; exact beq_self_eq_true _,?_,rfl⟩
 show (Bj (Al (toD w.disk (Au w.disk w.store) 9)) [] 0 99==_)=true
 rw [(q.to 9).2,if_neg AE,FH h q]
 exact beq_self_eq_true _
end
end Go.Proofs.YtggnnidleedpaaaGreat
namespace Go.Proofs.YtggnnidleedpaaaGreat
set_option maxRecDepth 100000
set_option maxHeartbeats 4000000
variable {w:World} {F:Nat→Prop} {a1:Option Addr} {n1 c1:Nat}
theorem HD (code:List UInt8) (h1:RepS w F a1 n1 c1 code)  : Calls Tryz.prog 9 [.slice a1 n1 c1].toArray w (Am fun rv w'=>rv=.bool (true)∧Ext w w'):=by
 cases h1.len
 refine goT func9 ?_
 have Z:=(St.i0 F w).p h1
 refine .s<|.g<|.r 1<|.d<|.s<|.s<|.g<|.r 2<|.bp ((code.length:Int) > 1048576) (fun af=>.d<|.ct<|.s<|.g<|.r 1<|.d<|T.rt func9 results9 (.bool true) ⟨(AG AF),Z.xt⟩) fun af=>.d<|.cf<|.sk<|.s<|.g<|.r 1<|RG.cl (Bi code (Z.mg 1 0)) ?_
 rintro ax w ⟨⟨E,am,aq⟩,ag⟩
 refine RG.vL Z am ag ?_
 intro ay az Z
 refine .r 1<|.d<|.s<|.g<|.r 1<|RG.CT (us:=[.bool ((AZ E).2)]) (Bv E (Z.mg 1 0) (by have q1:EsD E:=‹_›; exact q1)) Z fun aA aB aC aD aE aF aG aH aI aJ aK aL aM aN w Z=>.r 2 ?_
 cases ab:(AZ E).2
 ·refine .r 1<|RG.Np Z fun aO w Z=>RG.Ss 0 Z fun w Z=>.r 1<|.d<|.s<|.g<|.r 1<|RG.CT (us:=[.bool ((AZ E).2)]) (BL E (Z.mg 1 7) (by have q1:EsD E:=‹_›; exact q1)) Z fun aP aQ aR aS aT aU aV aW aX aY aZ ba bd bg w Z=>?_
  rw [ab]
  refine .r 3<|RG.Np Z fun bh w Z=>RG.Ss 0 Z fun w Z=>.r 1<|.d<|.s<|.s<|.g<|.r 2<|RG.eqv (v:=.bool false) (v':=.bool (false != false)) AA AD<|.r 1<|RG.Ln 1 Z<|RG.Ln 0 Z<|RG.C0 (As ((AZ E).1) ((AZ E).1) (Z.a 7) (Z.a 8) (Z.a 9) (Z.a 10) (Z.a 11) (Z.a 12) (Z.a 13) (Z.a 0) (Z.a 1) (Z.a 2) (Z.a 3) (Z.a 4) (Z.a 5) (Z.a 6)) Z fun w Z=>?_
  rw [show ((((AZ E).1)==((AZ E).1)))=true from beq_self_eq_true _]
  refine .r 6<|.d<|.ct<|.s<|.g<|.r 2<|RG.eqv (v:=.bool true) (v':=.bool (false==false)) AA AD<|.r 1<|RG.Ln 1 Z<|RG.Ln 0 Z<|RG.C0 (As ((AZ E).1) ((AZ E).1) (Z.a 7) (Z.a 8) (Z.a 9) (Z.a 10) (Z.a 11) (Z.a 12) (Z.a 13) (Z.a 0) (Z.a 1) (Z.a 2) (Z.a 3) (Z.a 4) (Z.a 5) (Z.a 6)) Z fun w Z=>?_
  rw [show ((((AZ E).1)==((AZ E).1)))=true from beq_self_eq_true _]
  exact .r 2<|.d<|T.rt func9 results9 (.bool true) ⟨(AG AF),Z.xt⟩
 refine .r 1<|RG.Np Z fun bi w Z=>RG.Ss 0 Z fun w Z=>.r 1<|.d<|.s<|.g<|.r 1<|RG.CT (us:=[.bool ((AZ E).2)]) (BL E (Z.mg 1 7) (by have q1:EsD E:=‹_›; exact q1)) Z fun bj bk bm bn bo bq br bt bu bv bw bz bA bB w Z=>?_
 rw [ab]
 refine .r 3<|RG.Np Z fun bC w Z=>RG.Ss 0 Z fun w Z=>.r 1<|.d<|.s<|.s<|.g<|.r 2<|RG.eqv (v:=.bool false) (v':=.bool (true != true)) AA AD<|.r 1<|RG.Ln 1 Z<|RG.Ln 0 Z<|RG.C0 (As ((AZ E).1) ((AZ E).1) (Z.a 7) (Z.a 8) (Z.a 9) (Z.a 10) (Z.a 11) (Z.a 12) (Z.a 13) (Z.a 0) (Z.a 1) (Z.a 2) (Z.a 3) (Z.a 4) (Z.a 5) (Z.a 6)) Z fun w Z=>?_
 rw [show ((((AZ E).1)==((AZ E).1)))=true from beq_self_eq_true _]
 refine .r 6<|.d<|.cf<|.sk<|.s<|.g<|RG.Ln 1 Z<|.r 1<|RG.CS (BI ((AZ E).1) (⟨2,0,9,([]:List Tag),(⟨0,0⟩:Row)⟩:Evt) (Z.mg 1 7) (Z.mg 1 8) (Z.mg 1 9) (Z.mg 1 10) (Z.mg 1 11) (Z.mg 1 12) (Z.mg 1 13) (Z.ng 1) (by have q1:EsD E:=‹_›; exact (pv q1 ‹_›).1) (by have q1:EsD E:=‹_›; exact NmD.nil)) Z fun bD bE bF bG bH bI bJ bK bL bM bN bO bP bQ w Z=>RG.Np Z fun bR w Z=>RG.Ss 0 Z fun w Z=>.d<|.s<|.s<|.g<|.r 2<|RG.Lb 2 Z<|.r 1<|.eq (((AZ E).1.store.mem.length):Int) 0 (fun ah=>?_) (fun ah=>?_)
 ·refine .r 7<|.d<|.ct<|.s<|.g<|RG.Ln 0 Z<|RG.Ln 2 Z<|RG.C0 (As (doW ((AZ E).1) (⟨2,0,9,([]:List Tag),(⟨0,0⟩:Row)⟩:Evt)) ((AZ E).1) (Z.a 0) (Z.a 1) (Z.a 2) (Z.a 3) (Z.a 4) (Z.a 5) (Z.a 6) (Z.a 14) (Z.a 15) (Z.a 16) (Z.a 17) (Z.a 18) (Z.a 19) (Z.a 20)) Z fun w Z=>?_
  have ai:((doW ((AZ E).1) (⟨2,0,9,([]:List Tag),(⟨0,0⟩:Row)⟩:Evt))==((AZ E).1))=true:=(by have q1:EsD E:=‹_›; exact KD (pv q1 ‹_›).1 (by exact .inl ‹_›))
  rw [ai]
  exact .r 1<|.d<|T.rt func9 results9 (.bool true) ⟨(AG AF),Z.xt⟩
 refine .r 3<|RG.Lb 2 Z<|.r 1<|.eq (((AZ E).1.store.parts.length):Int) 6 (fun aj=>?_) (fun aj=>?_)
 ·refine .r 1<|.d<|.ct<|.s<|.g<|RG.Ln 0 Z<|RG.Ln 2 Z<|RG.C0 (As (doW ((AZ E).1) (⟨2,0,9,([]:List Tag),(⟨0,0⟩:Row)⟩:Evt)) ((AZ E).1) (Z.a 0) (Z.a 1) (Z.a 2) (Z.a 3) (Z.a 4) (Z.a 5) (Z.a 6) (Z.a 14) (Z.a 15) (Z.a 16) (Z.a 17) (Z.a 18) (Z.a 19) (Z.a 20)) Z fun w Z=>?_
  have ak:((doW ((AZ E).1) (⟨2,0,9,([]:List Tag),(⟨0,0⟩:Row)⟩:Evt))==((AZ E).1))=true:=(by have q1:EsD E:=‹_›; exact KD (pv q1 ‹_›).1 (by exact .inr ‹_›))
  rw [ak]
  exact .r 1<|.d<|T.rt func9 results9 (.bool true) ⟨(AG AF),Z.xt⟩
 refine .r 1<|.d<|.cf<|.sk<|.s<|.g<|RG.Ln 0 Z<|.r 1<|RG.CS (BI (doW ((AZ E).1) (⟨2,0,9,([]:List Tag),(⟨0,0⟩:Row)⟩:Evt)) (⟨4,0,0,([]:List Tag),(⟨0,0⟩:Row)⟩:Evt) (Z.mg 1 0) (Z.mg 1 1) (Z.mg 1 2) (Z.mg 1 3) (Z.mg 1 4) (Z.mg 1 5) (Z.mg 1 6) (Z.ng 1) (by have q1:EsD E:=‹_›; exact WV.do (pv q1 ‹_›).1 NmD.nil) (by have q1:EsD E:=‹_›; exact NmD.nil)) Z fun bS bT bU bV bW bX bY bZ b0 b6 b7 b8 b9 ar w Z=>RG.Np Z fun au w Z=>RG.Ss 0 Z fun w Z=>.d<|.s<|.g<|.r 1<|RG.Ln 1 Z<|.r 1<|RG.Ln 3 Z<|RG.C0 (Ck ((doW ((AZ E).1) (⟨2,0,9,([]:List Tag),(⟨0,0⟩:Row)⟩:Evt)).store) ((AZ E).1.store) (Z.a 7) (Z.a 8) (Z.a 9) (Z.a 10) (Z.a 21) (Z.a 22) (Z.a 23) (Z.a 24) (by have q1:EsD E:=‹_›; exact (WV.sd (WV.do (pv q1 ‹_›).1 NmD.nil))) (by have q1:EsD E:=‹_›; exact (WV.sd (pv q1 ‹_›).1))) Z fun w Z=>?_
 have ac:(Bj ((doW ((AZ E).1) (⟨2,0,9,([]:List Tag),(⟨0,0⟩:Row)⟩:Evt)).store) [] 0 99==Bj ((AZ E).1.store) [] 0 99)=true:=(by have q1:EsD E:=‹_›; exact (Vn (pv q1 ‹_›).1 (by have q9:=HR q1 ‹_›; omega) ‹_› ‹_›).1)
 rw [ac]
 refine .r 2<|RG.Ln 0 Z<|.r 1<|RG.Ln 3 Z<|RG.C0 (Ck ((doW (doW ((AZ E).1) (⟨2,0,9,([]:List Tag),(⟨0,0⟩:Row)⟩:Evt)) (⟨4,0,0,([]:List Tag),(⟨0,0⟩:Row)⟩:Evt)).store) ((AZ E).1.store) (Z.a 0) (Z.a 1) (Z.a 2) (Z.a 3) (Z.a 21) (Z.a 22) (Z.a 23) (Z.a 24) (by have q1:EsD E:=‹_›; exact (WV.sd (WV.do (WV.do (pv q1 ‹_›).1 NmD.nil) NmD.nil))) (by have q1:EsD E:=‹_›; exact (WV.sd (pv q1 ‹_›).1))) Z fun w Z=>?_
 have ae:(Bj ((doW (doW ((AZ E).1) (⟨2,0,9,([]:List Tag),(⟨0,0⟩:Row)⟩:Evt)) (⟨4,0,0,([]:List Tag),(⟨0,0⟩:Row)⟩:Evt)).store) [] 0 99==Bj ((AZ E).1.store) [] 0 99)=true:=(by have q1:EsD E:=‹_›; exact (Vn (pv q1 ‹_›).1 (by have q9:=HR q1 ‹_›; omega) ‹_› ‹_›).2.1)
 rw [ae]
 exact .r 4<|RG.Lb 1 Z<|.r 4<|.d<|T.rt func9 results9 (.bool ((((((doW ((AZ E).1) (⟨2,0,9,([]:List Tag),(⟨0,0⟩:Row)⟩:Evt)).store).mem).length):Int)==0)) ⟨(AG (by (have q1:EsD E:=‹_›; have q2:=(Vn (pv q1 ‹_›).1 (by have q9:=HR q1 ‹_›; omega) ‹_› ‹_›).2.2; rw [beq_iff_eq]; omega))),Z.xt⟩
end Go.Proofs.YtggnnidleedpaaaGreat
