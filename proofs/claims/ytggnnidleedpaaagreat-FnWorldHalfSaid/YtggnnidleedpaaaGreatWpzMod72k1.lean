/- The laws on plays: one behind the other, a flush, half a flush, a merge; plain laws. -/
import Derived.Test.YtggnnidleedpaaaGreatWpzMod72k3
import Derived.Test.YtggnnidleedpaaaGreatWpzMod72k7
open Go.Proofs.Tryz
set_option linter.unusedVariables false
set_option linter.unusedSimpArgs false
namespace Go.Proofs.YtggnnidleedpaaaGreat
section
variable {w:Wld} {e:Evt}
theorem UG (h:WV w) (q:FlD w.disk w.store) (k:e.kind=2) (h0:0≤e.cut) (hc:e.cut< 2):doW w e=⟨Al w.disk,BE (toD w.disk (Au w.disk w.store) e.cut)⟩:=by
 rw [HO k]
 have hl:=Gr q
 rw [Dz AB AB AB,Ic (w:=⟨w.store,toD w.disk (Au w.disk w.store) e.cut⟩) (Nx h q _) (q.to _).1]
 show (⟨Al (toD w.disk (Au w.disk w.store) e.cut),_⟩:Wld)=_
 rw [(q.to e.cut).2,if_pos hc]
theorem Qd (h:WV w) (q:FlD w.disk w.store){c:Int}(hc:c< 2):(BE (toD w.disk (Au w.disk w.store) c)).list=(BE w.disk).list∧(BE (toD w.disk (Au w.disk w.store) c)).files=(BE w.disk).files:=by
 by_cases h0:c≤0
 ·rw [JY h0]; exact ⟨rfl,rfl⟩
 ·have e:=(Fy q (c:=2) AB).1
  have e2:toD w.disk (Au w.disk w.store) c=⟨w.disk.files++[⟨w.disk.next,Aj w.store.mem⟩],w.disk.list,w.disk.names,w.disk.next+1⟩:=by
   rw [e,Cu AB,Ee rfl,JY AB]
  rw [e2]
  refine ⟨rfl,?_⟩
  have hn:w.disk.list.contains w.disk.next=false:=by
   cases hc2:w.disk.list.contains w.disk.next with
   | false=>rfl
   | true=>have:=h.v.lt _ (List.contains_iff_mem.1 hc2); omega
  unfold BE
  simp only [List.filter_append,List.filter_cons,hn,List.filter_nil]
  simp
end
section
variable {w:Wld} {c:Int}
theorem Vm (h:WV w) (hn:w.disk.next≤60) (h0:¬ (w.store.mem.length:Int)=0) (h6:¬ (w.store.parts.length:Int)=6) (hc:0≤c∧c< 2) :
 ((doW w ⟨2, 0, c, [], ⟨0, 0⟩⟩).store == (doW w ⟨4, 0, 0, [], ⟨0, 0⟩⟩).store) = true ∧ ((doW w ⟨2, 0, c, [], ⟨0, 0⟩⟩).disk.list == (doW w ⟨4, 0, 0, [], ⟨0, 0⟩⟩).disk.list) = true ∧
   (doW w ⟨2,0,c,[],⟨0,0⟩⟩).disk.files.length=(doW w ⟨4,0,0,[],⟨0,0⟩⟩).disk.files.length:=by
 have q:=UF h hn h0 h6
 rw [UG h q rfl hc.1 hc.2,K0 h rfl]
 obtain ⟨e1,e2⟩:=Qd h q hc.2
 refine ⟨beq_self_eq_true _,?_,?_⟩
 ·show ((BE _).list==_)=true
  rw [e1]
  exact beq_self_eq_true _
 ·show (BE _).files.length=_
  rw [e2]
end
end Go.Proofs.YtggnnidleedpaaaGreat
namespace Go.Proofs.YtggnnidleedpaaaGreat
set_option maxRecDepth 100000
set_option maxHeartbeats 4000000
variable {w:World} {F:Nat→Prop} {a1 a2:Option Addr} {n1 c1 n2 c2:Nat}
theorem Hl (code:List UInt8) (more:List UInt8) (h1:RepS w F a1 n1 c1 code) (h2:RepS w F a2 n2 c2 more)  : Calls Tryz.prog 7 [.slice a1 n1 c1,.slice a2 n2 c2].toArray w (Am fun rv w'=>rv=.bool (true)∧Ext w w'):=by
 cases h1.len
 cases h2.len
 refine goT func7 ?_
 have Z:=((St.i0 F w).p h1).p h2
 refine .s<|.g<|.r 1<|.d<|.s<|.s<|.g<|.r 2<|.bp ((code.length:Int) > 1048576) (fun aj=>.r 5<|.d<|.ct<|.s<|.g<|.r 1<|.d<|T.rt func7 results7 (.bool true) ⟨(AG AF),Z.xt⟩) fun aj=>.r 3<|.bp ((more.length:Int) > 1048576) (fun ak=>.r 1<|.d<|.ct<|.s<|.g<|.r 1<|.d<|T.rt func7 results7 (.bool true) ⟨(AG AF),Z.xt⟩) fun ak=>.r 1<|.d<|.cf<|.sk<|.s<|.g<|.r 1<|RG.cl (Bi code (Z.mg 1 1)) ?_
 rintro ay w ⟨⟨E,am,ar⟩,al⟩
 refine RG.vL Z am al ?_
 intro az aA Z
 refine .r 1<|.d<|.s<|.g<|.r 1<|RG.CT (us:=[.bool ((AZ E).2)]) (Bv E (Z.mg 1 0) (by have q1:EsD E:=‹_›; exact q1)) Z fun aB aC aD aE aF aG aH aI aJ aK aL aM aN aO w Z=>.r 2 ?_
 cases ab:(AZ E).2
 ·refine .r 1<|RG.Np Z fun aP w Z=>RG.Ss 0 Z fun w Z=>.r 1<|.d<|.s<|.g<|.r 1<|RG.CT (us:=[.bool ((AZ E).2)]) (BL E (Z.mg 1 7) (by have q1:EsD E:=‹_›; exact q1)) Z fun aQ aR aS aT aU aV aW aX aY aZ ba bd bg bh w Z=>?_
  rw [ab]
  refine .r 3<|RG.Np Z fun bi w Z=>RG.Ss 0 Z fun w Z=>.r 1<|.d<|.s<|.s<|.g<|.r 2<|RG.eqv (v:=.bool false) (v':=.bool (false != false)) AA AD<|.r 1<|RG.Ln 1 Z<|RG.Ln 0 Z<|RG.C0 (As ((AZ E).1) ((AZ E).1) (Z.a 7) (Z.a 8) (Z.a 9) (Z.a 10) (Z.a 11) (Z.a 12) (Z.a 13) (Z.a 0) (Z.a 1) (Z.a 2) (Z.a 3) (Z.a 4) (Z.a 5) (Z.a 6)) Z fun w Z=>?_
  rw [show ((((AZ E).1)==((AZ E).1)))=true from beq_self_eq_true _]
  refine .r 6<|.d<|.ct<|.s<|.g<|.r 2<|RG.eqv (v:=.bool true) (v':=.bool (false==false)) AA AD<|.r 1<|RG.Ln 1 Z<|RG.Ln 0 Z<|RG.C0 (As ((AZ E).1) ((AZ E).1) (Z.a 7) (Z.a 8) (Z.a 9) (Z.a 10) (Z.a 11) (Z.a 12) (Z.a 13) (Z.a 0) (Z.a 1) (Z.a 2) (Z.a 3) (Z.a 4) (Z.a 5) (Z.a 6)) Z fun w Z=>?_
  rw [show ((((AZ E).1)==((AZ E).1)))=true from beq_self_eq_true _]
  exact .r 2<|.d<|T.rt func7 results7 (.bool true) ⟨(AG AF),Z.xt⟩
 refine .r 1<|RG.Np Z fun bj w Z=>RG.Ss 0 Z fun w Z=>.r 1<|.d<|.s<|.g<|.r 1<|RG.CT (us:=[.bool ((AZ E).2)]) (BL E (Z.mg 1 7) (by have q1:EsD E:=‹_›; exact q1)) Z fun bk bm bn bo bq br bt bu bv bw bz bA bB bC w Z=>?_
 rw [ab]
 refine .r 3<|RG.Np Z fun bD w Z=>RG.Ss 0 Z fun w Z=>.r 1<|.d<|.s<|.s<|.g<|.r 2<|RG.eqv (v:=.bool false) (v':=.bool (true != true)) AA AD<|.r 1<|RG.Ln 1 Z<|RG.Ln 0 Z<|RG.C0 (As ((AZ E).1) ((AZ E).1) (Z.a 7) (Z.a 8) (Z.a 9) (Z.a 10) (Z.a 11) (Z.a 12) (Z.a 13) (Z.a 0) (Z.a 1) (Z.a 2) (Z.a 3) (Z.a 4) (Z.a 5) (Z.a 6)) Z fun w Z=>?_
 rw [show ((((AZ E).1)==((AZ E).1)))=true from beq_self_eq_true _]
 refine .r 6<|.d<|.cf<|.sk<|.s<|.g<|RG.Ln 1 Z<|.r 4<|RG.CS (BI ((AZ E).1) (⟨2,0,Int.tmod (more.length:Int) 2,([]:List Tag),(⟨0,0⟩:Row)⟩:Evt) (Z.mg 1 7) (Z.mg 1 8) (Z.mg 1 9) (Z.mg 1 10) (Z.mg 1 11) (Z.mg 1 12) (Z.mg 1 13) (Z.ng 1) (by have q1:EsD E:=‹_›; exact (pv q1 ‹_›).1) (by have q1:EsD E:=‹_›; exact NmD.nil)) Z fun bE bF bG bH bI bJ bK bL bM bN bO bP bQ bR w Z=>RG.Np Z fun bS w Z=>RG.Ss 0 Z fun w Z=>.d<|.s<|.g<|RG.Ln 2 Z<|.r 1<|RG.CS (BI ((AZ E).1) (⟨4,0,0,([]:List Tag),(⟨0,0⟩:Row)⟩:Evt) (Z.mg 1 14) (Z.mg 1 15) (Z.mg 1 16) (Z.mg 1 17) (Z.mg 1 18) (Z.mg 1 19) (Z.mg 1 20) (Z.ng 1) (by have q1:EsD E:=‹_›; exact (pv q1 ‹_›).1) (by have q1:EsD E:=‹_›; exact NmD.nil)) Z fun bT bU bV bW bX bY bZ b0 b6 b7 b8 b9 cd ce w Z=>RG.Np Z fun au w Z=>RG.Ss 0 Z fun w Z=>.d<|.s<|.s<|.g<|.r 2<|RG.Lb 3 Z<|.r 1<|.eq (((AZ E).1.store.mem.length):Int) 0 (fun ac=>?_) (fun ac=>?_)
 ·refine .r 7<|.d<|.ct<|.s<|.g<|RG.Ln 1 Z<|RG.Ln 3 Z<|RG.C0 (As (doW ((AZ E).1) (⟨2,0,Int.tmod (more.length:Int) 2,([]:List Tag),(⟨0,0⟩:Row)⟩:Evt)) ((AZ E).1) (Z.a 7) (Z.a 8) (Z.a 9) (Z.a 10) (Z.a 11) (Z.a 12) (Z.a 13) (Z.a 21) (Z.a 22) (Z.a 23) (Z.a 24) (Z.a 25) (Z.a 26) (Z.a 27)) Z fun w Z=>?_
  have ae:((doW ((AZ E).1) (⟨2,0,Int.tmod (more.length:Int) 2,([]:List Tag),(⟨0,0⟩:Row)⟩:Evt))==((AZ E).1))=true:=(by have q1:EsD E:=‹_›; exact KD (pv q1 ‹_›).1 (by exact .inl ‹_›))
  rw [ae]
  exact .r 1<|.d<|T.rt func7 results7 (.bool true) ⟨(AG AF),Z.xt⟩
 refine .r 3<|RG.Lb 3 Z<|.r 1<|.eq (((AZ E).1.store.parts.length):Int) 6 (fun af=>?_) (fun af=>?_)
 ·refine .r 1<|.d<|.ct<|.s<|.g<|RG.Ln 1 Z<|RG.Ln 3 Z<|RG.C0 (As (doW ((AZ E).1) (⟨2,0,Int.tmod (more.length:Int) 2,([]:List Tag),(⟨0,0⟩:Row)⟩:Evt)) ((AZ E).1) (Z.a 7) (Z.a 8) (Z.a 9) (Z.a 10) (Z.a 11) (Z.a 12) (Z.a 13) (Z.a 21) (Z.a 22) (Z.a 23) (Z.a 24) (Z.a 25) (Z.a 26) (Z.a 27)) Z fun w Z=>?_
  have ag:((doW ((AZ E).1) (⟨2,0,Int.tmod (more.length:Int) 2,([]:List Tag),(⟨0,0⟩:Row)⟩:Evt))==((AZ E).1))=true:=(by have q1:EsD E:=‹_›; exact KD (pv q1 ‹_›).1 (by exact .inr ‹_›))
  rw [ag]
  exact .r 1<|.d<|T.rt func7 results7 (.bool true) ⟨(AG AF),Z.xt⟩
 refine .r 1<|.d<|.cf<|.sk<|.s<|.g<|.r 1<|RG.Ln 1 Z<|.r 1<|RG.Ln 0 Z<|RG.C0 (E0 ((doW ((AZ E).1) (⟨2,0,Int.tmod (more.length:Int) 2,([]:List Tag),(⟨0,0⟩:Row)⟩:Evt)).store) ((doW ((AZ E).1) (⟨4,0,0,([]:List Tag),(⟨0,0⟩:Row)⟩:Evt)).store) (Z.a 7) (Z.a 8) (Z.a 9) (Z.a 10) (Z.a 0) (Z.a 1) (Z.a 2) (Z.a 3)) Z fun w Z=>?_
 have ah:(((doW ((AZ E).1) (⟨2,0,Int.tmod (more.length:Int) 2,([]:List Tag),(⟨0,0⟩:Row)⟩:Evt)).store)==((doW ((AZ E).1) (⟨4,0,0,([]:List Tag),(⟨0,0⟩:Row)⟩:Evt)).store))=true:=(by have q1:EsD E:=‹_›; exact (Vm (pv q1 ‹_›).1 (by have q9:=HR q1 ‹_›; omega) ‹_› ‹_› (GM more.length (k:=2) AB)).1)
 rw [ah]
 refine .r 3<|RG.Lb 1 Z<|.r 2<|RG.Lb 0 Z<|RG.C0 (EP (((doW ((AZ E).1) (⟨2,0,Int.tmod (more.length:Int) 2,([]:List Tag),(⟨0,0⟩:Row)⟩:Evt)).disk).list) (((doW ((AZ E).1) (⟨4,0,0,([]:List Tag),(⟨0,0⟩:Row)⟩:Evt)).disk).list) (Z.a 12) (Z.a 5)) Z fun w Z=>?_
 have ai:((((doW ((AZ E).1) (⟨2,0,Int.tmod (more.length:Int) 2,([]:List Tag),(⟨0,0⟩:Row)⟩:Evt)).disk).list)==(((doW ((AZ E).1) (⟨4,0,0,([]:List Tag),(⟨0,0⟩:Row)⟩:Evt)).disk).list))=true:=(by have q1:EsD E:=‹_›; exact (Vm (pv q1 ‹_›).1 (by have q9:=HR q1 ‹_›; omega) ‹_› ‹_› (GM more.length (k:=2) AB)).2.1)
 rw [ai]
 exact .r 4<|RG.Lb 1 Z<|.r 3<|RG.Lb 0 Z<|.r 4<|.d<|T.rt func7 results7 (.bool ((((((doW ((AZ E).1) (⟨2,0,Int.tmod (more.length:Int) 2,([]:List Tag),(⟨0,0⟩:Row)⟩:Evt)).disk).files).length):Int)==(((((doW ((AZ E).1) (⟨4,0,0,([]:List Tag),(⟨0,0⟩:Row)⟩:Evt)).disk).files).length):Int))) ⟨(AG (by (have q1:EsD E:=‹_›; have q2:=(Vm (pv q1 ‹_›).1 (by have q9:=HR q1 ‹_›; omega) ‹_› ‹_› (GM more.length (k:=2) AB)).2.2; rw [beq_iff_eq]; omega))),Z.xt⟩
end Go.Proofs.YtggnnidleedpaaaGreat
