/- The laws on worlds: the last one is told, what happens, what cannot be; plain laws. -/
import Derived.Test.YtckdhcbbgmiccaaGreatWxzMod52k7
open Go.Proofs.Tryz
set_option linter.unusedVariables false
set_option linter.unusedSimpArgs false
namespace Go.Proofs.YtckdhcbbgmiccaaGreat
section
variable {w x:Wld} {e:Evt}
theorem Yb (h:WV w) (hx:doP w e=x) (k:e.kind=1) (h2:(BS w.store e.name e.row).2=false):(x==w)=true:=by
 rw [← hx,Fo h.fits,US h k h2]
 exact beq_self_eq_true _
theorem Yc (h:WV w) (hx:doP w e=x) (k:e.kind=1) (h2:(BS w.store e.name e.row).2=true):(x.store==(BS w.store e.name e.row).1)=true∧(x.disk==w.disk)=true:=by
 rw [← hx,Fo h.fits,do_1 h k h2]
 exact ⟨beq_self_eq_true _,beq_self_eq_true _⟩
theorem RB (h:WV w) (hx:doP w e=x) (k:e.kind=2) (h2:((Ag w.disk w.store).length:Int)=0∨e.cut< 0):(x==w)=true:=by
 rw [← hx,Fo h.fits,UT h k h2]
 exact beq_self_eq_true _
theorem Xr (h:WV w) (hx:doP w e=x) (k:e.kind=2) (h2:¬ ((Ag w.disk w.store).length:Int)=0) (h3:¬ e.cut< (Ag w.disk w.store).length):(Bg w.store).2=true∧(x.store==(Bg w.store).1)=true∧(x.disk==Ao w.disk (Ag w.disk w.store) e.cut)=true:=by
 rw [← hx,Fo h.fits,Wc h k h2 AB h3]
 refine ⟨?_,beq_self_eq_true _,beq_self_eq_true _⟩
 have q:=(FlD.of h.sd h2).1
 rw [Fi h.k,h.sd.copy]
 have:=Hl h.sd h.k (by have:=q.m; rw [← List.length_pos_iff] at this; omega) (by have:=q.parts; omega)
 rw [Fi h.k,h.sd.copy] at this
 rw [this]
theorem RC (h:WV w) (hx:doP w e=x) (k:e.kind=3) (h2:((Ah w.disk e.at_).length:Int)=0∨e.cut< 0):(x==w)=true:=by
 rw [← hx,Fo h.fits,UU h k h2]
 exact beq_self_eq_true _
theorem Xs (h:WV w) (hx:doP w e=x) (k:e.kind=3) (h2:¬ ((Ah w.disk e.at_).length:Int)=0) (h3:¬ e.cut< (Ah w.disk e.at_).length):(BJ w.store e.at_).2=true∧(x.store==(BJ w.store e.at_).1)=true∧(x.disk==Ao w.disk (Ah w.disk e.at_) e.cut)=true:=by
 rw [← hx,Fo h.fits,Wd h k h2 AB h3]
 refine ⟨?_,beq_self_eq_true _,beq_self_eq_true _⟩
 obtain ⟨a,b,q,e2,i0⟩:=MgD.of h.dd h2
 have hp:e.at_.toNat+2≤w.store.parts.length:=by rw [← h.open,q.open.2.2]; exact q.l
 rw [Fj h.k,h.sd.copy]
 have:=Hr hp
 rw [← i0] at this
 rw [this]
end
end Go.Proofs.YtckdhcbbgmiccaaGreat
namespace Go.Proofs.YtckdhcbbgmiccaaGreat
set_option maxRecDepth 100000
set_option maxHeartbeats 4000000
variable {w:World} {F:Nat→Prop} {a1:Option Addr} {n1 c1:Nat}
theorem Hw (code:List UInt8) (h1:RepS w F a1 n1 c1 code)  : Calls Tryz.prog 7 [.slice a1 n1 c1].toArray w (Aj fun rv w'=>rv=.bool (true)∧Ext w w'):=by
 cases h1.len
 refine goT func7 ?_
 have Z:=(St.i0 F w).p h1
 refine .s<|.g<|.r 1<|.d<|.s<|.s<|.g<|.r 2<|.bp ((code.length:Int) > 1048576) (fun aQ=>.d<|.ct<|.s<|.g<|.r 1<|.d<|T.rt func7 results7 (.bool true) ⟨(AG AF),Z.xt⟩) fun aQ=>.d<|.cf<|.sk<|.s<|.g<|.r 1 ?_
 have aR:=Z
 refine RG.cl (D7 code (Z.mg 1 0)) ?_
 rintro _ w ⟨⟨E,aa,⟨bS,bT,rfl,aU,aV⟩,aX⟩,aS⟩
 have Z:=Z.e aS
 apply St.wS Z aR aU
 intro bU bV bW bX bY bZ b0 b6 b7 b8 b9 cd ce cg Z
 apply St.wS Z aR aV
 intro ci cj Z
 refine .r 3<|RG.Np Z fun ck w Z=>RG.Np Z fun cm w Z=>RG.Ss 1 Z fun w Z=>RG.Ss 0 Z fun w Z=>.d<|.s<|.g<|RG.Ln 1 Z<|RG.Ln 0 Z<|RG.CS (FD E aa (Z.mg 1 1) (Z.mg 1 2) (Z.mg 1 3) (Z.mg 1 4) (Z.mg 1 5) (Z.mg 1 6) (Z.mg 1 7) (Z.mg 1 0) (by have q1:WG E∧TF E∧EvD aa:=‹_›; exact q1.1) (by have q1:WG E∧TF E∧EvD aa:=‹_›; exact q1.2.1) (by have q1:WG E∧TF E∧EvD aa:=‹_›; exact q1.2.2.1)) Z fun co cp cq cr cu cw cx cy cz cA cB cC cD cE w Z=>RG.Np Z fun cF w Z=>RG.Ss 0 Z fun w Z=>.d<|.s<|.s<|T.Gd 4 Z fun w Z=>GA.Ln 0 0 Z<|GA.Ln 1 2 Z<|GA.Ln 2 1 Z<|.go 3<|GE.CS (fun w Z=>DE E aa (Z.mg 1 8) (Z.mg 1 9) (Z.mg 1 10) (Z.mg 1 11) (Z.mg 1 12) (Z.mg 1 13) (Z.mg 1 14) (Z.mg 1 7) (by have q1:WG E∧TF E∧EvD aa:=‹_›; exact q1.1) (by have q1:WG E∧TF E∧EvD aa:=‹_›; exact q1.2.1) (by have q1:WG E∧TF E∧EvD aa:=‹_›; exact q1.2.2.1)) Z fun cG cH cI cJ cK cL cM cN cO cP cQ cR cS cT w Z=>GA.Dn Z fun w Z=>RG.C0 (Aw (doP E aa) (doP E aa) (Z.a 7) (Z.a 8) (Z.a 9) (Z.a 10) (Z.a 11) (Z.a 12) (Z.a 13) (Z.a 0) (Z.a 1) (Z.a 2) (Z.a 3) (Z.a 4) (Z.a 5) (Z.a 6)) Z fun w Z=>?_
 rw [show (((doP E aa)==(doP E aa)))=true from beq_self_eq_true _]
 refine .r 2<|RG.Ln 2 Z<|RG.C0 (EZ E (Z.a 15) (Z.a 16) (Z.a 17) (Z.a 18) (Z.a 19) (Z.a 20) (Z.a 21) (by have q1:WG E∧TF E∧EvD aa:=‹_›; exact q1.1)) Z fun w Z=>?_
 cases aY:(Br E.disk E.store)
 ·refine .r 2<|.d<|.ct<|.s<|T.Gd 4 Z fun w Z=>GA.Ln 0 0 Z<|GA.Ln 1 2 Z<|GA.Ln 2 1 Z<|.go 3<|GE.CS (fun w Z=>DE E aa (Z.mg 1 15) (Z.mg 1 16) (Z.mg 1 17) (Z.mg 1 18) (Z.mg 1 19) (Z.mg 1 20) (Z.mg 1 21) (Z.mg 1 14) (by have q1:WG E∧TF E∧EvD aa:=‹_›; exact q1.1) (by have q1:WG E∧TF E∧EvD aa:=‹_›; exact q1.2.1) (by have q1:WG E∧TF E∧EvD aa:=‹_›; exact q1.2.2.1)) Z fun cU cV cW cX cY cZ c7 c8 da db de df dh dj w Z=>GA.Dn Z fun w Z=>RG.C0 (Aw (doP E aa) (doP E aa) (Z.a 14) (Z.a 15) (Z.a 16) (Z.a 17) (Z.a 18) (Z.a 19) (Z.a 20) (Z.a 0) (Z.a 1) (Z.a 2) (Z.a 3) (Z.a 4) (Z.a 5) (Z.a 6)) Z fun w Z=>?_
  rw [show (((doP E aa)==(doP E aa)))=true from beq_self_eq_true _]
  exact .r 1<|.d<|T.rt func7 results7 (.bool true) ⟨(AG AF),Z.xt⟩
 refine .r 2<|.d<|.cf<|.sk<|.s<|.s<|.g<|.r 1<|RG.Lb 1 Z<|.d<|.b 0<|.s<|.g<|.eq aa.kind 1 (fun aT=>?_) (fun aT=>?_)
 ·refine .r 1<|.d<|.ct<|.s<|.g<|.r 1<|RG.Ln 2 Z<|.r 1<|RG.Lb 1 Z<|.r 1<|RG.Ln 1 Z<|RG.CT (us:=[.bool ((BS (E.store) aa.name (aa.row)).2)]) (FC (E.store) aa.name (aa.row) (Z.mg 1 15) (Z.mg 1 16) (Z.mg 1 17) (Z.mg 1 18) (Z.mg 1 14) (by have q1:WG E∧TF E∧EvD aa:=‹_›; have q2:WV E:=Bo q1.1 q1.2.1 ‹_›; exact q2.sd) (by have q1:WG E∧TF E∧EvD aa:=‹_›; exact q1.2.2.1)) Z fun dm dp dq dt du dv dw dx w Z=>.r 2 ?_
  cases aZ:(BS (E.store) aa.name (aa.row)).2
  ·refine .r 1<|RG.Np Z fun dy w Z=>RG.Ss 0 Z fun w Z=>.r 1<|.d<|.s<|.s<|.g<|.r 2<|.d<|.ct<|.s<|.g<|RG.Ln 1 Z<|RG.Ln 3 Z<|RG.C0 (Aw (doP E aa) E (Z.a 11) (Z.a 12) (Z.a 13) (Z.a 14) (Z.a 15) (Z.a 16) (Z.a 17) (Z.a 19) (Z.a 20) (Z.a 21) (Z.a 22) (Z.a 23) (Z.a 24) (Z.a 25)) Z fun w Z=>?_
   have ae:((doP E aa)==E)=true:=(by have q1:WG E∧TF E∧EvD aa:=‹_›; have q2:WV E:=Bo q1.1 q1.2.1 ‹_›; exact Yb q2 rfl ‹_› ‹_›)
   rw [ae]
   exact .r 1<|.d<|T.rt func7 results7 (.bool true) ⟨(AG AF),Z.xt⟩
  refine .r 1<|RG.Np Z fun ba w Z=>RG.Ss 0 Z fun w Z=>.r 1<|.d<|.s<|.s<|.g<|.r 2<|.d<|.cf<|.sk<|.s<|.g<|.r 1<|RG.Ln 1 Z<|RG.Ln 0 Z<|RG.C0 (EL ((doP E aa).store) ((BS (E.store) aa.name (aa.row)).1) (Z.a 11) (Z.a 12) (Z.a 13) (Z.a 14) (Z.a 0) (Z.a 1) (Z.a 2) (Z.a 3)) Z fun w Z=>?_
  have af:(((doP E aa).store)==((BS (E.store) aa.name (aa.row)).1))=true:=(by have q1:WG E∧TF E∧EvD aa:=‹_›; have q2:WV E:=Bo q1.1 q1.2.1 ‹_›; exact (Yc q2 rfl ‹_› ‹_›).1)
  rw [af]
  refine .r 2<|RG.Ln 1 Z<|.r 1<|RG.Ln 3 Z<|RG.C0 (Ey ((doP E aa).disk) (E.disk) (Z.a 15) (Z.a 16) (Z.a 17) (Z.a 23) (Z.a 24) (Z.a 25)) Z fun w Z=>?_
  have ag:(((doP E aa).disk)==(E.disk))=true:=(by have q1:WG E∧TF E∧EvD aa:=‹_›; have q2:WV E:=Bo q1.1 q1.2.1 ‹_›; exact (Yc q2 rfl ‹_› ‹_›).2)
  rw [ag]
  exact .r 2<|.d<|T.rt func7 results7 (.bool true) ⟨(AG AF),Z.xt⟩
 refine .r 1<|.d<|.cf<|.s<|.g<|.eq aa.kind 2 (fun ah=>?_) (fun ah=>?_)
 ·refine .r 1<|.d<|.ct<|.s<|.g<|.r 1<|RG.Ln 2 Z<|.r 1<|RG.Ln 2 Z<|RG.CL (F6 (E.disk) (E.store) (Z.a 19) (Z.a 20) (Z.a 21) (Z.a 15) (Z.a 16) (Z.a 17) (Z.a 18) (by have q1:WG E∧TF E∧EvD aa:=‹_›; have q2:WV E:=Bo q1.1 q1.2.1 ‹_›; exact q2.dd) (by have q1:WG E∧TF E∧EvD aa:=‹_›; have q2:WV E:=Bo q1.1 q1.2.1 ‹_›; exact SG.of q2.sd)) Z fun bd bg w Z=>.r 1<|.d<|.s<|.s<|.g<|.r 2<|.eq (((Ag (E.disk) (E.store)).length):Int) 0 (fun ai=>?_) (fun ai=>?_)
  ·refine .r 7<|.d<|.ct<|.s<|.g<|.r 2<|.bp ((((Ag (E.disk) (E.store)).length):Int) > 0) (fun aj=>?_) (fun aj=>?_)
   ·refine .r 2<|RG.Lb 1 Z<|.bp (aa.cut≥0) (fun ak=>.r 7<|.d<|T.rt func7 results7 (.bool true) ⟨(AG AF),Z.xt⟩) fun ak=>.r 2<|RG.Ln 0 Z<|RG.Ln 2 Z<|RG.C0 (Aw (doP E aa) E (Z.a 8) (Z.a 9) (Z.a 10) (Z.a 11) (Z.a 12) (Z.a 13) (Z.a 14) (Z.a 16) (Z.a 17) (Z.a 18) (Z.a 19) (Z.a 20) (Z.a 21) (Z.a 22)) Z fun w Z=>?_
    have al:((doP E aa)==E)=true:=(by have q1:WG E∧TF E∧EvD aa:=‹_›; have q2:WV E:=Bo q1.1 q1.2.1 ‹_›; exact RB q2 rfl ‹_› AB)
    rw [al]
    exact .r 2<|.d<|T.rt func7 results7 (.bool true) ⟨(AG AF),Z.xt⟩
   refine .r 6<|RG.Ln 0 Z<|RG.Ln 2 Z<|RG.C0 (Aw (doP E aa) E (Z.a 8) (Z.a 9) (Z.a 10) (Z.a 11) (Z.a 12) (Z.a 13) (Z.a 14) (Z.a 16) (Z.a 17) (Z.a 18) (Z.a 19) (Z.a 20) (Z.a 21) (Z.a 22)) Z fun w Z=>?_
   have am:((doP E aa)==E)=true:=(by have q1:WG E∧TF E∧EvD aa:=‹_›; have q2:WV E:=Bo q1.1 q1.2.1 ‹_›; exact RB q2 rfl ‹_› AB)
   rw [am]
   exact .r 2<|.d<|T.rt func7 results7 (.bool true) ⟨(AG AF),Z.xt⟩
  refine .r 2<|RG.Lb 1 Z<|.r 2<|.bp (aa.cut< (((Ag (E.disk) (E.store)).length):Int)) (fun ao=>?_) (fun ao=>?_)
  ·refine .r 1<|.d<|.ct<|.s<|.g<|.r 2<|.bp ((((Ag (E.disk) (E.store)).length):Int) > 0) (fun aq=>?_) (fun aq=>?_)
   ·refine .r 2<|RG.Lb 1 Z<|.bp (aa.cut≥0) (fun ar=>.r 7<|.d<|T.rt func7 results7 (.bool true) ⟨(AG AF),Z.xt⟩) fun ar=>.r 2<|RG.Ln 0 Z<|RG.Ln 2 Z<|RG.C0 (Aw (doP E aa) E (Z.a 8) (Z.a 9) (Z.a 10) (Z.a 11) (Z.a 12) (Z.a 13) (Z.a 14) (Z.a 16) (Z.a 17) (Z.a 18) (Z.a 19) (Z.a 20) (Z.a 21) (Z.a 22)) Z fun w Z=>?_
    have ax:((doP E aa)==E)=true:=(by have q1:WG E∧TF E∧EvD aa:=‹_›; have q2:WV E:=Bo q1.1 q1.2.1 ‹_›; exact RB q2 rfl ‹_› AB)
    rw [ax]
    exact .r 2<|.d<|T.rt func7 results7 (.bool true) ⟨(AG AF),Z.xt⟩
   refine .r 6<|RG.Ln 0 Z<|RG.Ln 2 Z<|RG.C0 (Aw (doP E aa) E (Z.a 8) (Z.a 9) (Z.a 10) (Z.a 11) (Z.a 12) (Z.a 13) (Z.a 14) (Z.a 16) (Z.a 17) (Z.a 18) (Z.a 19) (Z.a 20) (Z.a 21) (Z.a 22)) Z fun w Z=>?_
   have ay:((doP E aa)==E)=true:=(by have q1:WG E∧TF E∧EvD aa:=‹_›; have q2:WV E:=Bo q1.1 q1.2.1 ‹_›; exact RB q2 rfl ‹_› AB)
   rw [ay]
   exact .r 2<|.d<|T.rt func7 results7 (.bool true) ⟨(AG AF),Z.xt⟩
  refine .r 1<|.d<|.cf<|.sk<|.s<|.g<|.r 1<|RG.Ln 2 Z<|RG.CT (us:=[.bool ((Bg (E.store)).2)]) (F1 (E.store) (Z.mg 1 16) (Z.mg 1 17) (Z.mg 1 18) (Z.mg 1 19) (by have q1:WG E∧TF E∧EvD aa:=‹_›; have q2:WV E:=Bo q1.1 q1.2.1 ‹_›; exact q2.sd)) Z fun bh bi bj bk bm bn bo bq w Z=>?_
  have az:((Bg (E.store)).2)=true:=(by have q1:WG E∧TF E∧EvD aa:=‹_›; have q2:WV E:=Bo q1.1 q1.2.1 ‹_›; exact (Xr q2 rfl ‹_› ‹_› ‹_›).1)
  rw [az]
  refine .r 3<|RG.Np Z fun br w Z=>RG.Ss 0 Z fun w Z=>.r 1<|.d<|.s<|T.Gd 16 Z fun w Z=>.r [0,1,2]<|GA.Ln 3 1 Z<|GA.Ln 4 0 Z<|GA.C0 5 Z (fun w Z=>EL ((doP E aa).store) ((Bg (E.store)).1) (Z.a 12) (Z.a 13) (Z.a 14) (Z.a 15) (Z.a 0) (Z.a 1) (Z.a 2) (Z.a 3)) ?_
  have aA:(((doP E aa).store)==((Bg (E.store)).1))=true:=(by have q1:WG E∧TF E∧EvD aa:=‹_›; have q2:WV E:=Bo q1.1 q1.2.1 ‹_›; exact (Xr q2 rfl ‹_› ‹_› ‹_›).2.1)
  rw [aA]
  refine .r [6,7,8]<|GA.Ln 9 1 Z<|.r [10]<|GA.Ln 11 3 Z<|.r [12,13]<|GA.Lb 14 2 Z<|.go 15<|GE.CS (fun w Z=>Ez (E.disk) (Ag (E.disk) (E.store)) aa.cut (Z.mg 1 24) (Z.mg 1 25) (Z.mg 1 26) (Z.mg 1 4) (by have q1:WG E∧TF E∧EvD aa:=‹_›; have q2:WV E:=Bo q1.1 q1.2.1 ‹_›; exact q2.dd) (by have q1:WG E∧TF E∧EvD aa:=‹_›; have q2:WV E:=Bo q1.1 q1.2.1 ‹_›; exact fun _=>(IE q2.dd q2.sd).1)) Z fun bt bu bv bw bz bA w Z=>GA.Dn Z fun w Z=>RG.C0 (Ey ((doP E aa).disk) (Ao (E.disk) (Ag (E.disk) (E.store)) aa.cut) (Z.a 19) (Z.a 20) (Z.a 21) (Z.a 0) (Z.a 1) (Z.a 2)) Z fun w Z=>?_
  have aB:(((doP E aa).disk)==(Ao (E.disk) (Ag (E.disk) (E.store)) aa.cut))=true:=(by have q1:WG E∧TF E∧EvD aa:=‹_›; have q2:WV E:=Bo q1.1 q1.2.1 ‹_›; exact (Xr q2 rfl ‹_› ‹_› ‹_›).2.2)
  rw [aB]
  exact .r 2<|.d<|T.rt func7 results7 (.bool true) ⟨(AG AF),Z.xt⟩
 refine .r 1<|.d<|.cf<|.s<|.g<|.eq aa.kind 3 (fun aC=>?_) (fun aC=>.r 1<|.d<|.cf<|.sk<|.ib 0<|.s<|.g<|.r 1<|.d<|T.rt func7 results7 (.bool true) ⟨(AG AF),Z.xt⟩)
 refine .r 1<|.d<|.ct<|.s<|.g<|.r 1<|RG.Ln 2 Z<|.r 1<|RG.Lb 1 Z<|RG.CL (F8 (E.disk) aa.at_ (Z.a 19) (Z.a 20) (Z.a 21) (by have q1:WG E∧TF E∧EvD aa:=‹_›; have q2:WV E:=Bo q1.1 q1.2.1 ‹_›; exact q2.dd)) Z fun bB bC w Z=>.r 1<|.d<|.s<|.s<|.g<|.r 2<|.eq (((Ah (E.disk) aa.at_).length):Int) 0 (fun aD=>?_) (fun aD=>?_)
 ·refine .r 7<|.d<|.ct<|.s<|.g<|.r 2<|.bp ((((Ah (E.disk) aa.at_).length):Int) > 0) (fun aE=>?_) (fun aE=>?_)
  ·refine .r 2<|RG.Lb 1 Z<|.bp (aa.cut≥0) (fun aF=>.r 7<|.d<|T.rt func7 results7 (.bool true) ⟨(AG AF),Z.xt⟩) fun aF=>.r 2<|RG.Ln 0 Z<|RG.Ln 2 Z<|RG.C0 (Aw (doP E aa) E (Z.a 8) (Z.a 9) (Z.a 10) (Z.a 11) (Z.a 12) (Z.a 13) (Z.a 14) (Z.a 16) (Z.a 17) (Z.a 18) (Z.a 19) (Z.a 20) (Z.a 21) (Z.a 22)) Z fun w Z=>?_
   have aG:((doP E aa)==E)=true:=(by have q1:WG E∧TF E∧EvD aa:=‹_›; have q2:WV E:=Bo q1.1 q1.2.1 ‹_›; exact RC q2 rfl ‹_› AB)
   rw [aG]
   exact .r 2<|.d<|T.rt func7 results7 (.bool true) ⟨(AG AF),Z.xt⟩
  refine .r 6<|RG.Ln 0 Z<|RG.Ln 2 Z<|RG.C0 (Aw (doP E aa) E (Z.a 8) (Z.a 9) (Z.a 10) (Z.a 11) (Z.a 12) (Z.a 13) (Z.a 14) (Z.a 16) (Z.a 17) (Z.a 18) (Z.a 19) (Z.a 20) (Z.a 21) (Z.a 22)) Z fun w Z=>?_
  have aH:((doP E aa)==E)=true:=(by have q1:WG E∧TF E∧EvD aa:=‹_›; have q2:WV E:=Bo q1.1 q1.2.1 ‹_›; exact RC q2 rfl ‹_› AB)
  rw [aH]
  exact .r 2<|.d<|T.rt func7 results7 (.bool true) ⟨(AG AF),Z.xt⟩
 refine .r 2<|RG.Lb 1 Z<|.r 2<|.bp (aa.cut< (((Ah (E.disk) aa.at_).length):Int)) (fun aI=>?_) (fun aI=>?_)
 ·refine .r 1<|.d<|.ct<|.s<|.g<|.r 2<|.bp ((((Ah (E.disk) aa.at_).length):Int) > 0) (fun aJ=>?_) (fun aJ=>?_)
  ·refine .r 2<|RG.Lb 1 Z<|.bp (aa.cut≥0) (fun aK=>.r 7<|.d<|T.rt func7 results7 (.bool true) ⟨(AG AF),Z.xt⟩) fun aK=>.r 2<|RG.Ln 0 Z<|RG.Ln 2 Z<|RG.C0 (Aw (doP E aa) E (Z.a 8) (Z.a 9) (Z.a 10) (Z.a 11) (Z.a 12) (Z.a 13) (Z.a 14) (Z.a 16) (Z.a 17) (Z.a 18) (Z.a 19) (Z.a 20) (Z.a 21) (Z.a 22)) Z fun w Z=>?_
   have aL:((doP E aa)==E)=true:=(by have q1:WG E∧TF E∧EvD aa:=‹_›; have q2:WV E:=Bo q1.1 q1.2.1 ‹_›; exact RC q2 rfl ‹_› AB)
   rw [aL]
   exact .r 2<|.d<|T.rt func7 results7 (.bool true) ⟨(AG AF),Z.xt⟩
  refine .r 6<|RG.Ln 0 Z<|RG.Ln 2 Z<|RG.C0 (Aw (doP E aa) E (Z.a 8) (Z.a 9) (Z.a 10) (Z.a 11) (Z.a 12) (Z.a 13) (Z.a 14) (Z.a 16) (Z.a 17) (Z.a 18) (Z.a 19) (Z.a 20) (Z.a 21) (Z.a 22)) Z fun w Z=>?_
  have aM:((doP E aa)==E)=true:=(by have q1:WG E∧TF E∧EvD aa:=‹_›; have q2:WV E:=Bo q1.1 q1.2.1 ‹_›; exact RC q2 rfl ‹_› AB)
  rw [aM]
  exact .r 2<|.d<|T.rt func7 results7 (.bool true) ⟨(AG AF),Z.xt⟩
 refine .r 1<|.d<|.cf<|.sk<|.s<|.g<|.r 1<|RG.Ln 2 Z<|.r 1<|RG.Lb 1 Z<|RG.CT (us:=[.bool ((BJ (E.store) aa.at_).2)]) (F3 (E.store) aa.at_ (Z.mg 1 16) (Z.mg 1 17) (Z.mg 1 18) (Z.mg 1 19) (by have q1:WG E∧TF E∧EvD aa:=‹_›; have q2:WV E:=Bo q1.1 q1.2.1 ‹_›; exact q2.sd)) Z fun bD bE bF bG bH bI bJ bK w Z=>?_
 have aN:((BJ (E.store) aa.at_).2)=true:=(by have q1:WG E∧TF E∧EvD aa:=‹_›; have q2:WV E:=Bo q1.1 q1.2.1 ‹_›; exact (Xs q2 rfl ‹_› ‹_› ‹_›).1)
 rw [aN]
 refine .r 3<|RG.Np Z fun bL w Z=>RG.Ss 0 Z fun w Z=>.r 1<|.d<|.s<|T.Gd 16 Z fun w Z=>.r [0,1,2]<|GA.Ln 3 1 Z<|GA.Ln 4 0 Z<|GA.C0 5 Z (fun w Z=>EL ((doP E aa).store) ((BJ (E.store) aa.at_).1) (Z.a 12) (Z.a 13) (Z.a 14) (Z.a 15) (Z.a 0) (Z.a 1) (Z.a 2) (Z.a 3)) ?_
 have aO:(((doP E aa).store)==((BJ (E.store) aa.at_).1))=true:=(by have q1:WG E∧TF E∧EvD aa:=‹_›; have q2:WV E:=Bo q1.1 q1.2.1 ‹_›; exact (Xs q2 rfl ‹_› ‹_› ‹_›).2.1)
 rw [aO]
 refine .r [6,7,8]<|GA.Ln 9 1 Z<|.r [10]<|GA.Ln 11 3 Z<|.r [12,13]<|GA.Lb 14 2 Z<|.go 15<|GE.CS (fun w Z=>Ez (E.disk) (Ah (E.disk) aa.at_) aa.cut (Z.mg 1 24) (Z.mg 1 25) (Z.mg 1 26) (Z.mg 1 4) (by have q1:WG E∧TF E∧EvD aa:=‹_›; have q2:WV E:=Bo q1.1 q1.2.1 ‹_›; exact q2.dd) (by have q1:WG E∧TF E∧EvD aa:=‹_›; have q2:WV E:=Bo q1.1 q1.2.1 ‹_›; exact fun _=>(IF q2.dd _).1)) Z fun bM bN bO bP bQ bR w Z=>GA.Dn Z fun w Z=>RG.C0 (Ey ((doP E aa).disk) (Ao (E.disk) (Ah (E.disk) aa.at_) aa.cut) (Z.a 19) (Z.a 20) (Z.a 21) (Z.a 0) (Z.a 1) (Z.a 2)) Z fun w Z=>?_
 have aP:(((doP E aa).disk)==(Ao (E.disk) (Ah (E.disk) aa.at_) aa.cut))=true:=(by have q1:WG E∧TF E∧EvD aa:=‹_›; have q2:WV E:=Bo q1.1 q1.2.1 ‹_›; exact (Xs q2 rfl ‹_› ‹_› ‹_›).2.2)
 rw [aP]
 exact .r 2<|.d<|T.rt func7 results7 (.bool true) ⟨(AG AF),Z.xt⟩
end Go.Proofs.YtckdhcbbgmiccaaGreat
