/- The laws on plays: names, files, parts; plain laws. -/
import Derived.Test.YtckdhcbbgmiccaaGreatWxzMod52k7
open Go.Proofs.Tryz
set_option linter.unusedVariables false
set_option linter.unusedSimpArgs false
namespace Go.Proofs.YtckdhcbbgmiccaaGreat
section
variable {w:Wld}
theorem Xl (h:WV w):w.disk.names.length≤w.store.idx.names.length:=by
 have:=congrArg List.length h.m
 rw [List.length_take] at this
 omega
end
end Go.Proofs.YtckdhcbbgmiccaaGreat
namespace Go.Proofs.YtckdhcbbgmiccaaGreat
section
variable {w x:Wld} {e:Evt}
theorem Hv (h:WV w) (he:NmD e.name) (hx:doP w e=x):WV x:=by rw [← hx,Fo h.fits]; exact h.do he
theorem Xq (h:WV w){i:Nat}{p q:Prt}(hp:(CB w.disk).parts[i]? = some p) (hq:w.store.parts[i]? = some q):(p==q)=true:=by
 rw [ID h.dk,h.open,hq] at hp
 cases hp
 exact beq_self_eq_true _
theorem QE (h:WV w):(CB w.disk).parts.length=w.store.parts.length∧(CB w.disk).idx.names.length≤w.store.idx.names.length:=by
 rw [ID h.dk,h.open]
 exact ⟨rfl,Xl h⟩
end
end Go.Proofs.YtckdhcbbgmiccaaGreat
namespace Go.Proofs.YtckdhcbbgmiccaaGreat
set_option maxRecDepth 100000
set_option maxHeartbeats 4000000
variable {w:World} {F:Nat→Prop} {a1:Option Addr} {n1 c1:Nat}
theorem KQ (code:List UInt8) (h1:RepS w F a1 n1 c1 code)  : Calls Tryz.prog 6 [.slice a1 n1 c1].toArray w (Aj fun rv w'=>rv=.bool (true)∧Ext w w'):=by
 cases h1.len
 refine goT func6 ?_
 have Z:=(St.i0 F w).p h1
 refine .s<|.g<|.r 1<|.d<|.s<|.s<|.g<|.r 2<|.bp ((code.length:Int) > 1048576) (fun aq=>.d<|.ct<|.s<|.g<|.r 1<|.d<|T.rt func6 results6 (.bool true) ⟨(AG AF),Z.xt⟩) fun aq=>.d<|.cf<|.sk<|.s<|.g<|.r 1 ?_
 have ar:=Z
 refine RG.cl (D7 code (Z.mg 1 0)) ?_
 rintro _ w ⟨⟨E,aa,⟨bK,bL,rfl,aB,aC⟩,aR⟩,ax⟩
 have Z:=Z.e ax
 apply St.wS Z ar aB
 intro bM bN bO bP bQ bR bS bT bU bV bW bX bY bZ Z
 apply St.wS Z ar aC
 intro b0 b6 Z
 refine .r 3<|RG.Np Z fun b7 w Z=>RG.Np Z fun b8 w Z=>RG.Ss 1 Z fun w Z=>RG.Ss 0 Z fun w Z=>.d<|.s<|.g<|RG.Ln 1 Z<|RG.Ln 0 Z<|RG.CS (FD E aa (Z.mg 1 1) (Z.mg 1 2) (Z.mg 1 3) (Z.mg 1 4) (Z.mg 1 5) (Z.mg 1 6) (Z.mg 1 7) (Z.mg 1 0) (by have q1:WG E∧TF E∧EvD aa:=‹_›; exact q1.1) (by have q1:WG E∧TF E∧EvD aa:=‹_›; exact q1.2.1) (by have q1:WG E∧TF E∧EvD aa:=‹_›; exact q1.2.2.1)) Z fun b9 cd ce cg ci cj ck cm co cp cq cr cu cw w Z=>RG.Np Z fun aD w Z=>RG.Ss 0 Z fun w Z=>.d<|.s<|.s<|T.Gd 4 Z fun w Z=>GA.Ln 0 0 Z<|GA.Ln 1 2 Z<|GA.Ln 2 1 Z<|.go 3<|GE.CS (fun w Z=>DE E aa (Z.mg 1 8) (Z.mg 1 9) (Z.mg 1 10) (Z.mg 1 11) (Z.mg 1 12) (Z.mg 1 13) (Z.mg 1 14) (Z.mg 1 7) (by have q1:WG E∧TF E∧EvD aa:=‹_›; exact q1.1) (by have q1:WG E∧TF E∧EvD aa:=‹_›; exact q1.2.1) (by have q1:WG E∧TF E∧EvD aa:=‹_›; exact q1.2.2.1)) Z fun cx cy cz cA cB cC cD cE cF cG cH cI cJ cK w Z=>GA.Dn Z fun w Z=>RG.C0 (Aw (doP E aa) (doP E aa) (Z.a 7) (Z.a 8) (Z.a 9) (Z.a 10) (Z.a 11) (Z.a 12) (Z.a 13) (Z.a 0) (Z.a 1) (Z.a 2) (Z.a 3) (Z.a 4) (Z.a 5) (Z.a 6)) Z fun w Z=>?_
 rw [show (((doP E aa)==(doP E aa)))=true from beq_self_eq_true _]
 refine .r 2<|RG.Ln 2 Z<|RG.C0 (EZ E (Z.a 15) (Z.a 16) (Z.a 17) (Z.a 18) (Z.a 19) (Z.a 20) (Z.a 21) (by have q1:WG E∧TF E∧EvD aa:=‹_›; exact q1.1)) Z fun w Z=>?_
 cases bm:(Br E.disk E.store)
 ·refine .r 2<|.d<|.ct<|.s<|T.Gd 4 Z fun w Z=>GA.Ln 0 0 Z<|GA.Ln 1 2 Z<|GA.Ln 2 1 Z<|.go 3<|GE.CS (fun w Z=>DE E aa (Z.mg 1 15) (Z.mg 1 16) (Z.mg 1 17) (Z.mg 1 18) (Z.mg 1 19) (Z.mg 1 20) (Z.mg 1 21) (Z.mg 1 14) (by have q1:WG E∧TF E∧EvD aa:=‹_›; exact q1.1) (by have q1:WG E∧TF E∧EvD aa:=‹_›; exact q1.2.1) (by have q1:WG E∧TF E∧EvD aa:=‹_›; exact q1.2.2.1)) Z fun cL cM cN cO cP cQ cR cS cT cU cV cW bn bo w Z=>GA.Dn Z fun w Z=>RG.C0 (Aw (doP E aa) (doP E aa) (Z.a 14) (Z.a 15) (Z.a 16) (Z.a 17) (Z.a 18) (Z.a 19) (Z.a 20) (Z.a 0) (Z.a 1) (Z.a 2) (Z.a 3) (Z.a 4) (Z.a 5) (Z.a 6)) Z fun w Z=>?_
  rw [show (((doP E aa)==(doP E aa)))=true from beq_self_eq_true _]
  exact .r 1<|.d<|T.rt func6 results6 (.bool true) ⟨(AG AF),Z.xt⟩
 refine .r 2<|.d<|.cf<|.sk<|.s<|.g<|.r 1<|RG.Ln 0 Z<|RG.CS (HD ((doP E aa).disk) (Z.mg 1 11) (Z.mg 1 12) (Z.mg 1 13) (by have q1:WG E∧TF E∧EvD aa:=‹_›; have q2:WV E:=Bo q1.1 q1.2.1 ‹_›; have q3:WV (doP E aa):=Hv q2 q1.2.2.1 rfl; exact q3.dd)) Z fun bq br bt bu bv bw bz bA w Z=>?_
 have aG:=Z.mf 2 ((CB ((doP E aa).disk)).parts)
 refine RG.Np Z fun ay w Z=>RG.Ss 0 Z fun w Z=>.d<|.s<|.s<|.g<|.r 1<|.d<|.b 0<|T.Lp (0:Nat) (fun k=>([(5,vP aD),(6,vP ay),(7,vI (k:Int))],[],[],(CB (doP E aa).disk).parts.length - k,(k≤(CB (doP E aa).disk).parts.length)∧True)) [] Z ⟨AB,trivial⟩ ?_
 rintro k bB w Z ⟨aI,_⟩ aj
 refine .s<|.s<|.g<|.r 2<|RG.Lb 0 Z<|.r 1<|.bp ((k:Int)< ((((CB ((doP E aa).disk)).parts).length):Int)) (fun ak=>?_) (fun ak=>?_)
 ·refine .d<|.ct<|.sk<|.s<|.b 1<|.s<|T.Gd 11 Z fun w Z=>.r [0]<|GA.Lb 1 0 Z<|.r [2]<|gx (h:=AB) ((CB ((doP E aa).disk)).parts) k fun ah ac=>GA.Ix 3 2 ac Z<|Z.el 2 ac fun bC bD bE bF Z=>GA.Lg 4 0 0 Z<|.r [5,6]<|GA.Lb 7 1 Z<|.r [8]<|gx (h:=(by (have q1:WG E∧TF E∧EvD aa:=‹_›; have q2:WV E:=Bo q1.1 q1.2.1 ‹_›; have q3:WV (doP E aa):=Hv q2 q1.2.2.1 rfl; have q4:=QE q3; omega))) ((doP E aa).store.parts) k fun ai ae=>GA.Ix 9 16 ae Z<|Z.el 16 ae fun bG bH bI bJ Z=>GA.Lg 10 0 0 Z<|GA.Dn Z fun w Z=>RG.C0 (GH ah ai (Z.a 4) (Z.a 5) (Z.a 1) (Z.a 2)) Z fun w Z=>?_
  have al:(ah==ai)=true:=(by have q1:WG E∧TF E∧EvD aa:=‹_›; have q2:WV E:=Bo q1.1 q1.2.1 ‹_›; have q3:WV (doP E aa):=Hv q2 q1.2.2.1 rfl; exact Xq q3 ‹_› ‹_›)
  rw [al]
  exact .r 1<|.d<|.cf<|.sk<|.ib 1<|.g<|.r 1<|.it ((k:Int)+1)<|.r 1<|.d<|aj (k+1) _ _ AA (Z.to 0 [] 6) ⟨AB,trivial⟩ (by (simp only []; omega))
 refine .d<|.cf<|.x 0 rfl<|.s<|.g<|RG.Ln 1 Z<|RG.C0 (EY (doP E aa) (Z.a 11) (Z.a 12) (Z.a 13) (Z.a 14) (Z.a 15) (Z.a 16) (Z.a 17) (by have q1:WG E∧TF E∧EvD aa:=‹_›; have q2:WV E:=Bo q1.1 q1.2.1 ‹_›; have q3:WV (doP E aa):=Hv q2 q1.2.2.1 rfl; exact SG.of q3.sd) (by have q1:WG E∧TF E∧EvD aa:=‹_›; have q2:WV E:=Bo q1.1 q1.2.1 ‹_›; have q3:WV (doP E aa):=Hv q2 q1.2.2.1 rfl; exact q3.dd)) Z fun w Z=>?_
 have am:(Br (doP E aa).disk (doP E aa).store)=true:=(by have q1:WG E∧TF E∧EvD aa:=‹_›; have q2:WV E:=Bo q1.1 q1.2.1 ‹_›; have q3:WV (doP E aa):=Hv q2 q1.2.2.1 rfl; exact q3.fits)
 rw [am]
 exact .r 2<|RG.Lb 0 Z<|.r 3<|RG.Lb 1 Z<|.r 1<|.eq ((((CB ((doP E aa).disk)).parts).length):Int) (((doP E aa).store.parts.length):Int) (fun ao=>.r 4<|RG.Lb 0 Z<|.r 4<|RG.Lb 1 Z<|.r 4<|.d<|T.rt func6 results6 (.bool (decide ((((((CB ((doP E aa).disk)).idx).names).length):Int)≤(((doP E aa).store.idx.names.length):Int)))) ⟨(AG (by (have q1:WG E∧TF E∧EvD aa:=‹_›; have q2:WV E:=Bo q1.1 q1.2.1 ‹_›; have q3:WV (doP E aa):=Hv q2 q1.2.2.1 rfl; have q4:=QE q3; simp; omega))),Z.xt⟩) fun ao=>.r 14<|.d<|T.rt func6 results6 (.bool false) ⟨(AG (by exfalso; have q1:WG E∧TF E∧EvD aa:=‹_›; have q2:WV E:=Bo q1.1 q1.2.1 ‹_›; have q3:WV (doP E aa):=Hv q2 q1.2.2.1 rfl; have q4:=QE q3; omega)),Z.xt⟩
end Go.Proofs.YtckdhcbbgmiccaaGreat
