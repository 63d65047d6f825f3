/- The laws on plays: once more, and without falls; plain laws. -/
import Derived.Test.YtckdhcbbgmiccaaGreatWxzSwk6
import Derived.Test.YtckdhcbbgmiccaaGreatWxzMod52k7
open Go.Proofs.Tryz
set_option linter.unusedVariables false
set_option linter.unusedSimpArgs false
namespace Go.Proofs.YtckdhcbbgmiccaaGreat
section
variable {w:Wld}
theorem nma:NmD [⟨[97],[112]⟩]:=⟨by simp,fun t ht=>by
 simp only [List.mem_cons,List.not_mem_nil,or_false] at ht
 subst ht
 exact ⟨by decide,by decide⟩⟩
theorem nok:As [⟨[97],[112]⟩]=true:=by decide
theorem tb {P}{f}{a}{w}{b:Bool}(h:b=true) (q:Calls P f a w (Aj fun rv w'=>rv=.bool b∧Ext w w')):Calls P f a w (Aj fun rv w'=>rv=.bool true∧Ext w w'):=by
 subst h
 exact q
end
end Go.Proofs.YtckdhcbbgmiccaaGreat
namespace Go.Proofs.YtckdhcbbgmiccaaGreat
section
variable {w x:Wld} {e:Evt}
theorem Yd {a b:Wld}(h1:doP w e=a) (h2:doP w e=b):(a==b)=true:=by rw [← h1,← h2]; exact beq_self_eq_true _
theorem Ye (h:WV w) (hx:doP w ⟨5,0,0,[],⟨0,0⟩⟩=x):(x==w)=true:=by
 rw [← hx,Fo h.fits,Li AE AE AE AE]
 exact beq_self_eq_true _
theorem Yw (h:WV w) (hx:doP w ⟨3,(w.disk.list.length:Int),9,[],⟨0,0⟩⟩=x):(x==w)=true:=by
 rw [← hx,Fo h.fits,GY rfl]
 have:Am w.disk (w.disk.list.length:Int)=[]:=by
  unfold Am
  rw [if_pos]
  have hi:inR (w.disk.list.length:Int) 0 ((w.disk.list.length:Int) - 2)=false:=by simp [inR]; omega
  rw [hi]
  rfl
 rw [Cj (.inl (by show ((Am w.disk (w.disk.list.length:Int)).length:Int)=0; rw [this]; rfl))]
 exact beq_self_eq_true _
theorem Yx (h:WV w) (hx:doP w ⟨2,0,-1,[],⟨0,0⟩⟩=x):(x==w)=true:=by
 rw [← hx,Fo h.fits,HY rfl,Cj (.inr AE)]
 exact beq_self_eq_true _
theorem Yy (h:WV w) (hx:doP w ⟨1,0,0,[⟨[97],[112]⟩],⟨-1,0⟩⟩=x):(x==w)=true:=by
 rw [← hx,Fo h.fits,HX rfl nok]
 show ((⟨(CN w.store [⟨[97],[112]⟩] ⟨-1,0⟩).1,w.disk⟩:Wld)==w)=true
 rw [Jk AE]
 exact beq_self_eq_true _
end
end Go.Proofs.YtckdhcbbgmiccaaGreat
namespace Go.Proofs.YtckdhcbbgmiccaaGreat
set_option maxRecDepth 100000
set_option maxHeartbeats 4000000
variable {w:World} {F:Nat→Prop} {a1 a2 a3 a4 a5 a6 a7 a8:Option Addr} {n1 c1 n2 c2 n3 c3 n4 c4 n5 c5 n6 c6 n7 c7 n8 c8:Nat}
theorem Ch (w_:Wld) (e:Evt) (h1:RepS w F a1 n1 c1 w_.store.idx.names) (h2:RepS w F a2 n2 c2 w_.store.idx.AY) (h3:RepS w F a3 n3 c3 w_.store.parts) (h4:RepS w F a4 n4 c4 w_.store.mem) (h5:RepS w F a5 n5 c5 w_.disk.files) (h6:RepS w F a6 n6 c6 w_.disk.list) (h7:RepS w F a7 n7 c7 w_.disk.names) (h8:RepS w F a8 n8 c8 e.name) (p0:WG w_) (p1:TF w_) (p2:NmD e.name):Calls Tryz.prog 14 [.agg #[.slice a1 n1 c1,.slice a2 n2 c2,.slice a3 n3 c3,.slice a4 n4 c4,.slice a5 n5 c5,.slice a6 n6 c6,.slice a7 n7 c7,.int .i64 w_.disk.next],.agg #[.int .i64 e.kind,.int .i64 e.at_,.int .i64 e.cut,.slice a8 n8 c8,.int .i64 e.row.t,.int .i64 e.row.v]].toArray w (Aj fun rv w'=>(∃ (y:Wld),VS (fo F w.heap.size) w' (y:Wld) rv∧(doP w_ e=y))∧Ext w w'):=by
 refine (FD w_ e h1 h2 h3 h4 h5 h6 h7 h8 p0 p1 p2).mono ?_
 rintro r w' ⟨v,rfl,hv,hx⟩
 exact ⟨v,rfl,⟨_,hv,rfl⟩,hx⟩
theorem Gj (w_:Wld) (e:Evt) (h1:RepS w F a1 n1 c1 w_.store.idx.names) (h2:RepS w F a2 n2 c2 w_.store.idx.AY) (h3:RepS w F a3 n3 c3 w_.store.parts) (h4:RepS w F a4 n4 c4 w_.store.mem) (h5:RepS w F a5 n5 c5 w_.disk.files) (h6:RepS w F a6 n6 c6 w_.disk.list) (h7:RepS w F a7 n7 c7 w_.disk.names) (h8:RepS w F a8 n8 c8 e.name) (p0:WG w_) (p1:TF w_) (p2:NmD e.name):Calls Tryz.prog 20 [.agg #[.slice a1 n1 c1,.slice a2 n2 c2,.slice a3 n3 c3,.slice a4 n4 c4,.slice a5 n5 c5,.slice a6 n6 c6,.slice a7 n7 c7,.int .i64 w_.disk.next],.agg #[.int .i64 e.kind,.int .i64 e.at_,.int .i64 e.cut,.slice a8 n8 c8,.int .i64 e.row.t,.int .i64 e.row.v]].toArray w (Aj fun rv w'=>(∃ (y:Wld),VS (fo F w.heap.size) w' (y:Wld) rv∧(doP w_ e=y))∧Ext w w'):=by
 refine (DE w_ e h1 h2 h3 h4 h5 h6 h7 h8 p0 p1 p2).mono ?_
 rintro r w' ⟨v,rfl,hv,hx⟩
 exact ⟨v,rfl,⟨_,hv,rfl⟩,hx⟩
theorem Iz (code:List UInt8) (h1:RepS w F a1 n1 c1 code)  : Calls Tryz.prog 5 [.slice a1 n1 c1].toArray w (Aj fun rv w'=>rv=.bool (true)∧Ext w w'):=by
 cases h1.len
 refine goT func5 ?_
 have Z:=(St.i0 F w).p h1
 refine .s<|.g<|.r 1<|.d<|.s<|.s<|.g<|.r 2<|.bp ((code.length:Int) > 1048576) (fun al=>.d<|.ct<|.s<|.g<|.r 1<|.d<|T.rt func5 results5 (.bool true) ⟨(AG AF),Z.xt⟩) fun al=>.d<|.cf<|.sk<|.s<|.g<|.r 1 ?_
 have am:=Z
 refine RG.cl (D7 code (Z.mg 1 0)) ?_
 rintro _ w ⟨⟨E,aa,⟨cS,cT,rfl,aH,aI⟩,aU⟩,ao⟩
 have Z:=Z.e ao
 apply St.wS Z am aH
 intro cU cV cW cX cY cZ c7 c8 da db de df dh dj Z
 apply St.wS Z am aI
 intro dm dp Z
 refine .r 3<|RG.Np Z fun dq w Z=>RG.Np Z fun dt w Z=>RG.Ss 1 Z fun w Z=>RG.Ss 0 Z fun w Z=>.d<|.s<|.g<|RG.Ln 1 Z<|RG.Ln 0 Z<|RG.cl (Ch E aa (Z.mg 1 1) (Z.mg 1 2) (Z.mg 1 3) (Z.mg 1 4) (Z.mg 1 5) (Z.mg 1 6) (Z.mg 1 7) (Z.mg 1 0) (by have q1:WG E∧TF E∧EvD aa:=‹_›; exact q1.1) (by have q1:WG E∧TF E∧EvD aa:=‹_›; exact q1.2.1) (by have q1:WG E∧TF E∧EvD aa:=‹_›; exact q1.2.2.1)) ?_
 rintro du w ⟨⟨aq,aJ,aV⟩,ar⟩
 refine RG.vS Z aJ ar ?_
 intro dv dw dx dy dz dA dB dC dD dE dF dG dH dI Z
 refine RG.Np Z fun dJ w Z=>RG.Ss 0 Z fun w Z=>.d<|.s<|.s<|T.Gd 4 Z fun w Z=>GA.Ln 0 0 Z<|GA.Ln 1 2 Z<|GA.Ln 2 1 Z<|.go 3<|GE.Cg (fun w Z=>Gj E aa (Z.mg 1 8) (Z.mg 1 9) (Z.mg 1 10) (Z.mg 1 11) (Z.mg 1 12) (Z.mg 1 13) (Z.mg 1 14) (Z.mg 1 7) (by have q1:WG E∧TF E∧EvD aa:=‹_›; exact q1.1) (by have q1:WG E∧TF E∧EvD aa:=‹_›; exact q1.2.1) (by have q1:WG E∧TF E∧EvD aa:=‹_›; exact q1.2.2.1)) Z ?_
 rintro w dK w Z ⟨⟨aK,aL,aW⟩,ae⟩
 refine ⟨Ext.chg ae,?_⟩
 refine GA.vS Z aL ae ?_
 intro dL dM dN dO dP dQ dR dS dT dU dV dW dX dY Z
 refine GA.Dn Z fun w Z=>RG.C0 (tb (Yd ‹_› ‹_›) (Aw aq aK (Z.a 7) (Z.a 8) (Z.a 9) (Z.a 10) (Z.a 11) (Z.a 12) (Z.a 13) (Z.a 0) (Z.a 1) (Z.a 2) (Z.a 3) (Z.a 4) (Z.a 5) (Z.a 6))) Z fun w Z=>.r 2<|RG.Ln 2 Z<|RG.C0 (EZ E (Z.a 15) (Z.a 16) (Z.a 17) (Z.a 18) (Z.a 19) (Z.a 20) (Z.a 21) (by have q1:WG E∧TF E∧EvD aa:=‹_›; exact q1.1)) Z fun w Z=>?_
 cases aX:(Br E.disk E.store)
 ·refine .r 2<|.d<|.ct<|.s<|T.Gd 4 Z fun w Z=>GA.Ln 0 0 Z<|GA.Ln 1 2 Z<|GA.Ln 2 1 Z<|.go 3<|GE.Cg (fun w Z=>Gj E aa (Z.mg 1 15) (Z.mg 1 16) (Z.mg 1 17) (Z.mg 1 18) (Z.mg 1 19) (Z.mg 1 20) (Z.mg 1 21) (Z.mg 1 14) (by have q1:WG E∧TF E∧EvD aa:=‹_›; exact q1.1) (by have q1:WG E∧TF E∧EvD aa:=‹_›; exact q1.2.1) (by have q1:WG E∧TF E∧EvD aa:=‹_›; exact q1.2.2.1)) Z ?_
  rintro w dZ w Z ⟨⟨aM,aN,aY⟩,af⟩
  refine ⟨Ext.chg af,?_⟩
  refine GA.vS Z aN af ?_
  intro d0 d3 d4 d5 d6 d7 d8 d9 ec ee eg eh aZ ba Z
  exact GA.Dn Z fun w Z=>RG.C0 (tb (Yd ‹_› ‹_›) (Aw aq aM (Z.a 14) (Z.a 15) (Z.a 16) (Z.a 17) (Z.a 18) (Z.a 19) (Z.a 20) (Z.a 0) (Z.a 1) (Z.a 2) (Z.a 3) (Z.a 4) (Z.a 5) (Z.a 6))) Z fun w Z=>.r 1<|.d<|T.rt func5 results5 (.bool true) ⟨(AG AF),Z.xt⟩
 refine .r 2<|.d<|.cf<|.sk<|.s<|.g<|RG.Ln 2 Z<|.r 1<|RG.cl (Ch E (⟨5,0,0,([]:List Tag),(⟨0,0⟩:Row)⟩:Evt) (Z.mg 1 15) (Z.mg 1 16) (Z.mg 1 17) (Z.mg 1 18) (Z.mg 1 19) (Z.mg 1 20) (Z.mg 1 21) (Z.ng 1) (by have q1:WG E∧TF E∧EvD aa:=‹_›; exact q1.1) (by have q1:WG E∧TF E∧EvD aa:=‹_›; exact q1.2.1) (by have q1:WG E∧TF E∧EvD aa:=‹_›; exact NmD.nil)) ?_
 rintro bd w ⟨⟨ax,ay,aO⟩,ag⟩
 refine RG.vS Z ay ag ?_
 intro bg bh bi bj bk bm bn bo bq br bt bu bv bw Z
 refine RG.Np Z fun bz w Z=>RG.Ss 0 Z fun w Z=>.d<|.s<|.g<|RG.Ln 3 Z<|.r 2<|RG.Lb 3 Z<|.r 2<|RG.cl (Ch E (⟨3,(E.disk.list.length:Int),9,([]:List Tag),(⟨0,0⟩:Row)⟩:Evt) (Z.mg 1 22) (Z.mg 1 23) (Z.mg 1 24) (Z.mg 1 25) (Z.mg 1 26) (Z.mg 1 27) (Z.mg 1 28) (Z.ng 1) (by have q1:WG E∧TF E∧EvD aa:=‹_›; exact q1.1) (by have q1:WG E∧TF E∧EvD aa:=‹_›; exact q1.2.1) (by have q1:WG E∧TF E∧EvD aa:=‹_›; exact NmD.nil)) ?_
 rintro bA w ⟨⟨az,aA,aP⟩,ah⟩
 refine RG.vS Z aA ah ?_
 intro bB bC bD bE bF bG bH bI bJ bK bL bM bN bO Z
 refine RG.Np Z fun bP w Z=>RG.Ss 0 Z fun w Z=>.d<|.s<|.g<|RG.Ln 4 Z<|.r 2<|RG.cl (Ch E (⟨1,0,0,([]:List Tag),(⟨1,0⟩:Row)⟩:Evt) (Z.mg 1 29) (Z.mg 1 30) (Z.mg 1 31) (Z.mg 1 32) (Z.mg 1 33) (Z.mg 1 34) (Z.mg 1 35) (Z.ng 1) (by have q1:WG E∧TF E∧EvD aa:=‹_›; exact q1.1) (by have q1:WG E∧TF E∧EvD aa:=‹_›; exact q1.2.1) (by have q1:WG E∧TF E∧EvD aa:=‹_›; exact NmD.nil)) ?_
 rintro bQ w ⟨⟨aB,aC,aQ⟩,ai⟩
 refine RG.vS Z aC ai ?_
 intro bR bS bT bU bV bW bX bY bZ b0 b6 b7 b8 b9 Z
 refine RG.Np Z fun cd w Z=>RG.Ss 0 Z fun w Z=>.d<|.s<|.g<|RG.Ln 5 Z<|.r 1<|RG.cl (Ch E (⟨2,0,(-1),([]:List Tag),(⟨0,0⟩:Row)⟩:Evt) (Z.mg 1 36) (Z.mg 1 37) (Z.mg 1 38) (Z.mg 1 39) (Z.mg 1 40) (Z.mg 1 41) (Z.mg 1 42) (Z.ng 1) (by have q1:WG E∧TF E∧EvD aa:=‹_›; exact q1.1) (by have q1:WG E∧TF E∧EvD aa:=‹_›; exact q1.2.1) (by have q1:WG E∧TF E∧EvD aa:=‹_›; exact NmD.nil)) ?_
 rintro ce w ⟨⟨aD,aE,aR⟩,aj⟩
 refine RG.vS Z aE aj ?_
 intro cg ci cj ck cm co cp cq cr cu cw cx cy cz Z
 refine RG.Np Z fun cA w Z=>RG.Ss 0 Z fun w Z=>.d<|.s<|.g<|RG.Ln 6 Z<|.r 1<|RG.Nl 1 ([(⟨[97],[112]⟩:Tag)]:List Tag) [] Z fun cB w Z=>.r 2 ?_
 have Z:=Z.sl 0
 refine RG.cl (Ch E (⟨1,0,0,([(⟨[97],[112]⟩:Tag)]:List Tag),(⟨(-1),0⟩:Row)⟩:Evt) (Z.mg 1 44) (Z.mg 1 45) (Z.mg 1 46) (Z.mg 1 47) (Z.mg 1 48) (Z.mg 1 49) (Z.mg 1 50) (Z.mg 1 0) (by have q1:WG E∧TF E∧EvD aa:=‹_›; exact q1.1) (by have q1:WG E∧TF E∧EvD aa:=‹_›; exact q1.2.1) (by have q1:WG E∧TF E∧EvD aa:=‹_›; exact nma)) ?_
 rintro cC w ⟨⟨aF,aG,aS⟩,ak⟩
 refine RG.vS Z aG ak ?_
 intro cD cE cF cG cH cI cJ cK cL cM cN cO cP cQ Z
 exact RG.Np Z fun cR w Z=>RG.Ss 0 Z fun w Z=>.d<|.s<|.g<|RG.Ln 4 Z<|RG.Ln 7 Z<|RG.C0 (tb (by have q1:WG E∧TF E∧EvD aa:=‹_›; have q2:WV E:=Bo q1.1 q1.2.1 ‹_›; exact Ye q2 ‹_›) (Aw ax E (Z.a 29) (Z.a 30) (Z.a 31) (Z.a 32) (Z.a 33) (Z.a 34) (Z.a 35) (Z.a 51) (Z.a 52) (Z.a 53) (Z.a 54) (Z.a 55) (Z.a 56) (Z.a 57))) Z fun w Z=>.r 1<|RG.Ln 3 Z<|RG.Ln 7 Z<|RG.C0 (tb (by have q1:WG E∧TF E∧EvD aa:=‹_›; have q2:WV E:=Bo q1.1 q1.2.1 ‹_›; exact Yw q2 ‹_›) (Aw az E (Z.a 22) (Z.a 23) (Z.a 24) (Z.a 25) (Z.a 26) (Z.a 27) (Z.a 28) (Z.a 51) (Z.a 52) (Z.a 53) (Z.a 54) (Z.a 55) (Z.a 56) (Z.a 57))) Z fun w Z=>.r 2<|RG.Ln 2 Z<|RG.Ln 7 Z<|RG.C0 (tb (by have q1:WG E∧TF E∧EvD aa:=‹_›; have q2:WV E:=Bo q1.1 q1.2.1 ‹_›; exact Ye q2 ‹_›) (Aw aB E (Z.a 15) (Z.a 16) (Z.a 17) (Z.a 18) (Z.a 19) (Z.a 20) (Z.a 21) (Z.a 51) (Z.a 52) (Z.a 53) (Z.a 54) (Z.a 55) (Z.a 56) (Z.a 57))) Z fun w Z=>.r 2<|RG.Ln 1 Z<|RG.Ln 7 Z<|RG.C0 (tb (by have q1:WG E∧TF E∧EvD aa:=‹_›; have q2:WV E:=Bo q1.1 q1.2.1 ‹_›; exact Yx q2 ‹_›) (Aw aD E (Z.a 8) (Z.a 9) (Z.a 10) (Z.a 11) (Z.a 12) (Z.a 13) (Z.a 14) (Z.a 51) (Z.a 52) (Z.a 53) (Z.a 54) (Z.a 55) (Z.a 56) (Z.a 57))) Z fun w Z=>.r 2<|RG.Ln 0 Z<|RG.Ln 7 Z<|RG.C0 (tb (by have q1:WG E∧TF E∧EvD aa:=‹_›; have q2:WV E:=Bo q1.1 q1.2.1 ‹_›; exact Yy q2 ‹_›) (Aw aF E (Z.a 0) (Z.a 1) (Z.a 2) (Z.a 3) (Z.a 4) (Z.a 5) (Z.a 6) (Z.a 51) (Z.a 52) (Z.a 53) (Z.a 54) (Z.a 55) (Z.a 56) (Z.a 57))) Z fun w Z=>.r 2<|.d<|T.rt func5 results5 (.bool true) ⟨(AG AF),Z.xt⟩
end Go.Proofs.YtckdhcbbgmiccaaGreat
