/- walks; pruned haves; hints pruned; squeezed -/
import Derived.Test.YtcginoabkicdiaaGreatDzzMod30
open Go.Proofs.Tryz
set_option linter.unusedVariables false
set_option linter.unusedSimpArgs false
namespace Go.Proofs.YtcginoabkicdiaaGreat
set_option maxRecDepth 100000
set_option maxHeartbeats 4000000
variable {w:World} {F:Nat→Prop} {a1 a2 a3 a4:Option Addr} {n1 c1 n2 c2 n3 c3 n4 c4:Nat}
theorem Kz (names:List (List Tag)) (h1:RepS w F a1 n1 c1 names)  : Calls Tryz.prog 210 [.slice a1 n1 c1].toArray w (Af fun rv w'=>rv=.bool (nmB names)∧Ext w w'):=by
 cases h1.len
 refine goT func210 ?_
 have Z:=(St.i0 F w).p h1
 have ah:=h1.max
 refine .s<|.g<|.r 1<|.d<|.s<|.s<|.g<|.r 3<|.d<|.b 0<|T.Lp (0:Nat) (fun k=>([(0,.slice a1 names.length c1),(5,.slice a1 names.length c1),(6,vI (names.length:Int)),(7,vI (k:Int))],[],[],names.length - k,(k≤names.length)∧(UB names k))) [] Z ⟨AD,(by exact YK _)⟩ ?_
 rintro k ao w Z ⟨ai,aj⟩ ab
 refine .s<|.g<|.bp ((k:Int)< (names.length:Int)) (fun ae=>?_) (fun ae=>.d<|.s<|.cf<|.x 0 rfl<|.s<|.g<|.r 4<|.d<|T.rt func210 results210 (.bool (decide ((names.length:Int)≤6))) ⟨(AG (by exact UC ‹_› AB)),Z.xt⟩)
 refine .d<|.s<|.ct<|.sk<|.s<|.b 1<|.s<|.g<|.r 1<|gx names k fun ac aa=>?_
 refine RG.Ix 0 aa Z<|Z.el 0 aa fun aq ar Z=>RG.Lh 0 0 Z<|.r 2<|.d<|.s<|.g<|.r 1<|RG.C0 (Fp ac (Z.a 1)) Z fun w Z=>?_
 cases am:(As ac)
 ·exact .r 9<|.d<|.ct<|.s<|.g<|.r 1<|.d<|T.rt func210 results210 (.bool false) ⟨(AG (by exact Rk ‹_› (.inl ‹_›))),Z.xt⟩
 exact .r 4<|RG.C0 (Gr names ac (Z.a 2) (Z.a 1)) Z fun w Z=>.r 1<|.it ((k:Int)+1)<|.ne (Dd ac 0 names+1) ((k:Int)+1) (fun af=>.r 1<|.d<|.ct<|.s<|.g<|.r 1<|.d<|T.rt func210 results210 (.bool false) ⟨(AG (by exact Rk ‹_› (.inr ‹_›))),Z.xt⟩) fun af=>.r 1<|.d<|.cf<|.sk<|.ib 1<|.g<|.it ((k:Int)+1)<|.r 1<|.d<|ab (k+1) _ _ AA (Z.to 0 [] 2) ⟨AB,(by exact Sa ‹_› ‹_› ‹_› ‹_›)⟩ (by (simp only []; omega))
theorem Gt (ix:Idx) (h1:RepS w F a1 n1 c1 ix.names) (h2:RepS w F a2 n2 c2 ix.AX)  : Calls Tryz.prog 175 [.agg #[.slice a1 n1 c1,.slice a2 n2 c2]].toArray w (Af fun rv w'=>rv=.bool (ixB ix)∧Ext w w'):=by
 cases h1.len
 cases h2.len
 refine goT func175 ?_
 have Z:=((St.i0 F w).p h1).p h2
 refine .s<|.g<|RG.Np Z fun ae w Z=>.r 1<|.d<|.s<|T.Gd 10 Z fun w Z=>.r [0]<|GA.Lb 1 0 Z<|GA.C0 2 Z (fun w Z=>Kz ix.names (Z.a 1)) ?_
 cases ac:(nmB ix.names)
 ·exact .r [3]<|GA.Sk Z fun w Z=>.r 3<|.d<|T.rt func175 results175 (.bool false) ⟨(AG (by exact Oj ‹_›)),Z.xt⟩
 exact .r [3,4]<|GA.Lb 5 0 Z<|.r [6]<|GA.Lb 7 0 Z<|.go 8<|GE.CS (fun w Z=>MH ix.names (Z.a 1) (Cu.1 ‹_›) (R1 (Cu.1 ‹_›))) Z fun af ag ah ai w Z=>.r [9]<|GA.Dn Z fun w Z=>RG.C0 (JC ix.AX ((idxOf ix.names).AX) (Z.a 2) (Z.a 1)) Z fun w Z=>.r 2<|.d<|T.rt func175 results175 (.bool (ix.AX==((idxOf ix.names).AX))) ⟨(AG (by exact XV ‹_›)),Z.xt⟩
theorem K0 (ix:Idx) (h1:RepS w F a1 n1 c1 ix.names) (h2:RepS w F a2 n2 c2 ix.AX) (p0:ix.AX.length≤1100000):Calls Tryz.prog 196 [.agg #[.slice a1 n1 c1,.slice a2 n2 c2]].toArray w (Af fun rv w'=>rv=.bool (ixB ix)∧Ext w w'):=by
 cases h1.len
 cases h2.len
 refine goT func196 ?_
 have Z:=((St.i0 F w).p h1).p h2
 have aL:=h1.max
 refine .s<|.g<|RG.Np Z fun az w Z=>.r 1<|.d<|.s<|.s<|.g<|.r 1<|RG.Lb 0 Z<|.r 1<|.bp ((ix.names.length:Int) > 6) (fun aA=>.d<|.ct<|.s<|.g<|.r 1<|.d<|T.rt func196 results196 (.bool false) ⟨(AG (by exact Oj (Rl ‹_›).symm)),Z.xt⟩) fun aA=>.d<|.cf<|.sk<|.s<|.g<|.r 1<|.d<|.s<|.s<|.g<|.r 1<|.d<|.b 0<|T.Lp ((0:Int),(0:Nat)) (fun (k,k1)=>([(1,vP az),(3,vI k),(4,vI (k1:Int))],[],[],ix.names.length - k1,(k1≤ix.names.length)∧(okS ix.names k1)∧(k=(((ix.names.take k1).map List.length).sum:Nat))∧(0≤k)∧(k≤3 * k1))) [] Z ⟨AD,(by exact Zf _),AD,AD,AD⟩ ?_
 rintro ⟨k,k1⟩ bo w Z ⟨aN,aO,aP,aQ,aR⟩ ao
 refine .s<|.s<|.g<|.r 2<|RG.Lb 0 Z<|.r 1<|.bp ((k1:Int)< (ix.names.length:Int)) (fun aB=>?_) (fun aB=>?_)
 ·refine .d<|.ct<|.sk<|.s<|.b 1<|.s<|.s<|.g<|.r 1<|RG.Lb 0 Z<|.r 1<|gx ix.names k1 fun ac ag=>?_
  refine RG.Ix 1 ag Z<|Z.el 1 ag fun bq br Z=>RG.Lh 0 0 Z<|RG.C0 (Fo ac (Z.a 1)) Z fun w Z=>?_
  cases aT:(As ac)
  ·exact .r 1<|.d<|.ct<|.s<|.g<|.r 1<|.d<|T.rt func196 results196 (.bool false) ⟨(AG (by exact Oj (WM ‹_› ‹_›).symm)),Z.xt⟩
  refine .r 1<|.d<|.cf<|.sk<|.s<|.s<|.g<|.r 1<|.d<|.b 2<|T.Lp (0:Nat) (fun k2=>([(1,vP az),(3,vI k),(4,vI (k1:Int)),(5,vI (k2:Int))],[],[],k1 - k2,(k2≤k1)∧(apart ix.names ac k2))) [] Z ⟨AB,(by exact WK _ _)⟩ ?_
  rintro k2 bu w Z ⟨aU,aV⟩ aq
  refine .s<|.s<|.g<|.r 2<|.bp ((k2:Int)< (k1:Int)) (fun aC=>?_) (fun aC=>.d<|.cf<|.x 2 rfl<|.g<|.r 2<|RG.Lb 0 Z<|.r 1<|RG.Ix 3 ag Z<|RG.Lh 0 0 Z<|.r 1<|RG.int (k+(ac.length:Int)) AA (by (have q1:=(FE (by assumption:As ac=true)).1; omega))<|.r 1<|.d<|.ib 1<|.g<|.r 1<|RG.int ((k1:Int)+1) AA AB<|.r 1<|.d<|ao (k+(ac.length:Int),k1+1) _ _ AA (Z.to 0 [] 2) ⟨AB,(by exact UD ‹_› ‹_› ‹_› (by assumption:apart _ _ k2) AB),(by rw [LP (f:=List.length) ‹_›]; omega),AB,(by have q1:=(FE (by assumption:As ac=true)).1; omega)⟩ (by (simp only []; omega)))
  refine .d<|.ct<|.sk<|.s<|.b 3<|.s<|T.Gd 11 Z fun w Z=>.r [0]<|GA.Lb 1 0 Z<|.r [2]<|GA.Ix 3 3 ag Z<|GA.Lh 4 0 0 Z<|GA.C0 5 Z (fun w Z=>C7 ac (Z.a 1) (by exact (Hc ‹_›).1) (by exact (Hc ‹_›).2))<|.r [6]<|GA.Lb 7 0 Z<|.r [8]<|gx ix.names k2 fun ay aj=>?_
  refine GA.Ix 9 3 aj Z<|Z.el 3 aj fun bv bw Z=>GA.Lh 10 0 0 Z<|GA.Dn Z fun w Z=>RG.C0 (C7 ay (Z.a 1) (by exact (Hc ((by assumption:okS ix.names k1) k2 _ AB ‹_›).1).1) (by exact (Hc ((by assumption:okS ix.names k1) k2 _ AB ‹_›).1).2)) Z fun w Z=>RG.eqv (v:=.bool ((text ac==text ay))) AA (Xq (text ac) (text ay)) ?_
  cases aX:(text ac==text ay)
  ·exact .d<|.cf<|.sk<|.ib 3<|.g<|.r 1<|RG.int ((k2:Int)+1) AA AB<|.r 1<|.d<|aq (k2+1) _ _ AA (Z.to 0 [] 2) ⟨AB,(by exact Qo ‹_› ‹_› ‹_›)⟩ (by (simp only []; omega))
  exact .d<|.ct<|.s<|.g<|.r 1<|.d<|T.rt func196 results196 (.bool false) ⟨(AG (by exact Oj (WN (k:=k1) (j:=k2) ‹_› ‹_› AB ‹_›).symm)),Z.xt⟩
 refine .d<|.cf<|.x 0 rfl<|.s<|.s<|.g<|.r 1<|.d<|.b 4<|T.Lp (k,(0:Nat)) (fun (k,k1)=>([(1,vP az),(3,vI k),(6,vI (k1:Int))],[],[],ix.AX.length - k1,(k1≤ix.AX.length)∧(NmI ix.names)∧(k=(Ct ix.names:Int) - (((ix.AX.take k1).map (fun p=>p.ids.length)).sum:Nat))∧(k≤18)∧(k ≥ - (6 * k1:Int))∧(okP ix k1))) [] Z ⟨AB,(by exact WL ‹_› AB AB),(by have q1:ix.names.take k1=ix.names:=List.take_of_length_le AB; have q2:k=(((ix.names.take k1).map List.length).sum:Nat):=‹_›; rw [q1] at q2; simp [q2,Ct]),AB,AB,(by exact Zp _)⟩ ?_
 rintro ⟨k,k1⟩ bz w Z ⟨aY,aZ,ba,bg,bh,bi⟩ ai
 refine .s<|.s<|.g<|.r 2<|RG.Lb 0 Z<|.r 1<|.bp ((k1:Int)< (ix.AX.length:Int)) (fun aD=>?_) (fun aD=>.d<|.cf<|.x 4 rfl<|.s<|.g<|.r 3<|.d<|T.rt func196 results196 (.bool (k==0)) ⟨(AG (by exact Zq ‹_› AB ‹_› ‹_›)),Z.xt⟩)
 refine .d<|.ct<|.sk<|.s<|.b 5<|.s<|.g<|.r 1<|RG.Lb 0 Z<|.r 1<|gx ix.AX k1 fun aa ak=>?_
 refine RG.Ix 0 ak Z<|Z.el 0 ak fun bA bC Z=>RG.Lg 0 0 Z<|RG.Np Z fun bD w Z=>RG.Ss 0 Z fun w Z=>.d<|.s<|.s<|T.Gd 28 Z fun w Z=>.r [0]<|GA.Lb 1 0 Z<|.r [2]<|GA.eqI (i:=3) (a:=(aa.ids.length:Int)) (b:=0) AA (fun aE=>.r [4,5,6,7,8,9,10,11,12,13,14,15]<|GA.Sk Z fun w Z=>.r 4<|.d<|.ct<|.s<|.g<|.r 1<|.d<|T.rt func196 results196 (.bool false) ⟨(AG (by exact Yi (k:=k1) ‹_› (.inl ‹_›))),Z.xt⟩) fun aE=>.r [4,5]<|GA.Lb 6 0 Z<|.r [7]<|GA.Lb 8 1 Z<|.r [9]<|GA.Ln 10 0 Z<|.go 11<|GE.CL (fun w Z=>Fm ix.names aa.tag (Z.a 3) (by have q4:=(by assumption:NmI ix.names).len; omega)) Z fun bE bF w Z=>GA.C0 12 Z (fun w Z=>Lm aa.ids (ids ix.names aa.tag) (Z.a 2) (Z.a 0)) ?_
 cases bk:(aa.ids==(ids ix.names aa.tag))
 ·exact .r [13,14,15]<|GA.Sk Z fun w Z=>.r 4<|.d<|.ct<|.s<|.g<|.r 1<|.d<|T.rt func196 results196 (.bool false) ⟨(AG (by exact Yi (k:=k1) ‹_› (.inr (.inl ‹_›)))),Z.xt⟩
 refine .r [13,14,15,16]<|GA.Em (i:=17) ((k1:Int) > 0) AA (fun aF=>?_) (fun aF=>.r [18]<|GA.Sk Z fun w Z=>.r 4<|.d<|.cf<|.sk<|.g<|.r 2<|RG.Lb 0 Z<|.r 1<|RG.int (k - (aa.ids.length:Int)) AA (by (have q2:=I7 ix.names aa.tag; have q3:aa.ids=ids ix.names aa.tag:=eq_of_beq ‹_›; rw [← q3] at q2; omega))<|.r 1<|.d<|.ib 5<|.g<|.r 1<|RG.int ((k1:Int)+1) AA AB<|.r 1<|.d<|ai (k - (aa.ids.length:Int),k1+1) _ _ AA (Z.to 1 [] 3) ⟨AB,‹_›,(by rw [LP (f:=fun p=>p.ids.length) (l:=ix.AX) (i:=k1) (x:=aa) ‹_›]; omega),AB,(by have q2:=I7 ix.names aa.tag; have q3:aa.ids=ids ix.names aa.tag:=eq_of_beq ‹_›; rw [← q3] at q2; omega),(by exact XW ‹_› ‹_› ‹_› ‹_› (by exact .inl AB))⟩ (by (simp only []; omega)))
 refine .r [18,19]<|GA.Lb 20 1 Z<|.r [21]<|GA.int (i:=22) ((k1:Int) - 1) AA AB<|gx ix.AX (k1 - 1) fun aG am=>?_
 refine GA.Jx 23 3 ((k1:Int) - 1) am Z<|.r [24]<|Z.el 3 am fun bG bH Z=>GA.Lg 25 0 0 Z<|.r [26]<|GA.Ln 27 0 Z<|GA.Dn Z fun w Z=>RG.C0 (Lq aG.tag aa.tag (F:=all)) Z fun w Z=>?_
 cases bn:(CM aG.tag aa.tag)
 ·exact .r 3<|.d<|.ct<|.s<|.g<|.r 1<|.d<|T.rt func196 results196 (.bool false) ⟨(AG (by exact Yi (k:=k1) ‹_› (.inr (.inr ⟨by omega,_,by assumption,by assumption⟩)))),Z.xt⟩
 exact .r 3<|.d<|.cf<|.sk<|.g<|.r 2<|RG.Lb 0 Z<|.r 1<|RG.int (k - (aa.ids.length:Int)) AA (by (have q2:=I7 ix.names aa.tag; have q3:aa.ids=ids ix.names aa.tag:=eq_of_beq ‹_›; rw [← q3] at q2; omega))<|.r 1<|.d<|.ib 5<|.g<|.r 1<|RG.int ((k1:Int)+1) AA AB<|.r 1<|.d<|ai (k - (aa.ids.length:Int),k1+1) _ _ AA (Z.to 1 [] 5) ⟨AB,‹_›,(by rw [LP (f:=fun p=>p.ids.length) (l:=ix.AX) (i:=k1) (x:=aa) ‹_›]; omega),AB,(by have q2:=I7 ix.names aa.tag; have q3:aa.ids=ids ix.names aa.tag:=eq_of_beq ‹_›; rw [← q3] at q2; omega),(by exact XW ‹_› ‹_› ‹_› ‹_› (by exact .inr ⟨_,by assumption,by assumption⟩))⟩ (by (simp only []; omega))
theorem Gu (s:Sto) (h1:RepS w F a1 n1 c1 s.idx.names) (h2:RepS w F a2 n2 c2 s.idx.AX) (h3:RepS w F a3 n3 c3 s.parts) (h4:RepS w F a4 n4 c4 s.mem) (p0:s.idx.AX.length≤1100000):Calls Tryz.prog 149 [.agg #[.slice a1 n1 c1,.slice a2 n2 c2,.slice a3 n3 c3,.slice a4 n4 c4]].toArray w (Af fun rv w'=>rv=.bool (ixB s.idx&&Ae s)∧Ext w w'):=by
 cases h1.len
 cases h2.len
 cases h3.len
 cases h4.len
 refine goT func149 ?_
 have Z:=((((St.i0 F w).p h1).p h2).p h3).p h4
 have aA:=h1.max
 have aC:=h3.max
 have aD:=h4.max
 refine .s<|.g<|RG.Np Z fun ai w Z=>.r 1<|.d<|.s<|.g<|.r 2<|RG.Lb 0 Z<|.r 2<|.d<|.s<|.s<|.g<|.r 1<|RG.Ln 0 Z<|RG.C0 (K0 s.idx (Z.a 3) (Z.a 2) p0) Z fun w Z=>?_
 cases aE:(ixB s.idx)
 ·exact .r 13<|.d<|.ct<|.s<|.g<|.r 1<|.d<|T.rt func149 results149 (.bool false) ⟨(AG AF),Z.xt⟩
 refine .r 3<|RG.Lb 0 Z<|.r 1<|.bp ((s.parts.length:Int) > 6) (fun aj=>.r 7<|.d<|.ct<|.s<|.g<|.r 1<|.d<|T.rt func149 results149 (.bool false) ⟨(AG (by (rw [Bool.true_and]; symm; exact Hz AB))),Z.xt⟩) fun aj=>.r 3<|RG.Lb 0 Z<|.r 1<|.bp ((s.mem.length:Int) > 20) (fun ak=>.r 1<|.d<|.ct<|.s<|.g<|.r 1<|.d<|T.rt func149 results149 (.bool false) ⟨(AG (by (rw [Bool.true_and]; symm; exact Hz AB))),Z.xt⟩) fun ak=>.r 1<|.d<|.cf<|.sk<|.s<|.s<|.g<|.r 1<|.d<|.b 0<|T.Lp (0:Nat) (fun k=>([(1,vP ai),(3,vI (s.idx.names.length:Int)),(4,vI (k:Int))],[],[],s.parts.length - k,(k≤s.parts.length)∧((s.parts.drop k).all (fun p=>BT p s.idx.names.length)=s.parts.all (fun p=>BT p s.idx.names.length))∧(ixB s.idx=true))) [] Z ⟨AD,AF,‹_›⟩ ?_
 rintro k aZ w Z ⟨aF,aG,aH⟩ ac
 refine .s<|.s<|.g<|.r 2<|RG.Lb 0 Z<|.r 1<|.bp ((k:Int)< (s.parts.length:Int)) (fun am=>?_) (fun am=>?_)
 ·refine .d<|.ct<|.sk<|.s<|.b 1<|.s<|.g<|.r 1<|RG.Lb 0 Z<|.r 1<|gx s.parts k fun ao ab=>?_
  have aI:=Ab ab
  refine RG.Ix 1 ab Z<|Z.el 1 ab fun ba bg bh bi Z=>RG.Lg 0 0 Z<|.r 1<|RG.C0 (Lo ao (s.idx.names.length:Int) (Z.a 1) (Z.a 2)) Z fun w Z=>?_
  cases aJ:(BT ao (s.idx.names.length:Int))
  ·exact .r 1<|.d<|.ct<|.s<|.g<|.r 1<|.d<|T.rt func149 results149 (.bool false) ⟨(AG (by (rw [Bool.true_and]; symm; exact H0 (I9 ‹_› ‹_› ‹_›)))),Z.xt⟩
  exact .r 1<|.d<|.cf<|.sk<|.ib 1<|.g<|.r 1<|RG.int ((k:Int)+1) AA (by have q1:=(Kd ‹_›).2.len; omega)<|.r 1<|.d<|ac (k+1) _ _ AA (Z.to 0 [] 3) ⟨AB,(by exact I8 ‹_› ‹_› ‹_›),‹_›⟩ (by (simp only []; omega))
 refine .d<|.cf<|.x 0 rfl<|.s<|.s<|.g<|.r 1<|.d<|.b 2<|T.Lp (0:Nat) (fun k=>([(1,vP ai),(3,vI (s.idx.names.length:Int)),(5,vI (k:Int))],[],[],s.mem.length - k,(k≤s.mem.length)∧(s.parts.all (fun p=>BT p s.idx.names.length)=true)∧((s.mem.drop k).all (DM s.idx.names.length)=s.mem.all (DM s.idx.names.length))∧(ixB s.idx=true))) [] Z ⟨AD,(by exact L3 ‹_› AB),AD,‹_›⟩ ?_
 rintro k bj w Z ⟨aL,aM,aN,aO⟩ ae
 refine .s<|.s<|.g<|.r 2<|RG.Lb 0 Z<|.r 1<|.bp ((k:Int)< (s.mem.length:Int)) (fun aq=>?_) (fun aq=>?_)
 ·refine .d<|.ct<|.sk<|.s<|.b 3<|.s<|.g<|.r 1<|RG.Lb 0 Z<|.r 1<|gx s.mem k fun ag aa=>?_
  have aP:=Ab aa
  refine RG.Ix 0 aa Z<|.r 1<|Z.el 0 aa fun Z=>RG.Lh 0 0 Z<|.r 1<|RG.C0 (CD ag.id 1 (s.idx.names.length:Int) (F:=all)) Z fun w Z=>?_
  cases ah:(inR ag.id 1 (s.idx.names.length:Int))
  ·exact .r 11<|.d<|.ct<|.s<|.g<|.r 1<|.d<|T.rt func149 results149 (.bool false) ⟨(AG (by (rw [Bool.true_and]; symm; exact H3 (I9 ‹_› ‹_› (by simp [DM, *]))))),Z.xt⟩
  refine .r 3<|RG.Lb 0 Z<|.r 1<|RG.Ix 1 aa Z<|.r 1<|RG.Lg 0 1 Z<|RG.C0 (GV ag.row (F:=all)) Z fun w Z=>?_
  cases aS:(BS ag.row)
  ·exact .r 2<|.d<|.ct<|.s<|.g<|.r 1<|.d<|T.rt func149 results149 (.bool false) ⟨(AG (by (rw [Bool.true_and]; symm; exact H3 (I9 ‹_› ‹_› (by simp [DM, *]))))),Z.xt⟩
  exact .r 2<|.d<|.cf<|.sk<|.ib 3<|.g<|.r 1<|RG.int ((k:Int)+1) AA (by have q1:=(Kd ‹_›).2.len; omega)<|.r 1<|.d<|ae (k+1) _ _ AA (Z.to 0 [] 1) ⟨AB,‹_›,(by exact I8 ‹_› ‹_› (by simp only [DM, *]; rfl)),‹_›⟩ (by (simp only []; omega))
 refine .d<|.cf<|.x 2 rfl<|.s<|.s<|.g<|.r 1<|.d<|.b 4<|T.Lp (1:Nat) (fun k=>([(1,vP ai),(3,vI (s.idx.names.length:Int)),(6,vI (k:Int))],[],[],s.idx.names.length+1 - k,(1≤k)∧(k≤s.idx.names.length+1)∧(s.parts.all (fun p=>BT p s.idx.names.length)=true)∧(s.mem.all (DM s.idx.names.length)=true)∧(((List.range s.idx.names.length).drop (k - 1)).all (Ep s)=(List.range s.idx.names.length).all (Ep s))∧(ixB s.idx=true))) [] Z ⟨AB,AB,‹_›,(by exact L3 ‹_› AB),AF,‹_›⟩ ?_
 rintro k bk w Z ⟨aT,aU,aV,aW,aX,aY⟩ af
 exact .s<|.s<|.g<|.r 2<|.bp ((k:Int)≤(s.idx.names.length:Int)) (fun ar=>.d<|.ct<|.sk<|.s<|.b 5<|.s<|.g<|RG.Ln 0 Z<|.r 1<|RG.CL (EH s (k:Int) (Z.a 3) (Z.a 2) (Z.a 1) (Z.a 0) AB (fun p hp=>(ptW ‹_› p hp).1.sz) AB) Z fun bm bn w Z=>.r 1<|.bp ((((rowsOf s (k:Int)).length):Int) > 24) (fun ax=>.d<|.ct<|.s<|.g<|.r 1<|.d<|T.rt func149 results149 (.bool false) ⟨(AG (by (rw [Bool.true_and]; symm; exact Ng (XJ ‹_› AB AB AB)))),Z.xt⟩) fun ax=>.d<|.cf<|.sk<|.ib 5<|.g<|.r 1<|RG.int ((k:Int)+1) AA (by have q1:=(Kd ‹_›).2.len; omega)<|.r 1<|.d<|af (k+1) _ _ AA (Z.to 0 [] 1) ⟨AB,AB,‹_›,‹_›,(by exact Rf ‹_› AB AB AB),‹_›⟩ (by (simp only []; omega))) fun ar=>.d<|.cf<|.x 4 rfl<|.s<|.g<|.r 1<|.d<|T.rt func149 results149 (.bool true) ⟨(AG (by rw [Bool.true_and]; symm; exact Nh AB AB ‹_› ‹_› (Tc ‹_› AB))),Z.xt⟩
theorem Ev (s:Sto) (h1:RepS w F a1 n1 c1 s.idx.names) (h2:RepS w F a2 n2 c2 s.idx.AX) (h3:RepS w F a3 n3 c3 s.parts) (h4:RepS w F a4 n4 c4 s.mem)  : Calls Tryz.prog 121 [.agg #[.slice a1 n1 c1,.slice a2 n2 c2,.slice a3 n3 c3,.slice a4 n4 c4]].toArray w (Af fun rv w'=>rv=.bool (ixB s.idx&&Ae s)∧Ext w w'):=by
 cases h1.len
 cases h2.len
 cases h3.len
 cases h4.len
 refine goT func121 ?_
 have Z:=((((St.i0 F w).p h1).p h2).p h3).p h4
 have aC:=h1.max
 have aE:=h3.max
 have aF:=h4.max
 refine .s<|.g<|RG.Np Z fun aj w Z=>.r 1<|.d<|.s<|.s<|.g<|.r 1<|RG.Ln 0 Z<|RG.C0 (Gt s.idx (Z.a 3) (Z.a 2)) Z fun w Z=>?_
 cases aG:(ixB s.idx)
 ·exact .r 13<|.d<|.ct<|.s<|.g<|.r 1<|.d<|T.rt func121 results121 (.bool false) ⟨(AG AF),Z.xt⟩
 refine .r 3<|RG.Lb 0 Z<|.r 1<|.bp ((s.parts.length:Int) > 6) (fun ak=>.r 7<|.d<|.ct<|.s<|.g<|.r 1<|.d<|T.rt func121 results121 (.bool false) ⟨(AG (by (rw [Bool.true_and]; symm; exact Hz AB))),Z.xt⟩) fun ak=>.r 3<|RG.Lb 0 Z<|.r 1<|.bp ((s.mem.length:Int) > 20) (fun am=>.r 1<|.d<|.ct<|.s<|.g<|.r 1<|.d<|T.rt func121 results121 (.bool false) ⟨(AG (by (rw [Bool.true_and]; symm; exact Hz AB))),Z.xt⟩) fun am=>.r 1<|.d<|.cf<|.sk<|.s<|.g<|.r 2<|RG.Lb 0 Z<|.r 2<|.d<|.s<|.s<|.g<|.r 1<|RG.Lb 0 Z<|.r 2<|.d<|.b 0<|T.Lp (0:Nat) (fun k=>([(1,vP aj),(3,vI (s.idx.names.length:Int)),(30,.slice a3 s.parts.length c3),(31,vI (s.parts.length:Int)),(32,vI (k:Int))],[],[],s.parts.length - k,(k≤s.parts.length)∧((s.parts.drop k).all (fun p=>BT p s.idx.names.length)=s.parts.all (fun p=>BT p s.idx.names.length))∧(ixB s.idx=true))) [] Z ⟨AD,AF,‹_›⟩ ?_
 rintro k bg w Z ⟨aH,aI,aJ⟩ ac
 refine .s<|.g<|.bp ((k:Int)< (s.parts.length:Int)) (fun ao=>?_) (fun ao=>?_)
 ·refine .d<|.s<|.ct<|.sk<|.s<|.b 1<|.s<|.g<|gx s.parts k fun ae aa=>?_
  have aK:=Ab aa
  refine RG.Ix 1 aa Z<|Z.el 1 aa fun bh bi bj bk Z=>RG.Lg 0 0 Z<|RG.Np Z fun bm w Z=>RG.Ss 0 Z fun w Z=>.d<|.s<|.g<|RG.Ln 0 Z<|RG.C0 (C6 ae (Z.a 1) (Z.a 2)) Z fun w Z=>?_
  cases aL:(Ai ae)
  ·exact .r 14<|.d<|.ct<|.s<|.g<|.r 1<|.d<|T.rt func121 results121 (.bool false) ⟨(AG (by (rw [Bool.true_and]; symm; exact H0 (I9 ‹_› ‹_› (by exact T1 ‹_›))))),Z.xt⟩
  exact .r 3<|RG.Lb 0 Z<|.r 1<|.eq (ae.ids.length:Int) 0 (fun aq=>.r 8<|.d<|.ct<|.s<|.g<|.r 1<|.d<|T.rt func121 results121 (.bool false) ⟨(AG (by (rw [Bool.true_and]; symm; exact H0 (I9 ‹_› ‹_› (by exact T3 ‹_›))))),Z.xt⟩) fun aq=>.r 3<|RG.Lb 0 Z<|RG.C0 (HE ae.ids (Z.a 1) AB) Z fun w Z=>.r 1<|.bp (maxOf ae.ids > (s.idx.names.length:Int)) (fun ar=>.r 1<|.d<|.ct<|.s<|.g<|.r 1<|.d<|T.rt func121 results121 (.bool false) ⟨(AG (by (rw [Bool.true_and]; symm; exact H0 (I9 ‹_› ‹_› (by exact T4 ‹_› ‹_› ‹_›))))),Z.xt⟩) fun ar=>.r 1<|.d<|.cf<|.sk<|.ib 1<|.g<|RG.int ((k:Int)+1) AA (by have q1:=(Kd ‹_›).2.len; omega)<|.r 1<|.d<|ac (k+1) _ _ AA (Z.to 1 [] 3) ⟨AB,(by exact I8 ‹_› ‹_› (T5 ‹_› ‹_› ‹_›)),‹_›⟩ (by (simp only []; omega))
 refine .d<|.s<|.cf<|.x 0 rfl<|.s<|.s<|.g<|.r 1<|RG.Lb 0 Z<|.r 2<|.d<|.b 2<|T.Lp (0:Nat) (fun k=>([(1,vP aj),(3,vI (s.idx.names.length:Int)),(54,.slice a4 s.mem.length c4),(55,vI (s.mem.length:Int)),(56,vI (k:Int))],[],[],s.mem.length - k,(k≤s.mem.length)∧(s.parts.all (fun p=>BT p s.idx.names.length)=true)∧((s.mem.drop k).all (DM s.idx.names.length)=s.mem.all (DM s.idx.names.length))∧(ixB s.idx=true))) [] Z ⟨AD,(by exact L3 ‹_› AB),AD,‹_›⟩ ?_
 rintro k bn w Z ⟨aN,aO,aP,aQ⟩ af
 refine .s<|.g<|.bp ((k:Int)< (s.mem.length:Int)) (fun ax=>?_) (fun ax=>?_)
 ·refine .d<|.s<|.ct<|.sk<|.s<|.b 3<|.s<|.g<|gx s.mem k fun ah ab=>?_
  have aR:=Ab ab
  refine RG.Ix 0 ab Z<|Z.el 0 ab fun Z=>RG.Lg 0 0 Z<|RG.Np Z fun bo w Z=>RG.Ss 0 Z fun w Z=>.d<|.s<|.g<|.r 1<|RG.Lb 0 Z<|.r 1<|RG.C0 (CB ah.id 1 (s.idx.names.length:Int) (F:=all)) Z fun w Z=>?_
  cases ai:(inR ah.id 1 (s.idx.names.length:Int))
  ·exact .r 7<|.d<|.ct<|.s<|.g<|.r 1<|.d<|T.rt func121 results121 (.bool false) ⟨(AG (by (rw [Bool.true_and]; symm; exact H3 (I9 ‹_› ‹_› (by simp [DM, *]))))),Z.xt⟩
  refine .r 3<|RG.Ln 0 Z<|RG.C0 (GU ah.row (F:=all)) Z fun w Z=>?_
  cases aU:(BS ah.row)
  ·exact .r 2<|.d<|.ct<|.s<|.g<|.r 1<|.d<|T.rt func121 results121 (.bool false) ⟨(AG (by (rw [Bool.true_and]; symm; exact H3 (I9 ‹_› ‹_› (by simp [DM, *]))))),Z.xt⟩
  exact .r 2<|.d<|.cf<|.sk<|.ib 3<|.g<|RG.int ((k:Int)+1) AA (by have q1:=(Kd ‹_›).2.len; omega)<|.r 1<|.d<|af (k+1) _ _ AA (Z.to 1 [] 1) ⟨AB,‹_›,(by exact I8 ‹_› ‹_› (by simp only [DM, *]; rfl)),‹_›⟩ (by (simp only []; omega))
 refine .d<|.s<|.cf<|.x 2 rfl<|.s<|.s<|.g<|.r 1<|.d<|.b 4<|T.Lp (1:Nat) (fun k=>([(1,vP aj),(3,vI (s.idx.names.length:Int)),(8,vI (k:Int))],[],[],s.idx.names.length+1 - k,(1≤k)∧(k≤s.idx.names.length+1)∧(s.parts.all (fun p=>BT p s.idx.names.length)=true)∧(s.mem.all (DM s.idx.names.length)=true)∧(((List.range s.idx.names.length).drop (k - 1)).all (Ep s)=(List.range s.idx.names.length).all (Ep s))∧(ixB s.idx=true))) [] Z ⟨AB,AB,‹_›,(by exact L3 ‹_› AB),AF,‹_›⟩ ?_
 rintro k bq w Z ⟨aV,aW,aX,aY,aZ,ba⟩ ag
 exact .s<|.s<|.g<|.r 2<|.bp ((k:Int)≤(s.idx.names.length:Int)) (fun ay=>.d<|.ct<|.sk<|.s<|.b 5<|.s<|.g<|RG.Ln 0 Z<|.r 1<|RG.CL (JK s (k:Int) (Z.a 3) (Z.a 2) (Z.a 1) (Z.a 0) (ptW ‹_›) (StoK.rw ‹_›) AB AB) Z fun br bu w Z=>.r 1<|.bp ((((rowsOf s (k:Int)).length):Int) > 24) (fun az=>.d<|.ct<|.s<|.g<|.r 1<|.d<|T.rt func121 results121 (.bool false) ⟨(AG (by (rw [Bool.true_and]; symm; exact Ng (XJ ‹_› AB AB AB)))),Z.xt⟩) fun az=>.d<|.cf<|.sk<|.ib 5<|.g<|.r 1<|RG.int ((k:Int)+1) AA (by have q1:=(Kd ‹_›).2.len; omega)<|.r 1<|.d<|ag (k+1) _ _ AA (Z.to 0 [] 1) ⟨AB,AB,‹_›,‹_›,(by exact Rf ‹_› AB AB AB),‹_›⟩ (by (simp only []; omega))) fun ay=>.d<|.cf<|.x 4 rfl<|.s<|.g<|.r 1<|.d<|T.rt func121 results121 (.bool true) ⟨(AG (by rw [Bool.true_and]; symm; exact Nh AB AB ‹_› ‹_› (Tc ‹_› AB))),Z.xt⟩
theorem NF (names:List (List Tag)) (h1:RepS w F a1 n1 c1 names) (p0:names.length≤1000) (p1:∀ n∈names,n.length≤1100000):Calls Tryz.prog 120 [.slice a1 n1 c1].toArray w (Af fun rv w'=>VS (ge w.heap.size) w' (idxOf names:Idx) rv∧Ext w w'):=by
 cases h1.len
 refine goT func120 ?_
 have Z:=(St.i0 F w).p h1
 refine .s<|.g<|RG.Np Z fun ae w Z=>.d<|.s<|.g<|RG.N0 Pst 0 Z fun ai w Z=>.r 1<|.d<|.s<|.s<|.g<|.r 1<|.d<|.b 0<|T.Lp (([]:List Pst),ai,(0:Nat),(97:Nat)) (fun (AX,r_posts,c_posts,k)=>([(0,.slice a1 names.length c1),(2,vP ae),(3,vS r_posts AX.length c_posts),(4,.int .i32 (k:Int))],[(0,.own 0 r_posts 204 c_posts AX)],[],101 - k,(97≤k)∧(k≤101)∧(AX.length≤11 * (k - 97))∧(AX++FL names (101 - k) k=Be names))) [] Z ⟨AB,AB,(by simp [Be]),(by simp [Be])⟩ ?_
 rintro ⟨AX,r_posts,c_posts,k⟩ aE w Z ⟨ao,aq,ar,ax⟩ ac
 refine .s<|.s<|.g<|.r 1<|.bp ((k:Int)≤100) (fun af=>?_) (fun af=>?_)
 ·refine .d<|.ct<|.sk<|.s<|.b 1<|.s<|.g<|.r 1<|.d<|.b 2<|T.Lp ((AX:List Pst),r_posts,c_posts,(112:Nat)) (fun (aa,r_posts1,c_posts1,v)=>([(0,.slice a1 names.length c1),(2,vP ae),(3,vS r_posts1 aa.length c_posts1),(4,.int .i32 (k:Int)),(5,.int .i32 (v:Int))],[(0,.own 0 r_posts1 204 c_posts1 aa)],[],123 - v,(112≤v)∧(v≤123)∧(97≤k)∧(k≤100)∧(aa.length≤11 * (k - 97)+(v - 112))∧(aa++Fs names k (123 - v) v++FL names (101 - (k+1)) (k+1)=Be names))) [] Z ⟨AB,AB,AB,AB,AB,(by grind [NY])⟩ ?_
  rintro ⟨aa,r_posts1,c_posts1,v⟩ aF w Z ⟨ay,az,aA,aB,aC,aD⟩ ab
  exact .s<|.s<|.g<|.r 1<|.bp ((v:Int)≤122) (fun ag=>.d<|.ct<|.sk<|.s<|.b 3<|.s<|.g<|.r 1<|RG.eqv (v:=.string (bs [UInt8.ofNat k])) AA (RU k AB)<|.r 1<|RG.eqv (v:=.string (bs [UInt8.ofNat v])) AA (RU v AB)<|.r 1<|RG.Np Z fun aG w Z=>RG.Ss 0 Z fun w Z=>.d<|.s<|.g<|.r 1<|RG.Ln 0 Z<|RG.CL (Fm names (⟨[UInt8.ofNat k],[UInt8.ofNat v]⟩:Tag) (Z.a 0) AB) Z fun aH aI w Z=>.r 1<|.d<|.s<|.g<|.r 2<|.bp ((((ids names (⟨[UInt8.ofNat k],[UInt8.ofNat v]⟩:Tag)).length):Int) > 0) (fun ah=>.d<|.ct<|.g<|.r 1<|RG.Ln 0 Z<|.r 2<|RG.Nb 1 Z fun aJ w Z=>RG.Ap 1 0 aa (⟨(⟨[UInt8.ofNat k],[UInt8.ofNat v]⟩:Tag),ids names (⟨[UInt8.ofNat k],[UInt8.ofNat v]⟩:Tag)⟩:Pst) [0] Z fun aj ak w Z=>.r 1<|.d<|.ib 3<|.g<|.r 1<|RG.int32 ((v:Int)+1) AA AB<|.r 1<|.d<|ab ((aa++[(⟨(⟨[UInt8.ofNat k],[UInt8.ofNat v]⟩:Tag),ids names (⟨[UInt8.ofNat k],[UInt8.ofNat v]⟩:Tag)⟩:Pst)]),aj,ak,v+1) _ _ AA (Z.to 1 [] 1) ⟨AB,AB,AB,AB,(by grind [FD,D3,Gp]),(by grind [FD,D3,Gp])⟩ (by (simp only []; omega))) fun ah=>.d<|.cf<|.sk<|.ib 3<|.g<|.r 1<|RG.int32 ((v:Int)+1) AA AB<|.r 1<|.d<|ab (aa,r_posts1,c_posts1,v+1) _ _ AA (Z.to 1 [] 1) ⟨AB,AB,AB,AB,AB,(by grind [FD,D3,Gp])⟩ (by (simp only []; omega))) fun ag=>.d<|.cf<|.x 2 rfl<|.ib 1<|.g<|.r 1<|RG.int32 ((k:Int)+1) AA AB<|.r 1<|.d<|ac (aa,r_posts1,c_posts1,k+1) _ _ AA (Z.to 0 [] 0) ⟨AB,AB,AB,(by grind [Lr])⟩ (by (simp only []; omega))
 refine .d<|.cf<|.x 0 rfl<|.s<|.g<|.r 1<|RG.CO 0 (BP names (Z.a 0) AB p1) Z fun aK aL w Z=>.r 2<|RG.Ss 2 Z fun w Z=>.d ?_
 have Z:=(Z.sl 0).sl 0
 exact T.Rb 0 func120 results120 Z ⟨Z.rS (⟨names,AX⟩:Idx) [1,0] (by grind [idxOf,Ls]),Z.xt⟩
theorem K1 (d:Dsk) (h1:RepS w F a1 n1 c1 d.files) (h2:RepS w F a2 n2 c2 d.list) (h3:RepS w F a3 n3 c3 d.names) (p0:d.names.length≤1000) (p1:∀ n∈d.names,n.length≤1100000) (p2:d.list.length≤1000) (p3:∀ n∈d.list,0≤Al d n):Calls Tryz.prog 119 [.agg #[.slice a1 n1 c1,.slice a2 n2 c2,.slice a3 n3 c3,.int .i64 d.next]].toArray w (Af fun rv w'=>VS (fo F w.heap.size) w' (Aj d:Sto) rv∧Ext w w'):=by
 cases h1.len
 cases h2.len
 cases h3.len
 refine goT func119 ?_
 have Z:=(((St.i0 F w).p h1).p h2).p h3
 refine .s<|.g<|RG.Np Z fun ak w Z=>RG.Np Z fun am w Z=>.d<|.s<|.g<|.r 1<|RG.Lb 1 Z<|RG.CS (NF d.names (Z.a 0) p0 p1) Z fun ay az aA aB w Z=>RG.N0 Prt 1 Z fun aC w Z=>RG.N0 Smp 1 Z fun aD w Z=>.r 1<|RG.Np Z fun ai w Z=>RG.Ss 0 Z fun w Z=>.d<|.s<|.s<|.g<|.r 1<|.d<|.b 0<|T.Lp ((0:Nat),((idxOf d.names).names:List (List Tag)),ay,az,((idxOf d.names).AX:List Pst),aA,aB,([]:List Prt),aC,(0:Nat),([]:List Smp),aD,(0:Nat)) (fun (i,ae,a_s_0,c_s_0,af,a_s_1,c_s_1,aa,r_s_2,c_s_2,ag,r_s_3,c_s_3)=>([(1,vP ak),(2,vP am),(3,vP ai),(4,vI (i:Int))],[(0,.box ai 31 [.slice a_s_0 ae.length c_s_0,.slice a_s_1 af.length c_s_1,vS r_s_2 aa.length c_s_2,vS r_s_3 ag.length c_s_3]),(1,.own 1 r_s_3 158 c_s_3 ag),(2,.own 1 r_s_2 146 c_s_2 aa)],[⟨0,none,.rep a_s_0 c_s_0 ae⟩,⟨0,none,.rep a_s_1 c_s_1 af⟩],d.list.length - i,(i≤d.list.length)∧(ae=d.names)∧(af=Be d.names)∧(ag=[])∧(aa.length≤i)∧(aa++(d.list.drop i).map (Ao d)=d.list.map (Ao d)))) [0,1] Z ⟨AD,AF,AF,AF,AD,AF⟩ ?_
 rintro ⟨i,ae,a_s_0,c_s_0,af,a_s_1,c_s_1,aa,r_s_2,c_s_2,ag,r_s_3,c_s_3⟩ aR w Z ⟨aJ,aK,aL,aM,aN,aO⟩ ah
 refine .s<|.s<|.g<|.r 2<|RG.Lb 4 Z<|.r 1<|.bp ((i:Int)< (d.list.length:Int)) (fun ao=>?_) (fun ao=>?_)
 ·refine .d<|.ct<|.sk<|.s<|.b 1<|T.GS 15 [ai,am,ak] Z fun _ w Z=>.r [0]<|GA.Lb 1 0 Z<|.r [2]<|GA.Lb (q:=2) 3 4 Z<|GA.Ln (q:=2) 4 4 Z<|.r [5]<|GA.Lb (q:=2) 6 4 Z<|.r [7]<|gx (h:=AB) d.list i fun aj ab=>?_
  have aP:=Ab ab; have ar:=AV ab
  refine GA.Ix 8 5 ab Z<|Z.el 5 ab fun Z=>GA.Lh 9 0 0 Z<|GA.D0 10 Z (fun w Y=>Cs d aj (Y.a 7) (Y.a 6) (Y.a 5))<|gx (h:=(by exact Hv p3 ‹_›)) d.files ((Al d aj).toNat) fun aq ac=>?_
  exact GA.Jx (hz:=(by exact Hw p3 ‹_›)) 11 7 (Al d aj) ac Z<|.r [12]<|Z.el 7 ac fun aS aT aU aV Z=>GA.Lg 13 0 1 Z<|.go 14<|GE.Nb 1 Z fun aW w Z=>GA.Do Z fun w Z=>RG.Ap 2 0 aa aq.part [1,2] Z fun aE aF w Z=>.r 1<|RG.Ss 0 Z fun w Z=>.d<|.ib 1<|.g<|.r 1<|.it ((i:Int)+1)<|.r 1<|.d<|ah (i+1,ae,a_s_0,c_s_0,af,a_s_1,c_s_1,(aa++[aq.part]),aE,aF,ag,r_s_3,c_s_3) _ _ AA (Z.to 0 [4,5] 6) ⟨AB,‹_›,‹_›,‹_›,(by simp; omega),(by exact mapStep ‹_› ‹_› (DR ‹_›).symm)⟩ (by (simp only []; omega))
 refine .d<|.cf<|.x 0 rfl<|.s<|.g<|RG.Ln 0 Z<|RG.Ss 3 Z fun w Z=>.d ?_
 have Z:=(Z.sl 2).sl 1
 exact T.Rb 1 func119 results119 Z ⟨Z.rS (g:=1) (⟨(⟨ae,af⟩:Idx),aa,ag⟩:Sto) [2,3,1,0] (by have q1:aa=_:=GY ‹_› AB; subst_vars; rfl),Z.xt⟩
theorem Mb (d:Dsk) (h1:RepS w F a1 n1 c1 d.files) (h2:RepS w F a2 n2 c2 d.list) (h3:RepS w F a3 n3 c3 d.names) (p0:∀ n∈d.names,n.length≤1100000):Calls Tryz.prog 148 [.agg #[.slice a1 n1 c1,.slice a2 n2 c2,.slice a3 n3 c3,.int .i64 d.next]].toArray w (Af fun rv w'=>rv=.bool (Ak d)∧Ext w w'):=by
 cases h1.len
 cases h2.len
 cases h3.len
 refine goT func148 ?_
 have Z:=(((St.i0 F w).p h1).p h2).p h3
 have aM:=h1.max
 have aN:=h2.max
 have aO:=h3.max
 refine .s<|.g<|RG.Np Z fun aq w Z=>.r 1<|.d<|.s<|.s<|.g<|.r 1<|RG.Lb 0 Z<|RG.C0 (CD d.next 1 999 (F:=all)) Z fun w Z=>?_
 cases am:(inR d.next 1 999)
 ·exact .r 19<|.d<|.ct<|.s<|.g<|.r 1<|.d<|T.rt func148 results148 (.bool false) ⟨(AG (by symm; exact Qw (.inl ‹_›))),Z.xt⟩
 have aQ:=Bt am
 refine .r 3<|RG.Lb 0 Z<|.r 1<|.bp ((d.files.length:Int) > 20) (fun ar=>.r 13<|.d<|.ct<|.s<|.g<|.r 1<|.d<|T.rt func148 results148 (.bool false) ⟨(AG (by symm; exact Qw (.inr (.inl ‹_›)))),Z.xt⟩) fun ar=>.r 3<|RG.Lb 0 Z<|.r 1<|.bp ((d.list.length:Int) > 6) (fun ax=>.r 7<|.d<|.ct<|.s<|.g<|.r 1<|.d<|T.rt func148 results148 (.bool false) ⟨(AG (by symm; exact Qw (.inr (.inr (.inl ‹_›))))),Z.xt⟩) fun ax=>.r 3<|RG.Lb 0 Z<|.r 1<|.bp ((d.names.length:Int) > 6) (fun ay=>.r 1<|.d<|.ct<|.s<|.g<|.r 1<|.d<|T.rt func148 results148 (.bool false) ⟨(AG (by symm; exact Qw (.inr (.inr (.inr ‹_›))))),Z.xt⟩) fun ay=>.r 1<|.d<|.cf<|.sk<|.s<|.s<|.g<|.r 1<|.d<|.b 0<|T.Lp (0:Nat) (fun k=>([(1,vP aq),(3,vI (k:Int))],[],[],d.files.length - k,(k≤d.files.length)∧(Cm d.next (KA d.files k) (d.files.drop k)=Cm d.next none d.files))) [] Z ⟨AD,AF⟩ ?_
 rintro k bm w Z ⟨aR,aS⟩ ac
 refine .s<|.s<|.g<|.r 2<|RG.Lb 0 Z<|.r 1<|.bp ((k:Int)< (d.files.length:Int)) (fun az=>?_) (fun az=>?_)
 ·refine .d<|.ct<|.sk<|.s<|.b 1<|.s<|T.Gd 35 Z fun w Z=>.r [0]<|GA.Lb 1 0 Z<|.r [2]<|gx d.files k fun af aa=>?_
  have aT:=Ab aa
  refine GA.Ix 3 2 aa Z<|.r [4]<|Z.el 2 aa fun bn bo bq br Z=>GA.Lh 5 0 0 Z<|.r [6]<|GA.Lb 7 0 Z<|GA.int (i:=8) (d.next - 1) AA AB<|GA.C0 9 Z (fun w Z=>CD af.num 1 (d.next - 1) (F:=all)) ?_
  cases ao:(inR af.num 1 (d.next - 1))
  ·exact .r [10,11,12,13,14,15,16,17,18,19,20,21,22,23,24,25,26,27,28,29,30,31,32,33,34]<|GA.Dn Z fun w Z=>.r 6<|.d<|.ct<|.s<|.g<|.r 1<|.d<|T.rt func148 results148 (.bool false) ⟨(AG (by symm; exact Ps (Ha ‹_› ‹_› (.inl ‹_›)))),Z.xt⟩
  refine .r [10,11,12]<|GA.Em (i:=13) ((k:Int) > 0) AA (fun aA=>?_) (fun aA=>?_)
  ·refine .r [14,15]<|GA.Lb 16 0 Z<|.r [17]<|GA.int (i:=18) ((k:Int) - 1) AA AB<|gx d.files (k - 1) fun aK ag=>?_
   refine GA.Jx 19 5 ((k:Int) - 1) ag Z<|.r [20]<|Z.el 5 ag fun bu bv bw bz Z=>GA.Lh 21 0 0 Z<|.r [22]<|GA.Lb 23 0 Z<|.r [24]<|GA.Ix 25 8 aa Z<|.r [26]<|GA.Lh 27 3 0 Z<|GA.Em (i:=28) (aK.num≥af.num) AA (fun aB=>.r [29,30,31,32,33,34]<|GA.Dn Z fun w Z=>.r 6<|.d<|.ct<|.s<|.g<|.r 1<|.d<|T.rt func148 results148 (.bool false) ⟨(AG (by symm; exact Ps (Ha ‹_› ‹_› (.inr (.inl ⟨by omega,_,by assumption,by assumption⟩))))),Z.xt⟩) fun aB=>.r [29,30,31,32]<|GA.Lb 33 0 Z<|.r [34]<|GA.Dn Z fun w Z=>RG.Ix 8 aa Z<|.r 1<|RG.Lg 3 1 Z<|RG.C0 (Fq af.part (Z.a 4) (Z.a 5)) Z fun w Z=>?_
   cases aX:(Ai af.part)
   ·exact .r 2<|.d<|.ct<|.s<|.g<|.r 1<|.d<|T.rt func148 results148 (.bool false) ⟨(AG (by symm; exact Ps (Ha ‹_› ‹_› (.inr (.inr ‹_›))))),Z.xt⟩
   exact .r 2<|.d<|.cf<|.sk<|.ib 1<|.g<|.r 1<|.it ((k:Int)+1)<|.r 1<|.d<|ac (k+1) _ _ AA (Z.to 0 [] 6) ⟨AB,(by exact JO ‹_› ‹_› ‹_› ‹_› (.inr ⟨_,by assumption,by assumption⟩) ‹_›)⟩ (by (simp only []; omega))
  refine .r [14,15,16,17,18,19,20,21,22,23,24,25,26,27,28,29,30,31,32]<|GA.Lb 33 0 Z<|.r [34]<|GA.Dn Z fun w Z=>RG.Ix 5 aa Z<|.r 1<|RG.Lg 0 1 Z<|RG.C0 (Fq af.part (Z.a 1) (Z.a 2)) Z fun w Z=>?_
  cases aY:(Ai af.part)
  ·exact .r 2<|.d<|.ct<|.s<|.g<|.r 1<|.d<|T.rt func148 results148 (.bool false) ⟨(AG (by symm; exact Ps (Ha ‹_› ‹_› (.inr (.inr ‹_›))))),Z.xt⟩
  exact .r 2<|.d<|.cf<|.sk<|.ib 1<|.g<|.r 1<|.it ((k:Int)+1)<|.r 1<|.d<|ac (k+1) _ _ AA (Z.to 0 [] 3) ⟨AB,(by exact JO ‹_› ‹_› ‹_› ‹_› (.inl AB) ‹_›)⟩ (by (simp only []; omega))
 refine .d<|.cf<|.x 0 rfl<|.s<|.s<|.g<|.r 1<|.d<|.b 2<|T.Lp (0:Nat) (fun k=>([(1,vP aq),(4,vI (k:Int))],[],[],d.list.length - k,(k≤d.list.length)∧(Cm d.next none d.files=true)∧(Sn d k))) [] Z ⟨AD,(by exact Rv ‹_› AB),(by exact UN _)⟩ ?_
 rintro k bA w Z ⟨aZ,ba,bg⟩ ai
 refine .s<|.s<|.g<|.r 2<|RG.Lb 0 Z<|.r 1<|.bp ((k:Int)< (d.list.length:Int)) (fun aC=>?_) (fun aC=>.d<|.cf<|.x 2 rfl<|.s<|.g<|RG.Ln 0 Z<|RG.CS (K1 d (Z.mg 1 2) (Z.mg 1 1) (Z.mg 1 0) AB p0 AB (DP (JP ‹_› AB))) Z fun bC bD bE bF bG bH bI bJ w Z=>RG.C0 (Gu (⟨(⟨(Aj d).idx.names,((Aj d).idx).AX⟩:Idx),(Aj d).parts,(Aj d).mem⟩:Sto) (Z.a 0) (Z.a 1) (Z.a 2) (Z.a 3) (by have q1:=Nf d.names; show (Be d.names).length≤1100000; omega)) Z fun w Z=>.r 1<|.d<|T.rt func148 results148 (.bool (ixB (⟨(⟨(Aj d).idx.names,((Aj d).idx).AX⟩:Idx),(Aj d).parts,(Aj d).mem⟩:Sto).idx&&Ae (⟨(⟨(Aj d).idx.names,((Aj d).idx).AX⟩:Idx),(Aj d).parts,(Aj d).mem⟩:Sto))) ⟨(AG (by exact Zr ‹_› AB AB ‹_› (JP ‹_› AB))),Z.xt⟩)
 refine .d<|.ct<|.sk<|.s<|.b 3<|.s<|.s<|T.Gd 6 Z fun w Z=>GA.Ln 0 0 Z<|.r [1]<|GA.Lb 2 0 Z<|.r [3]<|gx d.list k fun ak ae=>?_
 refine GA.Ix 4 1 ae Z<|Z.el 1 ae fun Z=>GA.Lh 5 0 0 Z<|GA.Dn Z fun w Z=>RG.C0 (Cs d ak (Z.a 3) (Z.a 2) (Z.a 1)) Z fun w Z=>.bp (Al d ak< 0) (fun aD=>.d<|.ct<|.s<|.g<|.r 1<|.d<|T.rt func148 results148 (.bool false) ⟨(AG (by symm; exact Wg (UP ‹_› ‹_›))),Z.xt⟩) fun aD=>.d<|.cf<|.sk<|.s<|.g<|.r 1<|.d<|.b 4<|T.Lp (0:Nat) (fun k1=>([(1,vP aq),(4,vI (k:Int)),(5,vI (k1:Int))],[],[],k - k1,(k1≤k)∧(fresh d ak k1))) [] Z ⟨AB,(by exact Wf _ _)⟩ ?_
 rintro k1 bK w Z ⟨bi,bj⟩ aj
 refine .s<|.s<|.g<|.r 2<|.bp ((k1:Int)< (k:Int)) (fun aE=>?_) (fun aE=>.d<|.cf<|.x 4 rfl<|.ib 3<|.g<|.r 1<|.it ((k:Int)+1)<|.r 1<|.d<|ai (k+1) _ _ AA (Z.to 0 [] 1) ⟨AB,‹_›,(by exact Nw ‹_› ‹_› ‹_› (by assumption:fresh d _ k1) AB)⟩ (by (simp only []; omega)))
 refine .d<|.ct<|.sk<|.s<|.b 5<|.s<|T.Gd 10 Z fun w Z=>.r [0]<|GA.Lb 1 0 Z<|.r [2]<|gx d.list k1 fun aL ah=>?_
 exact GA.Ix 3 2 ah Z<|Z.el 2 ah fun Z=>GA.Lh 4 0 0 Z<|.r [5]<|GA.Lb 6 0 Z<|.r [7]<|GA.Ix 8 3 ae Z<|GA.Lh 9 1 0 Z<|GA.Dn Z fun w Z=>.eq aL ak (fun aF=>.d<|.ct<|.s<|.g<|.r 1<|.d<|T.rt func148 results148 (.bool false) ⟨(AG (by symm; exact Wg (YM (k:=k) (j:=k1) ‹_› ‹_› AB ‹_›))),Z.xt⟩) fun aF=>.d<|.cf<|.sk<|.ib 5<|.g<|.r 1<|.it ((k1:Int)+1)<|.r 1<|.d<|aj (k1+1) _ _ AA (Z.to 0 [] 1) ⟨AB,(by exact Qv ‹_› ‹_› ‹_›)⟩ (by (simp only []; omega))
end Go.Proofs.YtcginoabkicdiaaGreat
namespace Go.Proofs.YtcginoabkicdiaaGreat
set_option maxRecDepth 100000
set_option maxHeartbeats 4000000
variable {w:World} {F:Nat→Prop} {a1 a2 a3 a4 a5 a6 a7:Option Addr} {n1 c1 n2 c2 n3 c3 n4 c4 n5 c5 n6 c6 n7 c7:Nat}
theorem Fj (d:Dsk) (h1:RepS w F a1 n1 c1 d.files) (h2:RepS w F a2 n2 c2 d.list) (h3:RepS w F a3 n3 c3 d.names) (p0:d.names.length≤1100000) (p1:Ct d.names≤1100000) (p2:∀ f∈d.files,PrtI f.part) (p3:d.list.length≤7) (p4:∀ n∈d.list,0≤Al d n):Calls Tryz.prog 158 [.agg #[.slice a1 n1 c1,.slice a2 n2 c2,.slice a3 n3 c3,.int .i64 d.next]].toArray w (Af fun rv w'=>(∃ (y:Sto),VS (ge w.heap.size) w' (y:Sto) rv∧(FR d y))∧Ext w w'):=by
 cases h1.len
 cases h2.len
 cases h3.len
 refine goT func158 ?_
 have Z:=(((St.i0 F w).p h1).p h2).p h3
 refine .s<|.g<|RG.Np Z fun ao w Z=>RG.Np Z fun aq w Z=>.d<|.s<|.g<|.r 1<|RG.Lb 1 Z<|RG.cl (Gs d.names (Z.a 0) p0 p1) ?_
 rintro aW w ⟨⟨ah,aA,aN⟩,ar⟩
 refine RG.vS Z aA ar ?_
 intro aB aC aD aE Z
 refine RG.N0 Prt 0 Z fun aF w Z=>RG.N0 Smp 0 Z fun aG w Z=>.r 1<|RG.Np Z fun aj w Z=>RG.Ss 0 Z fun w Z=>.d<|.s<|.s<|.g<|.r 1<|RG.Lb 4 Z<|.r 2<|.d<|.b 0<|T.Lp ((0:Nat),(ah.names:List (List Tag)),aB,aC,(ah.AX:List Pst),aD,aE,([]:List Prt),aF,(0:Nat),([]:List Smp),aG,(0:Nat)) (fun (k,ab,a_s_0,c_s_0,ac,a_s_1,c_s_1,aa,r_s_2,c_s_2,ae,r_s_3,c_s_3)=>([(1,vP ao),(2,vP aq),(3,vP aj),(13,.slice a2 d.list.length c2),(14,vI (d.list.length:Int)),(15,vI (k:Int))],[(0,.box aj 31 [.slice a_s_0 ab.length c_s_0,.slice a_s_1 ac.length c_s_1,vS r_s_2 aa.length c_s_2,vS r_s_3 ae.length c_s_3]),(1,.own 0 r_s_3 158 c_s_3 ae),(2,.own 0 r_s_2 146 c_s_2 aa)],[⟨0,none,.rep a_s_0 c_s_0 ab⟩,⟨0,none,.rep a_s_1 c_s_1 ac⟩],d.list.length - k,(k≤d.list.length)∧(aa.length≤k)∧(aa++(d.list.drop k).map (Ao d)=d.list.map (Ao d))∧(ae=[])∧(ab=d.names)∧((NmI d.names→NsD d.names→(⟨ab,ac⟩:Idx)=idxOf d.names)))) [0,1] Z ⟨AD,AD,AF,AF,(by have q1:ah.names=d.names∧(NmI d.names→NsD d.names→ah=idxOf d.names):=‹_›; exact q1.1),(by have q1:ah.names=d.names∧(NmI d.names→NsD d.names→ah=idxOf d.names):=‹_›; exact q1.2)⟩ ?_
 rintro ⟨k,ab,a_s_0,c_s_0,ac,a_s_1,c_s_1,aa,r_s_2,c_s_2,ae,r_s_3,c_s_3⟩ aX w Z ⟨aO,aP,aQ,aR,aS,aT⟩ ai
 refine .s<|.g<|.bp ((k:Int)< (d.list.length:Int)) (fun ax=>?_) (fun ax=>?_)
 ·refine .d<|.s<|.ct<|.sk<|.s<|.b 1<|.s<|.g<|gx (h:=AB) d.list k fun ak af=>?_
  have aU:=Ab af; have ay:=AV af
  refine RG.Ix 5 af Z<|Z.el 5 af fun Z=>RG.Lh 0 0 Z<|.r 1<|.d<|T.GS 12 [aj,aq,ao] Z fun _ w Z=>.r [0]<|GA.Lb 1 0 Z<|.r [2]<|GA.Lb (q:=2) 3 4 Z<|GA.Ln (q:=2) 4 4 Z<|.r [5]<|GA.D0 6 Z (fun w Y=>CQ d ak (Y.a 7) (Y.a 6) (Y.a 5))<|gx (h:=(by exact (El (p4 _ ‹_›)).1)) d.files ((Al d ak).toNat) fun am ag=>?_
  have az:=AV ag
  exact GA.Jx (hz:=(by exact (El (p4 _ ‹_›)).2)) 7 7 (Al d ak) ag Z<|.r [8]<|Z.el 7 ag fun aY aZ ba bg Z=>GA.Lg 9 0 1 Z<|.go 10<|GE.CS (fun w Z=>GG am.part (Z.a 1) (Z.a 2) (p2 _ ‹_›).sz) Z fun bh bi bj bk w Z=>.go 11<|GE.Nb 1 Z fun bm w Z=>GA.Do Z fun w Z=>RG.Ap 2 0 aa am.part [0,1] Z fun aI aJ w Z=>.r 1<|RG.Ss 0 Z fun w Z=>.d<|.ib 1<|.g<|RG.int ((k:Int)+1) AA AB<|.r 1<|.d<|ai (k+1,ab,a_s_0,c_s_0,ac,a_s_1,c_s_1,(aa++[am.part]),aI,aJ,ae,r_s_3,c_s_3) _ _ AA (Z.to 0 [6,7] 8) ⟨AB,(by simp; omega),(by exact Nx ‹_› ‹_› ‹_›),‹_›,‹_›,‹_›⟩ (by (simp only []; omega))
 refine .d<|.s<|.cf<|.x 0 rfl<|.s<|.g<|RG.Ln 0 Z<|RG.Ss 3 Z fun w Z=>.d ?_
 have Z:=(Z.sl 2).sl 1
 exact T.Rb 1 func158 results158 Z ⟨⟨((⟨(⟨ab,ac⟩:Idx),aa,ae⟩:Sto):Sto),Z.rS (⟨(⟨ab,ac⟩:Idx),aa,ae⟩:Sto) [2,3,1,0] rfl,(by exact FR.mk ‹_› (Pt ‹_› AB) ‹_› ‹_›)⟩,Z.xt⟩
theorem Hh (d:Dsk) (h1:RepS w F a1 n1 c1 d.files) (h2:RepS w F a2 n2 c2 d.list) (h3:RepS w F a3 n3 c3 d.names) (p0:d.names.length≤1100000) (p1:Ct d.names≤1100000):Calls Tryz.prog 128 [.agg #[.slice a1 n1 c1,.slice a2 n2 c2,.slice a3 n3 c3,.int .i64 d.next]].toArray w (Af fun rv w'=>rv=.bool (Ak d)∧Ext w w'):=by
 cases h1.len
 cases h2.len
 cases h3.len
 refine goT func128 ?_
 have Z:=(((St.i0 F w).p h1).p h2).p h3
 have aH:=h1.max
 have aI:=h2.max
 refine .s<|.g<|RG.Np Z fun am w Z=>.r 1<|.d<|.s<|.s<|.g<|.r 1<|RG.Lb 0 Z<|RG.C0 (CB d.next 1 999 (F:=all)) Z fun w Z=>?_
 cases ai:(inR d.next 1 999)
 ·exact .r 13<|.d<|.ct<|.s<|.g<|.r 1<|.d<|T.rt func128 results128 (.bool false) ⟨(AG (by symm; exact Qw (.inl ‹_›))),Z.xt⟩
 have aL:=Bt ai
 refine .r 3<|RG.Lb 0 Z<|.r 1<|.bp ((d.files.length:Int) > 20) (fun ao=>.r 7<|.d<|.ct<|.s<|.g<|.r 1<|.d<|T.rt func128 results128 (.bool false) ⟨(AG (by symm; exact Qw (.inr (.inl ‹_›)))),Z.xt⟩) fun ao=>.r 3<|RG.Lb 0 Z<|.r 1<|.bp ((d.list.length:Int) > 6) (fun aq=>.r 1<|.d<|.ct<|.s<|.g<|.r 1<|.d<|T.rt func128 results128 (.bool false) ⟨(AG (by symm; exact Qw (.inr (.inr (.inl ‹_›))))),Z.xt⟩) fun aq=>.r 1<|.d<|.cf<|.sk<|.s<|.s<|.g<|.r 1<|RG.Lb 0 Z<|.r 2<|.d<|.b 0<|T.Lp (0:Nat) (fun k=>([(1,vP am),(24,.slice a1 d.files.length c1),(25,vI (d.files.length:Int)),(26,vI (k:Int))],[],[],d.files.length - k,(k≤d.files.length)∧(Cm d.next (KA d.files k) (d.files.drop k)=Cm d.next none d.files))) [] Z ⟨AD,AF⟩ ?_
 rintro k ba w Z ⟨aM,aN⟩ aa
 refine .s<|.g<|.bp ((k:Int)< (d.files.length:Int)) (fun ar=>?_) (fun ar=>?_)
 ·refine .d<|.s<|.ct<|.sk<|.s<|.b 1<|.s<|.g<|.r 1<|gx d.files k fun ab ac=>?_
  have aO:=Ab ac
  refine RG.Ix 2 ac Z<|Z.el 2 ac fun bg bh bi bj Z=>RG.Lg 0 0 Z<|RG.Np Z fun bk w Z=>.r 1<|RG.Ss 0 Z fun w Z=>.d<|.s<|T.Gd 20 Z fun w Z=>.r [0]<|GA.Lb 1 0 Z<|.r [2]<|GA.Lb 3 1 Z<|GA.int (i:=4) (d.next - 1) AA AB<|GA.C0 5 Z (fun w Z=>CB ab.num 1 (d.next - 1) (F:=all)) ?_
  cases aj:(inR ab.num 1 (d.next - 1))
  ·exact .r [6,7]<|GA.Sk Z fun w Z=>.r 9<|.d<|.ct<|.s<|.g<|.r 1<|.d<|T.rt func128 results128 (.bool false) ⟨(AG (by symm; exact Ps (Ha ‹_› ‹_› (.inl ‹_›)))),Z.xt⟩
  refine .r [6,7,8]<|GA.Em (i:=9) ((k:Int) > 0) AA (fun ax=>?_) (fun ax=>?_)
  ·refine .r [10,11]<|GA.Lb 12 1 Z<|.r [13]<|GA.int (i:=14) ((k:Int) - 1) AA AB<|gx d.files (k - 1) fun aF ae=>?_
   refine GA.Jx 15 5 ((k:Int) - 1) ae Z<|.r [16]<|Z.el 5 ae fun bm bn bo bq Z=>GA.Lh 17 0 0 Z<|.r [18]<|GA.Lb 19 0 Z<|GA.Dn Z fun w Z=>.bp (aF.num≥ab.num) (fun ay=>.r 8<|.d<|.ct<|.s<|.g<|.r 1<|.d<|T.rt func128 results128 (.bool false) ⟨(AG (by symm; exact Ps (Ha ‹_› ‹_› (.inr (.inl ⟨by omega,_,by assumption,by assumption⟩))))),Z.xt⟩) fun ay=>.r 4<|RG.Ln 0 Z<|RG.C0 (C6 ab.part (Z.a 4) (Z.a 5)) Z fun w Z=>?_
   cases aS:(Ai ab.part)
   ·exact .r 2<|.d<|.ct<|.s<|.g<|.r 1<|.d<|T.rt func128 results128 (.bool false) ⟨(AG (by symm; exact Ps (Ha ‹_› ‹_› (.inr (.inr ‹_›))))),Z.xt⟩
   exact .r 2<|.d<|.cf<|.sk<|.ib 1<|.g<|.it ((k:Int)+1)<|.r 1<|.d<|aa (k+1) _ _ AA (Z.to 1 [] 6) ⟨AB,(by exact JO ‹_› ‹_› ‹_› ‹_› (.inr ⟨_,by assumption,by assumption⟩) ‹_›)⟩ (by (simp only []; omega))
  refine .r [10]<|GA.Sk Z fun w Z=>.r 5<|RG.Ln 0 Z<|RG.C0 (C6 ab.part (Z.a 1) (Z.a 2)) Z fun w Z=>?_
  cases aT:(Ai ab.part)
  ·exact .r 2<|.d<|.ct<|.s<|.g<|.r 1<|.d<|T.rt func128 results128 (.bool false) ⟨(AG (by symm; exact Ps (Ha ‹_› ‹_› (.inr (.inr ‹_›))))),Z.xt⟩
  exact .r 2<|.d<|.cf<|.sk<|.ib 1<|.g<|.it ((k:Int)+1)<|.r 1<|.d<|aa (k+1) _ _ AA (Z.to 1 [] 3) ⟨AB,(by exact JO ‹_› ‹_› ‹_› ‹_› (.inl AB) ‹_›)⟩ (by (simp only []; omega))
 refine .d<|.s<|.cf<|.x 0 rfl<|.s<|.s<|.g<|.r 1<|RG.Lb 0 Z<|.r 2<|.d<|.b 2<|T.Lp (0:Nat) (fun k=>([(1,vP am),(62,.slice a2 d.list.length c2),(63,vI (d.list.length:Int)),(64,vI (k:Int))],[],[],d.list.length - k,(k≤d.list.length)∧(Cm d.next none d.files=true)∧(Sn d k))) [] Z ⟨AD,(by exact Rv ‹_› AB),(by exact UN _)⟩ ?_
 rintro k br w Z ⟨aU,aV,aW⟩ ag
 refine .s<|.g<|.bp ((k:Int)< (d.list.length:Int)) (fun az=>?_) (fun az=>?_)
 ·refine .d<|.s<|.ct<|.sk<|.s<|.b 3<|.s<|.g<|.r 1<|gx d.list k fun ah af=>?_
  refine RG.Ix 1 af Z<|Z.el 1 af fun Z=>RG.Lh 0 0 Z<|.r 2<|.d<|.s<|.g<|RG.Ln 0 Z<|.r 1<|RG.C0 (CQ d ah (Z.a 3) (Z.a 2) (Z.a 1)) Z fun w Z=>.bp (Al d ah< 0) (fun aA=>.r 8<|.d<|.ct<|.s<|.g<|.r 1<|.d<|T.rt func128 results128 (.bool false) ⟨(AG (by symm; exact Wg (UP ‹_› ‹_›))),Z.xt⟩) fun aA=>.r 2<|RG.Lb 0 Z<|.r 1<|RG.Sb (hhi:=bdS AA) 2 0 k d.list Z fun bu bv Z=>.r 1<|RG.C0 (CY ((d.list.take k).drop 0) ah (Z.a 0)) Z fun w Z=>?_
  cases aY:((d.list.take k).drop 0).contains ah
  ·exact .r 1<|.d<|.cf<|.sk<|.ib 3<|.g<|.it ((k:Int)+1)<|.r 1<|.d<|ag (k+1) _ _ AA (Z.to 0 [] 2) ⟨AB,‹_›,(by exact Nw ‹_› ‹_› ‹_› (UO ‹_›) (Nat.le_refl _))⟩ (by (simp only []; omega))
  exact .r 1<|.d<|.ct<|.s<|.g<|.r 1<|.d<|T.rt func128 results128 (.bool false) ⟨(AG (by symm; exact Wg (YN ‹_› ‹_›))),Z.xt⟩
 refine .d<|.s<|.cf<|.x 2 rfl<|.s<|.g<|RG.Ln 0 Z<|RG.cl (Fj d (Z.a 2) (Z.a 1) (Z.a 0) p0 p1 (Ui ‹_›) AB (DP (JP ‹_› AB))) ?_
 rintro bw w ⟨⟨ak,aG,aZ⟩,aB⟩
 refine RG.vS Z aG aB ?_
 intro bz bA bC bD bE bF bG bH Z
 exact RG.C0 (Ev ak (Z.a 0) (Z.a 1) (Z.a 2) (Z.a 3)) Z fun w Z=>.r 1<|.d<|T.rt func128 results128 (.bool (ixB ak.idx&&Ae ak)) ⟨(AG (by exact pQ (by assumption:FR d _) ‹_› AB AB ‹_› (JP ‹_› AB))),Z.xt⟩
theorem Gv (s:Sto) (d:Dsk) (h1:RepS w F a1 n1 c1 s.idx.names) (h2:RepS w F a2 n2 c2 s.idx.AX) (h3:RepS w F a3 n3 c3 s.parts) (h4:RepS w F a4 n4 c4 s.mem) (h5:RepS w F a5 n5 c5 d.files) (h6:RepS w F a6 n6 c6 d.list) (h7:RepS w F a7 n7 c7 d.names) (p0:d.names.length≤1100000) (p1:Ct d.names≤1100000):Calls Tryz.prog 101 [.agg #[.slice a1 n1 c1,.slice a2 n2 c2,.slice a3 n3 c3,.slice a4 n4 c4],.agg #[.slice a5 n5 c5,.slice a6 n6 c6,.slice a7 n7 c7,.int .i64 d.next]].toArray w (Af fun rv w'=>rv=.bool (ftW d s)∧Ext w w'):=by
 cases h1.len
 cases h2.len
 cases h3.len
 cases h4.len
 cases h5.len
 cases h6.len
 cases h7.len
 refine goT func101 ?_
 have Z:=(((((((St.i0 F w).p h1).p h2).p h3).p h4).p h5).p h6).p h7
 refine .s<|.g<|RG.Np Z fun ay w Z=>RG.Np Z fun az w Z=>.r 1<|.d<|.s<|.s<|T.Gd 14 Z fun w Z=>GA.Ln 0 1 Z<|GA.C0 1 Z (fun w Z=>Ev s (Z.a 6) (Z.a 5) (Z.a 4) (Z.a 3)) ?_
 cases ao:(ixB s.idx&&Ae s)
 ·exact .r [2,3,4,5,6,7,8]<|GA.Sk Z fun w Z=>.r 3<|.d<|.ct<|.s<|.g<|.r 1<|.d<|T.rt func101 results101 (.bool false) ⟨(AG (by exact Zt ‹_›)),Z.xt⟩
 refine .r [2,3]<|GA.Ln 4 0 Z<|GA.C0 5 Z (fun w Z=>Hh d (Z.a 2) (Z.a 1) (Z.a 0) p0 p1) ?_
 cases aq:(Ak d)
 ·exact .r [6,7,8]<|GA.Sk Z fun w Z=>.r 3<|.d<|.ct<|.s<|.g<|.r 1<|.d<|T.rt func101 results101 (.bool false) ⟨(AG (by exact Zs ‹_›)),Z.xt⟩
 refine .r [6,7,8,9]<|GA.Lb 10 1 Z<|GA.Ln 11 0 Z<|.go 12<|GE.Cg (fun w Z=>Fj d (Z.a 2) (Z.a 1) (Z.a 0) p0 p1 (P4 (by assumption:Ak d=true)).file (P4 (by assumption:Ak d=true)).nl (DP (CN ‹_›).2.2.2)) Z ?_
 rintro w aA w Z ⟨⟨ab,ae,ar⟩,aa⟩
 refine ⟨Ext.chg aa,?_⟩
 refine GA.vS Z ae aa ?_
 intro aB aC aD aE aF aG aH aI Z
 refine .r [13]<|GA.Dn Z fun w Z=>RG.C0 (JV s.parts ab.parts (Z.a 8) (Z.a 2)) Z fun w Z=>?_
 cases ax:(s.parts==ab.parts)
 ·exact .r 2<|.d<|.ct<|.s<|.g<|.r 1<|.d<|T.rt func101 results101 (.bool false) ⟨(AG (by exact P5 (by assumption:(ixB s.idx&&Ae s)=true) (Yd ‹_› ‹_›))),Z.xt⟩
 exact .r 2<|.d<|.cf<|.sk<|.s<|.g<|.r 1<|RG.Lb 0 Z<|.r 2<|.d<|.s<|T.Gd 14 Z fun w Z=>.r [0,1,2]<|GA.Lb 3 1 Z<|.r [4]<|GA.Em (i:=5) ((d.names.length:Int)≤(s.idx.names.length:Int)) AA (fun ac=>.r [6,7]<|GA.Lb 8 0 Z<|.r [9,10]<|GA.Lb 11 1 Z<|.r [12]<|GA.Sb (hhi:=bdS AA) 13 10 0 d.names.length s.idx.names Z fun aJ aK Z=>GA.Dn Z fun w Z=>RG.C0 (JU d.names ((s.idx.names.take d.names.length).drop 0) (Z.a 5) (Z.a 0)) Z fun w Z=>.r 2<|.d<|T.rt func101 results101 (.bool (d.names==((s.idx.names.take d.names.length).drop 0))) ⟨(AG (by exact P5 (by assumption:(ixB s.idx&&Ae s)=true) (Yg ‹_› ‹_› (Uj (by assumption:(ixB s.idx&&Ae s)=true)) ‹_› AD))),Z.xt⟩) fun ac=>.r [6]<|GA.Sk Z fun w Z=>.r 3<|.d<|T.rt func101 results101 (.bool false) ⟨(AG (by exact P5 (by assumption:(ixB s.idx&&Ae s)=true) (Yf ‹_›))),Z.xt⟩
theorem K2 (w_:Wld) (h1:RepS w F a1 n1 c1 w_.store.idx.names) (h2:RepS w F a2 n2 c2 w_.store.idx.AX) (h3:RepS w F a3 n3 c3 w_.store.parts) (h4:RepS w F a4 n4 c4 w_.store.mem) (h5:RepS w F a5 n5 c5 w_.disk.files) (h6:RepS w F a6 n6 c6 w_.disk.list) (h7:RepS w F a7 n7 c7 w_.disk.names) (p0:w_.disk.names.length≤1100000) (p1:Ct w_.disk.names≤1100000):Calls Tryz.prog 42 [.agg #[.slice a1 n1 c1,.slice a2 n2 c2,.slice a3 n3 c3,.slice a4 n4 c4,.slice a5 n5 c5,.slice a6 n6 c6,.slice a7 n7 c7,.int .i64 w_.disk.next]].toArray w (Af fun rv w'=>rv=.bool (ftW w_.disk w_.store)∧Ext w w'):=by
 cases h1.len
 cases h2.len
 cases h3.len
 cases h4.len
 cases h5.len
 cases h6.len
 cases h7.len
 refine goT func42 ?_
 have Z:=(((((((St.i0 F w).p h1).p h2).p h3).p h4).p h5).p h6).p h7
 exact .s<|.g<|RG.Np Z fun ai w Z=>.r 1<|.d<|.s<|.g<|.r 1<|RG.Ln 0 Z<|.r 1<|RG.Ln 0 Z<|RG.C0 (Gv w_.store w_.disk (Z.a 6) (Z.a 5) (Z.a 4) (Z.a 3) (Z.a 2) (Z.a 1) (Z.a 0) p0 p1) Z fun w Z=>.r 1<|.d<|T.rt func42 results42 (.bool (ftW w_.disk w_.store)) ⟨(AG AF),Z.xt⟩
theorem K3 (d:Dsk) (s:Sto) (h1:RepS w F a1 n1 c1 d.files) (h2:RepS w F a2 n2 c2 d.list) (h3:RepS w F a3 n3 c3 d.names) (h4:RepS w F a4 n4 c4 s.idx.names) (h5:RepS w F a5 n5 c5 s.idx.AX) (h6:RepS w F a6 n6 c6 s.parts) (h7:RepS w F a7 n7 c7 s.mem) (p0:∀ n∈d.names,n.length≤1100000) (p1:s.idx.AX.length≤1100000):Calls Tryz.prog 93 [.agg #[.slice a1 n1 c1,.slice a2 n2 c2,.slice a3 n3 c3,.int .i64 d.next],.agg #[.slice a4 n4 c4,.slice a5 n5 c5,.slice a6 n6 c6,.slice a7 n7 c7]].toArray w (Af fun rv w'=>rv=.bool (ftW d s)∧Ext w w'):=by
 cases h1.len
 cases h2.len
 cases h3.len
 cases h4.len
 cases h5.len
 cases h6.len
 cases h7.len
 refine goT func93 ?_
 have Z:=(((((((St.i0 F w).p h1).p h2).p h3).p h4).p h5).p h6).p h7
 have aN:=h3.max
 have aQ:=h6.max
 refine .s<|.g<|RG.Np Z fun ar w Z=>RG.Np Z fun ax w Z=>.r 1<|.d<|.s<|.s<|.g<|RG.Ln 1 Z<|RG.C0 (Mb d (Z.a 6) (Z.a 5) (Z.a 4) p0) Z fun w Z=>?_
 cases aS:(Ak d)
 ·exact .r 25<|.d<|.ct<|.s<|.g<|.r 1<|.d<|T.rt func93 results93 (.bool false) ⟨(AG (by exact Zs ‹_›)),Z.xt⟩
 refine .r 2<|RG.Ln 0 Z<|RG.C0 (Gu s (Z.a 3) (Z.a 2) (Z.a 1) (Z.a 0) p1) Z fun w Z=>?_
 cases aT:(ixB s.idx&&Ae s)
 ·exact .r 21<|.d<|.ct<|.s<|.g<|.r 1<|.d<|T.rt func93 results93 (.bool false) ⟨(AG (by exact Zt ‹_›)),Z.xt⟩
 refine .r 4<|RG.Lb 0 Z<|.r 2<|RG.Lb 1 Z<|.r 1<|.ne (s.parts.length:Int) (d.list.length:Int) (fun az=>.r 11<|.d<|.ct<|.s<|.g<|.r 1<|.d<|T.rt func93 results93 (.bool false) ⟨(AG (by exact P5 (by assumption:(ixB s.idx&&Ae s)=true) (Wl ‹_›))),Z.xt⟩) fun az=>.r 4<|RG.Lb 0 Z<|.r 2<|RG.Lb 1 Z<|.r 1<|.bp ((s.idx.names.length:Int)< (d.names.length:Int)) (fun aA=>.r 1<|.d<|.ct<|.s<|.g<|.r 1<|.d<|T.rt func93 results93 (.bool false) ⟨(AG (by exact P5 (by assumption:(ixB s.idx&&Ae s)=true) (Ry ‹_›))),Z.xt⟩) fun aA=>.r 1<|.d<|.cf<|.sk<|.s<|.s<|.g<|.r 1<|.d<|.b 0<|T.Lp (0:Nat) (fun k=>([(2,vP ar),(3,vP ax),(5,vI (k:Int))],[],[],d.names.length - k,(k≤d.names.length)∧(Uc d s k))) [] Z ⟨AB,(by exact YU _ _)⟩ ?_
 rintro k bo w Z ⟨aU,aV⟩ ah
 refine .s<|.s<|.g<|.r 2<|RG.Lb 1 Z<|.r 1<|.bp ((k:Int)< (d.names.length:Int)) (fun aB=>?_) (fun aB=>?_)
 ·refine .d<|.ct<|.sk<|.s<|.b 1<|.s<|T.Gd 12 Z fun w Z=>.r [0]<|GA.Lb 1 1 Z<|.r [2]<|gx (h:=AB) d.names k fun ao ab=>?_
  have aE:=AV ab
  refine GA.Ix 3 4 ab Z<|Z.el 4 ab fun bq br Z=>GA.Lh 4 0 0 Z<|GA.C0 5 Z (fun w Z=>C7 ao (Z.a 1) (by exact (Hc ((Cn (by assumption:Ak d=true)).1.ok _ ‹_›)).1) (by exact (Hc ((Cn (by assumption:Ak d=true)).1.ok _ ‹_›)).2))<|.r [6,7]<|GA.Lb 8 0 Z<|.r [9]<|gx (h:=AB) s.idx.names k fun aq ac=>?_
  have aF:=AV ac
  refine GA.Ix 10 5 ac Z<|Z.el 5 ac fun bu bv Z=>GA.Lh 11 0 0 Z<|GA.Dn Z fun w Z=>RG.C0 (C7 aq (Z.a 1) (by exact (Hc ((He (by assumption:(ixB s.idx&&Ae s)=true)).nm.ok _ ‹_›)).1) (by exact (Hc ((He (by assumption:(ixB s.idx&&Ae s)=true)).nm.ok _ ‹_›)).2)) Z fun w Z=>RG.eqv (v:=.bool (!(text ao==text aq))) AA (O3 (text ao) (text aq)) ?_
  cases aY:(text ao==text aq)
  ·exact .d<|.ct<|.s<|.g<|.r 1<|.d<|T.rt func93 results93 (.bool false) ⟨(AG (by exact P5 (by assumption:(ixB s.idx&&Ae s)=true) (YT ‹_› ‹_› ‹_›))),Z.xt⟩
  exact .d<|.cf<|.sk<|.ib 1<|.g<|.r 1<|.it ((k:Int)+1)<|.r 1<|.d<|ah (k+1) _ _ AA (Z.to 0 [] 4) ⟨AB,(by exact YV ‹_› ‹_› ‹_› ‹_›)⟩ (by (simp only []; omega))
 refine .d<|.cf<|.x 0 rfl<|.s<|.s<|.g<|.r 1<|.d<|.b 2<|T.Lp (0:Nat) (fun k=>([(2,vP ar),(3,vP ax),(6,vI (k:Int))],[],[],d.list.length - k,(k≤d.list.length)∧(Ud d s k))) [] Z ⟨AB,(by exact YX _ _)⟩ ?_
 rintro k bw w Z ⟨aZ,ba⟩ ai
 refine .s<|.s<|.g<|.r 2<|RG.Lb 1 Z<|.r 1<|.bp ((k:Int)< (d.list.length:Int)) (fun aC=>?_) (fun aC=>.d<|.cf<|.x 2 rfl<|.s<|.g<|.r 1<|.d<|T.rt func93 results93 (.bool true) ⟨(AG (by exact P5 (by assumption:(ixB s.idx&&Ae s)=true) (MG ‹_› (Uj (by assumption:(ixB s.idx&&Ae s)=true)) (YY ‹_› AB AB) (YW ‹_› AB (Cn ‹_›).1 (He (by assumption:(ixB s.idx&&Ae s)=true)).nm AB)))),Z.xt⟩)
 refine .d<|.ct<|.sk<|.s<|.b 3<|.s<|T.Gd 13 Z fun w Z=>.r [0]<|GA.Lb 1 1 Z<|GA.Ln 2 1 Z<|.r [3]<|GA.Lb 4 1 Z<|.r [5]<|gx (h:=AB) d.list k fun ay ae=>?_
 have aG:=AV ae
 refine GA.Ix 6 5 ae Z<|Z.el 5 ae fun Z=>GA.Lh 7 0 0 Z<|GA.C0 8 Z (fun w Z=>Cs d ay (Z.a 7) (Z.a 6) (Z.a 5))<|gx (h:=(by exact (El (DP (CN ‹_›).2.2.2 _ ‹_›)).1)) d.files ((Al d ay).toNat) fun aj af=>?_
 have aH:=AV af
 refine GA.Jx (hz:=(by exact (El (DP (CN ‹_›).2.2.2 _ ‹_›)).2)) 9 7 (Al d ay) af Z<|.r [10]<|Z.el 7 af fun bz bA bC bD Z=>GA.Lg 11 0 1 Z<|.go 12<|GE.Np Z fun aJ w Z=>GA.Dn Z fun w Z=>RG.Ss 0 Z fun w Z=>.d<|.s<|.g<|.r 1<|.d<|.b 4<|T.Lp (1:Nat) (fun k1=>([(2,vP ar),(3,vP ax),(6,vI (k:Int)),(7,vP aJ),(8,vI (k1:Int))],[],[],7 - k1,(1≤k1)∧(k1≤7)∧(Ue d s k k1))) [] Z ⟨AB,AB,(by exact YZ _ _ _)⟩ ?_
 rintro k1 bE w Z ⟨bi,bj,bk⟩ ak
 refine .s<|.s<|.g<|.r 1<|.bp ((k1:Int)≤6) (fun aD=>?_) (fun aD=>.d<|.cf<|.x 4 rfl<|.ib 3<|.g<|.r 1<|.it ((k:Int)+1)<|.r 1<|.d<|ai (k+1) _ _ AA (Z.to 1 [] 4) ⟨AB,(by exact Yc ‹_› ‹_› AB (by assumption:Ak d=true) (XS (by assumption:(ixB s.idx&&Ae s)=true)) (He (by assumption:(ixB s.idx&&Ae s)=true)))⟩ (by (simp only []; omega)))
 refine .d<|.ct<|.sk<|.s<|.b 5<|.s<|T.Gd 10 Z fun w Z=>GA.Ln 0 0 Z<|.r [1,4]<|GA.Lb 5 1 Z<|.r [6]<|gx (h:=AB) s.parts k fun am ag=>?_
 have aI:=AV ag
 refine GA.Ix 7 5 ag Z<|Z.el 5 ag fun bF bG bH bI Z=>GA.Lg 8 0 0 Z<|.r [9]<|.go 2<|GE.CL (fun w Z=>EE aj.part (k1:Int) (Z.mg 1 4) (Z.mg 1 5) (by (have q1:=((P4 (by assumption:Ak d=true)).file _ ‹_›).sz.1; omega))) Z fun bJ bK w Z=>GA.C0 3 Z (fun w Z=>Fi (partOf aj.part (k1:Int)) (Z.a 0) (by exact Cd ((P4 (by assumption:Ak d=true)).file _ ‹_›).sz _))<|GA.Dn Z fun w Z=>RG.CL (EE am (k1:Int) (Z.mg 1 2) (Z.mg 1 3) (by (have q1:=((He (by assumption:(ixB s.idx&&Ae s)=true)).part _ ‹_›).sz.1; omega))) Z fun bL bM w Z=>RG.C0 (Fi (partOf am (k1:Int)) (Z.a 0) (by exact Cd ((He (by assumption:(ixB s.idx&&Ae s)=true)).part _ ‹_›).sz _)) Z fun w Z=>RG.eqv (v:=.bool (!(EZ (partOf aj.part (k1:Int))==EZ (partOf am (k1:Int))))) AA (O3 (EZ (partOf aj.part (k1:Int))) (EZ (partOf am (k1:Int)))) ?_
 cases bn:(EZ (partOf aj.part (k1:Int))==EZ (partOf am (k1:Int)))
 ·exact .d<|.ct<|.s<|.g<|.r 1<|.d<|T.rt func93 results93 (.bool false) ⟨(AG (by exact P5 (by assumption:(ixB s.idx&&Ae s)=true) (Yb ‹_› ‹_› ‹_› ‹_›))),Z.xt⟩
 exact .d<|.cf<|.sk<|.ib 5<|.g<|.r 1<|.it ((k1:Int)+1)<|.r 1<|.d<|ak (k1+1) _ _ AA (Z.to 0 [] 5) ⟨AB,AB,(by exact Ya ‹_› (by assumption:Ak d=true) (XS (by assumption:(ixB s.idx&&Ae s)=true)) (He (by assumption:(ixB s.idx&&Ae s)=true)) ‹_› ‹_› ‹_› ‹_›)⟩ (by (simp only []; omega))
theorem K4 (w_:Wld) (h1:RepS w F a1 n1 c1 w_.store.idx.names) (h2:RepS w F a2 n2 c2 w_.store.idx.AX) (h3:RepS w F a3 n3 c3 w_.store.parts) (h4:RepS w F a4 n4 c4 w_.store.mem) (h5:RepS w F a5 n5 c5 w_.disk.files) (h6:RepS w F a6 n6 c6 w_.disk.list) (h7:RepS w F a7 n7 c7 w_.disk.names) (p0:∀ n∈w_.disk.names,n.length≤1100000) (p1:w_.store.idx.AX.length≤1100000):Calls Tryz.prog 37 [.agg #[.slice a1 n1 c1,.slice a2 n2 c2,.slice a3 n3 c3,.slice a4 n4 c4,.slice a5 n5 c5,.slice a6 n6 c6,.slice a7 n7 c7,.int .i64 w_.disk.next]].toArray w (Af fun rv w'=>rv=.bool (ftW w_.disk w_.store)∧Ext w w'):=by
 cases h1.len
 cases h2.len
 cases h3.len
 cases h4.len
 cases h5.len
 cases h6.len
 cases h7.len
 refine goT func37 ?_
 have Z:=(((((((St.i0 F w).p h1).p h2).p h3).p h4).p h5).p h6).p h7
 exact .s<|.g<|RG.Np Z fun ai w Z=>.r 1<|.d<|.s<|.g<|.r 1<|RG.Ln 0 Z<|.r 1<|RG.Ln 0 Z<|RG.C0 (K3 w_.disk w_.store (Z.a 2) (Z.a 1) (Z.a 0) (Z.a 6) (Z.a 5) (Z.a 4) (Z.a 3) p0 p1) Z fun w Z=>.r 1<|.d<|T.rt func37 results37 (.bool (ftW w_.disk w_.store)) ⟨(AG AF),Z.xt⟩
end Go.Proofs.YtcginoabkicdiaaGreat
namespace Go.Proofs.YtcginoabkicdiaaGreat
set_option maxRecDepth 100000
set_option maxHeartbeats 4000000
theorem Ul {x:Idx}(h:IxI x):ixB x=true:=by
 unfold ixB
 rw [Cu.2 h.nm,h.AX]
 simp
theorem Zu {d:Dsk}{s:Sto}(h:SG s):ftW d s=CH d s:=by
 unfold ftW
 cases hf:CH d s with
 | false=>simp
 | true =>
   have hn:=Cu.1 (Ci hf).nm
   rw [Ul ⟨h.ix.eq hn,hn⟩]
   rfl
variable {w:World} {F:Nat→Prop} {a1 a2 a3 a4 a5 a6 a7:Option Addr} {n1 c1 n2 c2 n3 c3 n4 c4 n5 c5 n6 c6 n7 c7:Nat}
theorem Mc (ix:Idx) (h1:RepS w F a1 n1 c1 ix.names) (h2:RepS w F a2 n2 c2 ix.AX) (p0:IxI ix) (p1:NsD ix.names):Calls Tryz.prog 175 [.agg #[.slice a1 n1 c1,.slice a2 n2 c2]].toArray w (Af fun rv w'=>rv=.bool (true)∧Ext w w'):=by
 have hv:=Ul p0
 refine (Gt ix h1 h2).mono ?_
 rintro e w' ⟨v,rfl,h,hx⟩
 exact ⟨v,rfl,h.trans (AG hv),hx⟩
theorem FW (s:Sto) (h1:RepS w F a1 n1 c1 s.idx.names) (h2:RepS w F a2 n2 c2 s.idx.AX) (h3:RepS w F a3 n3 c3 s.parts) (h4:RepS w F a4 n4 c4 s.mem) (p0:SD s):Calls Tryz.prog 121 [.agg #[.slice a1 n1 c1,.slice a2 n2 c2,.slice a3 n3 c3,.slice a4 n4 c4]].toArray w (Af fun rv w'=>rv=.bool (Ae s)∧Ext w w'):=by
 have hv:(ixB s.idx&&Ae s)=Ae s:=by rw [Ul p0.ix]; rfl
 refine (Ev s h1 h2 h3 h4).mono ?_
 rintro e w' ⟨v,rfl,h,hx⟩
 exact ⟨v,rfl,h.trans (AG hv),hx⟩
theorem De (d:Dsk) (h1:RepS w F a1 n1 c1 d.files) (h2:RepS w F a2 n2 c2 d.list) (h3:RepS w F a3 n3 c3 d.names) (p0:DD d):Calls Tryz.prog 128 [.agg #[.slice a1 n1 c1,.slice a2 n2 c2,.slice a3 n3 c3,.int .i64 d.next]].toArray w (Af fun rv w'=>rv=.bool (Ak d)∧Ext w w'):=by
 have q1:=R3 (fun n hn=>(p0.g.nd n hn).1)
 have q2:=p0.g.len
 have hv:Ak d=Ak d:=rfl
 refine (Hh d h1 h2 h3 AB AB).mono ?_
 rintro e w' ⟨v,rfl,h,hx⟩
 exact ⟨v,rfl,h.trans (AG hv),hx⟩
theorem Md (s:Sto) (d:Dsk) (h1:RepS w F a1 n1 c1 s.idx.names) (h2:RepS w F a2 n2 c2 s.idx.AX) (h3:RepS w F a3 n3 c3 s.parts) (h4:RepS w F a4 n4 c4 s.mem) (h5:RepS w F a5 n5 c5 d.files) (h6:RepS w F a6 n6 c6 d.list) (h7:RepS w F a7 n7 c7 d.names) (p0:SG s) (p1:DD d):Calls Tryz.prog 101 [.agg #[.slice a1 n1 c1,.slice a2 n2 c2,.slice a3 n3 c3,.slice a4 n4 c4],.agg #[.slice a5 n5 c5,.slice a6 n6 c6,.slice a7 n7 c7,.int .i64 d.next]].toArray w (Af fun rv w'=>rv=.bool (CH d s)∧Ext w w'):=by
 have q1:=R3 (fun n hn=>(p1.g.nd n hn).1)
 have q2:=p1.g.len
 have hv:=Zu (d:=d) p0
 refine (Gv s d h1 h2 h3 h4 h5 h6 h7 AB AB).mono ?_
 rintro e w' ⟨v,rfl,h,hx⟩
 exact ⟨v,rfl,h.trans (AG hv),hx⟩
end Go.Proofs.YtcginoabkicdiaaGreat
namespace Go.Proofs.YtcginoabkicdiaaGreat
set_option maxRecDepth 100000
set_option maxHeartbeats 4000000
variable {w:World} {F:Nat→Prop} {a1 a2 a3 a4 a5 a6 a7:Option Addr} {n1 c1 n2 c2 n3 c3 n4 c4 n5 c5 n6 c6 n7 c7:Nat}
theorem JZ (d:Dsk) (s:Sto) (h1:RepS w F a1 n1 c1 d.files) (h2:RepS w F a2 n2 c2 d.list) (h3:RepS w F a3 n3 c3 d.names) (h4:RepS w F a4 n4 c4 s.idx.names) (h5:RepS w F a5 n5 c5 s.idx.AX) (h6:RepS w F a6 n6 c6 s.parts) (h7:RepS w F a7 n7 c7 s.mem) (p0:DD d) (p1:SG s):Calls Tryz.prog 61 [.agg #[.slice a1 n1 c1,.slice a2 n2 c2,.slice a3 n3 c3,.int .i64 d.next],.agg #[.slice a4 n4 c4,.slice a5 n5 c5,.slice a6 n6 c6,.slice a7 n7 c7]].toArray w (Af fun rv w'=>VL (ge w.heap.size) w' (At d s:List Stp) rv∧Ext w w'):=by
 cases h1.len
 cases h2.len
 cases h3.len
 cases h4.len
 cases h5.len
 cases h6.len
 cases h7.len
 refine goT func61 ?_
 have Z:=(((((((St.i0 F w).p h1).p h2).p h3).p h4).p h5).p h6).p h7
 have ag:=h2.max
 have ai:=h4.max
 have am:=h7.max
 refine .s<|.g<|RG.Np Z fun ac w Z=>RG.Np Z fun ae w Z=>.r 1<|.d<|.s<|.s<|.g<|RG.Ln 0 Z<|RG.Ln 1 Z<|RG.C0 (Md s d (Z.a 3) (Z.a 2) (Z.a 1) (Z.a 0) (Z.a 6) (Z.a 5) (Z.a 4) p1 p0) Z fun w Z=>?_
 cases ao:(CH d s)
 ·exact .r 17<|.d<|.ct<|.s<|.g<|RG.N0 Stp 0 Z fun bi w Z=>.r 1<|.d<|T.Rt func61 results61 ⟨Z.rM 0 ([]:List Stp) (by exact Zo ‹_›),Z.xt⟩
 refine .r 3<|RG.Lb 0 Z<|.r 1<|.eq (s.mem.length:Int) 0 (fun aa=>.r 11<|.d<|.ct<|.s<|.g<|RG.N0 Stp 0 Z fun bj w Z=>.r 1<|.d<|T.Rt func61 results61 ⟨Z.rM 0 ([]:List Stp) (by exact Yh (.inl ‹_›)),Z.xt⟩) fun aa=>.r 3<|RG.Lb 1 Z<|.r 1<|.eq (d.list.length:Int) 6 (fun ab=>.r 5<|.d<|.ct<|.s<|.g<|RG.N0 Stp 0 Z fun bk w Z=>.r 1<|.d<|T.Rt func61 results61 ⟨Z.rM 0 ([]:List Stp) (by exact Yh (.inr (.inl ‹_›))),Z.xt⟩) fun ab=>.r 2<|RG.Ln 1 Z<|RG.C0 (GL d (Z.a 6) (Z.a 5) (Z.a 4)) Z fun w Z=>?_
 cases aq:(E0 d)
 ·refine .r 1<|.d<|.cf<|.sk<|.s<|T.GS 18 [ae,ac] Z fun _ w Z=>.r [0]<|GA.Lb (q:=1) 1 1 Z<|GA.Ln 2 0 Z<|.r [6]<|GA.Lb (q:=1) 7 1 Z<|.r [9]<|GA.Lb (q:=1) 10 1 Z<|.r [13,14]<|GA.Lb 15 0 Z<|GE.many [3,5,11] AA (all_cons ?_ (all_cons ?_ (all_cons ?_ all_nil)))
  ·refine GE.CS (fun w Z=>CE s (Z.a 3) (Z.a 2) (Z.a 1) (Z.a 0) (StoK.of (C8 p1 ‹_›) (Ci ‹_›).sk).row (StoK.of (C8 p1 ‹_›) (Ci ‹_›).sk).J2.Jq (by have:=p1.nm2; omega)) Z fun bm bn bo bq w Z=>.r [4]<|.tw 5 11 ?_ ?_
   ·refine GE.N0 Int 0 Z fun br w Z=>.tw 8 11 ?_ ?_
    ·exact GE.An (hs:=by (simp only [List.nil_append,List.length_nil,List.length_append,List.length_cons] <;> exact (by have:=p0.nl; omega))) (hf:=.inr Av) 0 7 ([]:List Int) d.list [1,2] Z fun bu bv w Z=>.go 11<|GE.Nb 1 Z fun bw w Z=>.go 12<|GE.Ap (hs:=by (simp only [List.nil_append,List.length_nil,List.length_append,List.length_cons] <;> exact (by have:=p0.nl; omega))) 0 0 ([]++d.list) d.next [] [1,2] Z fun bz bA w Z=>.go 16<|GE.CO 0 (fun w Z=>BH s.idx.names (Z.a 5) (by have:=p1.ix.g.len; omega) (by (intro n hn; have:=(p1.ix.g.sz n hn).1; omega))) Z fun bC bD w Z=>.r [17]<|GA.Do Z fun w Z=>RG.Nl 0 ([(⟨1,d.next,(⟨(Ah s.mem).ids,(Ah s.mem).blocks⟩:Prt),([]:List Int),([]:List (List Tag))⟩:Stp),(⟨2,0,(⟨([]:List Int),([]:List (List Row))⟩:Prt),(([]++d.list)++[d.next]),s.idx.names⟩:Stp)]:List Stp) [[6,7,5,4],[1,0,3,2]] ((((((Z.nl Int).nl (List Tag)).sl 1).sl 0).nl Int).nl (List Row)) fun bE w Z=>.r 1<|.d<|T.Rt func61 results61 ⟨Z.rM 0 ([(⟨1,d.next,(⟨(Ah s.mem).ids,(Ah s.mem).blocks⟩:Prt),([]:List Int),([]:List (List Tag))⟩:Stp),(⟨2,0,(⟨([]:List Int),([]:List (List Row))⟩:Prt),(([]++d.list)++[d.next]),s.idx.names⟩:Stp)]:List Stp) (by exact P3 ‹_› ‹_› ‹_› ‹_› p0),Z.xt⟩
    exact GE.Nb 1 Z fun bF w Z=>.go 8<|GE.An (hs:=by (simp only [List.nil_append,List.length_nil,List.length_append,List.length_cons] <;> exact (by have:=p0.nl; omega))) (hf:=.inr Av) 1 7 ([]:List Int) d.list [2,3] Z fun bG bH w Z=>.go 12<|GE.Ap (hs:=by (simp only [List.nil_append,List.length_nil,List.length_append,List.length_cons] <;> exact (by have:=p0.nl; omega))) 0 0 ([]++d.list) d.next [] [1,2] Z fun bI bJ w Z=>.go 16<|GE.CO 0 (fun w Z=>BH s.idx.names (Z.a 5) (by have:=p1.ix.g.len; omega) (by (intro n hn; have:=(p1.ix.g.sz n hn).1; omega))) Z fun bK bL w Z=>.r [17]<|GA.Do Z fun w Z=>RG.Nl 0 ([(⟨1,d.next,(⟨(Ah s.mem).ids,(Ah s.mem).blocks⟩:Prt),([]:List Int),([]:List (List Tag))⟩:Stp),(⟨2,0,(⟨([]:List Int),([]:List (List Row))⟩:Prt),(([]++d.list)++[d.next]),s.idx.names⟩:Stp)]:List Stp) [[6,7,5,4],[1,0,3,2]] ((((((Z.nl Int).nl (List Tag)).sl 1).sl 0).nl Int).nl (List Row)) fun bM w Z=>.r 1<|.d<|T.Rt func61 results61 ⟨Z.rM 0 ([(⟨1,d.next,(⟨(Ah s.mem).ids,(Ah s.mem).blocks⟩:Prt),([]:List Int),([]:List (List Tag))⟩:Stp),(⟨2,0,(⟨([]:List Int),([]:List (List Row))⟩:Prt),(([]++d.list)++[d.next]),s.idx.names⟩:Stp)]:List Stp) (by exact P3 ‹_› ‹_› ‹_› ‹_› p0),Z.xt⟩
   exact GE.Nb 1 Z fun bN w Z=>.go 5<|GE.N0 Int 0 Z fun bO w Z=>.go 8<|GE.An (hs:=by (simp only [List.nil_append,List.length_nil,List.length_append,List.length_cons] <;> exact (by have:=p0.nl; omega))) (hf:=.inr Av) 0 7 ([]:List Int) d.list [2,3] Z fun bP bQ w Z=>.go 12<|GE.Ap (hs:=by (simp only [List.nil_append,List.length_nil,List.length_append,List.length_cons] <;> exact (by have:=p0.nl; omega))) 0 1 ([]++d.list) d.next [] [1,2] Z fun bR bS w Z=>.go 16<|GE.CO 0 (fun w Z=>BH s.idx.names (Z.a 5) (by have:=p1.ix.g.len; omega) (by (intro n hn; have:=(p1.ix.g.sz n hn).1; omega))) Z fun bT bU w Z=>.r [17]<|GA.Do Z fun w Z=>RG.Nl 0 ([(⟨1,d.next,(⟨(Ah s.mem).ids,(Ah s.mem).blocks⟩:Prt),([]:List Int),([]:List (List Tag))⟩:Stp),(⟨2,0,(⟨([]:List Int),([]:List (List Row))⟩:Prt),(([]++d.list)++[d.next]),s.idx.names⟩:Stp)]:List Stp) [[6,7,5,4],[1,0,3,2]] ((((((Z.nl Int).nl (List Tag)).sl 1).sl 0).nl Int).nl (List Row)) fun bV w Z=>.r 1<|.d<|T.Rt func61 results61 ⟨Z.rM 0 ([(⟨1,d.next,(⟨(Ah s.mem).ids,(Ah s.mem).blocks⟩:Prt),([]:List Int),([]:List (List Tag))⟩:Stp),(⟨2,0,(⟨([]:List Int),([]:List (List Row))⟩:Prt),(([]++d.list)++[d.next]),s.idx.names⟩:Stp)]:List Stp) (by exact P3 ‹_› ‹_› ‹_› ‹_› p0),Z.xt⟩
  ·refine GE.N0 Int 0 Z fun bW w Z=>.tw 3 11 ?_ ?_
   ·refine GE.CS (fun w Z=>CE s (Z.a 3) (Z.a 2) (Z.a 1) (Z.a 0) (StoK.of (C8 p1 ‹_›) (Ci ‹_›).sk).row (StoK.of (C8 p1 ‹_›) (Ci ‹_›).sk).J2.Jq (by have:=p1.nm2; omega)) Z fun bX bY bZ b6 w Z=>.r [4]<|.tw 8 11 ?_ ?_
    ·exact GE.An (hs:=by (simp only [List.nil_append,List.length_nil,List.length_append,List.length_cons] <;> exact (by have:=p0.nl; omega))) (hf:=.inr Av) 0 7 ([]:List Int) d.list [1,2] Z fun b7 b8 w Z=>.go 11<|GE.Nb 1 Z fun b9 w Z=>.go 12<|GE.Ap (hs:=by (simp only [List.nil_append,List.length_nil,List.length_append,List.length_cons] <;> exact (by have:=p0.nl; omega))) 0 0 ([]++d.list) d.next [] [1,2] Z fun cd ce w Z=>.go 16<|GE.CO 0 (fun w Z=>BH s.idx.names (Z.a 5) (by have:=p1.ix.g.len; omega) (by (intro n hn; have:=(p1.ix.g.sz n hn).1; omega))) Z fun cg ci w Z=>.r [17]<|GA.Do Z fun w Z=>RG.Nl 0 ([(⟨1,d.next,(⟨(Ah s.mem).ids,(Ah s.mem).blocks⟩:Prt),([]:List Int),([]:List (List Tag))⟩:Stp),(⟨2,0,(⟨([]:List Int),([]:List (List Row))⟩:Prt),(([]++d.list)++[d.next]),s.idx.names⟩:Stp)]:List Stp) [[6,7,5,4],[1,0,3,2]] ((((((Z.nl Int).nl (List Tag)).sl 1).sl 0).nl Int).nl (List Row)) fun cj w Z=>.r 1<|.d<|T.Rt func61 results61 ⟨Z.rM 0 ([(⟨1,d.next,(⟨(Ah s.mem).ids,(Ah s.mem).blocks⟩:Prt),([]:List Int),([]:List (List Tag))⟩:Stp),(⟨2,0,(⟨([]:List Int),([]:List (List Row))⟩:Prt),(([]++d.list)++[d.next]),s.idx.names⟩:Stp)]:List Stp) (by exact P3 ‹_› ‹_› ‹_› ‹_› p0),Z.xt⟩
    exact GE.Nb 1 Z fun ck w Z=>.go 8<|GE.An (hs:=by (simp only [List.nil_append,List.length_nil,List.length_append,List.length_cons] <;> exact (by have:=p0.nl; omega))) (hf:=.inr Av) 1 7 ([]:List Int) d.list [2,3] Z fun cm co w Z=>.go 12<|GE.Ap (hs:=by (simp only [List.nil_append,List.length_nil,List.length_append,List.length_cons] <;> exact (by have:=p0.nl; omega))) 0 0 ([]++d.list) d.next [] [1,2] Z fun cp cq w Z=>.go 16<|GE.CO 0 (fun w Z=>BH s.idx.names (Z.a 5) (by have:=p1.ix.g.len; omega) (by (intro n hn; have:=(p1.ix.g.sz n hn).1; omega))) Z fun cr cu w Z=>.r [17]<|GA.Do Z fun w Z=>RG.Nl 0 ([(⟨1,d.next,(⟨(Ah s.mem).ids,(Ah s.mem).blocks⟩:Prt),([]:List Int),([]:List (List Tag))⟩:Stp),(⟨2,0,(⟨([]:List Int),([]:List (List Row))⟩:Prt),(([]++d.list)++[d.next]),s.idx.names⟩:Stp)]:List Stp) [[6,7,5,4],[1,0,3,2]] ((((((Z.nl Int).nl (List Tag)).sl 1).sl 0).nl Int).nl (List Row)) fun cw w Z=>.r 1<|.d<|T.Rt func61 results61 ⟨Z.rM 0 ([(⟨1,d.next,(⟨(Ah s.mem).ids,(Ah s.mem).blocks⟩:Prt),([]:List Int),([]:List (List Tag))⟩:Stp),(⟨2,0,(⟨([]:List Int),([]:List (List Row))⟩:Prt),(([]++d.list)++[d.next]),s.idx.names⟩:Stp)]:List Stp) (by exact P3 ‹_› ‹_› ‹_› ‹_› p0),Z.xt⟩
   exact GE.Nb 1 Z fun cx w Z=>.go 3<|GE.CS (fun w Z=>CE s (Z.a 3) (Z.a 2) (Z.a 1) (Z.a 0) (StoK.of (C8 p1 ‹_›) (Ci ‹_›).sk).row (StoK.of (C8 p1 ‹_›) (Ci ‹_›).sk).J2.Jq (by have:=p1.nm2; omega)) Z fun cy cz cA cB w Z=>.r [4]<|.go 8<|GE.An (hs:=by (simp only [List.nil_append,List.length_nil,List.length_append,List.length_cons] <;> exact (by have:=p0.nl; omega))) (hf:=.inr Av) 1 7 ([]:List Int) d.list [2,3] Z fun ar ax w Z=>.go 12<|GE.Ap (hs:=by (simp only [List.nil_append,List.length_nil,List.length_append,List.length_cons] <;> exact (by have:=p0.nl; omega))) 0 0 ([]++d.list) d.next [] [1,2] Z fun ay az w Z=>.go 16<|GE.CO 0 (fun w Z=>BH s.idx.names (Z.a 5) (by have:=p1.ix.g.len; omega) (by (intro n hn; have:=(p1.ix.g.sz n hn).1; omega))) Z fun aA aB w Z=>.r [17]<|GA.Do Z fun w Z=>RG.Nl 0 ([(⟨1,d.next,(⟨(Ah s.mem).ids,(Ah s.mem).blocks⟩:Prt),([]:List Int),([]:List (List Tag))⟩:Stp),(⟨2,0,(⟨([]:List Int),([]:List (List Row))⟩:Prt),(([]++d.list)++[d.next]),s.idx.names⟩:Stp)]:List Stp) [[6,7,5,4],[1,0,3,2]] ((((((Z.nl Int).nl (List Tag)).sl 1).sl 0).nl Int).nl (List Row)) fun aC w Z=>.r 1<|.d<|T.Rt func61 results61 ⟨Z.rM 0 ([(⟨1,d.next,(⟨(Ah s.mem).ids,(Ah s.mem).blocks⟩:Prt),([]:List Int),([]:List (List Tag))⟩:Stp),(⟨2,0,(⟨([]:List Int),([]:List (List Row))⟩:Prt),(([]++d.list)++[d.next]),s.idx.names⟩:Stp)]:List Stp) (by exact P3 ‹_› ‹_› ‹_› ‹_› p0),Z.xt⟩
  refine GE.Nb 1 Z fun aD w Z=>.tw 3 5 ?_ ?_
  ·exact GE.CS (fun w Z=>CE s (Z.a 3) (Z.a 2) (Z.a 1) (Z.a 0) (StoK.of (C8 p1 ‹_›) (Ci ‹_›).sk).row (StoK.of (C8 p1 ‹_›) (Ci ‹_›).sk).J2.Jq (by have:=p1.nm2; omega)) Z fun aE aF aG aH w Z=>.r [4]<|.go 5<|GE.N0 Int 0 Z fun aI w Z=>.go 8<|GE.An (hs:=by (simp only [List.nil_append,List.length_nil,List.length_append,List.length_cons] <;> exact (by have:=p0.nl; omega))) (hf:=.inr Av) 0 7 ([]:List Int) d.list [2,3] Z fun aJ aK w Z=>.go 12<|GE.Ap (hs:=by (simp only [List.nil_append,List.length_nil,List.length_append,List.length_cons] <;> exact (by have:=p0.nl; omega))) 0 1 ([]++d.list) d.next [] [1,2] Z fun aL aM w Z=>.go 16<|GE.CO 0 (fun w Z=>BH s.idx.names (Z.a 5) (by have:=p1.ix.g.len; omega) (by (intro n hn; have:=(p1.ix.g.sz n hn).1; omega))) Z fun aN aO w Z=>.r [17]<|GA.Do Z fun w Z=>RG.Nl 0 ([(⟨1,d.next,(⟨(Ah s.mem).ids,(Ah s.mem).blocks⟩:Prt),([]:List Int),([]:List (List Tag))⟩:Stp),(⟨2,0,(⟨([]:List Int),([]:List (List Row))⟩:Prt),(([]++d.list)++[d.next]),s.idx.names⟩:Stp)]:List Stp) [[6,7,5,4],[1,0,3,2]] ((((((Z.nl Int).nl (List Tag)).sl 1).sl 0).nl Int).nl (List Row)) fun aP w Z=>.r 1<|.d<|T.Rt func61 results61 ⟨Z.rM 0 ([(⟨1,d.next,(⟨(Ah s.mem).ids,(Ah s.mem).blocks⟩:Prt),([]:List Int),([]:List (List Tag))⟩:Stp),(⟨2,0,(⟨([]:List Int),([]:List (List Row))⟩:Prt),(([]++d.list)++[d.next]),s.idx.names⟩:Stp)]:List Stp) (by exact P3 ‹_› ‹_› ‹_› ‹_› p0),Z.xt⟩
  exact GE.N0 Int 0 Z fun aQ w Z=>.go 3<|GE.CS (fun w Z=>CE s (Z.a 3) (Z.a 2) (Z.a 1) (Z.a 0) (StoK.of (C8 p1 ‹_›) (Ci ‹_›).sk).row (StoK.of (C8 p1 ‹_›) (Ci ‹_›).sk).J2.Jq (by have:=p1.nm2; omega)) Z fun aR aS aT aU w Z=>.r [4]<|.go 8<|GE.An (hs:=by (simp only [List.nil_append,List.length_nil,List.length_append,List.length_cons] <;> exact (by have:=p0.nl; omega))) (hf:=.inr Av) 0 7 ([]:List Int) d.list [2,3] Z fun aV aW w Z=>.go 12<|GE.Ap (hs:=by (simp only [List.nil_append,List.length_nil,List.length_append,List.length_cons] <;> exact (by have:=p0.nl; omega))) 0 1 ([]++d.list) d.next [] [1,2] Z fun aX aY w Z=>.go 16<|GE.CO 0 (fun w Z=>BH s.idx.names (Z.a 5) (by have:=p1.ix.g.len; omega) (by (intro n hn; have:=(p1.ix.g.sz n hn).1; omega))) Z fun aZ ba w Z=>.r [17]<|GA.Do Z fun w Z=>RG.Nl 0 ([(⟨1,d.next,(⟨(Ah s.mem).ids,(Ah s.mem).blocks⟩:Prt),([]:List Int),([]:List (List Tag))⟩:Stp),(⟨2,0,(⟨([]:List Int),([]:List (List Row))⟩:Prt),(([]++d.list)++[d.next]),s.idx.names⟩:Stp)]:List Stp) [[6,7,5,4],[1,0,3,2]] ((((((Z.nl Int).nl (List Tag)).sl 1).sl 0).nl Int).nl (List Row)) fun bg w Z=>.r 1<|.d<|T.Rt func61 results61 ⟨Z.rM 0 ([(⟨1,d.next,(⟨(Ah s.mem).ids,(Ah s.mem).blocks⟩:Prt),([]:List Int),([]:List (List Tag))⟩:Stp),(⟨2,0,(⟨([]:List Int),([]:List (List Row))⟩:Prt),(([]++d.list)++[d.next]),s.idx.names⟩:Stp)]:List Stp) (by exact P3 ‹_› ‹_› ‹_› ‹_› p0),Z.xt⟩
 exact .r 1<|.d<|.ct<|.s<|.g<|RG.N0 Stp 0 Z fun bh w Z=>.r 1<|.d<|T.Rt func61 results61 ⟨Z.rM 0 ([]:List Stp) (by exact Yh (.inr (.inr ‹_›))),Z.xt⟩
end Go.Proofs.YtcginoabkicdiaaGreat
