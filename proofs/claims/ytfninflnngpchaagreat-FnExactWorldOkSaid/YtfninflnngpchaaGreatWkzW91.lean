/- walks; squeezed -/
import Derived.Test.YtfninflnngpchaaGreatWkzMod90b
import Derived.Test.YtfninflnngpchaaGreatWkzW90
open Go.Proofs.Tryz
set_option linter.unusedVariables false
set_option linter.unusedSimpArgs false
namespace Go.Proofs.YtfninflnngpchaaGreat
set_option maxRecDepth 100000
set_option maxHeartbeats 4000000
variable {w:World} {F:Nat→Prop} {a1 a2 a3 a4:Option Addr} {n1 c1 n2 c2 n3 c3 n4 c4:Nat}
theorem G1 (names:List (List Tag)) (h1:RepS w F a1 n1 c1 names)  : Calls Tryz.prog 193 [.slice a1 n1 c1].toArray w (Ad fun rv w'=>rv=.bool (nmB names)∧Ext w w'):=by
 cases h1.len
 refine goT func193 ?_
 have Z:=(St.i0 F w).p h1
 have ah:=h1.max
 refine .s<|.g<|.r 1<|.d<|.s<|.s<|.g<|.r 3<|.d<|.b 0<|T.Lp (0:Nat) (fun k=>([(0,.slice a1 names.length c1),(5,.slice a1 names.length c1),(6,vI (names.length:Int)),(7,vI (k:Int))],[],[],names.length - k,(k≤names.length)∧(Nj names k))) [] Z ⟨AD,(by exact QC _)⟩ ?_
 rintro k ao w Z ⟨ai,aj⟩ ab
 refine .s<|.g<|.bp ((k:Int)< (names.length:Int)) (fun ae=>?_) (fun ae=>.d<|.s<|.cf<|.x 0 rfl<|.s<|.g<|.r 4<|.d<|T.rt func193 results193 (.bool (decide ((names.length:Int)≤6))) ⟨(AG (by exact Nk ‹_› AB)),Z.xt⟩)
 refine .d<|.s<|.ct<|.sk<|.s<|.b 1<|.s<|.g<|.r 1<|gx names k fun ac aa=>?_
 have ak:=drop_at aa; have ag:=AV aa
 refine RG.Ix 0 aa Z<|Z.el 0 aa fun aq ar Z=>RG.Lh 0 0 Z<|.r 2<|.d<|.s<|.g<|.r 1<|RG.C0 (IS ac (Z.a 1)) Z fun w Z=>?_
 cases am:(Aj ac)
 ·exact .r 9<|.d<|.ct<|.s<|.g<|.r 1<|.d<|T.rt func193 results193 (.bool false) ⟨(AG (by first | exact HH ‹_› (.inl ‹_›) | exact HH ‹_› (.inr ‹_›))),Z.xt⟩
 exact .r 4<|RG.C0 (Gv names ac (Z.a 2) (Z.a 1)) Z fun w Z=>.r 1<|.it ((k:Int)+1)<|.ne (DL ac 0 names+1) ((k:Int)+1) (fun af=>.r 1<|.d<|.ct<|.s<|.g<|.r 1<|.d<|T.rt func193 results193 (.bool false) ⟨(AG (by first | exact HH ‹_› (.inl ‹_›) | exact HH ‹_› (.inr ‹_›))),Z.xt⟩) fun af=>.r 1<|.d<|.cf<|.sk<|.ib 1<|.g<|.it ((k:Int)+1)<|.r 1<|.d<|ab (k+1) _ _ AA (Z.to 0 [] 2) ⟨AB,(by exact MR ‹_› ‹_› ‹_› (by first | assumption | omega))⟩ (by first | omega | (simp only []; omega))
theorem G2 (ix:Idx) (h1:RepS w F a1 n1 c1 ix.names) (h2:RepS w F a2 n2 c2 ix.Ae)  : Calls Tryz.prog 138 [.agg #[.slice a1 n1 c1,.slice a2 n2 c2]].toArray w (Ad fun rv w'=>rv=.bool (ixB ix)∧Ext w w'):=by
 cases h1.len
 cases h2.len
 refine goT func138 ?_
 have Z:=((St.i0 F w).p h1).p h2
 have aa:=h1.max
 have ab:=h2.max
 refine .s<|.g<|RG.Np Z fun ae w Z=>.r 1<|.d<|.s<|T.Gd 10 Z fun w Z=>.r [0]<|GA.Lb 1 0 Z<|GA.C0 2 Z (fun w Z=>G1 ix.names (Z.a 1)) ?_
 cases ac:(nmB ix.names)
 ·exact .r [3]<|GA.Sk Z fun w Z=>.r 3<|.d<|T.rt func138 results138 (.bool false) ⟨(AG (by exact Bi ‹_›)),Z.xt⟩
 exact .r [3,4]<|GA.Lb 5 0 Z<|.r [6]<|GA.Lb 7 0 Z<|.go 8<|GE.CS (fun w Z=>Hm ix.names (Z.a 1) (CC.1 ‹_›) (L1 (CC.1 ‹_›))) Z fun af ag ah ai w Z=>.r [9]<|GA.Dn Z fun w Z=>RG.C0 (Fc ix.Ae ((idxOf ix.names).Ae) (Z.a 2) (Z.a 1)) Z fun w Z=>.r 2<|.d<|T.rt func138 results138 (.bool (ix.Ae==((idxOf ix.names).Ae))) ⟨(AG (by first | exact Bi ‹_› | exact Pm ‹_›)),Z.xt⟩
theorem G3 (ix:Idx) (h1:RepS w F a1 n1 c1 ix.names) (h2:RepS w F a2 n2 c2 ix.Ae) (p0:ix.Ae.length≤1100000):Calls Tryz.prog 127 [.agg #[.slice a1 n1 c1,.slice a2 n2 c2]].toArray w (Ad fun rv w'=>rv=.bool (ixB ix)∧Ext w w'):=by
 cases h1.len
 cases h2.len
 refine goT func127 ?_
 have Z:=((St.i0 F w).p h1).p h2
 have aL:=h1.max
 have aM:=h2.max
 refine .s<|.g<|RG.Np Z fun az w Z=>.r 1<|.d<|.s<|.s<|.g<|.r 1<|RG.Lb 0 Z<|.r 1<|.bp ((ix.names.length:Int) > 6) (fun aA=>.d<|.ct<|.s<|.g<|.r 1<|.d<|T.rt func127 results127 (.bool false) ⟨(AG (by first | exact Bi (D8 ‹_›).symm | exact Bi (Ep ‹_› ‹_›).symm | exact Bi (Er (k:=k1) (j:=k2) ‹_› ‹_› AB ‹_›).symm | exact EI (k:=k1) ‹_› (.inl ‹_›) | exact EI (k:=k1) ‹_› (.inr (.inl ‹_›)) | exact EI (k:=k1) ‹_› (.inr (.inr ⟨by omega,_,by assumption,by assumption⟩)))),Z.xt⟩) fun aA=>.d<|.cf<|.sk<|.s<|.g<|.r 1<|.d<|.s<|.s<|.g<|.r 1<|.d<|.b 0<|T.Lp ((0:Int),(0:Nat)) (fun (k,k1)=>([(1,vP az),(3,vI k),(4,vI (k1:Int))],[],[],ix.names.length - k1,(k1≤ix.names.length)∧(okS ix.names k1)∧(k=(((ix.names.take k1).map List.length).sum:Nat))∧(0≤k)∧(k≤3 * k1))) [] Z ⟨AD,(by exact Qy _),AD,AD,AD⟩ ?_
 rintro ⟨k,k1⟩ bn w Z ⟨aN,aO,aP,aQ,aR⟩ ao
 refine .s<|.s<|.g<|.r 2<|RG.Lb 0 Z<|.r 1<|.bp ((k1:Int)< (ix.names.length:Int)) (fun aB=>?_) (fun aB=>?_)
 ·refine .d<|.ct<|.sk<|.s<|.b 1<|.s<|.s<|.g<|.r 1<|RG.Lb 0 Z<|.r 1<|gx ix.names k1 fun ac ag=>?_
  have aS:=drop_at ag; have aH:=AV ag
  refine RG.Ix 1 ag Z<|Z.el 1 ag fun bo bq Z=>RG.Lh 0 0 Z<|RG.C0 (IQ ac (Z.a 1)) Z fun w Z=>?_
  cases aT:(Aj ac)
  ·exact .r 1<|.d<|.ct<|.s<|.g<|.r 1<|.d<|T.rt func127 results127 (.bool false) ⟨(AG (by first | exact Bi (D8 ‹_›).symm | exact Bi (Ep ‹_› ‹_›).symm | exact Bi (Er (k:=k1) (j:=k2) ‹_› ‹_› AB ‹_›).symm | exact EI (k:=k1) ‹_› (.inl ‹_›) | exact EI (k:=k1) ‹_› (.inr (.inl ‹_›)) | exact EI (k:=k1) ‹_› (.inr (.inr ⟨by omega,_,by assumption,by assumption⟩)))),Z.xt⟩
  refine .r 1<|.d<|.cf<|.sk<|.s<|.s<|.g<|.r 1<|.d<|.b 2<|T.Lp (0:Nat) (fun k2=>([(1,vP az),(3,vI k),(4,vI (k1:Int)),(5,vI (k2:Int))],[],[],k1 - k2,(k2≤k1)∧(apart ix.names ac k2))) [] Z ⟨AB,(by exact O7 _ _)⟩ ?_
  rintro k2 br w Z ⟨aU,aV⟩ aq
  refine .s<|.s<|.g<|.r 2<|.bp ((k2:Int)< (k1:Int)) (fun aC=>?_) (fun aC=>.d<|.cf<|.x 2 rfl<|.g<|.r 2<|RG.Lb 0 Z<|.r 1<|RG.Ix 3 ag Z<|RG.Lh 0 0 Z<|.r 1<|RG.int (k+(ac.length:Int)) AA (by first | omega | (have q1:=(BY (by assumption:Aj ac=true)).1; omega) | (have q2:=Cl ix.names NOEL.tag; have q3:NOEL.ids=ids ix.names NOEL.tag:=eq_of_beq ‹_›; rw [← q3] at q2; have q4:=(by assumption:NmI ix.names).len; omega))<|.r 1<|.d<|.ib 1<|.g<|.r 1<|RG.int ((k1:Int)+1) AA (by first | omega | (have q1:=(BY (by assumption:Aj ac=true)).1; omega) | (have q2:=Cl ix.names NOEL.tag; have q3:NOEL.ids=ids ix.names NOEL.tag:=eq_of_beq ‹_›; rw [← q3] at q2; have q4:=(by assumption:NmI ix.names).len; omega))<|.r 1<|.d<|ao (k+(ac.length:Int),k1+1) _ _ AA (Z.to 0 [] 2) ⟨AB,(by exact Nn ‹_› ‹_› ‹_› (by assumption:apart _ _ k2) AB),(by rw [HG (f:=List.length) ‹_›]; omega),AB,(by have q1:=(BY (by assumption:Aj ac=true)).1; omega)⟩ (by first | omega | (simp only []; omega)))
  refine .d<|.ct<|.sk<|.s<|.b 3<|.s<|T.Gd 11 Z fun w Z=>.r [0]<|GA.Lb 1 0 Z<|.r [2]<|GA.Ix 3 3 ag Z<|GA.Lh 4 0 0 Z<|GA.C0 5 Z (fun w Z=>Ck ac (Z.a 1) (by first | exact (Bz ‹_›).1 | exact (Bz ((by assumption:okS ix.names k1) k2 _ AB ‹_›).1).1) (by first | exact (Bz ‹_›).2 | exact (Bz ((by assumption:okS ix.names k1) k2 _ AB ‹_›).1).2))<|.r [6]<|GA.Lb 7 0 Z<|.r [8]<|gx ix.names k2 fun ay aj=>?_
  have aW:=drop_at aj; have aI:=AV aj
  refine GA.Ix 9 3 aj Z<|Z.el 3 aj fun bu bv Z=>GA.Lh 10 0 0 Z<|GA.Dn Z fun w Z=>RG.C0 (Ck ay (Z.a 1) (by first | exact (Bz ‹_›).1 | exact (Bz ((by assumption:okS ix.names k1) k2 _ AB ‹_›).1).1) (by first | exact (Bz ‹_›).2 | exact (Bz ((by assumption:okS ix.names k1) k2 _ AB ‹_›).1).2)) Z fun w Z=>RG.eqv (v:=.bool ((text ac==text ay))) AA (Qm (text ac) (text ay)) ?_
  cases aX:(text ac==text ay)
  ·exact .d<|.cf<|.sk<|.ib 3<|.g<|.r 1<|RG.int ((k2:Int)+1) AA (by first | omega | (have q1:=(BY (by assumption:Aj ac=true)).1; omega) | (have q2:=Cl ix.names NOEL.tag; have q3:NOEL.ids=ids ix.names NOEL.tag:=eq_of_beq ‹_›; rw [← q3] at q2; have q4:=(by assumption:NmI ix.names).len; omega))<|.r 1<|.d<|aq (k2+1) _ _ AA (Z.to 0 [] 2) ⟨AB,(by exact K2 ‹_› ‹_› ‹_›)⟩ (by first | omega | (simp only []; omega))
  exact .d<|.ct<|.s<|.g<|.r 1<|.d<|T.rt func127 results127 (.bool false) ⟨(AG (by first | exact Bi (D8 ‹_›).symm | exact Bi (Ep ‹_› ‹_›).symm | exact Bi (Er (k:=k1) (j:=k2) ‹_› ‹_› AB ‹_›).symm | exact EI (k:=k1) ‹_› (.inl ‹_›) | exact EI (k:=k1) ‹_› (.inr (.inl ‹_›)) | exact EI (k:=k1) ‹_› (.inr (.inr ⟨by omega,_,by assumption,by assumption⟩)))),Z.xt⟩
 refine .d<|.cf<|.x 0 rfl<|.s<|.s<|.g<|.r 1<|.d<|.b 4<|T.Lp (k,(0:Nat)) (fun (k,k1)=>([(1,vP az),(3,vI k),(6,vI (k1:Int))],[],[],ix.Ae.length - k1,(k1≤ix.Ae.length)∧(NmI ix.names)∧(k=(By ix.names:Int) - (((ix.Ae.take k1).map (fun p=>p.ids.length)).sum:Nat))∧(k≤18)∧(k ≥ - (6 * k1:Int))∧(okP ix k1))) [] Z ⟨AB,(by exact O8 ‹_› AB AB),(by have q1:ix.names.take k1=ix.names:=List.take_of_length_le AB; have q2:k=(((ix.names.take k1).map List.length).sum:Nat):=‹_›; rw [q1] at q2; simp [q2,By]),AB,AB,(by exact Q9 _)⟩ ?_
 rintro ⟨k,k1⟩ bw w Z ⟨aY,aZ,ba,bd,bg,bh⟩ ai
 refine .s<|.s<|.g<|.r 2<|RG.Lb 0 Z<|.r 1<|.bp ((k1:Int)< (ix.Ae.length:Int)) (fun aD=>?_) (fun aD=>.d<|.cf<|.x 4 rfl<|.s<|.g<|.r 3<|.d<|T.rt func127 results127 (.bool (k==0)) ⟨(AG (by exact RA ‹_› AB ‹_› ‹_›)),Z.xt⟩)
 refine .d<|.ct<|.sk<|.s<|.b 5<|.s<|.g<|.r 1<|RG.Lb 0 Z<|.r 1<|gx ix.Ae k1 fun aa ak=>?_
 have bi:=drop_at ak; have aJ:=AV ak
 refine RG.Ix 0 ak Z<|Z.el 0 ak fun bz bA Z=>RG.Lg 0 0 Z<|RG.Np Z fun bB w Z=>RG.Ss 0 Z fun w Z=>.d<|.s<|.s<|T.Gd 28 Z fun w Z=>.r [0]<|GA.Lb 1 0 Z<|.r [2]<|GA.eqI (i:=3) (a:=(aa.ids.length:Int)) (b:=0) AA (fun aE=>.r [4,5,6,7,8,9,10,11,12,13,14,15]<|GA.Sk Z fun w Z=>.r 4<|.d<|.ct<|.s<|.g<|.r 1<|.d<|T.rt func127 results127 (.bool false) ⟨(AG (by first | exact Bi (D8 ‹_›).symm | exact Bi (Ep ‹_› ‹_›).symm | exact Bi (Er (k:=k1) (j:=k2) ‹_› ‹_› AB ‹_›).symm | exact EI (k:=k1) ‹_› (.inl ‹_›) | exact EI (k:=k1) ‹_› (.inr (.inl ‹_›)) | exact EI (k:=k1) ‹_› (.inr (.inr ⟨by omega,_,by assumption,by assumption⟩)))),Z.xt⟩) fun aE=>.r [4,5]<|GA.Lb 6 0 Z<|.r [7]<|GA.Lb 8 1 Z<|.r [9]<|GA.Ln 10 0 Z<|.go 11<|GE.CL (fun w Z=>E1 ix.names aa.tag (Z.a 3) (by have q4:=(by assumption:NmI ix.names).len; omega)) Z fun bC bD w Z=>GA.C0 12 Z (fun w Z=>HV aa.ids (ids ix.names aa.tag) (Z.a 2) (Z.a 0)) ?_
 cases bj:(aa.ids==(ids ix.names aa.tag))
 ·exact .r [13,14,15]<|GA.Sk Z fun w Z=>.r 4<|.d<|.ct<|.s<|.g<|.r 1<|.d<|T.rt func127 results127 (.bool false) ⟨(AG (by first | exact Bi (D8 ‹_›).symm | exact Bi (Ep ‹_› ‹_›).symm | exact Bi (Er (k:=k1) (j:=k2) ‹_› ‹_› AB ‹_›).symm | exact EI (k:=k1) ‹_› (.inl ‹_›) | exact EI (k:=k1) ‹_› (.inr (.inl ‹_›)) | exact EI (k:=k1) ‹_› (.inr (.inr ⟨by omega,_,by assumption,by assumption⟩)))),Z.xt⟩
 refine .r [13,14,15,16]<|GA.Cr (i:=17) ((k1:Int) > 0) AA (fun aF=>?_) (fun aF=>.r [18]<|GA.Sk Z fun w Z=>.r 4<|.d<|.cf<|.sk<|.g<|.r 2<|RG.Lb 0 Z<|.r 1<|RG.int (k - (aa.ids.length:Int)) AA (by first | omega | (have q1:=(BY (by assumption:Aj ac=true)).1; omega) | (have q2:=Cl ix.names aa.tag; have q3:aa.ids=ids ix.names aa.tag:=eq_of_beq ‹_›; rw [← q3] at q2; have q4:=(by assumption:NmI ix.names).len; omega))<|.r 1<|.d<|.ib 5<|.g<|.r 1<|RG.int ((k1:Int)+1) AA (by first | omega | (have q1:=(BY (by assumption:Aj ac=true)).1; omega) | (have q2:=Cl ix.names aa.tag; have q3:aa.ids=ids ix.names aa.tag:=eq_of_beq ‹_›; rw [← q3] at q2; have q4:=(by assumption:NmI ix.names).len; omega))<|.r 1<|.d<|ai (k - (aa.ids.length:Int),k1+1) _ _ AA (Z.to 1 [] 3) ⟨AB,‹_›,(by rw [HG (f:=fun p=>p.ids.length) (l:=ix.Ae) (i:=k1) (x:=aa) ‹_›]; omega),AB,(by have q2:=Cl ix.names aa.tag; have q3:aa.ids=ids ix.names aa.tag:=eq_of_beq ‹_›; rw [← q3] at q2; have q4:=(by assumption:NmI ix.names).len; omega),(by exact Pn ‹_› ‹_› ‹_› ‹_› (by first | exact .inl AB | exact .inr ⟨_,by assumption,by assumption⟩))⟩ (by first | omega | (simp only []; omega)))
 refine .r [18,19]<|GA.Lb 20 1 Z<|.r [21]<|GA.int (i:=22) ((k1:Int) - 1) AA (by first | omega | (have q1:=(BY (by assumption:Aj ac=true)).1; omega) | (have q2:=Cl ix.names aa.tag; have q3:aa.ids=ids ix.names aa.tag:=eq_of_beq ‹_›; rw [← q3] at q2; have q4:=(by assumption:NmI ix.names).len; omega))<|gx ix.Ae (k1 - 1) fun aG am=>?_
 have bk:=drop_at am; have aK:=AV am
 refine GA.Jx 23 3 ((k1:Int) - 1) am Z<|.r [24]<|Z.el 3 am fun bE bF Z=>GA.Lg 25 0 0 Z<|.r [26]<|GA.Ln 27 0 Z<|GA.Dn Z fun w Z=>RG.C0 (HY aG.tag aa.tag (F:=all)) Z fun w Z=>?_
 cases bm:(BO aG.tag aa.tag)
 ·exact .r 3<|.d<|.ct<|.s<|.g<|.r 1<|.d<|T.rt func127 results127 (.bool false) ⟨(AG (by first | exact Bi (D8 ‹_›).symm | exact Bi (Ep ‹_› ‹_›).symm | exact Bi (Er (k:=k1) (j:=k2) ‹_› ‹_› AB ‹_›).symm | exact EI (k:=k1) ‹_› (.inl ‹_›) | exact EI (k:=k1) ‹_› (.inr (.inl ‹_›)) | exact EI (k:=k1) ‹_› (.inr (.inr ⟨by omega,_,by assumption,by assumption⟩)))),Z.xt⟩
 exact .r 3<|.d<|.cf<|.sk<|.g<|.r 2<|RG.Lb 0 Z<|.r 1<|RG.int (k - (aa.ids.length:Int)) AA (by first | omega | (have q1:=(BY (by assumption:Aj ac=true)).1; omega) | (have q2:=Cl ix.names aa.tag; have q3:aa.ids=ids ix.names aa.tag:=eq_of_beq ‹_›; rw [← q3] at q2; have q4:=(by assumption:NmI ix.names).len; omega))<|.r 1<|.d<|.ib 5<|.g<|.r 1<|RG.int ((k1:Int)+1) AA (by first | omega | (have q1:=(BY (by assumption:Aj ac=true)).1; omega) | (have q2:=Cl ix.names aa.tag; have q3:aa.ids=ids ix.names aa.tag:=eq_of_beq ‹_›; rw [← q3] at q2; have q4:=(by assumption:NmI ix.names).len; omega))<|.r 1<|.d<|ai (k - (aa.ids.length:Int),k1+1) _ _ AA (Z.to 1 [] 5) ⟨AB,‹_›,(by rw [HG (f:=fun p=>p.ids.length) (l:=ix.Ae) (i:=k1) (x:=aa) ‹_›]; omega),AB,(by have q2:=Cl ix.names aa.tag; have q3:aa.ids=ids ix.names aa.tag:=eq_of_beq ‹_›; rw [← q3] at q2; have q4:=(by assumption:NmI ix.names).len; omega),(by exact Pn ‹_› ‹_› ‹_› ‹_› (by first | exact .inl AB | exact .inr ⟨_,by assumption,by assumption⟩))⟩ (by first | omega | (simp only []; omega))
theorem EF (s:Sto) (h1:RepS w F a1 n1 c1 s.idx.names) (h2:RepS w F a2 n2 c2 s.idx.Ae) (h3:RepS w F a3 n3 c3 s.parts) (h4:RepS w F a4 n4 c4 s.mem) (p0:s.idx.Ae.length≤1100000):Calls Tryz.prog 57 [.agg #[.slice a1 n1 c1,.slice a2 n2 c2,.slice a3 n3 c3,.slice a4 n4 c4]].toArray w (Ad fun rv w'=>rv=.bool (ixB s.idx&&AZ s)∧Ext w w'):=by
 cases h1.len
 cases h2.len
 cases h3.len
 cases h4.len
 refine goT func57 ?_
 have Z:=((((St.i0 F w).p h1).p h2).p h3).p h4
 have aA:=h1.max
 have aB:=h2.max
 have aC:=h3.max
 have aD:=h4.max
 refine .s<|.g<|RG.Np Z fun ai w Z=>.r 1<|.d<|.s<|.g<|.r 2<|RG.Lb 0 Z<|.r 2<|.d<|.s<|.s<|.g<|.r 1<|RG.Ln 0 Z<|RG.C0 (G3 s.idx (Z.a 3) (Z.a 2) p0) Z fun w Z=>?_
 cases aE:(ixB s.idx)
 ·exact .r 13<|.d<|.ct<|.s<|.g<|.r 1<|.d<|T.rt func57 results57 (.bool false) ⟨(AG (by first | rfl | (rw [Bool.true_and]; symm; first | exact BB AB | exact BC (BP ‹_› ‹_› ‹_›) | exact BD (BP ‹_› ‹_› (by simp [BR, *])) | exact BE (Cv ‹_› AB AB AB)))),Z.xt⟩
 refine .r 3<|RG.Lb 0 Z<|.r 1<|.bp ((s.parts.length:Int) > 6) (fun aj=>.r 7<|.d<|.ct<|.s<|.g<|.r 1<|.d<|T.rt func57 results57 (.bool false) ⟨(AG (by first | rfl | (rw [Bool.true_and]; symm; first | exact BB AB | exact BC (BP ‹_› ‹_› ‹_›) | exact BD (BP ‹_› ‹_› (by simp [BR, *])) | exact BE (Cv ‹_› AB AB AB)))),Z.xt⟩) fun aj=>.r 3<|RG.Lb 0 Z<|.r 1<|.bp ((s.mem.length:Int) > 20) (fun ak=>.r 1<|.d<|.ct<|.s<|.g<|.r 1<|.d<|T.rt func57 results57 (.bool false) ⟨(AG (by first | rfl | (rw [Bool.true_and]; symm; first | exact BB AB | exact BC (BP ‹_› ‹_› ‹_›) | exact BD (BP ‹_› ‹_› (by simp [BR, *])) | exact BE (Cv ‹_› AB AB AB)))),Z.xt⟩) fun ak=>.r 1<|.d<|.cf<|.sk<|.s<|.s<|.g<|.r 1<|.d<|.b 0<|T.Lp (0:Nat) (fun k=>([(1,vP ai),(3,vI (s.idx.names.length:Int)),(4,vI (k:Int))],[],[],s.parts.length - k,(k≤s.parts.length)∧((s.parts.drop k).all (fun p=>Ax p s.idx.names.length)=s.parts.all (fun p=>Ax p s.idx.names.length))∧(ixB s.idx=true))) [] Z ⟨AD,AF,‹_›⟩ ?_
 rintro k aZ w Z ⟨aF,aG,aH⟩ ac
 refine .s<|.s<|.g<|.r 2<|RG.Lb 0 Z<|.r 1<|.bp ((k:Int)< (s.parts.length:Int)) (fun am=>?_) (fun am=>?_)
 ·refine .d<|.ct<|.sk<|.s<|.b 1<|.s<|.g<|.r 1<|RG.Lb 0 Z<|.r 1<|gx s.parts k fun ao ab=>?_
  have aI:=drop_at ab; have ay:=AV ab
  refine RG.Ix 1 ab Z<|Z.el 1 ab fun ba bd bg bh Z=>RG.Lg 0 0 Z<|.r 1<|RG.C0 (HX ao (s.idx.names.length:Int) (Z.a 1) (Z.a 2)) Z fun w Z=>?_
  cases aJ:(Ax ao (s.idx.names.length:Int))
  ·exact .r 1<|.d<|.ct<|.s<|.g<|.r 1<|.d<|T.rt func57 results57 (.bool false) ⟨(AG (by first | rfl | (rw [Bool.true_and]; symm; first | exact BB AB | exact BC (BP ‹_› ‹_› ‹_›) | exact BD (BP ‹_› ‹_› (by simp [BR, *])) | exact BE (Cv ‹_› AB AB AB)))),Z.xt⟩
  exact .r 1<|.d<|.cf<|.sk<|.ib 1<|.g<|.r 1<|RG.int ((k:Int)+1) AA (by have q1:=(Gq ‹_›).2.len; omega)<|.r 1<|.d<|ac (k+1) _ _ AA (Z.to 0 [] 3) ⟨AB,(by exact FX ‹_› ‹_› ‹_›),‹_›⟩ (by first | omega | (simp only []; omega))
 refine .d<|.cf<|.x 0 rfl<|.s<|.s<|.g<|.r 1<|.d<|.b 2<|T.Lp (0:Nat) (fun k=>([(1,vP ai),(3,vI (s.idx.names.length:Int)),(5,vI (k:Int))],[],[],s.mem.length - k,(k≤s.mem.length)∧(s.parts.all (fun p=>Ax p s.idx.names.length)=true)∧((s.mem.drop k).all (BR s.idx.names.length)=s.mem.all (BR s.idx.names.length))∧(ixB s.idx=true))) [] Z ⟨AD,(by exact Hd ‹_› AB),AD,‹_›⟩ ?_
 rintro k bi w Z ⟨aL,aM,aN,aO⟩ ae
 refine .s<|.s<|.g<|.r 2<|RG.Lb 0 Z<|.r 1<|.bp ((k:Int)< (s.mem.length:Int)) (fun aq=>?_) (fun aq=>?_)
 ·refine .d<|.ct<|.sk<|.s<|.b 3<|.s<|.g<|.r 1<|RG.Lb 0 Z<|.r 1<|gx s.mem k fun ag aa=>?_
  have aP:=drop_at aa; have az:=AV aa
  refine RG.Ix 0 aa Z<|.r 1<|Z.el 0 aa fun Z=>RG.Lh 0 0 Z<|.r 1<|RG.C0 (Bb ag.id 1 (s.idx.names.length:Int) (F:=all)) Z fun w Z=>?_
  cases ah:(inR ag.id 1 (s.idx.names.length:Int))
  ·have aQ:=EP ah
   exact .r 11<|.d<|.ct<|.s<|.g<|.r 1<|.d<|T.rt func57 results57 (.bool false) ⟨(AG (by first | rfl | (rw [Bool.true_and]; symm; first | exact BB AB | exact BC (BP ‹_› ‹_› ‹_›) | exact BD (BP ‹_› ‹_› (by simp [BR, *])) | exact BE (Cv ‹_› AB AB AB)))),Z.xt⟩
  have aR:=Bh ah
  refine .r 3<|RG.Lb 0 Z<|.r 1<|RG.Ix 1 aa Z<|.r 1<|RG.Lg 0 1 Z<|RG.C0 (FQ ag.row (F:=all)) Z fun w Z=>?_
  cases aS:(BF ag.row)
  ·exact .r 2<|.d<|.ct<|.s<|.g<|.r 1<|.d<|T.rt func57 results57 (.bool false) ⟨(AG (by first | rfl | (rw [Bool.true_and]; symm; first | exact BB AB | exact BC (BP ‹_› ‹_› ‹_›) | exact BD (BP ‹_› ‹_› (by simp [BR, *])) | exact BE (Cv ‹_› AB AB AB)))),Z.xt⟩
  exact .r 2<|.d<|.cf<|.sk<|.ib 3<|.g<|.r 1<|RG.int ((k:Int)+1) AA (by have q1:=(Gq ‹_›).2.len; omega)<|.r 1<|.d<|ae (k+1) _ _ AA (Z.to 0 [] 1) ⟨AB,‹_›,(by exact FX ‹_› ‹_› (by simp only [BR, *]; rfl)),‹_›⟩ (by first | omega | (simp only []; omega))
 refine .d<|.cf<|.x 2 rfl<|.s<|.s<|.g<|.r 1<|.d<|.b 4<|T.Lp (1:Nat) (fun k=>([(1,vP ai),(3,vI (s.idx.names.length:Int)),(6,vI (k:Int))],[],[],s.idx.names.length+1 - k,(1≤k)∧(k≤s.idx.names.length+1)∧(s.parts.all (fun p=>Ax p s.idx.names.length)=true)∧(s.mem.all (BR s.idx.names.length)=true)∧(((List.range s.idx.names.length).drop (k - 1)).all (Cu s)=(List.range s.idx.names.length).all (Cu s))∧(ixB s.idx=true))) [] Z ⟨AB,AB,‹_›,(by exact Hd ‹_› AB),AF,‹_›⟩ ?_
 rintro k bj w Z ⟨aT,aU,aV,aW,aX,aY⟩ af
 exact .s<|.s<|.g<|.r 2<|.bp ((k:Int)≤(s.idx.names.length:Int)) (fun ar=>.d<|.ct<|.sk<|.s<|.b 5<|.s<|.g<|RG.Ln 0 Z<|.r 1<|RG.CL (HZ s (k:Int) (Z.a 3) (Z.a 2) (Z.a 1) (Z.a 0) AB (fun p hp=>(ptW ‹_› p hp).1.sz) AB) Z fun bk bm w Z=>.r 1<|.bp ((((rowsOf s (k:Int)).length):Int) > 24) (fun ax=>.d<|.ct<|.s<|.g<|.r 1<|.d<|T.rt func57 results57 (.bool false) ⟨(AG (by first | rfl | (rw [Bool.true_and]; symm; first | exact BB AB | exact BC (BP ‹_› ‹_› ‹_›) | exact BD (BP ‹_› ‹_› (by simp [BR, *])) | exact BE (Cv ‹_› AB AB AB)))),Z.xt⟩) fun ax=>.d<|.cf<|.sk<|.ib 5<|.g<|.r 1<|RG.int ((k:Int)+1) AA (by have q1:=(Gq ‹_›).2.len; omega)<|.r 1<|.d<|af (k+1) _ _ AA (Z.to 0 [] 1) ⟨AB,AB,‹_›,‹_›,(by exact Lr ‹_› AB AB AB),‹_›⟩ (by first | omega | (simp only []; omega))) fun ar=>.d<|.cf<|.x 4 rfl<|.s<|.g<|.r 1<|.d<|T.rt func57 results57 (.bool true) ⟨(AG (by rw [Bool.true_and]; symm; exact I8 AB AB ‹_› ‹_› (NT ‹_› AB))),Z.xt⟩
theorem EG (s:Sto) (h1:RepS w F a1 n1 c1 s.idx.names) (h2:RepS w F a2 n2 c2 s.idx.Ae) (h3:RepS w F a3 n3 c3 s.parts) (h4:RepS w F a4 n4 c4 s.mem)  : Calls Tryz.prog 68 [.agg #[.slice a1 n1 c1,.slice a2 n2 c2,.slice a3 n3 c3,.slice a4 n4 c4]].toArray w (Ad fun rv w'=>rv=.bool (ixB s.idx&&AZ s)∧Ext w w'):=by
 cases h1.len
 cases h2.len
 cases h3.len
 cases h4.len
 refine goT func68 ?_
 have Z:=((((St.i0 F w).p h1).p h2).p h3).p h4
 have aC:=h1.max
 have aD:=h2.max
 have aE:=h3.max
 have aF:=h4.max
 refine .s<|.g<|RG.Np Z fun aj w Z=>.r 1<|.d<|.s<|.s<|.g<|.r 1<|RG.Ln 0 Z<|RG.C0 (G2 s.idx (Z.a 3) (Z.a 2)) Z fun w Z=>?_
 cases aG:(ixB s.idx)
 ·exact .r 13<|.d<|.ct<|.s<|.g<|.r 1<|.d<|T.rt func68 results68 (.bool false) ⟨(AG (by first | rfl | (rw [Bool.true_and]; symm; first | exact BB AB | exact BC (BP ‹_› ‹_› (by first | exact CT ‹_› | exact CU ‹_› | exact CV ‹_› ‹_› ‹_›)) | exact BD (BP ‹_› ‹_› (by simp [BR, *])) | exact BE (Cv ‹_› AB AB AB)))),Z.xt⟩
 refine .r 3<|RG.Lb 0 Z<|.r 1<|.bp ((s.parts.length:Int) > 6) (fun ak=>.r 7<|.d<|.ct<|.s<|.g<|.r 1<|.d<|T.rt func68 results68 (.bool false) ⟨(AG (by first | rfl | (rw [Bool.true_and]; symm; first | exact BB AB | exact BC (BP ‹_› ‹_› (by first | exact CT ‹_› | exact CU ‹_› | exact CV ‹_› ‹_› ‹_›)) | exact BD (BP ‹_› ‹_› (by simp [BR, *])) | exact BE (Cv ‹_› AB AB AB)))),Z.xt⟩) fun ak=>.r 3<|RG.Lb 0 Z<|.r 1<|.bp ((s.mem.length:Int) > 20) (fun am=>.r 1<|.d<|.ct<|.s<|.g<|.r 1<|.d<|T.rt func68 results68 (.bool false) ⟨(AG (by first | rfl | (rw [Bool.true_and]; symm; first | exact BB AB | exact BC (BP ‹_› ‹_› (by first | exact CT ‹_› | exact CU ‹_› | exact CV ‹_› ‹_› ‹_›)) | exact BD (BP ‹_› ‹_› (by simp [BR, *])) | exact BE (Cv ‹_› AB AB AB)))),Z.xt⟩) fun am=>.r 1<|.d<|.cf<|.sk<|.s<|.g<|.r 2<|RG.Lb 0 Z<|.r 2<|.d<|.s<|.s<|.g<|.r 1<|RG.Lb 0 Z<|.r 2<|.d<|.b 0<|T.Lp (0:Nat) (fun k=>([(1,vP aj),(3,vI (s.idx.names.length:Int)),(30,.slice a3 s.parts.length c3),(31,vI (s.parts.length:Int)),(32,vI (k:Int))],[],[],s.parts.length - k,(k≤s.parts.length)∧((s.parts.drop k).all (fun p=>Ax p s.idx.names.length)=s.parts.all (fun p=>Ax p s.idx.names.length))∧(ixB s.idx=true))) [] Z ⟨AD,AF,‹_›⟩ ?_
 rintro k bd w Z ⟨aH,aI,aJ⟩ ac
 refine .s<|.g<|.bp ((k:Int)< (s.parts.length:Int)) (fun ao=>?_) (fun ao=>?_)
 ·refine .d<|.s<|.ct<|.sk<|.s<|.b 1<|.s<|.g<|gx s.parts k fun ae aa=>?_
  have aK:=drop_at aa; have aA:=AV aa
  refine RG.Ix 1 aa Z<|Z.el 1 aa fun bg bh bi bj Z=>RG.Lg 0 0 Z<|RG.Np Z fun bk w Z=>RG.Ss 0 Z fun w Z=>.d<|.s<|.g<|RG.Ln 0 Z<|RG.C0 (Cj ae (Z.a 1) (Z.a 2)) Z fun w Z=>?_
  cases aL:(Ac ae)
  ·exact .r 14<|.d<|.ct<|.s<|.g<|.r 1<|.d<|T.rt func68 results68 (.bool false) ⟨(AG (by first | rfl | (rw [Bool.true_and]; symm; first | exact BB AB | exact BC (BP ‹_› ‹_› (by first | exact CT ‹_› | exact CU ‹_› | exact CV ‹_› ‹_› ‹_›)) | exact BD (BP ‹_› ‹_› (by simp [BR, *])) | exact BE (Cv ‹_› AB AB AB)))),Z.xt⟩
  exact .r 3<|RG.Lb 0 Z<|.r 1<|.eq (ae.ids.length:Int) 0 (fun aq=>.r 8<|.d<|.ct<|.s<|.g<|.r 1<|.d<|T.rt func68 results68 (.bool false) ⟨(AG (by first | rfl | (rw [Bool.true_and]; symm; first | exact BB AB | exact BC (BP ‹_› ‹_› (by first | exact CT ‹_› | exact CU ‹_› | exact CV ‹_› ‹_› ‹_›)) | exact BD (BP ‹_› ‹_› (by simp [BR, *])) | exact BE (Cv ‹_› AB AB AB)))),Z.xt⟩) fun aq=>.r 3<|RG.Lb 0 Z<|RG.C0 (ET ae.ids (Z.a 1) AB) Z fun w Z=>.r 1<|.bp (maxOf ae.ids > (s.idx.names.length:Int)) (fun ar=>.r 1<|.d<|.ct<|.s<|.g<|.r 1<|.d<|T.rt func68 results68 (.bool false) ⟨(AG (by first | rfl | (rw [Bool.true_and]; symm; first | exact BB AB | exact BC (BP ‹_› ‹_› (by first | exact CT ‹_› | exact CU ‹_› | exact CV ‹_› ‹_› ‹_›)) | exact BD (BP ‹_› ‹_› (by simp [BR, *])) | exact BE (Cv ‹_› AB AB AB)))),Z.xt⟩) fun ar=>.r 1<|.d<|.cf<|.sk<|.ib 1<|.g<|RG.int ((k:Int)+1) AA (by have q1:=(Gq ‹_›).2.len; omega)<|.r 1<|.d<|ac (k+1) _ _ AA (Z.to 1 [] 3) ⟨AB,(by exact FX ‹_› ‹_› (Ni ‹_› ‹_› ‹_›)),‹_›⟩ (by first | omega | (simp only []; omega))
 refine .d<|.s<|.cf<|.x 0 rfl<|.s<|.s<|.g<|.r 1<|RG.Lb 0 Z<|.r 2<|.d<|.b 2<|T.Lp (0:Nat) (fun k=>([(1,vP aj),(3,vI (s.idx.names.length:Int)),(54,.slice a4 s.mem.length c4),(55,vI (s.mem.length:Int)),(56,vI (k:Int))],[],[],s.mem.length - k,(k≤s.mem.length)∧(s.parts.all (fun p=>Ax p s.idx.names.length)=true)∧((s.mem.drop k).all (BR s.idx.names.length)=s.mem.all (BR s.idx.names.length))∧(ixB s.idx=true))) [] Z ⟨AD,(by exact Hd ‹_› AB),AD,‹_›⟩ ?_
 rintro k bm w Z ⟨aN,aO,aP,aQ⟩ af
 refine .s<|.g<|.bp ((k:Int)< (s.mem.length:Int)) (fun ax=>?_) (fun ax=>?_)
 ·refine .d<|.s<|.ct<|.sk<|.s<|.b 3<|.s<|.g<|gx s.mem k fun ah ab=>?_
  have aR:=drop_at ab; have aB:=AV ab
  refine RG.Ix 0 ab Z<|Z.el 0 ab fun Z=>RG.Lg 0 0 Z<|RG.Np Z fun bn w Z=>RG.Ss 0 Z fun w Z=>.d<|.s<|.g<|.r 1<|RG.Lb 0 Z<|.r 1<|RG.C0 (Be ah.id 1 (s.idx.names.length:Int) (F:=all)) Z fun w Z=>?_
  cases ai:(inR ah.id 1 (s.idx.names.length:Int))
  ·have aS:=EP ai
   exact .r 7<|.d<|.ct<|.s<|.g<|.r 1<|.d<|T.rt func68 results68 (.bool false) ⟨(AG (by first | rfl | (rw [Bool.true_and]; symm; first | exact BB AB | exact BC (BP ‹_› ‹_› (by first | exact CT ‹_› | exact CU ‹_› | exact CV ‹_› ‹_› ‹_›)) | exact BD (BP ‹_› ‹_› (by simp [BR, *])) | exact BE (Cv ‹_› AB AB AB)))),Z.xt⟩
  have aT:=Bh ai
  refine .r 3<|RG.Ln 0 Z<|RG.C0 (FP ah.row (F:=all)) Z fun w Z=>?_
  cases aU:(BF ah.row)
  ·exact .r 2<|.d<|.ct<|.s<|.g<|.r 1<|.d<|T.rt func68 results68 (.bool false) ⟨(AG (by first | rfl | (rw [Bool.true_and]; symm; first | exact BB AB | exact BC (BP ‹_› ‹_› (by first | exact CT ‹_› | exact CU ‹_› | exact CV ‹_› ‹_› ‹_›)) | exact BD (BP ‹_› ‹_› (by simp [BR, *])) | exact BE (Cv ‹_› AB AB AB)))),Z.xt⟩
  exact .r 2<|.d<|.cf<|.sk<|.ib 3<|.g<|RG.int ((k:Int)+1) AA (by have q1:=(Gq ‹_›).2.len; omega)<|.r 1<|.d<|af (k+1) _ _ AA (Z.to 1 [] 1) ⟨AB,‹_›,(by exact FX ‹_› ‹_› (by simp only [BR, *]; rfl)),‹_›⟩ (by first | omega | (simp only []; omega))
 refine .d<|.s<|.cf<|.x 2 rfl<|.s<|.s<|.g<|.r 1<|.d<|.b 4<|T.Lp (1:Nat) (fun k=>([(1,vP aj),(3,vI (s.idx.names.length:Int)),(8,vI (k:Int))],[],[],s.idx.names.length+1 - k,(1≤k)∧(k≤s.idx.names.length+1)∧(s.parts.all (fun p=>Ax p s.idx.names.length)=true)∧(s.mem.all (BR s.idx.names.length)=true)∧(((List.range s.idx.names.length).drop (k - 1)).all (Cu s)=(List.range s.idx.names.length).all (Cu s))∧(ixB s.idx=true))) [] Z ⟨AB,AB,‹_›,(by exact Hd ‹_› AB),AF,‹_›⟩ ?_
 rintro k bo w Z ⟨aV,aW,aX,aY,aZ,ba⟩ ag
 exact .s<|.s<|.g<|.r 2<|.bp ((k:Int)≤(s.idx.names.length:Int)) (fun ay=>.d<|.ct<|.sk<|.s<|.b 5<|.s<|.g<|RG.Ln 0 Z<|.r 1<|RG.CL (FZ s (k:Int) (Z.a 3) (Z.a 2) (Z.a 1) (Z.a 0) (ptW ‹_›) (StoK.rw ‹_›) AB AB) Z fun bq br w Z=>.r 1<|.bp ((((rowsOf s (k:Int)).length):Int) > 24) (fun az=>.d<|.ct<|.s<|.g<|.r 1<|.d<|T.rt func68 results68 (.bool false) ⟨(AG (by first | rfl | (rw [Bool.true_and]; symm; first | exact BB AB | exact BC (BP ‹_› ‹_› (by first | exact CT ‹_› | exact CU ‹_› | exact CV ‹_› ‹_› ‹_›)) | exact BD (BP ‹_› ‹_› (by simp [BR, *])) | exact BE (Cv ‹_› AB AB AB)))),Z.xt⟩) fun az=>.d<|.cf<|.sk<|.ib 5<|.g<|.r 1<|RG.int ((k:Int)+1) AA (by have q1:=(Gq ‹_›).2.len; omega)<|.r 1<|.d<|ag (k+1) _ _ AA (Z.to 0 [] 1) ⟨AB,AB,‹_›,‹_›,(by exact Lr ‹_› AB AB AB),‹_›⟩ (by first | omega | (simp only []; omega))) fun ay=>.d<|.cf<|.x 4 rfl<|.s<|.g<|.r 1<|.d<|T.rt func68 results68 (.bool true) ⟨(AG (by rw [Bool.true_and]; symm; exact I8 AB AB ‹_› ‹_› (NT ‹_› AB))),Z.xt⟩
theorem Iq (names:List (List Tag)) (h1:RepS w F a1 n1 c1 names) (p0:names.length≤1000) (p1:∀ n∈names,n.length≤1100000):Calls Tryz.prog 161 [.slice a1 n1 c1].toArray w (Ad fun rv w'=>VS (ge w.heap.size) w' (idxOf names:Idx) rv∧Ext w w'):=by
 cases h1.len
 refine goT func161 ?_
 have Z:=(St.i0 F w).p h1
 have am:=h1.max
 refine .s<|.g<|RG.Np Z fun ae w Z=>.d<|.s<|.g<|RG.N0 Pst 0 Z fun ai w Z=>.r 1<|.d<|.s<|.s<|.g<|.r 1<|.d<|.b 0<|T.Lp (([]:List Pst),ai,(0:Nat),(97:Nat)) (fun (Ae,r_posts,c_posts,k)=>([(0,.slice a1 names.length c1),(2,vP ae),(3,vS r_posts Ae.length c_posts),(4,.int .i32 (k:Int))],[(0,.own 0 r_posts 214 c_posts Ae)],[],101 - k,(97≤k)∧(k≤101)∧(Ae.length≤11 * (k - 97))∧(Ae++D2 names (101 - k) k=Ay names))) [] Z ⟨(by first | omega | simp [Ay]),(by first | omega | simp [Ay]),(by first | omega | simp [Ay]),(by first | omega | simp [Ay])⟩ ?_
 rintro ⟨Ae,r_posts,c_posts,k⟩ aE w Z ⟨ao,aq,ar,ax⟩ ac
 refine .s<|.s<|.g<|.r 1<|.bp ((k:Int)≤100) (fun af=>?_) (fun af=>?_)
 ·refine .d<|.ct<|.sk<|.s<|.b 1<|.s<|.g<|.r 1<|.d<|.b 2<|T.Lp ((Ae:List Pst),r_posts,c_posts,(112:Nat)) (fun (aa,r_posts1,c_posts1,v)=>([(0,.slice a1 names.length c1),(2,vP ae),(3,vS r_posts1 aa.length c_posts1),(4,.int .i32 (k:Int)),(5,.int .i32 (v:Int))],[(0,.own 0 r_posts1 214 c_posts1 aa)],[],123 - v,(112≤v)∧(v≤123)∧(97≤k)∧(k≤100)∧(aa.length≤11 * (k - 97)+(v - 112))∧(aa++D1 names k (123 - v) v++D2 names (101 - (k+1)) (k+1)=Ay names))) [] Z ⟨(by first | omega | grind [C5]),(by first | omega | grind [C5]),(by first | omega | grind [C5]),(by first | omega | grind [C5]),(by first | omega | grind [C5]),(by first | omega | grind [C5])⟩ ?_
  rintro ⟨aa,r_posts1,c_posts1,v⟩ aF w Z ⟨ay,az,aA,aB,aC,aD⟩ ab
  exact .s<|.s<|.g<|.r 1<|.bp ((v:Int)≤122) (fun ag=>.d<|.ct<|.sk<|.s<|.b 3<|.s<|.g<|.r 1<|RG.eqv (v:=.string (bs [UInt8.ofNat k])) AA (PX k AB)<|.r 1<|RG.eqv (v:=.string (bs [UInt8.ofNat v])) AA (PX v AB)<|.r 1<|RG.Np Z fun aG w Z=>RG.Ss 0 Z fun w Z=>.d<|.s<|.g<|.r 1<|RG.Ln 0 Z<|RG.CL (E1 names (⟨[UInt8.ofNat k],[UInt8.ofNat v]⟩:Tag) (Z.a 0) AB) Z fun aH aI w Z=>.r 1<|.d<|.s<|.g<|.r 2<|.bp ((((ids names (⟨[UInt8.ofNat k],[UInt8.ofNat v]⟩:Tag)).length):Int) > 0) (fun ah=>.d<|.ct<|.g<|.r 1<|RG.Ln 0 Z<|.r 2<|RG.Nb 1 Z fun aJ w Z=>RG.Ap 1 0 aa (⟨(⟨[UInt8.ofNat k],[UInt8.ofNat v]⟩:Tag),ids names (⟨[UInt8.ofNat k],[UInt8.ofNat v]⟩:Tag)⟩:Pst) [0] Z fun aj ak w Z=>.r 1<|.d<|.ib 3<|.g<|.r 1<|RG.int32 ((v:Int)+1) AA AB<|.r 1<|.d<|ab ((aa++[(⟨(⟨[UInt8.ofNat k],[UInt8.ofNat v]⟩:Tag),ids names (⟨[UInt8.ofNat k],[UInt8.ofNat v]⟩:Tag)⟩:Pst)]),aj,ak,v+1) _ _ AA (Z.to 1 [] 1) ⟨(by first | omega | grind [BX,Bk,CZ]),(by first | omega | grind [BX,Bk,CZ]),(by first | omega | grind [BX,Bk,CZ]),(by first | omega | grind [BX,Bk,CZ]),(by first | omega | grind [BX,Bk,CZ]),(by first | omega | grind [BX,Bk,CZ])⟩ (by first | omega | (simp only []; omega))) fun ah=>.d<|.cf<|.sk<|.ib 3<|.g<|.r 1<|RG.int32 ((v:Int)+1) AA AB<|.r 1<|.d<|ab (aa,r_posts1,c_posts1,v+1) _ _ AA (Z.to 1 [] 1) ⟨(by first | omega | grind [BX,Bk,CZ]),(by first | omega | grind [BX,Bk,CZ]),(by first | omega | grind [BX,Bk,CZ]),(by first | omega | grind [BX,Bk,CZ]),(by first | omega | grind [BX,Bk,CZ]),(by first | omega | grind [BX,Bk,CZ])⟩ (by first | omega | (simp only []; omega))) fun ag=>.d<|.cf<|.x 2 rfl<|.ib 1<|.g<|.r 1<|RG.int32 ((k:Int)+1) AA AB<|.r 1<|.d<|ac (aa,r_posts1,c_posts1,k+1) _ _ AA (Z.to 0 [] 0) ⟨(by first | omega | grind [D3]),(by first | omega | grind [D3]),(by first | omega | grind [D3]),(by first | omega | grind [D3])⟩ (by first | omega | (simp only []; omega))
 refine .d<|.cf<|.x 0 rfl<|.s<|.g<|.r 1<|RG.CO 0 (Gu names (Z.a 0) AB p1) Z fun aK aL w Z=>.r 2<|RG.Ss 2 Z fun w Z=>.d ?_
 have Z:=(Z.sl 0).sl 0
 exact T.Rb 0 func161 results161 Z ⟨Z.rS (⟨names,Ae⟩:Idx) [1,0] (by grind [idxOf,Kq]),Z.xt⟩
theorem G4 (d:Dsk) (h1:RepS w F a1 n1 c1 d.files) (h2:RepS w F a2 n2 c2 d.list) (h3:RepS w F a3 n3 c3 d.names) (p0:d.names.length≤1000) (p1:∀ n∈d.names,n.length≤1100000) (p2:d.list.length≤1000) (p3:∀ n∈d.list,0≤At d n):Calls Tryz.prog 126 [.agg #[.slice a1 n1 c1,.slice a2 n2 c2,.slice a3 n3 c3,.int .i64 d.next]].toArray w (Ad fun rv w'=>VS (fo F w.heap.size) w' (BG d:Sto) rv∧Ext w w'):=by
 cases h1.len
 cases h2.len
 cases h3.len
 refine goT func126 ?_
 have Z:=(((St.i0 F w).p h1).p h2).p h3
 have aG:=h1.max
 have aH:=h2.max
 have aI:=h3.max
 refine .s<|.g<|RG.Np Z fun ak w Z=>RG.Np Z fun am w Z=>.d<|.s<|.g<|.r 1<|RG.Lb 1 Z<|RG.CS (Iq d.names (Z.a 0) p0 p1) Z fun ay az aA aB w Z=>RG.N0 Prt 1 Z fun aC w Z=>RG.N0 Smp 1 Z fun aD w Z=>.r 1<|RG.Np Z fun ai w Z=>RG.Ss 0 Z fun w Z=>.d<|.s<|.s<|.g<|.r 1<|.d<|.b 0<|T.Lp ((0:Nat),((idxOf d.names).names:List (List Tag)),ay,az,((idxOf d.names).Ae:List Pst),aA,aB,([]:List Prt),aC,(0:Nat),([]:List Smp),aD,(0:Nat)) (fun (i,ae,a_s_0,c_s_0,af,a_s_1,c_s_1,aa,r_s_2,c_s_2,ag,r_s_3,c_s_3)=>([(1,vP ak),(2,vP am),(3,vP ai),(4,vI (i:Int))],[(0,.box ai 45 [.slice a_s_0 ae.length c_s_0,.slice a_s_1 af.length c_s_1,vS r_s_2 aa.length c_s_2,vS r_s_3 ag.length c_s_3]),(1,.own 1 r_s_3 175 c_s_3 ag),(2,.own 1 r_s_2 111 c_s_2 aa)],[⟨0,none,.rep a_s_0 c_s_0 ae⟩,⟨0,none,.rep a_s_1 c_s_1 af⟩],d.list.length - i,(i≤d.list.length)∧(ae=d.names)∧(af=Ay d.names)∧(ag=[])∧(aa.length≤i)∧(aa++(d.list.drop i).map (Aw d)=d.list.map (Aw d)))) [0,1] Z ⟨(by first | rfl | simp),(by first | rfl | simp),(by first | rfl | simp),(by first | rfl | simp),(by first | rfl | simp),(by first | rfl | simp)⟩ ?_
 rintro ⟨i,ae,a_s_0,c_s_0,af,a_s_1,c_s_1,aa,r_s_2,c_s_2,ag,r_s_3,c_s_3⟩ aR w Z ⟨aJ,aK,aL,aM,aN,aO⟩ ah
 refine .s<|.s<|.g<|.r 2<|RG.Lb 4 Z<|.r 1<|.bp ((i:Int)< (d.list.length:Int)) (fun ao=>?_) (fun ao=>?_)
 ·refine .d<|.ct<|.sk<|.s<|.b 1<|T.GS 15 [ai,am,ak] Z fun _ w Z=>.r [0]<|GA.Lb 1 0 Z<|.r [2]<|GA.Lb (q:=2) 3 4 Z<|GA.Ln (q:=2) 4 4 Z<|.r [5]<|GA.Lb (q:=2) 6 4 Z<|.r [7]<|gx (h:=(by first | omega | exact F4 p3 ‹_› | exact F5 p3 ‹_›)) d.list i fun aj ab=>?_
  have aP:=drop_at ab; have ar:=AV ab
  refine GA.Ix 8 5 ab Z<|Z.el 5 ab fun Z=>GA.Lh 9 0 0 Z<|GA.D0 10 Z (fun w Y=>Dz d aj (Y.a 7) (Y.a 6) (Y.a 5))<|gx (h:=(by first | omega | exact F4 p3 ‹_› | exact F5 p3 ‹_›)) d.files ((At d aj).toNat) fun aq ac=>?_
  have aQ:=drop_at ac; have ax:=AV ac
  exact GA.Jx (hz:=(by first | omega | exact F4 p3 ‹_› | exact F5 p3 ‹_›)) 11 7 (At d aj) ac Z<|.r [12]<|Z.el 7 ac fun aS aT aU aV Z=>GA.Lg 13 0 1 Z<|.go 14<|GE.Nb 1 Z fun aW w Z=>GA.Do Z fun w Z=>RG.Ap 2 0 aa aq.part [1,2] Z fun aE aF w Z=>.r 1<|RG.Ss 0 Z fun w Z=>.d<|.ib 1<|.g<|.r 1<|.it ((i:Int)+1)<|.r 1<|.d<|ah (i+1,ae,a_s_0,c_s_0,af,a_s_1,c_s_1,(aa++[aq.part]),aE,aF,ag,r_s_3,c_s_3) _ _ AA (Z.to 0 [4,5] 6) ⟨AB,‹_›,‹_›,‹_›,(by simp; omega),(by exact mapStep ‹_› ‹_› (F6 ‹_›).symm)⟩ (by first | omega | (simp only []; omega))
 refine .d<|.cf<|.x 0 rfl<|.s<|.g<|RG.Ln 0 Z<|RG.Ss 3 Z fun w Z=>.d ?_
 have Z:=(Z.sl 2).sl 1
 exact T.Rb 1 func126 results126 Z ⟨Z.rS (g:=1) (⟨(⟨ae,af⟩:Idx),aa,ag⟩:Sto) [2,3,1,0] (by have q1:aa=_:=D4 ‹_› AB; subst_vars; rfl),Z.xt⟩
theorem II (d:Dsk) (h1:RepS w F a1 n1 c1 d.files) (h2:RepS w F a2 n2 c2 d.list) (h3:RepS w F a3 n3 c3 d.names) (p0:∀ n∈d.names,n.length≤1100000):Calls Tryz.prog 56 [.agg #[.slice a1 n1 c1,.slice a2 n2 c2,.slice a3 n3 c3,.int .i64 d.next]].toArray w (Ad fun rv w'=>rv=.bool (Ak d)∧Ext w w'):=by
 cases h1.len
 cases h2.len
 cases h3.len
 refine goT func56 ?_
 have Z:=(((St.i0 F w).p h1).p h2).p h3
 have aM:=h1.max
 have aN:=h2.max
 have aO:=h3.max
 refine .s<|.g<|RG.Np Z fun aq w Z=>.r 1<|.d<|.s<|.s<|.g<|.r 1<|RG.Lb 0 Z<|RG.C0 (Bb d.next 1 999 (F:=all)) Z fun w Z=>?_
 cases am:(inR d.next 1 999)
 ·have aP:=EP am
  exact .r 19<|.d<|.ct<|.s<|.g<|.r 1<|.d<|T.rt func56 results56 (.bool false) ⟨(AG (by symm; first | exact As (.inl ‹_›) | exact As (.inr (.inl ‹_›)) | exact As (.inr (.inr (.inl ‹_›))) | exact As (.inr (.inr (.inr ‹_›))) | exact BI (Ag ‹_› ‹_› (.inl ‹_›)) | exact BI (Ag ‹_› ‹_› (.inr (.inl ⟨by omega,_,by assumption,by assumption⟩))) | exact BI (Ag ‹_› ‹_› (.inr (.inr ‹_›))) | exact BJ (Bm ‹_› ‹_›) | exact BJ (Bn (k:=k) (j:=k1) ‹_› ‹_› AB ‹_›) | exact BJ (Bo ‹_› ‹_›))),Z.xt⟩
 have aQ:=Bh am
 refine .r 3<|RG.Lb 0 Z<|.r 1<|.bp ((d.files.length:Int) > 20) (fun ar=>.r 13<|.d<|.ct<|.s<|.g<|.r 1<|.d<|T.rt func56 results56 (.bool false) ⟨(AG (by symm; first | exact As (.inl ‹_›) | exact As (.inr (.inl ‹_›)) | exact As (.inr (.inr (.inl ‹_›))) | exact As (.inr (.inr (.inr ‹_›))) | exact BI (Ag ‹_› ‹_› (.inl ‹_›)) | exact BI (Ag ‹_› ‹_› (.inr (.inl ⟨by omega,_,by assumption,by assumption⟩))) | exact BI (Ag ‹_› ‹_› (.inr (.inr ‹_›))) | exact BJ (Bm ‹_› ‹_›) | exact BJ (Bn (k:=k) (j:=k1) ‹_› ‹_› AB ‹_›) | exact BJ (Bo ‹_› ‹_›))),Z.xt⟩) fun ar=>.r 3<|RG.Lb 0 Z<|.r 1<|.bp ((d.list.length:Int) > 6) (fun ax=>.r 7<|.d<|.ct<|.s<|.g<|.r 1<|.d<|T.rt func56 results56 (.bool false) ⟨(AG (by symm; first | exact As (.inl ‹_›) | exact As (.inr (.inl ‹_›)) | exact As (.inr (.inr (.inl ‹_›))) | exact As (.inr (.inr (.inr ‹_›))) | exact BI (Ag ‹_› ‹_› (.inl ‹_›)) | exact BI (Ag ‹_› ‹_› (.inr (.inl ⟨by omega,_,by assumption,by assumption⟩))) | exact BI (Ag ‹_› ‹_› (.inr (.inr ‹_›))) | exact BJ (Bm ‹_› ‹_›) | exact BJ (Bn (k:=k) (j:=k1) ‹_› ‹_› AB ‹_›) | exact BJ (Bo ‹_› ‹_›))),Z.xt⟩) fun ax=>.r 3<|RG.Lb 0 Z<|.r 1<|.bp ((d.names.length:Int) > 6) (fun ay=>.r 1<|.d<|.ct<|.s<|.g<|.r 1<|.d<|T.rt func56 results56 (.bool false) ⟨(AG (by symm; first | exact As (.inl ‹_›) | exact As (.inr (.inl ‹_›)) | exact As (.inr (.inr (.inl ‹_›))) | exact As (.inr (.inr (.inr ‹_›))) | exact BI (Ag ‹_› ‹_› (.inl ‹_›)) | exact BI (Ag ‹_› ‹_› (.inr (.inl ⟨by omega,_,by assumption,by assumption⟩))) | exact BI (Ag ‹_› ‹_› (.inr (.inr ‹_›))) | exact BJ (Bm ‹_› ‹_›) | exact BJ (Bn (k:=k) (j:=k1) ‹_› ‹_› AB ‹_›) | exact BJ (Bo ‹_› ‹_›))),Z.xt⟩) fun ay=>.r 1<|.d<|.cf<|.sk<|.s<|.s<|.g<|.r 1<|.d<|.b 0<|T.Lp (0:Nat) (fun k=>([(1,vP aq),(3,vI (k:Int))],[],[],d.files.length - k,(k≤d.files.length)∧(Bs d.next (GR d.files k) (d.files.drop k)=Bs d.next none d.files))) [] Z ⟨AD,AF⟩ ?_
 rintro k bk w Z ⟨aR,aS⟩ ac
 refine .s<|.s<|.g<|.r 2<|RG.Lb 0 Z<|.r 1<|.bp ((k:Int)< (d.files.length:Int)) (fun az=>?_) (fun az=>?_)
 ·refine .d<|.ct<|.sk<|.s<|.b 1<|.s<|T.Gd 35 Z fun w Z=>.r [0]<|GA.Lb 1 0 Z<|.r [2]<|gx d.files k fun af aa=>?_
  have aT:=drop_at aa; have aG:=AV aa
  refine GA.Ix 3 2 aa Z<|.r [4]<|Z.el 2 aa fun bm bn bo bq Z=>GA.Lh 5 0 0 Z<|.r [6]<|GA.Lb 7 0 Z<|GA.int (i:=8) (d.next - 1) AA AB<|GA.C0 9 Z (fun w Z=>Bb af.num 1 (d.next - 1) (F:=all)) ?_
  cases ao:(inR af.num 1 (d.next - 1))
  ·have aU:=EP ao
   exact .r [10,11,12,13,14,15,16,17,18,19,20,21,22,23,24,25,26,27,28,29,30,31,32,33,34]<|GA.Dn Z fun w Z=>.r 6<|.d<|.ct<|.s<|.g<|.r 1<|.d<|T.rt func56 results56 (.bool false) ⟨(AG (by symm; first | exact As (.inl ‹_›) | exact As (.inr (.inl ‹_›)) | exact As (.inr (.inr (.inl ‹_›))) | exact As (.inr (.inr (.inr ‹_›))) | exact BI (Ag ‹_› ‹_› (.inl ‹_›)) | exact BI (Ag ‹_› ‹_› (.inr (.inl ⟨by omega,_,by assumption,by assumption⟩))) | exact BI (Ag ‹_› ‹_› (.inr (.inr ‹_›))) | exact BJ (Bm ‹_› ‹_›) | exact BJ (Bn (k:=k) (j:=k1) ‹_› ‹_› AB ‹_›) | exact BJ (Bo ‹_› ‹_›))),Z.xt⟩
  have aV:=Bh ao
  refine .r [10,11,12]<|GA.Cr (i:=13) ((k:Int) > 0) AA (fun aA=>?_) (fun aA=>?_)
  ·refine .r [14,15]<|GA.Lb 16 0 Z<|.r [17]<|GA.int (i:=18) ((k:Int) - 1) AA AB<|gx d.files (k - 1) fun aK ag=>?_
   have aW:=drop_at ag; have aH:=AV ag
   refine GA.Jx 19 5 ((k:Int) - 1) ag Z<|.r [20]<|Z.el 5 ag fun br bu bv bw Z=>GA.Lh 21 0 0 Z<|.r [22]<|GA.Lb 23 0 Z<|.r [24]<|GA.Ix 25 8 aa Z<|.r [26]<|GA.Lh 27 3 0 Z<|GA.Cr (i:=28) (aK.num≥af.num) AA (fun aB=>.r [29,30,31,32,33,34]<|GA.Dn Z fun w Z=>.r 6<|.d<|.ct<|.s<|.g<|.r 1<|.d<|T.rt func56 results56 (.bool false) ⟨(AG (by symm; first | exact As (.inl ‹_›) | exact As (.inr (.inl ‹_›)) | exact As (.inr (.inr (.inl ‹_›))) | exact As (.inr (.inr (.inr ‹_›))) | exact BI (Ag ‹_› ‹_› (.inl ‹_›)) | exact BI (Ag ‹_› ‹_› (.inr (.inl ⟨by omega,_,by assumption,by assumption⟩))) | exact BI (Ag ‹_› ‹_› (.inr (.inr ‹_›))) | exact BJ (Bm ‹_› ‹_›) | exact BJ (Bn (k:=k) (j:=k1) ‹_› ‹_› AB ‹_›) | exact BJ (Bo ‹_› ‹_›))),Z.xt⟩) fun aB=>.r [29,30,31,32]<|GA.Lb 33 0 Z<|.r [34]<|GA.Dn Z fun w Z=>RG.Ix 8 aa Z<|.r 1<|RG.Lg 3 1 Z<|RG.C0 (DT af.part (Z.a 4) (Z.a 5)) Z fun w Z=>?_
   cases aX:(Ac af.part)
   ·exact .r 2<|.d<|.ct<|.s<|.g<|.r 1<|.d<|T.rt func56 results56 (.bool false) ⟨(AG (by symm; first | exact As (.inl ‹_›) | exact As (.inr (.inl ‹_›)) | exact As (.inr (.inr (.inl ‹_›))) | exact As (.inr (.inr (.inr ‹_›))) | exact BI (Ag ‹_› ‹_› (.inl ‹_›)) | exact BI (Ag ‹_› ‹_› (.inr (.inl ⟨by omega,_,by assumption,by assumption⟩))) | exact BI (Ag ‹_› ‹_› (.inr (.inr ‹_›))) | exact BJ (Bm ‹_› ‹_›) | exact BJ (Bn (k:=k) (j:=k1) ‹_› ‹_› AB ‹_›) | exact BJ (Bo ‹_› ‹_›))),Z.xt⟩
   exact .r 2<|.d<|.cf<|.sk<|.ib 1<|.g<|.r 1<|.it ((k:Int)+1)<|.r 1<|.d<|ac (k+1) _ _ AA (Z.to 0 [] 6) ⟨AB,(by first | exact Cq ‹_› ‹_› ‹_› ‹_› (.inl AB) ‹_› | exact Cq ‹_› ‹_› ‹_› ‹_› (.inr ⟨_,by assumption,by assumption⟩) ‹_›)⟩ (by first | omega | (simp only []; omega))
  refine .r [14,15,16,17,18,19,20,21,22,23,24,25,26,27,28,29,30,31,32]<|GA.Lb 33 0 Z<|.r [34]<|GA.Dn Z fun w Z=>RG.Ix 5 aa Z<|.r 1<|RG.Lg 0 1 Z<|RG.C0 (DT af.part (Z.a 1) (Z.a 2)) Z fun w Z=>?_
  cases aY:(Ac af.part)
  ·exact .r 2<|.d<|.ct<|.s<|.g<|.r 1<|.d<|T.rt func56 results56 (.bool false) ⟨(AG (by symm; first | exact As (.inl ‹_›) | exact As (.inr (.inl ‹_›)) | exact As (.inr (.inr (.inl ‹_›))) | exact As (.inr (.inr (.inr ‹_›))) | exact BI (Ag ‹_› ‹_› (.inl ‹_›)) | exact BI (Ag ‹_› ‹_› (.inr (.inl ⟨by omega,_,by assumption,by assumption⟩))) | exact BI (Ag ‹_› ‹_› (.inr (.inr ‹_›))) | exact BJ (Bm ‹_› ‹_›) | exact BJ (Bn (k:=k) (j:=k1) ‹_› ‹_› AB ‹_›) | exact BJ (Bo ‹_› ‹_›))),Z.xt⟩
  exact .r 2<|.d<|.cf<|.sk<|.ib 1<|.g<|.r 1<|.it ((k:Int)+1)<|.r 1<|.d<|ac (k+1) _ _ AA (Z.to 0 [] 3) ⟨AB,(by first | exact Cq ‹_› ‹_› ‹_› ‹_› (.inl AB) ‹_› | exact Cq ‹_› ‹_› ‹_› ‹_› (.inr ⟨_,by assumption,by assumption⟩) ‹_›)⟩ (by first | omega | (simp only []; omega))
 refine .d<|.cf<|.x 0 rfl<|.s<|.s<|.g<|.r 1<|.d<|.b 2<|T.Lp (0:Nat) (fun k=>([(1,vP aq),(4,vI (k:Int))],[],[],d.list.length - k,(k≤d.list.length)∧(Bs d.next none d.files=true)∧(Mf d k))) [] Z ⟨AD,(by exact Lz ‹_› AB),(by exact N7 _)⟩ ?_
 rintro k bz w Z ⟨aZ,ba,bd⟩ ai
 refine .s<|.s<|.g<|.r 2<|RG.Lb 0 Z<|.r 1<|.bp ((k:Int)< (d.list.length:Int)) (fun aC=>?_) (fun aC=>.d<|.cf<|.x 2 rfl<|.s<|.g<|RG.Ln 0 Z<|RG.CS (G4 d (Z.mg 1 2) (Z.mg 1 1) (Z.mg 1 0) AB p0 AB (BS (Fj ‹_› AB))) Z fun bA bB bC bD bE bF bG bH w Z=>RG.C0 (EF (⟨(⟨(BG d).idx.names,((BG d).idx).Ae⟩:Idx),(BG d).parts,(BG d).mem⟩:Sto) (Z.a 0) (Z.a 1) (Z.a 2) (Z.a 3) (by have q1:=MK d.names; show (Ay d.names).length≤1100000; omega)) Z fun w Z=>.r 1<|.d<|T.rt func56 results56 (.bool (ixB (⟨(⟨(BG d).idx.names,((BG d).idx).Ae⟩:Idx),(BG d).parts,(BG d).mem⟩:Sto).idx&&AZ (⟨(⟨(BG d).idx.names,((BG d).idx).Ae⟩:Idx),(BG d).parts,(BG d).mem⟩:Sto))) ⟨(AG (by exact RB ‹_› AB AB ‹_› (Fj ‹_› AB))),Z.xt⟩)
 refine .d<|.ct<|.sk<|.s<|.b 3<|.s<|.s<|T.Gd 6 Z fun w Z=>GA.Ln 0 0 Z<|.r [1]<|GA.Lb 2 0 Z<|.r [3]<|gx d.list k fun ak ae=>?_
 have bg:=drop_at ae; have aI:=AV ae
 refine GA.Ix 4 1 ae Z<|Z.el 1 ae fun Z=>GA.Lh 5 0 0 Z<|GA.Dn Z fun w Z=>RG.C0 (Dz d ak (Z.a 3) (Z.a 2) (Z.a 1)) Z fun w Z=>.bp (At d ak< 0) (fun aD=>.d<|.ct<|.s<|.g<|.r 1<|.d<|T.rt func56 results56 (.bool false) ⟨(AG (by symm; first | exact As (.inl ‹_›) | exact As (.inr (.inl ‹_›)) | exact As (.inr (.inr (.inl ‹_›))) | exact As (.inr (.inr (.inr ‹_›))) | exact BI (Ag ‹_› ‹_› (.inl ‹_›)) | exact BI (Ag ‹_› ‹_› (.inr (.inl ⟨by omega,_,by assumption,by assumption⟩))) | exact BI (Ag ‹_› ‹_› (.inr (.inr ‹_›))) | exact BJ (Bm ‹_› ‹_›) | exact BJ (Bn (k:=k) (j:=k1) ‹_› ‹_› AB ‹_›) | exact BJ (Bo ‹_› ‹_›))),Z.xt⟩) fun aD=>.d<|.cf<|.sk<|.s<|.g<|.r 1<|.d<|.b 4<|T.Lp (0:Nat) (fun k1=>([(1,vP aq),(4,vI (k:Int)),(5,vI (k1:Int))],[],[],k - k1,(k1≤k)∧(fresh d ak k1))) [] Z ⟨AB,(by exact PC _ _)⟩ ?_
 rintro k1 bI w Z ⟨bh,bi⟩ aj
 refine .s<|.s<|.g<|.r 2<|.bp ((k1:Int)< (k:Int)) (fun aE=>?_) (fun aE=>.d<|.cf<|.x 4 rfl<|.ib 3<|.g<|.r 1<|.it ((k:Int)+1)<|.r 1<|.d<|ai (k+1) _ _ AA (Z.to 0 [] 1) ⟨AB,‹_›,(by exact JE ‹_› ‹_› ‹_› (by assumption:fresh d _ k1) AB)⟩ (by first | omega | (simp only []; omega)))
 refine .d<|.ct<|.sk<|.s<|.b 5<|.s<|T.Gd 10 Z fun w Z=>.r [0]<|GA.Lb 1 0 Z<|.r [2]<|gx d.list k1 fun aL ah=>?_
 have bj:=drop_at ah; have aJ:=AV ah
 exact GA.Ix 3 2 ah Z<|Z.el 2 ah fun Z=>GA.Lh 4 0 0 Z<|.r [5]<|GA.Lb 6 0 Z<|.r [7]<|GA.Ix 8 3 ae Z<|GA.Lh 9 1 0 Z<|GA.Dn Z fun w Z=>.eq aL ak (fun aF=>.d<|.ct<|.s<|.g<|.r 1<|.d<|T.rt func56 results56 (.bool false) ⟨(AG (by symm; first | exact As (.inl ‹_›) | exact As (.inr (.inl ‹_›)) | exact As (.inr (.inr (.inl ‹_›))) | exact As (.inr (.inr (.inr ‹_›))) | exact BI (Ag ‹_› ‹_› (.inl ‹_›)) | exact BI (Ag ‹_› ‹_› (.inr (.inl ⟨by omega,_,by assumption,by assumption⟩))) | exact BI (Ag ‹_› ‹_› (.inr (.inr ‹_›))) | exact BJ (Bm ‹_› ‹_›) | exact BJ (Bn (k:=k) (j:=k1) ‹_› ‹_› AB ‹_›) | exact BJ (Bo ‹_› ‹_›))),Z.xt⟩) fun aF=>.d<|.cf<|.sk<|.ib 5<|.g<|.r 1<|.it ((k1:Int)+1)<|.r 1<|.d<|aj (k1+1) _ _ AA (Z.to 0 [] 1) ⟨AB,(by exact LB ‹_› ‹_› ‹_›)⟩ (by first | omega | (simp only []; omega))
end Go.Proofs.YtfninflnngpchaaGreat
namespace Go.Proofs.YtfninflnngpchaaGreat
set_option maxRecDepth 100000
set_option maxHeartbeats 4000000
variable {w:World} {F:Nat→Prop} {a1 a2 a3 a4 a5 a6 a7:Option Addr} {n1 c1 n2 c2 n3 c3 n4 c4 n5 c5 n6 c6 n7 c7:Nat}
theorem G5 (names:List (List Tag)) (h1:RepS w F a1 n1 c1 names) (p0:names.length≤1100000) (p1:By names≤1100000):Calls Tryz.prog 116 [.slice a1 n1 c1].toArray w (Ad fun rv w'=>(∃ (y:Idx),VS (ge w.heap.size) w' (y:Idx) rv∧(y.names=names∧(NmI names→NsD names→y=idxOf names)))∧Ext w w'):=by
 refine goT func116 ?_
 obtain ⟨rfl,dM,h1⟩:=h1.tp
 refine .s<|.g<|.np 41 [AH,AH] fun ae cQ bD bE aH cR=>?_
 have cS:=FB bD (Nat.le_refl _)
 replace h1:=(sn [] bE bD).g1 h1
 have aq:=bE
 refine .d<|.s<|.g<|.r 1<|.cl (DP names h1.ta AB (fun n hn=>by have:=OP n hn; omega) (w:=cQ) (F:=all)) ?_
 rintro ee ag ⟨⟨bC,bV,bW,rfl,aI,bv⟩,b6⟩
 have b7:=al1 aH.lt
 have cT:Gb w.heap.size cQ.heap.size:=aq.size
 have dN:=Iw bv aH.lt
 have cU:=PU bv aq.size
 replace ⟨h1,aH,aq⟩:=(sz [ae] b6 bv).g3 h1 aH aq
 replace aI:=Own.take (s0:=w.heap.size) (M:=[ae]) aI b7 cT
 have dO:=aI.len; have dP:=aI.max
 have aA:=aI.sl cU
 replace h1:=(sd ag [bC,ae] bC).g1 h1
 have cj:w.heap.size≤ag.heap.size:=aq.size
 replace aA:RepS ag (nin (GN w.heap.size ag.heap.size ae) [ae]) _ _ _ _:=aA.Qv.CN (fun b _ h=>⟨h,by simp; exact h.2.2⟩)
 have h1c:=h1.Pg; have hEc:=aq; have hb2c:=aH
 refine .ns 0 214 [] fun aM dH bF bG cV cW=>?_
 have cX:Cov nil ag aM:=HB bF (Nat.le_refl _)
 replace aA:=(sn [ae] bG bF).g1 aA
 have ar:=bG
 have ax:Own (α:=Pst) dH aM 214 (nin (ge w.heap.size) [aM,ae]) 0 0 []:=Own.DI cV
 refine .r 1<|.np 41 [AH,AH] fun af eg bw b8 cY cZ=>?_
 have c7:=A8 bw ax.lt
 have c8:=ar.cn bw
 replace ⟨aA,ax,ar⟩:=(sn [aM,ae] b8 bw).g3 aA ax ar
 refine .sc [vS bC bV bW,vS aM 0 0] cY fun eh b9 da db=>?_
 replace ⟨aA,ax,ar⟩:=(so [af,aM,ae] b9).g3 aA ax ar
 refine .d<|.s<|.s<|.g<|.r 3<|.d<|.b 0 ?_
 have hix:=IX.Qw (tX:=41) (tP:=214) (tI:=3) (s0:=w.heap.size) (s1:=ag.heap.size) cj (GN.lt (b2:=ae)) aA.w1 da ax c7 (Cov.ge c8) (Cov.ge cX)
 have hE:=ar
 refine T.loop (X:=Nat × Nat × Nat × List RP × List Pst × List Nat) (aM,0,0,[],[],[]) (fun (r,c,k,ys,xs,rs)=>[(2,.pointer (some ⟨ae,0,none⟩)),(3,.pointer (some ⟨af,0,none⟩)),(13,.slice a1 names.length c1),(14,vI (names.length:Int)),(15,vI (k:Int))]) (fun (r,c,k,ys,xs,rs) w_=>Ext ag w_∧IX 41 214 3 w.heap.size ag.heap.size (GN w.heap.size ag.heap.size ae) w_ af r c (some ⟨bC,0,none⟩) bV bW names ys xs rs∧k≤names.length∧xs.length≤IW names k∧(∀ x∈xs,x.ids.length≤IW names k)∧EX k xs (names.drop k)=EX 0 [] names) (fun (r,c,k,ys,xs,rs)=>names.length - k) AA ⟨AA,AA,AA,AA,AA,trivial⟩ ⟨hE,hix,by omega,by simp,by simp,rfl⟩ ?_
 rintro ⟨r,c,k,ys,xs,rs⟩ e1_ ej ⟨hE,hix,hk,hxl,hil,hbl⟩ bX
 have hnm:=h1c.ext hE
 refine .s<|.g<|.bp ((k:Int)< (names.length:Int)) (fun de=>?_) (fun de=>?_)
 ·refine .d<|.s<|.ct<|.sk<|.s<|.b 1<|.s<|.g<|.r 1 ?_
  have df:k< names.length:=AB
  refine .ix k 1 hnm df ?_
  obtain ⟨am,ay⟩:∃ y,names[k]? = some y:=⟨_,AU AB⟩
  have dQ:=drop_at ay; have dF:=AV ay
  obtain ⟨_,⟨dI,ek,dJ,rfl,ck⟩,dh⟩:=hnm.elem k am ay
  have dj:=ck.len
  subst dj
  have dR:=ck.max
  refine .lh 0 dh<|.r 2<|.d<|.s<|.g<|.r 3<|.d<|.b 2 ?_
  have hcs:=QW ay; have en:=Jm names k; have eB:=Jm names (k+1)
  have hEA:=hE; have eC:=OP am (AV ay); have hnl:=p0
  refine T.loop (X:=Nat × Nat × Nat × List RP × List Pst × List Nat) (r,c,0,ys,xs,rs) (fun (rq,cq,j,ac,ab,ai)=>[(2,.pointer (some ⟨ae,0,none⟩)),(3,.pointer (some ⟨af,0,none⟩)),(4,vI (k:Int)),(13,.slice a1 names.length c1),(14,vI (names.length:Int)),(15,vI (k:Int)),(20,.slice dI am.length dJ),(21,vI (am.length:Int)),(22,vI (j:Int))]) (fun (rq,cq,j,ac,ab,ai) w_=>Ext ag w_∧IX 41 214 3 w.heap.size ag.heap.size (GN w.heap.size ag.heap.size ae) w_ af rq cq (some ⟨bC,0,none⟩) bV bW names ac ab ai∧j≤am.length∧ab.length≤IW names k+j∧(∀ x∈ab,x.ids.length≤IW names k+j)∧(am.drop j).foldl (C3 ((k:Int)+1)) ab=am.foldl (C3 ((k:Int)+1)) xs) (fun (rq,cq,j,ac,ab,ai)=>am.length - j) AA ⟨AA,AA,AA,AA,AA,AA,AA,AA,AA,trivial⟩ ⟨hE,hix,by omega,by omega,fun x hx=>by have:=hil x hx; omega,rfl⟩ ?_
  rintro ⟨rq,cq,j,ac,ab,ai⟩ e2_ eD ⟨hE,hix,hj,cd,ao,hfl⟩ bz
  have dm:=ck.via hEA hE
  refine .s<|.g<|.bp ((j:Int)< (am.length:Int)) (fun dq=>?_) (fun dq=>.d<|.s<|.cf<|.x 2 rfl<|.ib 1<|.g<|.it ((k:Int)+1)<|.r 1<|.d<|bX (rq,cq,k+1,ac,ab,ai) _ _ ⟨AA,AA,AA,AA,AA,trivial⟩ ⟨hE,hix,by omega,by omega,fun x hx=>by have:=ao x hx; omega,Lx hbl (drop_at ay) (FY hfl AB)⟩ (by first | omega | (simp only []; omega)))
  refine .d<|.s<|.ct<|.sk<|.s<|.b 3<|.s<|.g ?_
  have dt:j< am.length:=AB
  refine .ix j 2 dm dt ?_
  obtain ⟨aa,aJ⟩:∃ y,am[j]? = some y:=⟨_,AU AB⟩
  have dS:=drop_at aJ; have dG:=AV aJ
  obtain ⟨_,rfl,du⟩:=dm.elem j aa aJ
  refine .lg 0 du<|.np 128 [.string (bs []),.string (bs [])] fun dv eE bH bI dw cm=>?_
  have co:∀ q_∈af::rq::ai,Nb dv q_:=fun q_ hq_=>A8 bH (hix.lt q_ hq_)
  have bJ:ag.heap.size≤dv:=Nat.le_trans hE.size (Nat.le_of_eq (Eq.symm bH))
  replace hix:=hix.ext bI
  replace hE:=hE.trans bI
  refine .sc [vT aa.key,vT aa.val] dw fun dx aN aB cp=>?_
  replace hix:=hix.one aN co bJ
  replace hE:=Chg.CG hE aN ⟨.inr bJ⟩
  refine .d<|.s<|.g<|.r 1<|.lb hix.box<|.r 1<|.cl (DQ ab aa (hix.rep.CN (F':=all) (fun _ _ _=>trivial)) aB (w:=dx) (F:=all)) ?_
  rintro dT bK ⟨rfl,aC⟩
  replace aB:=aB.ext aC
  replace hix:=hix.ext aC
  replace hE:=hE.trans aC
  refine .r 1<|.d<|.s<|.s<|.g<|.r 1<|.bp (Av aa 0 ab< 0) (fun cr=>?_) (fun cr=>?_)
  ·refine .d<|.ct<|.s<|.g<|.r 1<|.lb hix.box<|.r 2<|.d<|.g<|.r 1<|.lb hix.box<|.ln aB<|.r 1<|.ns 1 214 [vT aa.key,vT aa.val,AH] fun az dU aO aP bL cu=>?_
   have bM:∀ q_∈af::rq::ai,Nb az q_:=fun q_ hq_=>A8 aO (hix.lt q_ hq_)
   have cw:ag.heap.size≤az:=Nat.le_trans hE.size (Nat.le_of_eq (Eq.symm aO))
   replace hix:=hix.ext aP
   replace hE:=hE.trans aP
   have ce:=hix.lx; have dy:=hix.lr; have hvl_:=bL.lt; have hge_r:=hix.new rq AJ; have cx:=hix.new af AI; have hEs:=hE.size
   refine RG.Eh (T:=39) (ty:=39) (y:=(⟨aa.key,aa.val,none,0,0⟩:RP)) hix.own bL AA AA rfl ⟨trivial,bM rq AJ⟩ AB fun ah cg dV cy bY aQ=>?_
   replace hE:=Chg.CG hE aQ ⟨.inr hge_r⟩
   refine .r 1<|.ss 1 (vS ah (ac.length+1) cg) (hix.box.chg aQ (Nb.one hix.ne)) fun bN aR cz cA=>?_
   replace hix:=hix.push (t:=⟨aa.key,aa.val⟩) (vb:=az) hEs aQ cy bY bM cw hvl_ aR cz
   replace hE:=Chg.CG hE aR ⟨.inr cx⟩
   refine .d ?_
   obtain ⟨xi,hxi⟩:∃ q,(ab++[(⟨⟨aa.key,aa.val⟩,[]⟩:Pst)])[ac.length]? = some q:=⟨_,AU (by first | (simp; done) | (simp; omega))⟩
   obtain ⟨yi,hyi⟩:∃ q,(ac++[(⟨aa.key,aa.val,none,0,0⟩:RP)])[ac.length]? = some q:=⟨_,AU (by first | (simp; done) | (simp; omega))⟩
   obtain ⟨ri,hri⟩:∃ q,(ai++[az])[ac.length]? = some q:=⟨_,AU (by first | (simp; done) | (simp; omega))⟩
   have hiy:ac.length< (ac++[(⟨aa.key,aa.val,none,0,0⟩:RP)]).length:=(List.getElem?_eq_some_iff.1 hyi).1
   have hl3_:af< bN.heap.size:=hix.lt _ AI; have hlr_:ah< bN.heap.size:=hix.lt _ AJ; have hn3_:=hix.ne3 hri; have hnr_:=hix.ner hri
   refine .gd (mtb [ri] bN.heap.size) 13 fun dz aS=>?_
   replace hix:=hix.ext aS
   replace hE:=hE.trans aS
   refine .r [0]<|.lb 1 hix.box (ED (all_cons hn3_ all_nil) hl3_)<|.r [2,3]<|.lb 4 hix.box (ED (all_cons hn3_ all_nil) hl3_)<|.r [5] ?_
   have cB:ac.length< (ac++[(⟨aa.key,aa.val,none,0,0⟩:RP)]).length:=AB
   refine GA.idx (i:=6) (b:=ah) (o:=0) ac.length (len:=(ac++[(⟨aa.key,aa.val,none,0,0⟩:RP)]).length) (z:=(ac.length:Int)) (sz:=3) AA AB cB rfl<|.r [7] ?_
   obtain ⟨_,rfl,aT⟩:=hix.own.elem ac.length yi hyi
   replace aT:Has dz ⟨ah,0+ac.length * Rep.sz RP,none⟩ [vT yi.key,vT yi.val,.slice yi.a yi.n yi.c]:=by rw [Nat.zero_add]; exact aT
   refine .lh 8 2 aT (ED (all_cons hnr_ all_nil) hlr_)<|.r [9]<|GA.int (i:=10) ((k:Int)+1) AA AB<|.go 11<|.ns 1 3 [vI ((k:Int)+1)] fun dW aU=>?_
   replace hix:=hix.ext aU
   replace hE:=hE.trans aU
   intro bO dX aV aW aX cC
   have cD:∀ q_∈af::ah::(ai++[az]),Nb bO q_:=fun q_ hq_=>A8 aV (hix.lt q_ hq_)
   have dK:ag.heap.size≤bO:=Nat.le_trans hE.size (Nat.le_of_eq (Eq.symm aV))
   replace hix:=hix.ext aW
   replace hE:=hE.trans aW
   refine .go 12<|GE.append (T:=31) (ty:=31) (args:=[.slice yi.a yi.n yi.c,vS bO 1 1]) AA fun dY aD=>?_
   replace aX:=aX.ext aD
   replace hix:=hix.ext aD
   replace hE:=hE.trans aD
   have hyn:=(hix.el ac.length xi yi ri hxi hyi hri).2.2.n; have hyl:xi.ids.length≤5000000:=by have hm:=AV hxi; first | (have:=ao _ hm; omega) | (rcases List.mem_append.1 hm with hm | hm; (have:=ao _ hm; omega); (simp at hm; subst hm; simp))
   have bP:=hE.size; have hge_ri:=hix.new ri (IX.mi hri)
   obtain ⟨aK,bA,dZ,bQ,aY,bZ,aj⟩:=Gw.app (P:=Tryz.prog) (T:=31) (ty:=31) (hix.el ac.length xi yi ri hxi hyi hri).2.2 AA aX (cD ri (IX.mi hri)) AB
   refine ⟨_,_,bQ,Chg.toS aj (.inl AI),?_⟩
   replace hE:=Chg.CG hE aj ⟨.inr hge_ri⟩
   refine .d fun dA aE=>?_
   replace aj:=Chg.trans aj (Ext.chg aE)
   replace aY:=aY.ext aE
   replace hE:=hE.trans aE
   have cE:ac.length< (ac++[(⟨aa.key,aa.val,none,0,0⟩:RP)]).length:=AB
   refine RG.idx (b:=ah) (o:=0) ac.length (len:=(ac++[(⟨aa.key,aa.val,none,0,0⟩:RP)]).length) (i:=(ac.length:Int)) (sz:=3) AA AB cE rfl<|.r 1 ?_
   have bR:=K0 En hix.own aj (Nb.one (hix.ner hri))
   obtain ⟨_,rfl,aZ⟩:=bR.elem ac.length yi hyi
   replace aZ:Has dA ⟨ah,0+ac.length * Rep.sz RP,none⟩ [vT yi.key,vT yi.val,.slice yi.a yi.n yi.c]:=by rw [Nat.zero_add]; exact aZ
   refine RG.FA (t':=31) (i:=ac.length) (k:=2) (v:=vS aK (yi.n+1) bA) (cs:=[vT yi.key,vT yi.val,.slice yi.a yi.n yi.c]) (⟨yi.key,yi.val,some ⟨aK,0,none⟩,yi.n+1,bA⟩:RP) bR hyi aZ AA AA AA rfl fun d0 cF ba cG=>?_
   have hge_r2:=hix.new ah AJ
   replace hix:=hix.upd (i:=ac.length) (z:=(k:Int)+1) bP hxi hyi hri aj aY bZ ba (y':=(⟨yi.key,yi.val,some ⟨aK,0,none⟩,yi.n+1,bA⟩:RP)) rfl cF
   replace hE:=Chg.CG hE ba ⟨.inr hge_r2⟩
   refine .d<|.ib 3<|.g<|.it ((j:Int)+1)<|.r 1<|.d ?_
   have hxN:((ab++[(⟨⟨aa.key,aa.val⟩,[]⟩:Pst)]).set ac.length ⟨xi.tag,xi.ids++[(k:Int)+1]⟩)=C3 ((k:Int)+1) ab aa:=(NY hxi (by rw [← ce])).trans (Fe ‹_›).symm
   have hbd:=Fg ((k:Int)+1) ab aa (IW names k+j) cd ao; rw [← hxN] at hbd
   have hfs:=Cp hfl (drop_at aJ); rw [← hxN] at hfs
   exact bz (ah,cg,j+1,((ac++[(⟨aa.key,aa.val,none,0,0⟩:RP)]).set ac.length (⟨yi.key,yi.val,some ⟨aK,0,none⟩,yi.n+1,bA⟩:RP)),((ab++[(⟨⟨aa.key,aa.val⟩,[]⟩:Pst)]).set ac.length ⟨xi.tag,xi.ids++[(k:Int)+1]⟩),((ai++[az]).set ac.length aK)) _ _ ⟨AA,AA,AA,AA,AA,AA,AA,AA,AA,trivial⟩ ⟨hE,hix,by omega,by have:=hbd.1; omega,fun x hx=>by have:=hbd.2 x hx; omega,hfs⟩ (by first | omega | (simp only []; omega))
  refine .d<|.cf<|.sk ?_
  have ce:=hix.lx; have dy:=hix.lr; have hib:=Lw (t:=aa) (xs:=ab) ‹_›
  obtain ⟨xi,hxi⟩:∃ q,ab[(Av aa 0 ab).toNat]? = some q:=⟨_,AU AB⟩
  obtain ⟨yi,hyi⟩:∃ q,ac[(Av aa 0 ab).toNat]? = some q:=⟨_,AU AB⟩
  obtain ⟨ri,hri⟩:∃ q,ai[(Av aa 0 ab).toNat]? = some q:=⟨_,AU AB⟩
  have hiy:(Av aa 0 ab).toNat< ac.length:=(List.getElem?_eq_some_iff.1 hyi).1
  have hl3_:af< bK.heap.size:=hix.lt _ AI; have hlr_:rq< bK.heap.size:=hix.lt _ AJ; have hn3_:=hix.ne3 hri; have hnr_:=hix.ner hri
  refine .gd (mtb [ri] bK.heap.size) 13 fun dB bd=>?_
  replace hix:=hix.ext bd
  replace hE:=hE.trans bd
  refine .r [0]<|.lb 1 hix.box (ED (all_cons hn3_ all_nil) hl3_)<|.r [2,3]<|.lb 4 hix.box (ED (all_cons hn3_ all_nil) hl3_)<|.r [5] ?_
  have cH:(Av aa 0 ab).toNat< ac.length:=AB
  refine GA.idx (i:=6) (b:=rq) (o:=0) ((Av aa 0 ab).toNat) (len:=ac.length) (z:=Av aa 0 ab) (sz:=3) AA AB cH rfl<|.r [7] ?_
  obtain ⟨_,rfl,bg⟩:=hix.own.elem ((Av aa 0 ab).toNat) yi hyi
  replace bg:Has dB ⟨rq,0+((Av aa 0 ab).toNat) * Rep.sz RP,none⟩ [vT yi.key,vT yi.val,.slice yi.a yi.n yi.c]:=by rw [Nat.zero_add]; exact bg
  refine .lh 8 2 bg (ED (all_cons hnr_ all_nil) hlr_)<|.r [9]<|GA.int (i:=10) ((k:Int)+1) AA AB<|.go 11<|.ns 1 3 [vI ((k:Int)+1)] fun d3 bh=>?_
  replace hix:=hix.ext bh
  replace hE:=hE.trans bh
  intro bS d4 bi bj bk cI
  have cJ:∀ q_∈af::rq::ai,Nb bS q_:=fun q_ hq_=>A8 bi (hix.lt q_ hq_)
  have dL:ag.heap.size≤bS:=Nat.le_trans hE.size (Nat.le_of_eq (Eq.symm bi))
  replace hix:=hix.ext bj
  replace hE:=hE.trans bj
  refine .go 12<|GE.append (T:=31) (ty:=31) (args:=[.slice yi.a yi.n yi.c,vS bS 1 1]) AA fun d5 aF=>?_
  replace bk:=bk.ext aF
  replace hix:=hix.ext aF
  replace hE:=hE.trans aF
  have hyn:=(hix.el (Av aa 0 ab).toNat xi yi ri hxi hyi hri).2.2.n; have hyl:xi.ids.length≤5000000:=by have hm:=AV hxi; first | (have:=ao _ hm; omega) | (rcases List.mem_append.1 hm with hm | hm; (have:=ao _ hm; omega); (simp at hm; subst hm; simp))
  have bP:=hE.size; have hge_ri:=hix.new ri (IX.mi hri)
  obtain ⟨aL,bB,d6,bT,bm,b0,ak⟩:=Gw.app (P:=Tryz.prog) (T:=31) (ty:=31) (hix.el (Av aa 0 ab).toNat xi yi ri hxi hyi hri).2.2 AA bk (cJ ri (IX.mi hri)) AB
  refine ⟨_,_,bT,Chg.toS ak (.inl AI),?_⟩
  replace hE:=Chg.CG hE ak ⟨.inr hge_ri⟩
  refine .d fun dC aG=>?_
  replace ak:=Chg.trans ak (Ext.chg aG)
  replace bm:=bm.ext aG
  replace hE:=hE.trans aG
  have cK:(Av aa 0 ab).toNat< ac.length:=AB
  refine RG.idx (b:=rq) (o:=0) ((Av aa 0 ab).toNat) (len:=ac.length) (i:=Av aa 0 ab) (sz:=3) AA AB cK rfl<|.r 1 ?_
  have bU:=K0 En hix.own ak (Nb.one (hix.ner hri))
  obtain ⟨_,rfl,bn⟩:=bU.elem ((Av aa 0 ab).toNat) yi hyi
  replace bn:Has dC ⟨rq,0+((Av aa 0 ab).toNat) * Rep.sz RP,none⟩ [vT yi.key,vT yi.val,.slice yi.a yi.n yi.c]:=by rw [Nat.zero_add]; exact bn
  refine RG.FA (t':=31) (i:=((Av aa 0 ab).toNat)) (k:=2) (v:=vS aL (yi.n+1) bB) (cs:=[vT yi.key,vT yi.val,.slice yi.a yi.n yi.c]) (⟨yi.key,yi.val,some ⟨aL,0,none⟩,yi.n+1,bB⟩:RP) bU hyi bn AA AA AA rfl fun d7 cL bo cM=>?_
  have hge_r2:=hix.new rq AJ
  replace hix:=hix.upd (i:=(Av aa 0 ab).toNat) (z:=(k:Int)+1) bP hxi hyi hri ak bm b0 bo (y':=(⟨yi.key,yi.val,some ⟨aL,0,none⟩,yi.n+1,bB⟩:RP)) rfl cL
  replace hE:=Chg.CG hE bo ⟨.inr hge_r2⟩
  refine .d<|.ib 3<|.g<|.it ((j:Int)+1)<|.r 1<|.d ?_
  have hxN:(ab.set ((Av aa 0 ab).toNat) ⟨xi.tag,xi.ids++[(k:Int)+1]⟩)=C3 ((k:Int)+1) ab aa:=(Ff ‹_› hxi).symm
  have hbd:=Fg ((k:Int)+1) ab aa (IW names k+j) cd ao; rw [← hxN] at hbd
  have hfs:=Cp hfl (drop_at aJ); rw [← hxN] at hfs
  exact bz (rq,cq,j+1,(ac.set ((Av aa 0 ab).toNat) (⟨yi.key,yi.val,some ⟨aL,0,none⟩,yi.n+1,bB⟩:RP)),(ab.set ((Av aa 0 ab).toNat) ⟨xi.tag,xi.ids++[(k:Int)+1]⟩),(ai.set ((Av aa 0 ab).toNat) aL)) _ _ ⟨AA,AA,AA,AA,AA,AA,AA,AA,AA,trivial⟩ ⟨hE,hix,by omega,by have:=hbd.1; omega,fun x hx=>by have:=hbd.2 x hx; omega,hfs⟩ (by first | omega | (simp only []; omega))
 refine .d<|.s<|.cf<|.x 0 rfl<|.s<|.g<|.r 1 ?_
 have hEw:=hEc.trans hE; have hb2n:=hb2c.ext hE; have hb2l:=hb2c.lt; have hoP:=hix.Ph hb2l; have hNn:=hix.NX; have hb3n:=hix.box; have hn3r:=hix.ne
 have d8:Nb af ae:=Iw (hix.new _ AI) hb2l; have d9:Nb r ae:=Iw (hix.new _ AJ) hb2l
 have eF:Gb w.heap.size af:=Nat.le_trans cj (hix.new _ AI); have hgr:Gb w.heap.size r:=Nat.le_trans cj (hix.new _ AJ)
 have hbe:=NZ hbl AB
 refine .lb hb3n<|.cl (Dq hoP (by rw [hix.lx]; have q1:=Jm names k; omega)) ?_
 rintro ec dD ⟨rfl,cN,hperm_,hsort_,bq,br⟩
 replace ⟨hNn,hb3n,hb2n⟩:=(so [af,r,ae] br).g3 hNn hb3n hb2n
 replace hEw:Chg nil w dD:=Chg.CG hEw br ⟨.inr hgr⟩
 refine .d<|.s<|.g<|.ln hb3n<|.sc [vS bC bV bW,vS r ys.length c] hb2n fun ci bu cO cP=>?_
 replace ⟨hNn,bq,hb3n⟩:=(so [af,r,ae] bu).g3 hNn bq hb3n
 replace hEw:Chg nil w ci:=Chg.CG hEw bu ⟨.inr cS⟩
 refine .d ?_
 have dE:=bq.sl hgr
 replace hNn:=(sd ci [af,r,ae] r).g1 hNn
 exact .rb func116 results116 cO ⟨⟨((⟨names,cN⟩:Idx):Idx),⟨_,rfl,⟨_,_,_,_,_,_,rfl,hNn.w1,dE.w1⟩⟩,(by exact ⟨rfl,fun a b=>KG a b hperm_ hsort_ hbe⟩)⟩,hEw⟩
theorem DS (d:Dsk) (h1:RepS w F a1 n1 c1 d.files) (h2:RepS w F a2 n2 c2 d.list) (h3:RepS w F a3 n3 c3 d.names) (p0:d.names.length≤1100000) (p1:By d.names≤1100000) (p2:∀ f∈d.files,PrtI f.part) (p3:d.list.length≤7) (p4:∀ n∈d.list,0≤At d n):Calls Tryz.prog 71 [.agg #[.slice a1 n1 c1,.slice a2 n2 c2,.slice a3 n3 c3,.int .i64 d.next]].toArray w (Ad fun rv w'=>(∃ (y:Sto),VS (ge w.heap.size) w' (y:Sto) rv∧(DC d y))∧Ext w w'):=by
 cases h1.len
 cases h2.len
 cases h3.len
 refine goT func71 ?_
 have Z:=(((St.i0 F w).p h1).p h2).p h3
 have aK:=h1.max
 have aL:=h2.max
 have aM:=h3.max
 refine .s<|.g<|RG.Np Z fun ao w Z=>RG.Np Z fun aq w Z=>.d<|.s<|.g<|.r 1<|RG.Lb 1 Z<|RG.cl (G5 d.names (Z.a 0) p0 p1) ?_
 rintro aW w ⟨⟨ah,aA,aN⟩,ar⟩
 refine RG.vS Z aA ar ?_
 intro aB aC aD aE Z
 refine RG.N0 Prt 0 Z fun aF w Z=>RG.N0 Smp 0 Z fun aG w Z=>.r 1<|RG.Np Z fun aj w Z=>RG.Ss 0 Z fun w Z=>.d<|.s<|.s<|.g<|.r 1<|RG.Lb 4 Z<|.r 2<|.d<|.b 0<|T.Lp ((0:Nat),(ah.names:List (List Tag)),aB,aC,(ah.Ae:List Pst),aD,aE,([]:List Prt),aF,(0:Nat),([]:List Smp),aG,(0:Nat)) (fun (k,ab,a_s_0,c_s_0,ac,a_s_1,c_s_1,aa,r_s_2,c_s_2,ae,r_s_3,c_s_3)=>([(1,vP ao),(2,vP aq),(3,vP aj),(13,.slice a2 d.list.length c2),(14,vI (d.list.length:Int)),(15,vI (k:Int))],[(0,.box aj 45 [.slice a_s_0 ab.length c_s_0,.slice a_s_1 ac.length c_s_1,vS r_s_2 aa.length c_s_2,vS r_s_3 ae.length c_s_3]),(1,.own 0 r_s_3 175 c_s_3 ae),(2,.own 0 r_s_2 111 c_s_2 aa)],[⟨0,none,.rep a_s_0 c_s_0 ab⟩,⟨0,none,.rep a_s_1 c_s_1 ac⟩],d.list.length - k,(k≤d.list.length)∧(aa.length≤k)∧(aa++(d.list.drop k).map (Aw d)=d.list.map (Aw d))∧(ae=[])∧(ab=d.names)∧((NmI d.names→NsD d.names→(⟨ab,ac⟩:Idx)=idxOf d.names)))) [0,1] Z ⟨AD,AD,AF,AF,(by have q1:ah.names=d.names∧(NmI d.names→NsD d.names→ah=idxOf d.names):=‹_›; exact q1.1),(by have q1:ah.names=d.names∧(NmI d.names→NsD d.names→ah=idxOf d.names):=‹_›; exact q1.2)⟩ ?_
 rintro ⟨k,ab,a_s_0,c_s_0,ac,a_s_1,c_s_1,aa,r_s_2,c_s_2,ae,r_s_3,c_s_3⟩ aX w Z ⟨aO,aP,aQ,aR,aS,aT⟩ ai
 refine .s<|.g<|.bp ((k:Int)< (d.list.length:Int)) (fun ax=>?_) (fun ax=>?_)
 ·refine .d<|.s<|.ct<|.sk<|.s<|.b 1<|.s<|.g<|gx (h:=(by first | omega | exact (BM (p4 _ ‹_›)).1 | exact (BM (p4 _ ‹_›)).2)) d.list k fun ak af=>?_
  have aU:=drop_at af; have ay:=AV af
  refine RG.Ix 5 af Z<|Z.el 5 af fun Z=>RG.Lh 0 0 Z<|.r 1<|.d<|T.GS 12 [aj,aq,ao] Z fun _ w Z=>.r [0]<|GA.Lb 1 0 Z<|.r [2]<|GA.Lb (q:=2) 3 4 Z<|GA.Ln (q:=2) 4 4 Z<|.r [5]<|GA.D0 6 Z (fun w Y=>Dt d ak (Y.a 7) (Y.a 6) (Y.a 5))<|gx (h:=(by first | omega | exact (BM (p4 _ ‹_›)).1 | exact (BM (p4 _ ‹_›)).2)) d.files ((At d ak).toNat) fun am ag=>?_
  have aV:=drop_at ag; have az:=AV ag
  exact GA.Jx (hz:=(by first | omega | exact (BM (p4 _ ‹_›)).1 | exact (BM (p4 _ ‹_›)).2)) 7 7 (At d ak) ag Z<|.r [8]<|Z.el 7 ag fun aY aZ ba bd Z=>GA.Lg 9 0 1 Z<|.go 10<|GE.CS (fun w Z=>GI am.part (Z.a 1) (Z.a 2) (p2 _ ‹_›).sz) Z fun bg bh bi bj w Z=>.go 11<|GE.Nb 1 Z fun bk w Z=>GA.Do Z fun w Z=>RG.Ap 2 0 aa am.part [0,1] Z fun aI aJ w Z=>.r 1<|RG.Ss 0 Z fun w Z=>.d<|.ib 1<|.g<|RG.int ((k:Int)+1) AA (by first | omega | exact (BM (p4 _ ‹_›)).1 | exact (BM (p4 _ ‹_›)).2)<|.r 1<|.d<|ai (k+1,ab,a_s_0,c_s_0,ac,a_s_1,c_s_1,(aa++[am.part]),aI,aJ,ae,r_s_3,c_s_3) _ _ AA (Z.to 0 [6,7] 8) ⟨AB,(by simp; omega),(by exact Mg ‹_› ‹_› ‹_›),‹_›,‹_›,‹_›⟩ (by first | omega | (simp only []; omega))
 refine .d<|.s<|.cf<|.x 0 rfl<|.s<|.g<|RG.Ln 0 Z<|RG.Ss 3 Z fun w Z=>.d ?_
 have Z:=(Z.sl 2).sl 1
 exact T.Rb 1 func71 results71 Z ⟨⟨((⟨(⟨ab,ac⟩:Idx),aa,ae⟩:Sto):Sto),Z.rS (⟨(⟨ab,ac⟩:Idx),aa,ae⟩:Sto) [2,3,1,0] rfl,(by exact DC.mk ‹_› (OA ‹_› AB) ‹_› ‹_›)⟩,Z.xt⟩
theorem IJ (d:Dsk) (h1:RepS w F a1 n1 c1 d.files) (h2:RepS w F a2 n2 c2 d.list) (h3:RepS w F a3 n3 c3 d.names) (p0:d.names.length≤1100000) (p1:By d.names≤1100000):Calls Tryz.prog 69 [.agg #[.slice a1 n1 c1,.slice a2 n2 c2,.slice a3 n3 c3,.int .i64 d.next]].toArray w (Ad fun rv w'=>rv=.bool (Ak d)∧Ext w w'):=by
 cases h1.len
 cases h2.len
 cases h3.len
 refine goT func69 ?_
 have Z:=(((St.i0 F w).p h1).p h2).p h3
 have aH:=h1.max
 have aI:=h2.max
 have aJ:=h3.max
 refine .s<|.g<|RG.Np Z fun am w Z=>.r 1<|.d<|.s<|.s<|.g<|.r 1<|RG.Lb 0 Z<|RG.C0 (Be d.next 1 999 (F:=all)) Z fun w Z=>?_
 cases ai:(inR d.next 1 999)
 ·have aK:=EP ai
  exact .r 13<|.d<|.ct<|.s<|.g<|.r 1<|.d<|T.rt func69 results69 (.bool false) ⟨(AG (by symm; first | exact As (.inl ‹_›) | exact As (.inr (.inl ‹_›)) | exact As (.inr (.inr (.inl ‹_›))) | exact As (.inr (.inr (.inr ‹_›))) | exact BI (Ag ‹_› ‹_› (.inl ‹_›)) | exact BI (Ag ‹_› ‹_› (.inr (.inl ⟨by omega,_,by assumption,by assumption⟩))) | exact BI (Ag ‹_› ‹_› (.inr (.inr ‹_›))) | exact BJ (Bm ‹_› ‹_›) | exact BJ (Bn (k:=k) (j:=k1) ‹_› ‹_› AB ‹_›) | exact BJ (Bo ‹_› ‹_›))),Z.xt⟩
 have aL:=Bh ai
 refine .r 3<|RG.Lb 0 Z<|.r 1<|.bp ((d.files.length:Int) > 20) (fun ao=>.r 7<|.d<|.ct<|.s<|.g<|.r 1<|.d<|T.rt func69 results69 (.bool false) ⟨(AG (by symm; first | exact As (.inl ‹_›) | exact As (.inr (.inl ‹_›)) | exact As (.inr (.inr (.inl ‹_›))) | exact As (.inr (.inr (.inr ‹_›))) | exact BI (Ag ‹_› ‹_› (.inl ‹_›)) | exact BI (Ag ‹_› ‹_› (.inr (.inl ⟨by omega,_,by assumption,by assumption⟩))) | exact BI (Ag ‹_› ‹_› (.inr (.inr ‹_›))) | exact BJ (Bm ‹_› ‹_›) | exact BJ (Bn (k:=k) (j:=k1) ‹_› ‹_› AB ‹_›) | exact BJ (Bo ‹_› ‹_›))),Z.xt⟩) fun ao=>.r 3<|RG.Lb 0 Z<|.r 1<|.bp ((d.list.length:Int) > 6) (fun aq=>.r 1<|.d<|.ct<|.s<|.g<|.r 1<|.d<|T.rt func69 results69 (.bool false) ⟨(AG (by symm; first | exact As (.inl ‹_›) | exact As (.inr (.inl ‹_›)) | exact As (.inr (.inr (.inl ‹_›))) | exact As (.inr (.inr (.inr ‹_›))) | exact BI (Ag ‹_› ‹_› (.inl ‹_›)) | exact BI (Ag ‹_› ‹_› (.inr (.inl ⟨by omega,_,by assumption,by assumption⟩))) | exact BI (Ag ‹_› ‹_› (.inr (.inr ‹_›))) | exact BJ (Bm ‹_› ‹_›) | exact BJ (Bn (k:=k) (j:=k1) ‹_› ‹_› AB ‹_›) | exact BJ (Bo ‹_› ‹_›))),Z.xt⟩) fun aq=>.r 1<|.d<|.cf<|.sk<|.s<|.s<|.g<|.r 1<|RG.Lb 0 Z<|.r 2<|.d<|.b 0<|T.Lp (0:Nat) (fun k=>([(1,vP am),(24,.slice a1 d.files.length c1),(25,vI (d.files.length:Int)),(26,vI (k:Int))],[],[],d.files.length - k,(k≤d.files.length)∧(Bs d.next (GR d.files k) (d.files.drop k)=Bs d.next none d.files))) [] Z ⟨AD,AF⟩ ?_
 rintro k ba w Z ⟨aM,aN⟩ aa
 refine .s<|.g<|.bp ((k:Int)< (d.files.length:Int)) (fun ar=>?_) (fun ar=>?_)
 ·refine .d<|.s<|.ct<|.sk<|.s<|.b 1<|.s<|.g<|.r 1<|gx d.files k fun ab ac=>?_
  have aO:=drop_at ac; have aC:=AV ac
  refine RG.Ix 2 ac Z<|Z.el 2 ac fun bd bg bh bi Z=>RG.Lg 0 0 Z<|RG.Np Z fun bj w Z=>.r 1<|RG.Ss 0 Z fun w Z=>.d<|.s<|T.Gd 20 Z fun w Z=>.r [0]<|GA.Lb 1 0 Z<|.r [2]<|GA.Lb 3 1 Z<|GA.int (i:=4) (d.next - 1) AA AB<|GA.C0 5 Z (fun w Z=>Be ab.num 1 (d.next - 1) (F:=all)) ?_
  cases aj:(inR ab.num 1 (d.next - 1))
  ·have aP:=EP aj
   exact .r [6,7]<|GA.Sk Z fun w Z=>.r 9<|.d<|.ct<|.s<|.g<|.r 1<|.d<|T.rt func69 results69 (.bool false) ⟨(AG (by symm; first | exact As (.inl ‹_›) | exact As (.inr (.inl ‹_›)) | exact As (.inr (.inr (.inl ‹_›))) | exact As (.inr (.inr (.inr ‹_›))) | exact BI (Ag ‹_› ‹_› (.inl ‹_›)) | exact BI (Ag ‹_› ‹_› (.inr (.inl ⟨by omega,_,by assumption,by assumption⟩))) | exact BI (Ag ‹_› ‹_› (.inr (.inr ‹_›))) | exact BJ (Bm ‹_› ‹_›) | exact BJ (Bn (k:=k) (j:=k1) ‹_› ‹_› AB ‹_›) | exact BJ (Bo ‹_› ‹_›))),Z.xt⟩
  have aQ:=Bh aj
  refine .r [6,7,8]<|GA.Cr (i:=9) ((k:Int) > 0) AA (fun ax=>?_) (fun ax=>?_)
  ·refine .r [10,11]<|GA.Lb 12 1 Z<|.r [13]<|GA.int (i:=14) ((k:Int) - 1) AA AB<|gx d.files (k - 1) fun aF ae=>?_
   have aR:=drop_at ae; have aD:=AV ae
   refine GA.Jx 15 5 ((k:Int) - 1) ae Z<|.r [16]<|Z.el 5 ae fun bk bm bn bo Z=>GA.Lh 17 0 0 Z<|.r [18]<|GA.Lb 19 0 Z<|GA.Dn Z fun w Z=>.bp (aF.num≥ab.num) (fun ay=>.r 8<|.d<|.ct<|.s<|.g<|.r 1<|.d<|T.rt func69 results69 (.bool false) ⟨(AG (by symm; first | exact As (.inl ‹_›) | exact As (.inr (.inl ‹_›)) | exact As (.inr (.inr (.inl ‹_›))) | exact As (.inr (.inr (.inr ‹_›))) | exact BI (Ag ‹_› ‹_› (.inl ‹_›)) | exact BI (Ag ‹_› ‹_› (.inr (.inl ⟨by omega,_,by assumption,by assumption⟩))) | exact BI (Ag ‹_› ‹_› (.inr (.inr ‹_›))) | exact BJ (Bm ‹_› ‹_›) | exact BJ (Bn (k:=k) (j:=k1) ‹_› ‹_› AB ‹_›) | exact BJ (Bo ‹_› ‹_›))),Z.xt⟩) fun ay=>.r 4<|RG.Ln 0 Z<|RG.C0 (Cj ab.part (Z.a 4) (Z.a 5)) Z fun w Z=>?_
   cases aS:(Ac ab.part)
   ·exact .r 2<|.d<|.ct<|.s<|.g<|.r 1<|.d<|T.rt func69 results69 (.bool false) ⟨(AG (by symm; first | exact As (.inl ‹_›) | exact As (.inr (.inl ‹_›)) | exact As (.inr (.inr (.inl ‹_›))) | exact As (.inr (.inr (.inr ‹_›))) | exact BI (Ag ‹_› ‹_› (.inl ‹_›)) | exact BI (Ag ‹_› ‹_› (.inr (.inl ⟨by omega,_,by assumption,by assumption⟩))) | exact BI (Ag ‹_› ‹_› (.inr (.inr ‹_›))) | exact BJ (Bm ‹_› ‹_›) | exact BJ (Bn (k:=k) (j:=k1) ‹_› ‹_› AB ‹_›) | exact BJ (Bo ‹_› ‹_›))),Z.xt⟩
   exact .r 2<|.d<|.cf<|.sk<|.ib 1<|.g<|.it ((k:Int)+1)<|.r 1<|.d<|aa (k+1) _ _ AA (Z.to 1 [] 6) ⟨AB,(by first | exact Cq ‹_› ‹_› ‹_› ‹_› (.inl AB) ‹_› | exact Cq ‹_› ‹_› ‹_› ‹_› (.inr ⟨_,by assumption,by assumption⟩) ‹_›)⟩ (by first | omega | (simp only []; omega))
  refine .r [10]<|GA.Sk Z fun w Z=>.r 5<|RG.Ln 0 Z<|RG.C0 (Cj ab.part (Z.a 1) (Z.a 2)) Z fun w Z=>?_
  cases aT:(Ac ab.part)
  ·exact .r 2<|.d<|.ct<|.s<|.g<|.r 1<|.d<|T.rt func69 results69 (.bool false) ⟨(AG (by symm; first | exact As (.inl ‹_›) | exact As (.inr (.inl ‹_›)) | exact As (.inr (.inr (.inl ‹_›))) | exact As (.inr (.inr (.inr ‹_›))) | exact BI (Ag ‹_› ‹_› (.inl ‹_›)) | exact BI (Ag ‹_› ‹_› (.inr (.inl ⟨by omega,_,by assumption,by assumption⟩))) | exact BI (Ag ‹_› ‹_› (.inr (.inr ‹_›))) | exact BJ (Bm ‹_› ‹_›) | exact BJ (Bn (k:=k) (j:=k1) ‹_› ‹_› AB ‹_›) | exact BJ (Bo ‹_› ‹_›))),Z.xt⟩
  exact .r 2<|.d<|.cf<|.sk<|.ib 1<|.g<|.it ((k:Int)+1)<|.r 1<|.d<|aa (k+1) _ _ AA (Z.to 1 [] 3) ⟨AB,(by first | exact Cq ‹_› ‹_› ‹_› ‹_› (.inl AB) ‹_› | exact Cq ‹_› ‹_› ‹_› ‹_› (.inr ⟨_,by assumption,by assumption⟩) ‹_›)⟩ (by first | omega | (simp only []; omega))
 refine .d<|.s<|.cf<|.x 0 rfl<|.s<|.s<|.g<|.r 1<|RG.Lb 0 Z<|.r 2<|.d<|.b 2<|T.Lp (0:Nat) (fun k=>([(1,vP am),(62,.slice a2 d.list.length c2),(63,vI (d.list.length:Int)),(64,vI (k:Int))],[],[],d.list.length - k,(k≤d.list.length)∧(Bs d.next none d.files=true)∧(Mf d k))) [] Z ⟨AD,(by exact Lz ‹_› AB),(by exact N7 _)⟩ ?_
 rintro k bq w Z ⟨aU,aV,aW⟩ ag
 refine .s<|.g<|.bp ((k:Int)< (d.list.length:Int)) (fun az=>?_) (fun az=>?_)
 ·refine .d<|.s<|.ct<|.sk<|.s<|.b 3<|.s<|.g<|.r 1<|gx d.list k fun ah af=>?_
  have aX:=drop_at af; have aE:=AV af
  refine RG.Ix 1 af Z<|Z.el 1 af fun Z=>RG.Lh 0 0 Z<|.r 2<|.d<|.s<|.g<|RG.Ln 0 Z<|.r 1<|RG.C0 (Dt d ah (Z.a 3) (Z.a 2) (Z.a 1)) Z fun w Z=>.bp (At d ah< 0) (fun aA=>.r 8<|.d<|.ct<|.s<|.g<|.r 1<|.d<|T.rt func69 results69 (.bool false) ⟨(AG (by symm; first | exact As (.inl ‹_›) | exact As (.inr (.inl ‹_›)) | exact As (.inr (.inr (.inl ‹_›))) | exact As (.inr (.inr (.inr ‹_›))) | exact BI (Ag ‹_› ‹_› (.inl ‹_›)) | exact BI (Ag ‹_› ‹_› (.inr (.inl ⟨by omega,_,by assumption,by assumption⟩))) | exact BI (Ag ‹_› ‹_› (.inr (.inr ‹_›))) | exact BJ (Bm ‹_› ‹_›) | exact BJ (Bn (k:=k) (j:=k1) ‹_› ‹_› AB ‹_›) | exact BJ (Bo ‹_› ‹_›))),Z.xt⟩) fun aA=>.r 2<|RG.Lb 0 Z<|.r 1<|RG.Sb (hhi:=bdS AA) 2 0 k d.list Z fun br bu Z=>.r 1<|RG.C0 (DM ((d.list.take k).drop 0) ah (Z.a 0)) Z fun w Z=>?_
  cases aY:((d.list.take k).drop 0).contains ah
  ·exact .r 1<|.d<|.cf<|.sk<|.ib 3<|.g<|.it ((k:Int)+1)<|.r 1<|.d<|ag (k+1) _ _ AA (Z.to 0 [] 2) ⟨AB,‹_›,(by exact JE ‹_› ‹_› ‹_› (N8 ‹_›) (Nat.le_refl _))⟩ (by first | omega | (simp only []; omega))
  exact .r 1<|.d<|.ct<|.s<|.g<|.r 1<|.d<|T.rt func69 results69 (.bool false) ⟨(AG (by symm; first | exact As (.inl ‹_›) | exact As (.inr (.inl ‹_›)) | exact As (.inr (.inr (.inl ‹_›))) | exact As (.inr (.inr (.inr ‹_›))) | exact BI (Ag ‹_› ‹_› (.inl ‹_›)) | exact BI (Ag ‹_› ‹_› (.inr (.inl ⟨by omega,_,by assumption,by assumption⟩))) | exact BI (Ag ‹_› ‹_› (.inr (.inr ‹_›))) | exact BJ (Bm ‹_› ‹_›) | exact BJ (Bn (k:=k) (j:=k1) ‹_› ‹_› AB ‹_›) | exact BJ (Bo ‹_› ‹_›))),Z.xt⟩
 refine .d<|.s<|.cf<|.x 2 rfl<|.s<|.g<|RG.Ln 0 Z<|RG.cl (DS d (Z.a 2) (Z.a 1) (Z.a 0) p0 p1 (OO ‹_›) AB (BS (Fj ‹_› AB))) ?_
 rintro bv w ⟨⟨ak,aG,aZ⟩,aB⟩
 refine RG.vS Z aG aB ?_
 intro bw bz bA bB bC bD bE bF Z
 exact RG.C0 (EG ak (Z.a 0) (Z.a 1) (Z.a 2) (Z.a 3)) Z fun w Z=>.r 1<|.d<|T.rt func69 results69 (.bool (ixB ak.idx&&AZ ak)) ⟨(AG (by exact Rc (by assumption:DC d _) ‹_› AB AB ‹_› (Fj ‹_› AB))),Z.xt⟩
theorem G6 (s:Sto) (d:Dsk) (h1:RepS w F a1 n1 c1 s.idx.names) (h2:RepS w F a2 n2 c2 s.idx.Ae) (h3:RepS w F a3 n3 c3 s.parts) (h4:RepS w F a4 n4 c4 s.mem) (h5:RepS w F a5 n5 c5 d.files) (h6:RepS w F a6 n6 c6 d.list) (h7:RepS w F a7 n7 c7 d.names) (p0:d.names.length≤1100000) (p1:By d.names≤1100000):Calls Tryz.prog 30 [.agg #[.slice a1 n1 c1,.slice a2 n2 c2,.slice a3 n3 c3,.slice a4 n4 c4],.agg #[.slice a5 n5 c5,.slice a6 n6 c6,.slice a7 n7 c7,.int .i64 d.next]].toArray w (Ad fun rv w'=>rv=.bool (ftW d s)∧Ext w w'):=by
 cases h1.len
 cases h2.len
 cases h3.len
 cases h4.len
 cases h5.len
 cases h6.len
 cases h7.len
 refine goT func30 ?_
 have Z:=(((((((St.i0 F w).p h1).p h2).p h3).p h4).p h5).p h6).p h7
 have af:=h1.max
 have ag:=h2.max
 have ah:=h3.max
 have ai:=h4.max
 have aj:=h5.max
 have ak:=h6.max
 have am:=h7.max
 refine .s<|.g<|RG.Np Z fun ay w Z=>RG.Np Z fun az w Z=>.r 1<|.d<|.s<|.s<|T.Gd 14 Z fun w Z=>GA.Ln 0 1 Z<|GA.C0 1 Z (fun w Z=>EG s (Z.a 6) (Z.a 5) (Z.a 4) (Z.a 3)) ?_
 cases ao:(ixB s.idx&&AZ s)
 ·exact .r [2,3,4,5,6,7,8]<|GA.Sk Z fun w Z=>.r 3<|.d<|.ct<|.s<|.g<|.r 1<|.d<|T.rt func30 results30 (.bool false) ⟨(AG (by first | exact Hu ‹_› | exact Hv ‹_› | exact Bj (by assumption:(ixB s.idx&&AZ s)=true) (Hq ‹_› ‹_›) | exact Bj (by assumption:(ixB s.idx&&AZ s)=true) (Hr ‹_›) | exact Bj (by assumption:(ixB s.idx&&AZ s)=true) (Hs ‹_› ‹_› (Ge (by assumption:(ixB s.idx&&AZ s)=true)) ‹_› AD))),Z.xt⟩
 refine .r [2,3]<|GA.Ln 4 0 Z<|GA.C0 5 Z (fun w Z=>IJ d (Z.a 2) (Z.a 1) (Z.a 0) p0 p1) ?_
 cases aq:(Ak d)
 ·exact .r [6,7,8]<|GA.Sk Z fun w Z=>.r 3<|.d<|.ct<|.s<|.g<|.r 1<|.d<|T.rt func30 results30 (.bool false) ⟨(AG (by first | exact Hu ‹_› | exact Hv ‹_› | exact Bj (by assumption:(ixB s.idx&&AZ s)=true) (Hq ‹_› ‹_›) | exact Bj (by assumption:(ixB s.idx&&AZ s)=true) (Hr ‹_›) | exact Bj (by assumption:(ixB s.idx&&AZ s)=true) (Hs ‹_› ‹_› (Ge (by assumption:(ixB s.idx&&AZ s)=true)) ‹_› AD))),Z.xt⟩
 refine .r [6,7,8,9]<|GA.Lb 10 1 Z<|GA.Ln 11 0 Z<|.go 12<|GE.Cg (fun w Z=>DS d (Z.a 2) (Z.a 1) (Z.a 0) p0 p1 (JJ (by assumption:Ak d=true)).file (JJ (by assumption:Ak d=true)).nl (BS (BT ‹_›).2.2.2)) Z ?_
 rintro w aA w Z ⟨⟨ab,ae,ar⟩,aa⟩
 refine ⟨Ext.chg aa,?_⟩
 refine GA.vS Z ae aa ?_
 intro aB aC aD aE aF aG aH aI Z
 refine .r [13]<|GA.Dn Z fun w Z=>RG.C0 (Fo s.parts ab.parts (Z.a 8) (Z.a 2)) Z fun w Z=>?_
 cases ax:(s.parts==ab.parts)
 ·exact .r 2<|.d<|.ct<|.s<|.g<|.r 1<|.d<|T.rt func30 results30 (.bool false) ⟨(AG (by first | exact Hu ‹_› | exact Hv ‹_› | exact Bj (by assumption:(ixB s.idx&&AZ s)=true) (Hq ‹_› ‹_›) | exact Bj (by assumption:(ixB s.idx&&AZ s)=true) (Hr ‹_›) | exact Bj (by assumption:(ixB s.idx&&AZ s)=true) (Hs ‹_› ‹_› (Ge (by assumption:(ixB s.idx&&AZ s)=true)) ‹_› AD))),Z.xt⟩
 exact .r 2<|.d<|.cf<|.sk<|.s<|.g<|.r 1<|RG.Lb 0 Z<|.r 2<|.d<|.s<|T.Gd 14 Z fun w Z=>.r [0,1,2]<|GA.Lb 3 1 Z<|.r [4]<|GA.Cr (i:=5) ((d.names.length:Int)≤(s.idx.names.length:Int)) AA (fun ac=>.r [6,7]<|GA.Lb 8 0 Z<|.r [9,10]<|GA.Lb 11 1 Z<|.r [12]<|GA.Sb (hhi:=bdS AA) 13 10 0 d.names.length s.idx.names Z fun aJ aK Z=>GA.Dn Z fun w Z=>RG.C0 (Fm d.names ((s.idx.names.take d.names.length).drop 0) (Z.a 5) (Z.a 0)) Z fun w Z=>.r 2<|.d<|T.rt func30 results30 (.bool (d.names==((s.idx.names.take d.names.length).drop 0))) ⟨(AG (by first | exact Hu ‹_› | exact Hv ‹_› | exact Bj (by assumption:(ixB s.idx&&AZ s)=true) (Hq ‹_› ‹_›) | exact Bj (by assumption:(ixB s.idx&&AZ s)=true) (Hr ‹_›) | exact Bj (by assumption:(ixB s.idx&&AZ s)=true) (Hs ‹_› ‹_› (Ge (by assumption:(ixB s.idx&&AZ s)=true)) ‹_› AD))),Z.xt⟩) fun ac=>.r [6]<|GA.Sk Z fun w Z=>.r 3<|.d<|T.rt func30 results30 (.bool false) ⟨(AG (by first | exact Hu ‹_› | exact Hv ‹_› | exact Bj (by assumption:(ixB s.idx&&AZ s)=true) (Hq ‹_› ‹_›) | exact Bj (by assumption:(ixB s.idx&&AZ s)=true) (Hr ‹_›) | exact Bj (by assumption:(ixB s.idx&&AZ s)=true) (Hs ‹_› ‹_› (Ge (by assumption:(ixB s.idx&&AZ s)=true)) ‹_› AD))),Z.xt⟩
theorem G7 (w_:Wld) (h1:RepS w F a1 n1 c1 w_.store.idx.names) (h2:RepS w F a2 n2 c2 w_.store.idx.Ae) (h3:RepS w F a3 n3 c3 w_.store.parts) (h4:RepS w F a4 n4 c4 w_.store.mem) (h5:RepS w F a5 n5 c5 w_.disk.files) (h6:RepS w F a6 n6 c6 w_.disk.list) (h7:RepS w F a7 n7 c7 w_.disk.names) (p0:w_.disk.names.length≤1100000) (p1:By w_.disk.names≤1100000):Calls Tryz.prog 9 [.agg #[.slice a1 n1 c1,.slice a2 n2 c2,.slice a3 n3 c3,.slice a4 n4 c4,.slice a5 n5 c5,.slice a6 n6 c6,.slice a7 n7 c7,.int .i64 w_.disk.next]].toArray w (Ad fun rv w'=>rv=.bool (ftW w_.disk w_.store)∧Ext w w'):=by
 cases h1.len
 cases h2.len
 cases h3.len
 cases h4.len
 cases h5.len
 cases h6.len
 cases h7.len
 refine goT func9 ?_
 have Z:=(((((((St.i0 F w).p h1).p h2).p h3).p h4).p h5).p h6).p h7
 have aa:=h1.max
 have ab:=h2.max
 have ac:=h3.max
 have ae:=h4.max
 have af:=h5.max
 have ag:=h6.max
 have ah:=h7.max
 exact .s<|.g<|RG.Np Z fun ai w Z=>.r 1<|.d<|.s<|.g<|.r 1<|RG.Ln 0 Z<|.r 1<|RG.Ln 0 Z<|RG.C0 (G6 w_.store w_.disk (Z.a 6) (Z.a 5) (Z.a 4) (Z.a 3) (Z.a 2) (Z.a 1) (Z.a 0) p0 p1) Z fun w Z=>.r 1<|.d<|T.rt func9 results9 (.bool (ftW w_.disk w_.store)) ⟨(AG AF),Z.xt⟩
theorem G8 (d:Dsk) (s:Sto) (h1:RepS w F a1 n1 c1 d.files) (h2:RepS w F a2 n2 c2 d.list) (h3:RepS w F a3 n3 c3 d.names) (h4:RepS w F a4 n4 c4 s.idx.names) (h5:RepS w F a5 n5 c5 s.idx.Ae) (h6:RepS w F a6 n6 c6 s.parts) (h7:RepS w F a7 n7 c7 s.mem) (p0:∀ n∈d.names,n.length≤1100000) (p1:s.idx.Ae.length≤1100000):Calls Tryz.prog 27 [.agg #[.slice a1 n1 c1,.slice a2 n2 c2,.slice a3 n3 c3,.int .i64 d.next],.agg #[.slice a4 n4 c4,.slice a5 n5 c5,.slice a6 n6 c6,.slice a7 n7 c7]].toArray w (Ad fun rv w'=>rv=.bool (ftW d s)∧Ext w w'):=by
 cases h1.len
 cases h2.len
 cases h3.len
 cases h4.len
 cases h5.len
 cases h6.len
 cases h7.len
 refine goT func27 ?_
 have Z:=(((((((St.i0 F w).p h1).p h2).p h3).p h4).p h5).p h6).p h7
 have aL:=h1.max
 have aM:=h2.max
 have aN:=h3.max
 have aO:=h4.max
 have aP:=h5.max
 have aQ:=h6.max
 have aR:=h7.max
 refine .s<|.g<|RG.Np Z fun ar w Z=>RG.Np Z fun ax w Z=>.r 1<|.d<|.s<|.s<|.g<|RG.Ln 1 Z<|RG.C0 (II d (Z.a 6) (Z.a 5) (Z.a 4) p0) Z fun w Z=>?_
 cases aS:(Ak d)
 ·exact .r 25<|.d<|.ct<|.s<|.g<|.r 1<|.d<|T.rt func27 results27 (.bool false) ⟨(AG (by first | exact Hu ‹_› | exact Hv ‹_› | exact Bj (by assumption:(ixB s.idx&&AZ s)=true) (Et ‹_›) | exact Bj (by assumption:(ixB s.idx&&AZ s)=true) (D9 ‹_›) | exact Bj (by assumption:(ixB s.idx&&AZ s)=true) (GY ‹_› ‹_› ‹_›) | exact Bj (by assumption:(ixB s.idx&&AZ s)=true) (GZ ‹_› ‹_› ‹_› ‹_›))),Z.xt⟩
 refine .r 2<|RG.Ln 0 Z<|RG.C0 (EF s (Z.a 3) (Z.a 2) (Z.a 1) (Z.a 0) p1) Z fun w Z=>?_
 cases aT:(ixB s.idx&&AZ s)
 ·exact .r 21<|.d<|.ct<|.s<|.g<|.r 1<|.d<|T.rt func27 results27 (.bool false) ⟨(AG (by first | exact Hu ‹_› | exact Hv ‹_› | exact Bj (by assumption:(ixB s.idx&&AZ s)=true) (Et ‹_›) | exact Bj (by assumption:(ixB s.idx&&AZ s)=true) (D9 ‹_›) | exact Bj (by assumption:(ixB s.idx&&AZ s)=true) (GY ‹_› ‹_› ‹_›) | exact Bj (by assumption:(ixB s.idx&&AZ s)=true) (GZ ‹_› ‹_› ‹_› ‹_›))),Z.xt⟩
 refine .r 4<|RG.Lb 0 Z<|.r 2<|RG.Lb 1 Z<|.r 1<|.ne (s.parts.length:Int) (d.list.length:Int) (fun az=>.r 11<|.d<|.ct<|.s<|.g<|.r 1<|.d<|T.rt func27 results27 (.bool false) ⟨(AG (by first | exact Hu ‹_› | exact Hv ‹_› | exact Bj (by assumption:(ixB s.idx&&AZ s)=true) (Et ‹_›) | exact Bj (by assumption:(ixB s.idx&&AZ s)=true) (D9 ‹_›) | exact Bj (by assumption:(ixB s.idx&&AZ s)=true) (GY ‹_› ‹_› ‹_›) | exact Bj (by assumption:(ixB s.idx&&AZ s)=true) (GZ ‹_› ‹_› ‹_› ‹_›))),Z.xt⟩) fun az=>.r 4<|RG.Lb 0 Z<|.r 2<|RG.Lb 1 Z<|.r 1<|.bp ((s.idx.names.length:Int)< (d.names.length:Int)) (fun aA=>.r 1<|.d<|.ct<|.s<|.g<|.r 1<|.d<|T.rt func27 results27 (.bool false) ⟨(AG (by first | exact Hu ‹_› | exact Hv ‹_› | exact Bj (by assumption:(ixB s.idx&&AZ s)=true) (Et ‹_›) | exact Bj (by assumption:(ixB s.idx&&AZ s)=true) (D9 ‹_›) | exact Bj (by assumption:(ixB s.idx&&AZ s)=true) (GY ‹_› ‹_› ‹_›) | exact Bj (by assumption:(ixB s.idx&&AZ s)=true) (GZ ‹_› ‹_› ‹_› ‹_›))),Z.xt⟩) fun aA=>.r 1<|.d<|.cf<|.sk<|.s<|.s<|.g<|.r 1<|.d<|.b 0<|T.Lp (0:Nat) (fun k=>([(2,vP ar),(3,vP ax),(5,vI (k:Int))],[],[],d.names.length - k,(k≤d.names.length)∧(OI d s k))) [] Z ⟨AB,(by exact QI _ _)⟩ ?_
 rintro k bn w Z ⟨aU,aV⟩ ah
 refine .s<|.s<|.g<|.r 2<|RG.Lb 1 Z<|.r 1<|.bp ((k:Int)< (d.names.length:Int)) (fun aB=>?_) (fun aB=>?_)
 ·refine .d<|.ct<|.sk<|.s<|.b 1<|.s<|T.Gd 12 Z fun w Z=>.r [0]<|GA.Lb 1 1 Z<|.r [2]<|gx (h:=(by first | omega | exact (BM (BS (BT ‹_›).2.2.2 _ ‹_›)).1 | exact (BM (BS (BT ‹_›).2.2.2 _ ‹_›)).2)) d.names k fun ao ab=>?_
  have aW:=drop_at ab; have aE:=AV ab
  refine GA.Ix 3 4 ab Z<|Z.el 4 ab fun bo bq Z=>GA.Lh 4 0 0 Z<|GA.C0 5 Z (fun w Z=>Ck ao (Z.a 1) (by first | exact (Bz ((CK (by assumption:Ak d=true)).1.ok _ ‹_›)).1 | exact (Bz ((DG (by assumption:(ixB s.idx&&AZ s)=true)).nm.ok _ ‹_›)).1) (by first | exact (Bz ((CK (by assumption:Ak d=true)).1.ok _ ‹_›)).2 | exact (Bz ((DG (by assumption:(ixB s.idx&&AZ s)=true)).nm.ok _ ‹_›)).2))<|.r [6,7]<|GA.Lb 8 0 Z<|.r [9]<|gx (h:=(by first | omega | exact (BM (BS (BT ‹_›).2.2.2 _ ‹_›)).1 | exact (BM (BS (BT ‹_›).2.2.2 _ ‹_›)).2)) s.idx.names k fun aq ac=>?_
  have aX:=drop_at ac; have aF:=AV ac
  refine GA.Ix 10 5 ac Z<|Z.el 5 ac fun br bu Z=>GA.Lh 11 0 0 Z<|GA.Dn Z fun w Z=>RG.C0 (Ck aq (Z.a 1) (by first | exact (Bz ((CK (by assumption:Ak d=true)).1.ok _ ‹_›)).1 | exact (Bz ((DG (by assumption:(ixB s.idx&&AZ s)=true)).nm.ok _ ‹_›)).1) (by first | exact (Bz ((CK (by assumption:Ak d=true)).1.ok _ ‹_›)).2 | exact (Bz ((DG (by assumption:(ixB s.idx&&AZ s)=true)).nm.ok _ ‹_›)).2)) Z fun w Z=>RG.eqv (v:=.bool (!(text ao==text aq))) AA (Oh (text ao) (text aq)) ?_
  cases aY:(text ao==text aq)
  ·exact .d<|.ct<|.s<|.g<|.r 1<|.d<|T.rt func27 results27 (.bool false) ⟨(AG (by first | exact Hu ‹_› | exact Hv ‹_› | exact Bj (by assumption:(ixB s.idx&&AZ s)=true) (Et ‹_›) | exact Bj (by assumption:(ixB s.idx&&AZ s)=true) (D9 ‹_›) | exact Bj (by assumption:(ixB s.idx&&AZ s)=true) (GY ‹_› ‹_› ‹_›) | exact Bj (by assumption:(ixB s.idx&&AZ s)=true) (GZ ‹_› ‹_› ‹_› ‹_›))),Z.xt⟩
  exact .d<|.cf<|.sk<|.ib 1<|.g<|.r 1<|.it ((k:Int)+1)<|.r 1<|.d<|ah (k+1) _ _ AA (Z.to 0 [] 4) ⟨AB,(by exact QJ ‹_› ‹_› ‹_› ‹_›)⟩ (by first | omega | (simp only []; omega))
 refine .d<|.cf<|.x 0 rfl<|.s<|.s<|.g<|.r 1<|.d<|.b 2<|T.Lp (0:Nat) (fun k=>([(2,vP ar),(3,vP ax),(6,vI (k:Int))],[],[],d.list.length - k,(k≤d.list.length)∧(OJ d s k))) [] Z ⟨AB,(by exact QL _ _)⟩ ?_
 rintro k bv w Z ⟨aZ,ba⟩ ai
 refine .s<|.s<|.g<|.r 2<|RG.Lb 1 Z<|.r 1<|.bp ((k:Int)< (d.list.length:Int)) (fun aC=>?_) (fun aC=>.d<|.cf<|.x 2 rfl<|.s<|.g<|.r 1<|.d<|T.rt func27 results27 (.bool true) ⟨(AG (by exact Bj (by assumption:(ixB s.idx&&AZ s)=true) (KW ‹_› (Ge (by assumption:(ixB s.idx&&AZ s)=true)) (QM ‹_› AB AB) (QK ‹_› AB (CK ‹_›).1 (DG (by assumption:(ixB s.idx&&AZ s)=true)).nm AB)))),Z.xt⟩)
 refine .d<|.ct<|.sk<|.s<|.b 3<|.s<|T.Gd 13 Z fun w Z=>.r [0]<|GA.Lb 1 1 Z<|GA.Ln 2 1 Z<|.r [3]<|GA.Lb 4 1 Z<|.r [5]<|gx (h:=(by first | omega | exact (BM (BS (BT ‹_›).2.2.2 _ ‹_›)).1 | exact (BM (BS (BT ‹_›).2.2.2 _ ‹_›)).2)) d.list k fun ay ae=>?_
 have bd:=drop_at ae; have aG:=AV ae
 refine GA.Ix 6 5 ae Z<|Z.el 5 ae fun Z=>GA.Lh 7 0 0 Z<|GA.C0 8 Z (fun w Z=>Dz d ay (Z.a 7) (Z.a 6) (Z.a 5))<|gx (h:=(by first | omega | exact (BM (BS (BT ‹_›).2.2.2 _ ‹_›)).1 | exact (BM (BS (BT ‹_›).2.2.2 _ ‹_›)).2)) d.files ((At d ay).toNat) fun aj af=>?_
 have bg:=drop_at af; have aH:=AV af
 refine GA.Jx (hz:=(by first | omega | exact (BM (BS (BT ‹_›).2.2.2 _ ‹_›)).1 | exact (BM (BS (BT ‹_›).2.2.2 _ ‹_›)).2)) 9 7 (At d ay) af Z<|.r [10]<|Z.el 7 af fun bw bz bA bB Z=>GA.Lg 11 0 1 Z<|.go 12<|GE.Np Z fun aJ w Z=>GA.Dn Z fun w Z=>RG.Ss 0 Z fun w Z=>.d<|.s<|.g<|.r 1<|.d<|.b 4<|T.Lp (1:Nat) (fun k1=>([(2,vP ar),(3,vP ax),(6,vI (k:Int)),(7,vP aJ),(8,vI (k1:Int))],[],[],7 - k1,(1≤k1)∧(k1≤7)∧(OK d s k k1))) [] Z ⟨AB,AB,(by exact QN _ _ _)⟩ ?_
 rintro k1 bC w Z ⟨bh,bi,bj⟩ ak
 refine .s<|.s<|.g<|.r 1<|.bp ((k1:Int)≤6) (fun aD=>?_) (fun aD=>.d<|.cf<|.x 4 rfl<|.ib 3<|.g<|.r 1<|.it ((k:Int)+1)<|.r 1<|.d<|ai (k+1) _ _ AA (Z.to 1 [] 4) ⟨AB,(by exact QP ‹_› ‹_› AB (by assumption:Ak d=true) (Pj (by assumption:(ixB s.idx&&AZ s)=true)) (DG (by assumption:(ixB s.idx&&AZ s)=true)))⟩ (by first | omega | (simp only []; omega)))
 refine .d<|.ct<|.sk<|.s<|.b 5<|.s<|T.Gd 10 Z fun w Z=>GA.Ln 0 0 Z<|.r [1,4]<|GA.Lb 5 1 Z<|.r [6]<|gx (h:=(by first | omega | exact (BM (BS (BT ‹_›).2.2.2 _ ‹_›)).1 | exact (BM (BS (BT ‹_›).2.2.2 _ ‹_›)).2)) s.parts k fun am ag=>?_
 have bk:=drop_at ag; have aI:=AV ag
 refine GA.Ix 7 5 ag Z<|Z.el 5 ag fun bD bE bF bG Z=>GA.Lg 8 0 0 Z<|.r [9]<|.go 2<|GE.CL (fun w Z=>Dy aj.part (k1:Int) (Z.mg 1 4) (Z.mg 1 5) (by first | (have q1:=((JJ (by assumption:Ak d=true)).file _ ‹_›).sz.1; omega) | (have q1:=((DG (by assumption:(ixB s.idx&&AZ s)=true)).part _ ‹_›).sz.1; omega))) Z fun bH bI w Z=>GA.C0 3 Z (fun w Z=>DR (partOf aj.part (k1:Int)) (Z.a 0) (by first | exact CE ((JJ (by assumption:Ak d=true)).file _ ‹_›).sz _ | exact CE ((DG (by assumption:(ixB s.idx&&AZ s)=true)).part _ ‹_›).sz _))<|GA.Dn Z fun w Z=>RG.CL (Dy am (k1:Int) (Z.mg 1 2) (Z.mg 1 3) (by first | (have q1:=((JJ (by assumption:Ak d=true)).file _ ‹_›).sz.1; omega) | (have q1:=((DG (by assumption:(ixB s.idx&&AZ s)=true)).part _ ‹_›).sz.1; omega))) Z fun bJ bK w Z=>RG.C0 (DR (partOf am (k1:Int)) (Z.a 0) (by first | exact CE ((JJ (by assumption:Ak d=true)).file _ ‹_›).sz _ | exact CE ((DG (by assumption:(ixB s.idx&&AZ s)=true)).part _ ‹_›).sz _)) Z fun w Z=>RG.eqv (v:=.bool (!(Ca (partOf aj.part (k1:Int))==Ca (partOf am (k1:Int))))) AA (Oh (Ca (partOf aj.part (k1:Int))) (Ca (partOf am (k1:Int)))) ?_
 cases bm:(Ca (partOf aj.part (k1:Int))==Ca (partOf am (k1:Int)))
 ·exact .d<|.ct<|.s<|.g<|.r 1<|.d<|T.rt func27 results27 (.bool false) ⟨(AG (by first | exact Hu ‹_› | exact Hv ‹_› | exact Bj (by assumption:(ixB s.idx&&AZ s)=true) (Et ‹_›) | exact Bj (by assumption:(ixB s.idx&&AZ s)=true) (D9 ‹_›) | exact Bj (by assumption:(ixB s.idx&&AZ s)=true) (GY ‹_› ‹_› ‹_›) | exact Bj (by assumption:(ixB s.idx&&AZ s)=true) (GZ ‹_› ‹_› ‹_› ‹_›))),Z.xt⟩
 exact .d<|.cf<|.sk<|.ib 5<|.g<|.r 1<|.it ((k1:Int)+1)<|.r 1<|.d<|ak (k1+1) _ _ AA (Z.to 0 [] 5) ⟨AB,AB,(by exact QO ‹_› (by assumption:Ak d=true) (Pj (by assumption:(ixB s.idx&&AZ s)=true)) (DG (by assumption:(ixB s.idx&&AZ s)=true)) ‹_› ‹_› ‹_› ‹_›)⟩ (by first | omega | (simp only []; omega))
theorem G9 (w_:Wld) (h1:RepS w F a1 n1 c1 w_.store.idx.names) (h2:RepS w F a2 n2 c2 w_.store.idx.Ae) (h3:RepS w F a3 n3 c3 w_.store.parts) (h4:RepS w F a4 n4 c4 w_.store.mem) (h5:RepS w F a5 n5 c5 w_.disk.files) (h6:RepS w F a6 n6 c6 w_.disk.list) (h7:RepS w F a7 n7 c7 w_.disk.names) (p0:∀ n∈w_.disk.names,n.length≤1100000) (p1:w_.store.idx.Ae.length≤1100000):Calls Tryz.prog 7 [.agg #[.slice a1 n1 c1,.slice a2 n2 c2,.slice a3 n3 c3,.slice a4 n4 c4,.slice a5 n5 c5,.slice a6 n6 c6,.slice a7 n7 c7,.int .i64 w_.disk.next]].toArray w (Ad fun rv w'=>rv=.bool (ftW w_.disk w_.store)∧Ext w w'):=by
 cases h1.len
 cases h2.len
 cases h3.len
 cases h4.len
 cases h5.len
 cases h6.len
 cases h7.len
 refine goT func7 ?_
 have Z:=(((((((St.i0 F w).p h1).p h2).p h3).p h4).p h5).p h6).p h7
 have aa:=h1.max
 have ab:=h2.max
 have ac:=h3.max
 have ae:=h4.max
 have af:=h5.max
 have ag:=h6.max
 have ah:=h7.max
 exact .s<|.g<|RG.Np Z fun ai w Z=>.r 1<|.d<|.s<|.g<|.r 1<|RG.Ln 0 Z<|.r 1<|RG.Ln 0 Z<|RG.C0 (G8 w_.disk w_.store (Z.a 2) (Z.a 1) (Z.a 0) (Z.a 6) (Z.a 5) (Z.a 4) (Z.a 3) p0 p1) Z fun w Z=>.r 1<|.d<|T.rt func7 results7 (.bool (ftW w_.disk w_.store)) ⟨(AG AF),Z.xt⟩
end Go.Proofs.YtfninflnngpchaaGreat
namespace Go.Proofs.YtfninflnngpchaaGreat
set_option maxRecDepth 100000
set_option maxHeartbeats 4000000
variable {w:World} {F:Nat→Prop} {a1 a2 a3 a4 a5 a6 a7:Option Addr} {n1 c1 n2 c2 n3 c3 n4 c4 n5 c5 n6 c6 n7 c7:Nat}
theorem EJ (aW:Wld) (h1:RepS w F a1 n1 c1 aW.store.idx.names) (h2:RepS w F a2 n2 c2 aW.store.idx.Ae) (h3:RepS w F a3 n3 c3 aW.store.parts) (h4:RepS w F a4 n4 c4 aW.store.mem) (h5:RepS w F a5 n5 c5 aW.disk.files) (h6:RepS w F a6 n6 c6 aW.disk.list) (h7:RepS w F a7 n7 c7 aW.disk.names) (p0:WdB aW):Calls Tryz.prog 3 [.agg #[.slice a1 n1 c1,.slice a2 n2 c2,.slice a3 n3 c3,.slice a4 n4 c4,.slice a5 n5 c5,.slice a6 n6 c6,.slice a7 n7 c7,.int .i64 aW.disk.next]].toArray w (Ad fun rv w'=>rv=.bool (true)∧Ext w w'):=by
 cases h1.len
 cases h2.len
 cases h3.len
 cases h4.len
 cases h5.len
 cases h6.len
 cases h7.len
 refine goT func3 ?_
 have Z:=(((((((St.i0 F w).p h1).p h2).p h3).p h4).p h5).p h6).p h7
 have ab:=h1.max
 have ac:=h2.max
 have ae:=h3.max
 have af:=h4.max
 have ag:=h5.max
 have ah:=h6.max
 have ai:=h7.max
 exact .s<|.g<|RG.Np Z fun aj w Z=>.r 1<|.d<|.s<|.g<|.r 1<|.d<|.s<|.g<|RG.Ln 0 Z<|.r 1<|RG.C0 (H4 aW 1048576 (Z.a 6) (Z.a 5) (Z.a 4) (Z.a 3) (Z.a 2) (Z.a 1) (Z.a 0) p0 AB) Z fun w Z=>.r 1<|.d<|.s<|.s<|.g<|.r 1<|.bp (szI (mWd aW) 1048576< 0) (fun aa=>.d<|.ct<|.s<|.g<|.r 1<|.d<|T.rt func3 results3 (.bool true) ⟨(AG AF),Z.xt⟩) fun aa=>.d<|.cf<|.sk<|.s<|.g<|RG.Ln 0 Z<|RG.CS (DH aW (Z.a 6) (Z.a 5) (Z.a 4) (Z.a 3) (Z.a 2) (Z.a 1) (Z.a 0) (wdl (Hw ‹_›))) Z fun ak am ao aq ar ax ay az aA aB aC aD aE aF w Z=>RG.C0 (G9 aW (Z.a 0) (Z.a 1) (Z.a 2) (Z.a 3) (Z.a 4) (Z.a 5) (Z.a 6) (wdl (Hw ‹_›)).2.2.2.2 (wdl (Hw ‹_›)).1.1.2.1) Z fun w Z=>.r 1<|.d<|.s<|.g<|RG.Ln 0 Z<|RG.CS (DH aW (Z.a 13) (Z.a 12) (Z.a 11) (Z.a 10) (Z.a 9) (Z.a 8) (Z.a 7) (wdl (Hw ‹_›))) Z fun aG aH aI aJ aK aL aM aN aO aP aQ aR aS aT w Z=>RG.Np Z fun aU w Z=>RG.Ss 0 Z fun w Z=>.d<|.s<|.g<|RG.Ln 0 Z<|RG.C0 (G7 aW (Z.a 0) (Z.a 1) (Z.a 2) (Z.a 3) (Z.a 4) (Z.a 5) (Z.a 6) (wdl (Hw ‹_›)).2.2.2.1 (QX (Hw ‹_›))) Z fun w Z=>.r 1<|.d<|.s<|.s<|.g<|.r 2<|RG.eqv (v:=.bool false) (v':=.bool (ftW aW.disk aW.store != ftW aW.disk aW.store)) AA AD<|.d<|.cf<|.sk<|.s<|.s<|T.Gd 3 Z fun w Z=>GA.Ln 0 0 Z<|GA.Ln 1 1 Z<|.go 2<|GE.CS (fun w Z=>DH aW (Z.a 20) (Z.a 19) (Z.a 18) (Z.a 17) (Z.a 16) (Z.a 15) (Z.a 14) (wdl (Hw ‹_›))) Z fun aV aX aY aZ ba bd bg bh bi bj bk bm bn bo w Z=>GA.Dn Z fun w Z=>RG.C0 (tb (beq_self_eq_true _) (IH aW aW (Z.a 7) (Z.a 8) (Z.a 9) (Z.a 10) (Z.a 11) (Z.a 12) (Z.a 13) (Z.a 0) (Z.a 1) (Z.a 2) (Z.a 3) (Z.a 4) (Z.a 5) (Z.a 6))) Z fun w Z=>.r 1<|.d<|.cf<|.sk<|.s<|.g<|.r 1<|.d<|T.rt func3 results3 (.bool true) ⟨(AG AF),Z.xt⟩
end Go.Proofs.YtfninflnngpchaaGreat
