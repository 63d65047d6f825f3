/- Names that may not be well: plain laws. -/
import Derived.Test.YtckdhcbbgmiccaaGreatWxzSqk7
import Derived.Test.YtckdhcbbgmiccaaGreatWxzMod23
open Go.Proofs.Tryz
set_option linter.unusedVariables false
set_option linter.unusedSimpArgs false
namespace Go.Proofs.YtckdhcbbgmiccaaGreat
def okS (names:List (List Tag)) (k:Nat):Prop:=∀ j n,j< k→names[j]? = some n→As n=true∧∀ i m,i< j→names[i]? = some m→text n≠text m
theorem YC (names:List (List Tag)):okS names 0:=fun j _ h=>absurd h AB
theorem VJ (names:List (List Tag)) (n:List Tag):apart names n 0:=fun j _ h=>absurd h AB
theorem Pr {names:List (List Tag)}{n m:List Tag}{k:Nat}(h:apart names n k) (hm:names[k]? = some m) (h2:(text n==text m)=false):apart names n (k+1):=fun i x hi hx=>by
 by_cases e:i=k
 ·subst e
  rw [hm] at hx
  cases hx
  exact beq_eq_false_iff_ne.1 h2
 ·exact h i x AB hx
theorem TJ {names:List (List Tag)}{n:List Tag}{k j:Nat}(h:okS names k) (hn:names[k]? = some n) (h1:As n=true) (h2:apart names n j) (hj:k≤j):okS names (k+1):=fun i m hi hm=>by
 by_cases e:i=k
 ·subst e
  rw [hn] at hm
  cases hm
  exact ⟨h1,fun a b ha hb=>h2 a b AB hb⟩
 ·exact h i m AB hm
theorem VK {names:List (List Tag)}{k:Nat}(h:okS names k) (hk:names.length≤k) (hl:¬ (names.length:Int) > 6):NmI names :=
 ⟨by omega,fun n hn=>by
  obtain ⟨j,hj⟩:=List.mem_iff_getElem?.1 hn
  exact (h j n (by have:=(List.getElem?_eq_some_iff.1 hj).1; omega) hj).1,Oh (fun i j x y hij hx hy e=>(h j y (by have:=(List.getElem?_eq_some_iff.1 hy).1; omega) hy).2 i x hij hx e.symm)⟩
theorem VM {names:List (List Tag)}{k:Nat}{n:List Tag}(hn:names[k]? = some n) (h:As n=false):false=nmB names:=(Ni (fun hI=>by rw [hI.ok n (AV hn)] at h; cases h)).symm
theorem VN {names:List (List Tag)}{k j:Nat}{n m:List Tag}(hn:names[k]? = some n) (hm:names[j]? = some m) (hj:j< k) (h:(text n==text m)=true):false=nmB names:=(Ni (fun hI=>Sv hI.nodup hn hm hj (eq_of_beq h))).symm
theorem VP {names:List (List Tag)}(h:NmI names):true=nmB names:=(D3.2 h).symm
end Go.Proofs.YtckdhcbbgmiccaaGreat
namespace Go.Proofs.YtckdhcbbgmiccaaGreat
set_option maxRecDepth 100000
set_option maxHeartbeats 4000000
variable {w:World} {F:Nat→Prop} {a1 a2 a3 a4:Option Addr} {n1 c1 n2 c2 n3 c3 n4 c4:Nat}
theorem Kp (ix:Idx) (h1:RepS w F a1 n1 c1 ix.names) (h2:RepS w F a2 n2 c2 ix.AY) (p0:IxG ix):Calls Tryz.prog 150 [.agg #[.slice a1 n1 c1,.slice a2 n2 c2]].toArray w (Aj fun rv w'=>rv=.bool (nmB ix.names)∧Ext w w'):=by
 cases h1.len
 cases h2.len
 refine goT func150 ?_
 have Z:=((St.i0 F w).p h1).p h2
 have aK:=h1.max
 have aL:=h2.max
 refine .s<|.g<|RG.Np Z fun ay w Z=>.r 1<|.d<|.s<|.s<|.g<|.r 1<|RG.Lb 0 Z<|.r 1<|.bp ((ix.names.length:Int) > 6) (fun az=>.d<|.ct<|.s<|.g<|.r 1<|.d<|T.rt func150 results150 (.bool false) ⟨(AG (by exact Qo ‹_›)),Z.xt⟩) fun az=>.d<|.cf<|.sk<|.s<|.g<|.r 1<|.d<|.s<|.s<|.g<|.r 1<|.d<|.b 0<|T.Lp ((0:Int),(0:Nat)) (fun (k,k1)=>([(1,vP ay),(3,vI k),(4,vI (k1:Int))],[],[],ix.names.length - k1,(k1≤ix.names.length)∧(okS ix.names k1)∧(k=(((ix.names.take k1).map List.length).sum:Nat))∧(0≤k)∧(k≤1000 * k1))) [] Z ⟨AD,(by exact YC _),AD,AD,AD⟩ ?_
 rintro ⟨k,k1⟩ bk w Z ⟨aM,aN,aO,aP,aQ⟩ ao
 refine .s<|.s<|.g<|.r 2<|RG.Lb 0 Z<|.r 1<|.bp ((k1:Int)< (ix.names.length:Int)) (fun aA=>?_) (fun aA=>?_)
 ·refine .d<|.ct<|.sk<|.s<|.b 1<|.s<|.s<|.g<|.r 1<|RG.Lb 0 Z<|.r 1<|gxm ix.names k1 fun af ag aG=>RG.Ix 1 ag Z<|Z.el 1 ag fun bm bn Z=>RG.Lh 0 0 Z<|RG.C0 (Ev af (Z.a 1)) Z fun w Z=>?_
  cases aS:(As af)
  ·exact .r 1<|.d<|.ct<|.s<|.g<|.r 1<|.d<|T.rt func150 results150 (.bool false) ⟨(AG (by exact VM ‹_› ‹_›)),Z.xt⟩
  refine .r 1<|.d<|.cf<|.sk<|.s<|.s<|.g<|.r 1<|.d<|.b 2<|T.Lp (0:Nat) (fun k2=>([(1,vP ay),(3,vI k),(4,vI (k1:Int)),(5,vI (k2:Int))],[],[],k1 - k2,(k2≤k1)∧(apart ix.names af k2))) [] Z ⟨AB,(by exact VJ _ _)⟩ ?_
  rintro k2 bo w Z ⟨aT,aU⟩ aq
  refine .s<|.s<|.g<|.r 2<|.bp ((k2:Int)< (k1:Int)) (fun aB=>?_) (fun aB=>.d<|.cf<|.x 2 rfl<|.g<|.r 2<|RG.Lb 0 Z<|.r 1<|RG.Ix 3 ag Z<|RG.Lh 0 0 Z<|.r 1<|RG.int (k+(af.length:Int)) AA (by have q0:=p0.g.len; (have q1:=(p0.g.sz _ ‹_›).1; omega))<|.r 1<|.d<|.ib 1<|.g<|.r 1<|RG.int ((k1:Int)+1) AA (by have q0:=p0.g.len; omega)<|.r 1<|.d<|ao (k+(af.length:Int),k1+1) _ _ AA (Z.to 0 [] 2) ⟨AB,(by exact TJ ‹_› ‹_› ‹_› (by assumption:apart _ _ k2) AB),(by rw [Nd (f:=List.length) ‹_›]; omega),AB,(by have q1:=(p0.g.sz af ‹_›).1; omega)⟩ (by (simp only []; omega)))
  refine .d<|.ct<|.sk<|.s<|.b 3<|.s<|T.Gd 11 Z fun w Z=>.r [0]<|GA.Lb 1 0 Z<|.r [2]<|GA.Ix 3 3 ag Z<|GA.Lh 4 0 0 Z<|GA.C0 5 Z (fun w Z=>DG af (Z.a 1) (by have q1:=(p0.g.sz _ ‹_›).1; omega) (fun t ht=>by have q1:=(p0.g.sz _ ‹_›).2 t ht; omega))<|.r [6]<|GA.Lb 7 0 Z<|.r [8]<|gxm ix.names k2 fun ax ak aH=>GA.Ix 9 3 ak Z<|Z.el 3 ak fun bq br Z=>GA.Lh 10 0 0 Z<|GA.Dn Z fun w Z=>RG.C0 (DG ax (Z.a 1) (by have q1:=(p0.g.sz _ ‹_›).1; omega) (fun t ht=>by have q1:=(p0.g.sz _ ‹_›).2 t ht; omega)) Z fun w Z=>RG.eqv (v:=.bool ((text af==text ax))) AA (Un (text af) (text ax)) ?_
  cases aW:(text af==text ax)
  ·exact .d<|.cf<|.sk<|.ib 3<|.g<|.r 1<|RG.int ((k2:Int)+1) AA (by have q0:=p0.g.len; omega)<|.r 1<|.d<|aq (k2+1) _ _ AA (Z.to 0 [] 2) ⟨AB,(by exact Pr ‹_› ‹_› ‹_›)⟩ (by (simp only []; omega))
  exact .d<|.ct<|.s<|.g<|.r 1<|.d<|T.rt func150 results150 (.bool false) ⟨(AG (by exact VN (k:=k1) (j:=k2) ‹_› ‹_› AB ‹_›)),Z.xt⟩
 refine .d<|.cf<|.x 0 rfl<|.s<|.s<|.g<|.r 1<|.d<|.b 4<|T.Lp (k,(0:Nat)) (fun (k,k1)=>([(1,vP ay),(3,vI k),(6,vI (k1:Int))],[],[],ix.AY.length - k1,(k1≤ix.AY.length)∧(NmI ix.names)∧(k=(Ll ix.names:Int) - (((ix.AY.take k1).map (fun p=>p.ids.length)).sum:Nat))∧(k≤6000)∧(k ≥ - (1000 * k1:Int)))) [] Z ⟨AB,(by exact VK ‹_› AB AB),(by have q1:ix.names.take k1=ix.names:=List.take_of_length_le AB; have q2:k=(((ix.names.take k1).map List.length).sum:Nat):=‹_›; rw [q1] at q2; simp [q2,Ll]),(by have q0:=p0.g.len; omega),AB⟩ ?_
 rintro ⟨k,k1⟩ bt w Z ⟨aX,aY,aZ,ba,bd⟩ ai
 refine .s<|.s<|.g<|.r 2<|RG.Lb 0 Z<|.r 1<|.bp ((k1:Int)< (ix.AY.length:Int)) (fun aC=>?_) (fun aC=>.d<|.cf<|.x 4 rfl<|.s<|.g<|.r 3<|.d<|T.rt func150 results150 (.bool (k==0)) ⟨(AG (by have p9:=p0.ix ‹_›; rw [← VP p9.nm]; have q1:ix.AY.take k1=ix.AY:=List.take_of_length_le AB; have q2:k=(Ll ix.names:Int) - (((ix.AY.take k1).map (fun p=>p.ids.length)).sum:Nat):=‹_›; have q3:=Wx p9; unfold OX at q3; rw [q1] at q2; simp; omega)),Z.xt⟩)
 refine .d<|.ct<|.sk<|.s<|.b 5<|.s<|.g<|.r 1<|RG.Lb 0 Z<|.r 1<|gxm ix.AY k1 fun E al aI=>RG.Ix 0 al Z<|Z.el 0 al fun bu bv Z=>RG.Lg 0 0 Z<|RG.Np Z fun bw w Z=>RG.Ss 0 Z fun w Z=>.d<|.s<|.s<|T.Gd 28 Z fun w Z=>.r [0]<|GA.Lb 1 0 Z<|.r [2]<|GA.eqI (i:=3) (a:=(E.ids.length:Int)) (b:=0) AA (fun aD=>.r [4,5,6,7,8,9,10,11,12,13,14,15]<|GA.Sk Z fun w Z=>.r 4<|.d<|.ct<|.s<|.g<|.r 1<|.d<|T.rt func150 results150 (.bool false) ⟨(AG (by (have p9:=p0.ix ‹_›; (exfalso; have q1:=En (p9.AY▸(by assumption:E∈ix.AY)); (have q2:=q1.2.1; omega))))),Z.xt⟩) fun aD=>.r [4,5]<|GA.Lb 6 0 Z<|.r [7]<|GA.Lb 8 1 Z<|.r [9]<|GA.Ln 10 0 Z<|.go 11<|GE.CL (fun w Z=>IY ix.names E.tag (Z.a 3) (by have q0:=p0.g.len; omega)) Z fun bz bA w Z=>GA.C0 12 Z (fun w Z=>LU E.ids (ids ix.names E.tag) (Z.a 2) (Z.a 0)) ?_
 cases bh:(E.ids==(ids ix.names E.tag))
 ·exact .r [13,14,15]<|GA.Sk Z fun w Z=>.r 4<|.d<|.ct<|.s<|.g<|.r 1<|.d<|T.rt func150 results150 (.bool false) ⟨(AG (by (have p9:=p0.ix ‹_›; (exfalso; have q1:=En (p9.AY▸(by assumption:E∈ix.AY)); exact absurd (by rw [← q1.1]; simp:(E.ids==ids ix.names E.tag)=true) (by rw [(by assumption:(E.ids==ids ix.names E.tag)=false)]; simp))))),Z.xt⟩
 refine .r [13,14,15,16]<|GA.Ec (i:=17) ((k1:Int) > 0) AA (fun aE=>?_) (fun aE=>.r [18]<|GA.Sk Z fun w Z=>.r 4<|.d<|.cf<|.sk<|.g<|.r 2<|RG.Lb 0 Z<|.r 1<|RG.int (k - (E.ids.length:Int)) AA (by have q0:=p0.g.len; (have p9:=p0.ix ‹_›; have q1:=En (p9.AY▸(by assumption:E∈ix.AY)); have q2:=K8 ix.names E.tag; rw [← q1.1] at q2; have q3:=Mm ix.names; rw [← p9.AY] at q3; omega))<|.r 1<|.d<|.ib 5<|.g<|.r 1<|RG.int ((k1:Int)+1) AA (by have q0:=p0.g.len; omega)<|.r 1<|.d<|ai (k - (E.ids.length:Int),k1+1) _ _ AA (Z.to 1 [] 3) ⟨AB,‹_›,(by rw [Nd (f:=fun p=>p.ids.length) (l:=ix.AY) (i:=k1) (x:=E) ‹_›]; omega),AB,(by have p9:=p0.ix ‹_›; have q1:=En (p9.AY▸(by assumption:E∈ix.AY)); have q2:=K8 ix.names E.tag; rw [← q1.1] at q2; omega)⟩ (by (simp only []; omega)))
 refine .r [18,19]<|GA.Lb 20 1 Z<|.r [21]<|GA.int (i:=22) ((k1:Int) - 1) AA (by have q0:=p0.g.len; omega)<|gx ix.AY (k1 - 1) fun aF am=>GA.Jx 23 3 ((k1:Int) - 1) am Z<|.r [24]<|Z.el 3 am fun bB bC Z=>GA.Lg 25 0 0 Z<|.r [26]<|GA.Ln 27 0 Z<|GA.Dn Z fun w Z=>RG.C0 (LW aF.tag E.tag (F:=all)) Z fun w Z=>?_
 cases bj:(DM aF.tag E.tag)
 ·exact .r 3<|.d<|.ct<|.s<|.g<|.r 1<|.d<|T.rt func150 results150 (.bool false) ⟨(AG (by (have p9:=p0.ix ‹_›; (exfalso; exact absurd (Ph (names:=ix.names) (i:=k1) (by rw [← p9.AY]; assumption) (by rw [← p9.AY]; assumption) AB) (by simp [*]))))),Z.xt⟩
 exact .r 3<|.d<|.cf<|.sk<|.g<|.r 2<|RG.Lb 0 Z<|.r 1<|RG.int (k - (E.ids.length:Int)) AA (by have q0:=p0.g.len; (have p9:=p0.ix ‹_›; have q1:=En (p9.AY▸(by assumption:E∈ix.AY)); have q2:=K8 ix.names E.tag; rw [← q1.1] at q2; have q3:=Mm ix.names; rw [← p9.AY] at q3; omega))<|.r 1<|.d<|.ib 5<|.g<|.r 1<|RG.int ((k1:Int)+1) AA (by have q0:=p0.g.len; omega)<|.r 1<|.d<|ai (k - (E.ids.length:Int),k1+1) _ _ AA (Z.to 1 [] 5) ⟨AB,‹_›,(by rw [Nd (f:=fun p=>p.ids.length) (l:=ix.AY) (i:=k1) (x:=E) ‹_›]; omega),AB,(by have p9:=p0.ix ‹_›; have q1:=En (p9.AY▸(by assumption:E∈ix.AY)); have q2:=K8 ix.names E.tag; rw [← q1.1] at q2; omega)⟩ (by (simp only []; omega))
theorem HA (s:Sto) (h1:RepS w F a1 n1 c1 s.idx.names) (h2:RepS w F a2 n2 c2 s.idx.AY) (h3:RepS w F a3 n3 c3 s.parts) (h4:RepS w F a4 n4 c4 s.mem) (p0:SG s):Calls Tryz.prog 112 [.agg #[.slice a1 n1 c1,.slice a2 n2 c2,.slice a3 n3 c3,.slice a4 n4 c4]].toArray w (Aj fun rv w'=>rv=.bool (nmB s.idx.names&&Ad s)∧Ext w w'):=by
 cases h1.len
 cases h2.len
 cases h3.len
 cases h4.len
 refine goT func112 ?_
 have Z:=((((St.i0 F w).p h1).p h2).p h3).p h4
 have ay:=h1.max
 have aA:=h3.max
 have aB:=h4.max
 refine .s<|.g<|RG.Np Z fun ah w Z=>.r 1<|.d<|.s<|.g<|.r 2<|RG.Lb 0 Z<|.r 2<|.d<|.s<|.s<|.g<|.r 1<|RG.Ln 0 Z<|RG.C0 (Kp s.idx (Z.a 3) (Z.a 2) p0.ix) Z fun w Z=>?_
 cases aC:(nmB s.idx.names)
 ·exact .r 13<|.d<|.ct<|.s<|.g<|.r 1<|.d<|T.rt func112 results112 (.bool false) ⟨(AG AF),Z.xt⟩
 refine .r 3<|RG.Lb 0 Z<|.r 1<|.bp ((s.parts.length:Int) > 6) (fun ai=>.r 7<|.d<|.ct<|.s<|.g<|.r 1<|.d<|T.rt func112 results112 (.bool false) ⟨(AG (by (rw [Bool.true_and]; symm; exact H8 AB))),Z.xt⟩) fun ai=>.r 3<|RG.Lb 0 Z<|.r 1<|.bp ((s.mem.length:Int) > 20) (fun aj=>.r 1<|.d<|.ct<|.s<|.g<|.r 1<|.d<|T.rt func112 results112 (.bool false) ⟨(AG (by (rw [Bool.true_and]; symm; exact H8 AB))),Z.xt⟩) fun aj=>.r 1<|.d<|.cf<|.sk<|.s<|.s<|.g<|.r 1<|.d<|.b 0<|T.Lp (0:Nat) (fun k=>([(1,vP ah),(3,vI (s.idx.names.length:Int)),(4,vI (k:Int))],[],[],s.parts.length - k,(k≤s.parts.length)∧((s.parts.drop k).all (fun p=>Ba p s.idx.names.length)=s.parts.all (fun p=>Ba p s.idx.names.length))∧(nmB s.idx.names=true))) [] Z ⟨AD,AF,‹_›⟩ ?_
 rintro k aW w Z ⟨aD,aE,aF⟩ ab
 refine .s<|.s<|.g<|.r 2<|RG.Lb 0 Z<|.r 1<|.bp ((k:Int)< (s.parts.length:Int)) (fun ak=>?_) (fun ak=>?_)
 ·refine .d<|.ct<|.sk<|.s<|.b 1<|.s<|.g<|.r 1<|RG.Lb 0 Z<|.r 1<|gxd s.parts k fun al aa aG=>RG.Ix 1 aa Z<|Z.el 1 aa fun aX aY aZ ba Z=>RG.Lg 0 0 Z<|.r 1<|RG.C0 (LV al (s.idx.names.length:Int) (Z.a 1) (Z.a 2)) Z fun w Z=>?_
  cases aH:(Ba al (s.idx.names.length:Int))
  ·exact .r 1<|.d<|.ct<|.s<|.g<|.r 1<|.d<|T.rt func112 results112 (.bool false) ⟨(AG (by (rw [Bool.true_and]; symm; exact H9 (Hb ‹_› ‹_› ‹_›)))),Z.xt⟩
  exact .r 1<|.d<|.cf<|.sk<|.ib 1<|.g<|.r 1<|RG.int ((k:Int)+1) AA (by have:=p0.ix.g.len; omega)<|.r 1<|.d<|ab (k+1) _ _ AA (Z.to 0 [] 3) ⟨AB,(by exact Gy ‹_› ‹_› ‹_›),‹_›⟩ (by (simp only []; omega))
 refine .d<|.cf<|.x 0 rfl<|.s<|.s<|.g<|.r 1<|.d<|.b 2<|T.Lp (0:Nat) (fun k=>([(1,vP ah),(3,vI (s.idx.names.length:Int)),(5,vI (k:Int))],[],[],s.mem.length - k,(k≤s.mem.length)∧(s.parts.all (fun p=>Ba p s.idx.names.length)=true)∧((s.mem.drop k).all (Dh s.idx.names.length)=s.mem.all (Dh s.idx.names.length))∧(nmB s.idx.names=true))) [] Z ⟨AD,(by exact Ij ‹_› AB),AD,‹_›⟩ ?_
 rintro k bd w Z ⟨aI,aJ,aK,aL⟩ ac
 refine .s<|.s<|.g<|.r 2<|RG.Lb 0 Z<|.r 1<|.bp ((k:Int)< (s.mem.length:Int)) (fun am=>?_) (fun am=>?_)
 ·refine .d<|.ct<|.sk<|.s<|.b 3<|.s<|.g<|.r 1<|RG.Lb 0 Z<|.r 1<|gxd s.mem k fun af E aM=>RG.Ix 0 E Z<|.r 1<|Z.el 0 E fun Z=>RG.Lh 0 0 Z<|.r 1<|RG.C0 (CR af.id 1 (s.idx.names.length:Int) (F:=all)) Z fun w Z=>?_
  cases ag:(inR af.id 1 (s.idx.names.length:Int))
  ·exact .r 11<|.d<|.ct<|.s<|.g<|.r 1<|.d<|T.rt func112 results112 (.bool false) ⟨(AG (by (rw [Bool.true_and]; symm; exact IA (Hb ‹_› ‹_› (by simp [Dh, *]))))),Z.xt⟩
  refine .r 3<|RG.Lb 0 Z<|.r 1<|RG.Ix 1 E Z<|.r 1<|RG.Lg 0 1 Z<|RG.C0 (Gp af.row (F:=all)) Z fun w Z=>?_
  cases aP:(BX af.row)
  ·exact .r 2<|.d<|.ct<|.s<|.g<|.r 1<|.d<|T.rt func112 results112 (.bool false) ⟨(AG (by (rw [Bool.true_and]; symm; exact IA (Hb ‹_› ‹_› (by simp [Dh, *]))))),Z.xt⟩
  exact .r 2<|.d<|.cf<|.sk<|.ib 3<|.g<|.r 1<|RG.int ((k:Int)+1) AA (by have:=p0.ix.g.len; omega)<|.r 1<|.d<|ac (k+1) _ _ AA (Z.to 0 [] 1) ⟨AB,‹_›,(by exact Gy ‹_› ‹_› (by simp only [Dh, *]; rfl)),‹_›⟩ (by (simp only []; omega))
 refine .d<|.cf<|.x 2 rfl<|.s<|.s<|.g<|.r 1<|.d<|.b 4<|T.Lp (1:Nat) (fun k=>([(1,vP ah),(3,vI (s.idx.names.length:Int)),(6,vI (k:Int))],[],[],s.idx.names.length+1 - k,(1≤k)∧(k≤s.idx.names.length+1)∧(s.parts.all (fun p=>Ba p s.idx.names.length)=true)∧(s.mem.all (Dh s.idx.names.length)=true)∧(((List.range s.idx.names.length).drop (k - 1)).all (Ed s)=(List.range s.idx.names.length).all (Ed s))∧(nmB s.idx.names=true))) [] Z ⟨AB,AB,‹_›,(by exact Ij ‹_› AB),AF,‹_›⟩ ?_
 rintro k bg w Z ⟨aQ,aR,aS,aT,aU,aV⟩ ae
 exact .s<|.s<|.g<|.r 2<|.bp ((k:Int)≤(s.idx.names.length:Int)) (fun ao=>.d<|.ct<|.sk<|.s<|.b 5<|.s<|.g<|RG.Ln 0 Z<|.r 1<|RG.CL (EK s (k:Int) (Z.a 3) (Z.a 2) (Z.a 1) (Z.a 0) (by have:=p0.np; omega) (fun p hp=>(p0.part p hp).sz) (by have:=p0.nm2; omega)) Z fun bh bi w Z=>.r 1<|.bp ((((rowsOf s (k:Int)).length):Int) > 24) (fun aq=>.d<|.ct<|.s<|.g<|.r 1<|.d<|T.rt func112 results112 (.bool false) ⟨(AG (by (rw [Bool.true_and]; symm; exact Mn (WM ‹_› AB AB AB)))),Z.xt⟩) fun aq=>.d<|.cf<|.sk<|.ib 5<|.g<|.r 1<|RG.int ((k:Int)+1) AA (by have:=p0.ix.g.len; omega)<|.r 1<|.d<|ae (k+1) _ _ AA (Z.to 0 [] 1) ⟨AB,AB,‹_›,‹_›,(by exact Qk ‹_› AB AB AB),‹_›⟩ (by (simp only []; omega))) fun ao=>.d<|.cf<|.x 4 rfl<|.s<|.g<|.r 1<|.d<|T.rt func112 results112 (.bool true) ⟨(AG (by rw [Bool.true_and]; symm; exact Mo AB AB ‹_› ‹_› (Sw ‹_› AB))),Z.xt⟩
end Go.Proofs.YtckdhcbbgmiccaaGreat
namespace Go.Proofs.YtckdhcbbgmiccaaGreat
section
variable {b:List Row} {r:Row}
theorem bok (h:BA b=true):b.length≤24:=by
 unfold BA at h
 simp only [AW,decide_eq_true_eq] at h
 exact h.2
theorem Blk.bok (h:Blk b) (h2:b.length≤24):BA b=true:=by
 unfold BA
 simp only [AW,decide_eq_true_eq]
 exact ⟨h,h2⟩
end
end Go.Proofs.YtckdhcbbgmiccaaGreat
