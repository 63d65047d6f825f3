/- walks; pruned haves; hints pruned; squeezed -/
import Derived.Test.YtcginoabkicdiaaGreatPzzMem
open Go.Proofs.Tryz
set_option linter.unusedVariables false
set_option linter.unusedSimpArgs false
namespace Go.Proofs.YtcginoabkicdiaaGreat
set_option maxRecDepth 100000
set_option maxHeartbeats 4000000
variable {w:World} {F:Nat→Prop} {a1 a2:Option Addr} {n1 c1 n2 c2:Nat}
theorem HX (n:List Tag) (h1:RepS w F a1 n1 c1 n)  : Calls Tryz.prog 49 [.slice a1 n1 c1].toArray w (Ag fun rv w'=>rv=.bool (At n)∧Ext w w'):=by
 cases h1.len
 refine goT func49 ?_
 have Z:=(St.i0 F w).p h1
 have ak:=h1.max
 refine .s<|.g<|.r 1<|.d<|.s<|.s<|.g<|.r 1<|.d<|.b 0<|T.Lp (0:Nat) (fun i=>([(0,.slice a1 n.length c1),(3,vI (i:Int))],[],[],n.length - i,(i≤n.length)∧(DI (prev n i) (n.drop i)=DI none n))) [] Z ⟨(by simp [prev]),(by simp [prev])⟩ ?_
 rintro i az w Z ⟨am,ao⟩ aa
 refine .s<|.s<|.g<|.r 3<|.bp ((i:Int)< (n.length:Int)) (fun ag=>?_) (fun ag=>.d<|.cf<|.x 0 rfl<|.s<|.g<|.r 2<|RG.C0 (C8 (n.length:Int) 1 3 (F:=all)) Z fun w Z=>.r 1<|.d<|T.rt func49 results49 (.bool (inR (n.length:Int) 1 3)) ⟨(AG (by grind [DI,At,prev,Aa])),Z.xt⟩)
 refine .d<|.ct<|.sk<|.s<|.b 1<|.s<|T.Gd 21 Z fun w Z=>.r [0,1]<|gx n i fun ae ab=>?_
 have aq:=AZ ab; have ai:=AV ab
 refine GA.Ix 2 0 ab Z<|Z.el 0 ab fun Z=>GA.Lg 3 0 0 Z<|GA.C0 4 Z (fun w Z=>Mt ae (F:=all)) ?_
 cases ar:(CI ae)
 ·exact .r [5,6]<|GA.Sk Z fun w Z=>.r 3<|.d<|.ct<|.s<|.g<|.r 1<|.d<|T.rt func49 results49 (.bool false) ⟨(AG (by grind [DI,At,prev,Aa])),Z.xt⟩
 refine .r [5,6,7]<|GA.GY (i:=8) ((i:Int) > 0) AA (fun ah=>?_) (fun ah=>.r [9]<|GA.Sk Z fun w Z=>.r 3<|.d<|.cf<|.sk<|.ib 1<|.g<|.r 1<|.it ((i:Int)+1)<|.r 1<|.d<|aa (i+1) _ _ AA (Z.to 0 [] 1) ⟨AB,(by grind [DI,prev])⟩ (by (simp only []; omega)))
 refine .r [9,10,11]<|GA.int (i:=12) ((i:Int) - 1) AA AB<|gx n (i - 1) fun af ac=>?_
 refine GA.Jx 13 1 ((i:Int) - 1) ac Z<|.r [14]<|Z.el 1 ac fun Z=>GA.Lh 15 0 0 Z<|.r [16,17]<|GA.Ix 18 2 ab Z<|.r [19]<|GA.Lh 20 1 0 Z<|GA.Dn Z fun w Z=>RG.eqv (v:=.bool (!(Bk af.key ae.key))) AA (TW af.key ae.key) ?_
 cases ay:(Bk af.key ae.key)
 ·exact .r 2<|.d<|.ct<|.s<|.g<|.r 1<|.d<|T.rt func49 results49 (.bool false) ⟨(AG (by grind [DI,At,prev,Aa])),Z.xt⟩
 exact .r 2<|.d<|.cf<|.sk<|.ib 1<|.g<|.r 1<|.it ((i:Int)+1)<|.r 1<|.d<|aa (i+1) _ _ AA (Z.to 0 [] 2) ⟨AB,(by grind [DI,prev])⟩ (by (simp only []; omega))
theorem FG (n:List Tag) (h1:RepS w F a1 n1 c1 n)  : Calls Tryz.prog 122 [.slice a1 n1 c1].toArray w (Ag fun rv w'=>rv=.bool (At n)∧Ext w w'):=by
 cases h1.len
 refine goT func122 ?_
 have Z:=(St.i0 F w).p h1
 have ak:=h1.max
 refine .s<|.g<|.r 1<|.d<|.s<|.s<|.g<|.r 3<|.d<|.b 0<|T.Lp (0:Nat) (fun k=>([(0,.slice a1 n.length c1),(5,.slice a1 n.length c1),(6,vI (n.length:Int)),(7,vI (k:Int))],[],[],n.length - k,(k≤n.length)∧(DI (prev n k) (n.drop k)=DI none n))) [] Z ⟨(by simp [prev]),(by simp [prev])⟩ ?_
 rintro k az w Z ⟨am,ao⟩ aa
 refine .s<|.g<|.bp ((k:Int)< (n.length:Int)) (fun ag=>?_) (fun ag=>.d<|.s<|.cf<|.x 0 rfl<|.s<|.g<|.r 2<|RG.C0 (Bz (n.length:Int) 1 3 (F:=all)) Z fun w Z=>.r 1<|.d<|T.rt func122 results122 (.bool (inR (n.length:Int) 1 3)) ⟨(AG (by grind [DI,At,prev,Aa])),Z.xt⟩)
 refine .d<|.s<|.ct<|.sk<|.s<|.b 1<|.s<|.g<|.r 1<|gx n k fun ae ab=>?_
 have aq:=AZ ab; have ai:=AV ab
 refine RG.Ix 0 ab Z<|Z.el 0 ab fun Z=>RG.Lg 0 0 Z<|RG.Np Z fun aA w Z=>.r 1<|RG.Ss 0 Z fun w Z=>.d<|.s<|T.Gd 15 Z fun w Z=>GA.Ln 0 0 Z<|GA.C0 1 Z (fun w Z=>Mu ae (F:=all)) ?_
 cases ar:(CI ae)
 ·exact .r [2,3]<|GA.Sk Z fun w Z=>.r 3<|.d<|.ct<|.s<|.g<|.r 1<|.d<|T.rt func122 results122 (.bool false) ⟨(AG (by grind [DI,At,prev,Aa])),Z.xt⟩
 refine .r [2,3,4]<|GA.GY (i:=5) ((k:Int) > 0) AA (fun ah=>?_) (fun ah=>.r [6]<|GA.Sk Z fun w Z=>.r 3<|.d<|.cf<|.sk<|.ib 1<|.g<|.it ((k:Int)+1)<|.r 1<|.d<|aa (k+1) _ _ AA (Z.to 1 [] 1) ⟨AB,(by grind [DI,prev])⟩ (by (simp only []; omega)))
 refine .r [6,7,8]<|GA.int (i:=9) ((k:Int) - 1) AA AB<|gx n (k - 1) fun af ac=>?_
 refine GA.Jx 10 1 ((k:Int) - 1) ac Z<|.r [11]<|Z.el 1 ac fun Z=>GA.Lh 12 0 0 Z<|.r [13]<|GA.Lb 14 0 Z<|GA.Dn Z fun w Z=>RG.eqv (v:=.bool (!(Bk af.key ae.key))) AA (TW af.key ae.key) ?_
 cases ay:(Bk af.key ae.key)
 ·exact .r 2<|.d<|.ct<|.s<|.g<|.r 1<|.d<|T.rt func122 results122 (.bool false) ⟨(AG (by grind [DI,At,prev,Aa])),Z.xt⟩
 exact .r 2<|.d<|.cf<|.sk<|.ib 1<|.g<|.it ((k:Int)+1)<|.r 1<|.d<|aa (k+1) _ _ AA (Z.to 1 [] 2) ⟨AB,(by grind [DI,prev])⟩ (by (simp only []; omega))
theorem D1 (b:List Row) (h1:RepS w F a1 n1 c1 b)  : Calls Tryz.prog 213 [.slice a1 n1 c1].toArray w (Ag fun rv w'=>rv=.bool (Bf b)∧Ext w w'):=by
 cases h1.len
 refine goT func213 ?_
 have Z:=(St.i0 F w).p h1
 have am:=h1.max
 refine .s<|.g<|.r 1<|.d<|.s<|.s<|.g<|.r 3<|.d<|.b 0<|T.Lp (0:Nat) (fun k=>([(0,.slice a1 b.length c1),(5,.slice a1 b.length c1),(6,vI (b.length:Int)),(7,vI (k:Int))],[],[],b.length - k,(k≤b.length)∧(CP (prev b k) (b.drop k)=CP none b))) [] Z ⟨(by simp [prev]),(by simp [prev])⟩ ?_
 rintro k az w Z ⟨ao,aq⟩ aa
 refine .s<|.g<|.bp ((k:Int)< (b.length:Int)) (fun af=>?_) (fun af=>.d<|.s<|.cf<|.x 0 rfl<|.s<|.g<|.r 4<|.d<|T.rt func213 results213 (.bool (decide ((b.length:Int)≤24))) ⟨(AG (by grind [CP,Bf,prev,Aa])),Z.xt⟩)
 refine .d<|.s<|.ct<|.sk<|.s<|.b 1<|.s<|.g<|.r 1<|gx b k fun ae ab=>?_
 have ar:=AZ ab; have ai:=AV ab
 refine RG.Ix 0 ab Z<|Z.el 0 ab fun Z=>RG.Lg 0 0 Z<|RG.Np Z fun aA w Z=>.r 1<|RG.Ss 0 Z fun w Z=>.d<|.s<|T.Gd 15 Z fun w Z=>GA.Ln 0 0 Z<|GA.C0 1 Z (fun w Z=>Fv ae (F:=all)) ?_
 cases ax:(BU ae)
 ·exact .r [2,3]<|GA.Sk Z fun w Z=>.r 3<|.d<|.ct<|.s<|.g<|.r 1<|.d<|T.rt func213 results213 (.bool false) ⟨(AG (by grind [CP,Bf,prev,Aa])),Z.xt⟩
 refine .r [2,3,4]<|GA.GY (i:=5) ((k:Int) > 0) AA (fun ag=>?_) (fun ag=>.r [6]<|GA.Sk Z fun w Z=>.r 3<|.d<|.cf<|.sk<|.ib 1<|.g<|.it ((k:Int)+1)<|.r 1<|.d<|aa (k+1) _ _ AA (Z.to 1 [] 1) ⟨AB,(by grind [CP,prev])⟩ (by (simp only []; omega)))
 refine .r [6,7,8]<|GA.int (i:=9) ((k:Int) - 1) AA AB<|gx b (k - 1) fun ak ac=>?_
 exact GA.Jx 10 1 ((k:Int) - 1) ac Z<|.r [11]<|Z.el 1 ac fun Z=>GA.Lh 12 0 0 Z<|.r [13]<|GA.Lb 14 0 Z<|GA.Dn Z fun w Z=>.bp (ak.t≥ae.t) (fun ah=>.r 2<|.d<|.ct<|.s<|.g<|.r 1<|.d<|T.rt func213 results213 (.bool false) ⟨(AG (by grind [CP,Bf,prev,Aa])),Z.xt⟩) fun ah=>.r 2<|.d<|.cf<|.sk<|.ib 1<|.g<|.it ((k:Int)+1)<|.r 1<|.d<|aa (k+1) _ _ AA (Z.to 1 [] 2) ⟨AB,(by grind [CP,prev])⟩ (by (simp only []; omega))
theorem Cu (p:Prt) (h1:RepS w F a1 n1 c1 p.ids) (h2:RepS w F a2 n2 c2 p.blocks)  : Calls Tryz.prog 176 [.agg #[.slice a1 n1 c1,.slice a2 n2 c2]].toArray w (Ag fun rv w'=>rv=.bool (Am p)∧Ext w w'):=by
 cases h1.len
 cases h2.len
 refine goT func176 ?_
 have Z:=((St.i0 F w).p h1).p h2
 have aE:=h1.max
 refine .s<|.g<|RG.Np Z fun aC w Z=>.r 1<|.d<|.s<|.s<|.g<|.r 1<|RG.Lb 0 Z<|.r 2<|RG.Lb 0 Z<|.r 1<|.ne (p.ids.length:Int) (p.blocks.length:Int) (fun ak=>.d<|.ct<|.s<|.g<|.r 1<|.d<|T.rt func176 results176 (.bool false) ⟨(AG (by grind [Bm,Am,prev,Aa])),Z.xt⟩) fun ak=>.d<|.cf<|.sk<|.s<|.s<|.g<|.r 1<|RG.Lb 0 Z<|.r 2<|.d<|.b 0<|T.Lp (0:Nat) (fun k=>([(1,vP aC),(13,.slice a1 p.ids.length c1),(14,vI (p.ids.length:Int)),(15,vI (k:Int))],[],[],p.ids.length - k,(k≤p.ids.length)∧(Bm (prev p.ids k) (p.ids.drop k) (p.blocks.drop k)=Bm none p.ids p.blocks))) [] Z ⟨(by simp [prev]),(by simp [prev])⟩ ?_
 rintro k aQ w Z ⟨aG,aH⟩ aa
 refine .s<|.g<|.bp ((k:Int)< (p.ids.length:Int)) (fun am=>?_) (fun am=>.d<|.s<|.cf<|.x 0 rfl<|.s<|.g<|.r 1<|.d<|T.rt func176 results176 (.bool true) ⟨(AG (by grind [Bm,Am,prev,Aa])),Z.xt⟩)
 refine .d<|.s<|.ct<|.sk<|.s<|.b 1<|.s<|.g<|.r 1<|gx p.ids k fun ah ae=>?_
 have aI:=AZ ae; have ay:=AV ae
 refine RG.Ix 1 ae Z<|Z.el 1 ae fun Z=>RG.Lh 0 0 Z<|.r 2<|.d<|.s<|.g<|.r 1<|RG.C0 (Bz ah 1 6 (F:=all)) Z fun w Z=>?_
 cases ag:(inR ah 1 6)
 ·exact .r 33<|.d<|.ct<|.s<|.g<|.r 1<|.d<|T.rt func176 results176 (.bool false) ⟨(AG (by (have hdd:=List.drop_eq_getElem_cons (l:=p.blocks) (i:=k) AB; grind [Bm,Am,prev,Aa]))),Z.xt⟩
 refine .r 3<|.bp ((k:Int) > 0) (fun ao=>?_) (fun ao=>?_)
 ·refine .r 2<|RG.Lb 0 Z<|.r 1<|.it ((k:Int) - 1)<|gx p.ids (k - 1) fun aD af=>?_
  refine RG.Jx 2 ((k:Int) - 1) af Z<|Z.el 2 af fun Z=>RG.Lh 0 0 Z<|.r 1<|.bp (aD≥ah) (fun aq=>.r 20<|.d<|.ct<|.s<|.g<|.r 1<|.d<|T.rt func176 results176 (.bool false) ⟨(AG (by (have hdd:=List.drop_eq_getElem_cons (l:=p.blocks) (i:=k) AB; grind [Bm,Am,prev,Aa]))),Z.xt⟩) fun aq=>.r 4<|RG.Lb 0 Z<|.r 1<|gx p.blocks k fun ai ab=>?_
  have aM:=AZ ab
  refine RG.Ix 2 ab Z<|Z.el 2 ab fun aR aS Z=>RG.Lh 0 0 Z<|RG.C0 (D1 ai (Z.a 1)) Z fun w Z=>?_
  cases aN:(Bf ai)
  ·exact .r 11<|.d<|.ct<|.s<|.g<|.r 1<|.d<|T.rt func176 results176 (.bool false) ⟨(AG (by grind [Bm,Am,prev,Aa])),Z.xt⟩
  exact .r 4<|RG.Lb 0 Z<|.r 1<|RG.Ix 4 ab Z<|RG.Lh 0 0 Z<|.r 1<|.eq (ai.length:Int) 0 (fun ar=>.r 1<|.d<|.ct<|.s<|.g<|.r 1<|.d<|T.rt func176 results176 (.bool false) ⟨(AG (by grind [Bm,Am,prev,Aa])),Z.xt⟩) fun ar=>.r 1<|.d<|.cf<|.sk<|.ib 1<|.g<|.it ((k:Int)+1)<|.r 1<|.d<|aa (k+1) _ _ AA (Z.to 0 [] 4) ⟨AB,(by grind [Bm,prev])⟩ (by (simp only []; omega))
 refine .r 13<|RG.Lb 0 Z<|.r 1<|gx p.blocks k fun aj ac=>?_
 have aO:=AZ ac
 refine RG.Ix 1 ac Z<|Z.el 1 ac fun aT aU Z=>RG.Lh 0 0 Z<|RG.C0 (D1 aj (Z.a 1)) Z fun w Z=>?_
 cases aP:(Bf aj)
 ·exact .r 11<|.d<|.ct<|.s<|.g<|.r 1<|.d<|T.rt func176 results176 (.bool false) ⟨(AG (by grind [Bm,Am,prev,Aa])),Z.xt⟩
 exact .r 4<|RG.Lb 0 Z<|.r 1<|RG.Ix 3 ac Z<|RG.Lh 0 0 Z<|.r 1<|.eq (aj.length:Int) 0 (fun ax=>.r 1<|.d<|.ct<|.s<|.g<|.r 1<|.d<|T.rt func176 results176 (.bool false) ⟨(AG (by grind [Bm,Am,prev,Aa])),Z.xt⟩) fun ax=>.r 1<|.d<|.cf<|.sk<|.ib 1<|.g<|.it ((k:Int)+1)<|.r 1<|.d<|aa (k+1) _ _ AA (Z.to 0 [] 3) ⟨AB,(by grind [Bm,prev])⟩ (by (simp only []; omega))
theorem D2 (s:List Int) (v:Int) (h1:RepS w F a1 n1 c1 s)  : Calls Tryz.prog 216 [.slice a1 n1 c1,.int .i64 v].toArray w (Ag fun rv w'=>rv=.int .i64 (EM v 0 s)∧Ext w w'):=by
 cases h1.len
 refine goT func216 ?_
 have Z:=(St.i0 F w).p h1
 have ah:=h1.max
 refine .s<|.g<|.r 1<|.d<|.s<|.s<|.g<|.r 3<|.d<|.b 0<|T.Lp (0:Nat) (fun k=>([(0,.slice a1 s.length c1),(1,vI v),(7,vI (s.length:Int)),(8,vI (k:Int))],[],[],s.length - k,(k≤s.length)∧(EM v k (s.drop k)=EM v 0 s))) [] Z ⟨AD,AD⟩ ?_
 rintro k am w Z ⟨ai,aj⟩ ab
 refine .s<|.g<|.bp ((k:Int)< (s.length:Int)) (fun ac=>?_) (fun ac=>.d<|.s<|.cf<|.x 0 rfl<|.s<|.g<|.r 1<|.d<|T.rt func216 results216 (vI (-1)) ⟨(congrArg (Value.int .i64) (by grind [EM,Aa])),Z.xt⟩)
 refine .d<|.s<|.ct<|.sk<|.s<|.b 1<|.s<|.g<|.r 2<|.d<|.s<|.g<|.r 3<|gx s k fun ag aa=>?_
 have ak:=AZ aa
 exact RG.Ix 0 aa Z<|Z.el 0 aa fun Z=>RG.Lh 0 0 Z<|.eq v ag (fun ae=>.d<|.ct<|.s<|.g<|.r 2<|.d<|T.rt func216 results216 (vI (k:Int)) ⟨(congrArg (Value.int .i64) (by grind [EM,Aa])),Z.xt⟩) fun ae=>.d<|.cf<|.sk<|.ib 1<|.g<|.it ((k:Int)+1)<|.r 1<|.d<|ab (k+1) _ _ AA (Z.to 0 [] 1) ⟨AB,(by grind [EM])⟩ (by (simp only []; omega))
theorem Gm (x:List Int) (h1:RepS w F a1 n1 c1 x) (p0:0< x.length):Calls Tryz.prog 177 [.slice a1 n1 c1].toArray w (Ag fun rv w'=>rv=.int .i64 (maxOf x)∧Ext w w'):=by
 cases h1.len
 refine goT func177 ?_
 have Z:=(St.i0 F w).p h1
 have ak:=h1.max
 refine .s<|.g<|.r 1<|.d<|.s<|.s<|.g<|.r 2<|.bp ((x.length:Int)< 1) (fun ae=>.d<|.ct<|.g<|absurd (show False by omega) id) fun ae=>.d<|.cf<|.sk<|.s<|.g<|.r 1<|gx x 0 fun aj aa=>?_
 have am:=AZ aa
 refine RG.Ix 0 aa Z<|Z.el 0 aa fun Z=>RG.Lh 0 0 Z<|.r 1<|.d<|.s<|.s<|.g<|.r 1<|.d<|.b 0<|T.Lp (aj,(1:Nat)) (fun (m,i)=>([(0,.slice a1 x.length c1),(3,vI m),(4,vI (i:Int))],[],[],x.length - i,(i≤x.length)∧(LP m (x.drop i)=maxOf x))) [] Z ⟨AB,(by grind [maxOf])⟩ ?_
 rintro ⟨m,i⟩ ax w Z ⟨ao,aq⟩ ac
 refine .s<|.s<|.g<|.r 3<|.bp ((i:Int)< (x.length:Int)) (fun af=>?_) (fun af=>.d<|.cf<|.x 0 rfl<|.s<|.g<|.r 2<|.d<|T.rt func177 results177 (vI m) ⟨(congrArg (Value.int .i64) (by grind [LP,Aa])),Z.xt⟩)
 refine .d<|.ct<|.sk<|.s<|.b 1<|.g<|.r 3<|gx x i fun ag ab=>?_
 have ar:=AZ ab
 exact RG.Ix 1 ab Z<|Z.el 1 ab fun Z=>RG.Lh 0 0 Z<|.r 2<|.d<|.ib 1<|.g<|.r 1<|.it ((i:Int)+1)<|.r 1<|.d<|ac ((if ag > m then ag else m),i+1) _ _ AA (Z.to 0 [] 1) ⟨AB,(by grind [LP])⟩ (by (simp only []; omega))
theorem HY (n:List Tag) (h1:RepS w F a1 n1 c1 n) (p0:n.length≤1000000) (p1:∀ t∈n,t.key.length≤1000000∧t.val.length≤1000000):Calls Tryz.prog 150 [.slice a1 n1 c1].toArray w (Ag fun rv w'=>rv=.string (bs (text n))∧Ext w w'):=by
 cases h1.len
 refine goT func150 ?_
 have Z:=(St.i0 F w).p h1
 refine .s<|.g<|.r 1<|.d<|.s<|.g<|.r 1<|.d<|.s<|.s<|.g<|.r 1<|.d<|.b 0<|T.Lp ([],(0:Nat)) (fun (out,i)=>([(0,.slice a1 n.length c1),(3,vT out),(4,vI (i:Int))],[],[],n.length - i,(i≤n.length)∧(out.length≤3000000 * i)∧(out++Gh i (n.drop i)=text n))) [] Z ⟨(by simp [text]),(by simp [text]),(by simp [text])⟩ ?_
 rintro ⟨out,i⟩ ay w Z ⟨am,ao,aq⟩ aa
 refine .s<|.s<|.g<|.r 3<|.bp ((i:Int)< (n.length:Int)) (fun ag=>?_) (fun ag=>.d<|.cf<|.x 0 rfl<|.s<|.g<|.r 2<|.d<|T.rt func150 results150 (vT out) ⟨(congrArg (fun s=>Value.string (bs s)) (by grind [Gh,Aa])),Z.xt⟩)
 refine .d<|.ct<|.sk<|.s<|.b 1<|.s<|.s<|.g<|.r 1<|.bp ((i:Int) > 0) (fun ah=>?_) (fun ah=>?_)
 ·refine .d<|.ct<|.g<|.r 1<|RG.cat (t:=9) (s:=out) (u:=[44]) AA (by grind)<|.r 1<|.d<|T.Gd 13 Z fun w Z=>.r [0,1,2]<|gx n i fun ae ab=>?_
  have ar:=AZ ab; have ai:=AV ab
  exact GA.Ix 3 0 ab Z<|.r [4]<|Z.el 0 ab fun Z=>GA.Lh 5 0 0 Z<|GA.cat (i:=6) (t:=9) (s:=(out++[44])) (u:=ae.key) AA AA (by grind)<|GA.cat (i:=7) (t:=9) (s:=((out++[44])++ae.key)) (u:=[61]) AA AA (by grind)<|.r [8,9]<|GA.Ix 10 1 ab Z<|.r [11]<|GA.Lh 12 0 1 Z<|GA.Dn Z fun w Z=>RG.cat (t:=9) (s:=(((out++[44])++ae.key)++[61])) (u:=ae.val) AA (by grind)<|.r 1<|.d<|.ib 1<|.g<|.r 1<|.it ((i:Int)+1)<|.r 1<|.d<|aa (((((out++[44])++ae.key)++[61])++ae.val),i+1) _ _ AA (Z.to 0 [] 1) ⟨AB,(by grind),(by grind [Gh,L2])⟩ (by (simp only []; omega))
 refine .d<|.cf<|.sk<|T.Gd 13 Z fun w Z=>.r [0,1,2]<|gx n i fun af ac=>?_
 have ax:=AZ ac; have aj:=AV ac
 exact GA.Ix 3 0 ac Z<|.r [4]<|Z.el 0 ac fun Z=>GA.Lh 5 0 0 Z<|GA.cat (i:=6) (t:=9) (s:=out) (u:=af.key) AA AA (by grind)<|GA.cat (i:=7) (t:=9) (s:=(out++af.key)) (u:=[61]) AA AA (by grind)<|.r [8,9]<|GA.Ix 10 1 ac Z<|.r [11]<|GA.Lh 12 0 1 Z<|GA.Dn Z fun w Z=>RG.cat (t:=9) (s:=((out++af.key)++[61])) (u:=af.val) AA (by grind)<|.r 1<|.d<|.ib 1<|.g<|.r 1<|.it ((i:Int)+1)<|.r 1<|.d<|aa ((((out++af.key)++[61])++af.val),i+1) _ _ AA (Z.to 0 [] 1) ⟨AB,(by grind),(by grind [Gh,L2])⟩ (by (simp only []; omega))
end Go.Proofs.YtcginoabkicdiaaGreat
namespace Go.Proofs.YtcginoabkicdiaaGreat
set_option maxRecDepth 100000
set_option maxHeartbeats 4000000
variable {w:World} {F:Nat→Prop} {a1 a2 a3 a4:Option Addr} {n1 c1 n2 c2 n3 c3 n4 c4:Nat}
theorem LR  {F:Nat→Prop}   : Calls Tryz.prog 107 [].toArray w (Ag fun rv w'=>VS (ge w.heap.size) w' ((⟨[],[]⟩:Idx):Idx) rv∧Ext w w'):=by
 refine goT func107 ?_
 have Z:=St.i0 F w
 refine .s<|.g<|RG.Np Z fun aa w Z=>.d<|.s<|.g<|RG.N0 (List Tag) 0 Z fun ab w Z=>RG.N0 Pst 0 Z fun ac w Z=>.r 1<|RG.Ss 2 Z fun w Z=>.d ?_
 have Z:=(Z.sl 1).sl 0
 exact T.Rb 0 func107 results107 Z ⟨Z.rS (⟨([]:List (List Tag)),([]:List Pst)⟩:Idx) [1,0] AF,Z.xt⟩
theorem LS  {F:Nat→Prop}   : Calls Tryz.prog 47 [].toArray w (Ag fun rv w'=>VS (ge w.heap.size) w' ((⟨⟨[],[]⟩,[],[]⟩:Sto):Sto) rv∧Ext w w'):=by
 refine goT func47 ?_
 have Z:=St.i0 F w
 refine .s<|.g<|RG.Np Z fun aa w Z=>.d<|.s<|.g<|RG.CS (LR (F:=all)) Z fun ab ac ae af w Z=>RG.N0 Prt 0 Z fun ag w Z=>RG.N0 Smp 0 Z fun ah w Z=>.r 1<|RG.Ss 2 Z fun w Z=>.d ?_
 have Z:=(Z.sl 1).sl 0
 exact T.Rb 0 func47 results47 Z ⟨Z.rS (⟨(⟨((⟨[],[]⟩:Idx)).names,((⟨[],[]⟩:Idx)).AY⟩:Idx),([]:List Prt),([]:List Smp)⟩:Sto) [2,3,1,0] AF,Z.xt⟩
theorem KX  {F:Nat→Prop}   : Calls Tryz.prog 48 [].toArray w (Ag fun rv w'=>VS (ge w.heap.size) w' ((⟨[],[],[],1⟩:Dsk):Dsk) rv∧Ext w w'):=by
 refine goT func48 ?_
 have Z:=St.i0 F w
 refine .s<|.g<|RG.Np Z fun aa w Z=>.d<|.s<|.g<|RG.N0 Fil 0 Z fun ab w Z=>RG.N0 Int 0 Z fun ac w Z=>RG.N0 (List Tag) 0 Z fun ae w Z=>.r 1<|RG.Ss 3 Z fun w Z=>.d ?_
 have Z:=((Z.sl 2).sl 1).sl 0
 exact T.Rb 0 func48 results48 Z ⟨Z.rS (⟨([]:List Fil),([]:List Int),([]:List (List Tag)),1⟩:Dsk) [2,1,0] AF,Z.xt⟩
theorem Jo  {F:Nat→Prop}   : Calls Tryz.prog 22 [].toArray w (Ag fun rv w'=>VS (ge w.heap.size) w' ((⟨⟨⟨[],[]⟩,[],[]⟩,⟨[],[],[],1⟩⟩:Wld):Wld) rv∧Ext w w'):=by
 refine goT func22 ?_
 have Z:=St.i0 F w
 exact .s<|.g<|RG.Np Z fun aa w Z=>.d<|.s<|.g<|RG.CS (LS (F:=all)) Z fun ab ac ae af ag ah ai aj w Z=>RG.CS (KX (F:=all)) Z fun ak am ao aq ar ax w Z=>.r 1<|RG.Ss 0 Z fun w Z=>.d<|T.Rb 0 func22 results22 Z ⟨Z.rS (⟨(⟨(⟨(((⟨⟨[],[]⟩,[],[]⟩:Sto)).idx).names,(((⟨⟨[],[]⟩,[],[]⟩:Sto)).idx).AY⟩:Idx),((⟨⟨[],[]⟩,[],[]⟩:Sto)).parts,((⟨⟨[],[]⟩,[],[]⟩:Sto)).mem⟩:Sto),(⟨((⟨[],[],[],1⟩:Dsk)).files,((⟨[],[],[],1⟩:Dsk)).list,((⟨[],[],[],1⟩:Dsk)).names,((⟨[],[],[],1⟩:Dsk)).next⟩:Dsk)⟩:Wld) [3,4,5,6,0,1,2] AF,Z.xt⟩
theorem DW (a:Prt) (b:Prt) (h1:RepS w F a1 n1 c1 a.ids) (h2:RepS w F a2 n2 c2 a.blocks) (h3:RepS w F a3 n3 c3 b.ids) (h4:RepS w F a4 n4 c4 b.blocks) (p0:CK a) (p1:CK b):Calls Tryz.prog 116 [.agg #[.slice a1 n1 c1,.slice a2 n2 c2],.agg #[.slice a3 n3 c3,.slice a4 n4 c4]].toArray w (Ag fun rv w'=>VS (ge w.heap.size) w' (BA a b:Prt) rv∧Ext w w'):=by
 cases h1.len
 cases h2.len
 cases h3.len
 cases h4.len
 refine goT func116 ?_
 have Z:=((((St.i0 F w).p h1).p h2).p h3).p h4
 refine .s<|.g<|RG.Np Z fun ab w Z=>RG.Np Z fun ac w Z=>RG.Np Z fun ae w Z=>.d<|.s<|.g<|RG.N0 (List Row) 0 Z fun ag w Z=>.r 1<|.d<|.s<|.s<|.g<|.r 1<|.d<|.b 0<|T.Lp (([]:List (List Row)),ag,(0:Nat),(1:Nat)) (fun (blocks,r_blocks,c_blocks,id)=>([(2,vP ab),(3,vP ac),(4,vP ae),(5,vS r_blocks blocks.length c_blocks),(6,vI (id:Int))],[(0,.own 0 r_blocks 159 c_blocks blocks)],[],7 - id,(1≤id)∧(id≤7)∧(blocks=BT a b (id - 1)))) [] Z ⟨(by simp [BT]),(by simp [BT]),(by simp [BT])⟩ ?_
 rintro ⟨blocks,r_blocks,c_blocks,id⟩ ay w Z ⟨aq,ar,ax⟩ aa
 exact .s<|.s<|.g<|.r 1<|.bp ((id:Int)≤6) (fun af=>.d<|.ct<|.sk<|.s<|.b 1<|T.GS 9 [ae,ac,ab] Z fun _ w Z=>.r [0]<|GA.Ln (q:=2) 1 3 Z<|.r [2]<|GA.Ln (q:=1) 4 2 Z<|.r [5]<|.go 3<|GE.CL (fun w Z=>Fx a (id:Int) (Z.mg 1 3) (Z.mg 1 2) (by grind [CK])) Z fun az aA w Z=>.go 6<|GE.CL (fun w Z=>Fx b (id:Int) (Z.mg 1 2) (Z.mg 1 1) (by grind [CK])) Z fun aB aC w Z=>.go 7<|GE.CL (fun w Z=>Gk (partOf a (id:Int)) (partOf b (id:Int)) (Z.a 1) (Z.a 0) (by have q1:=C7 p0 id; have q2:=C7 p1 id; omega)) Z fun aD aE w Z=>.go 8<|GE.Nb 1 Z fun aF w Z=>GA.Do Z fun w Z=>RG.Ap (hs:=by exact (by grind [Dk])) 0 0 blocks (Bb (partOf a (id:Int)) (partOf b (id:Int))) [0] Z fun ah ai w Z=>.r 1<|.d<|.ib 1<|.g<|.r 1<|.it ((id:Int)+1)<|.r 1<|.d<|aa ((blocks++[Bb (partOf a (id:Int)) (partOf b (id:Int))]),ah,ai,id+1) _ _ AA (Z.to 0 [] 3) ⟨AB,AB,(by obtain ⟨q,rfl⟩:∃ q,id=q+1:=⟨id - 1,by omega⟩; have:=H8 a b q; grind)⟩ (by (simp only []; omega))) fun af=>.d<|.cf<|.x 0 rfl<|.s<|.g<|.r 1<|RG.CS (Gl blocks (Z.oa 0) (by grind [Dk]) (by have q:=Nk p0 p1 6; grind)) Z fun aG aH aI aJ w Z=>RG.Ss 1 Z fun w Z=>.d<|T.Rb 1 func116 results116 Z ⟨Z.rS (Dy blocks) [0,1] (by grind [BA]),Z.xt⟩
theorem E0 (s:Sto) (id:Int) (h1:RepS w F a1 n1 c1 s.idx.names) (h2:RepS w F a2 n2 c2 s.idx.AY) (h3:RepS w F a3 n3 c3 s.parts) (h4:RepS w F a4 n4 c4 s.mem) (p0:s.parts.length≤100) (p1:∀ p∈s.parts,CK p) (p2:s.mem.length≤1000):Calls Tryz.prog 112 [.agg #[.slice a1 n1 c1,.slice a2 n2 c2,.slice a3 n3 c3,.slice a4 n4 c4],.int .i64 id].toArray w (Ag fun rv w'=>VL (ge w.heap.size) w' (rowsOf s id:List Row) rv∧Ext w w'):=by
 cases h1.len
 cases h2.len
 cases h3.len
 cases h4.len
 refine goT func112 ?_
 have Z:=((((St.i0 F w).p h1).p h2).p h3).p h4
 refine .s<|.g<|RG.Np Z fun ah w Z=>.r 1<|.d<|.s<|.g<|RG.N0 Row 0 Z fun aq w Z=>.r 1<|.d<|.s<|.s<|.g<|.r 1<|.d<|.b 0 ?_
 have Z:=Z.sl 0
 refine T.Lp (([]:List Row),sA aq,(0:Nat),(0:Nat)) (fun (out,a_out,c_out,i)=>([(1,vI id),(2,vP ah),(5,.slice a_out out.length c_out),(6,vI (i:Int))],[],[⟨0,none,.rep a_out c_out out⟩],s.parts.length - i,(i≤s.parts.length)∧(out.length≤1000 * i)∧((s.parts.drop i).foldl (Bx id) out=s.parts.foldl (Bx id) []))) [0] Z ⟨AD,AD,AD⟩ ?_
 rintro ⟨out,a_out,c_out,i⟩ aM w Z ⟨aE,aF,aG⟩ ae
 refine .s<|.s<|.g<|.r 2<|RG.Lb 0 Z<|.r 1<|.bp ((i:Int)< (s.parts.length:Int)) (fun ai=>?_) (fun ai=>?_)
 ·refine .d<|.ct<|.sk<|.s<|.b 1<|.g<|.r 2<|RG.Lb 0 Z<|.r 1<|gx s.parts i fun af ac=>?_
  have aH:=AZ ac; have am:=AV ac
  exact RG.Ix 3 ac Z<|Z.el 3 ac fun aN aO aP aQ Z=>RG.Lg 0 0 Z<|.r 1<|RG.CL (Fx af id (Z.mg 1 1) (Z.mg 1 2) (by grind [CK])) Z fun aR aS w Z=>RG.CL (Gk out (partOf af id) (Z.a 4) (Z.a 0) (by grind [C7])) Z fun ar ax w Z=>.r 1<|.d<|.ib 1<|.g<|.r 1<|.it ((i:Int)+1)<|.r 1<|.d<|ae (Bb out (partOf af id),ar,ax,i+1) _ _ AA (Z.to 0 [0] 6) ⟨AB,(by grind [Hn,C7]),(by grind [Bx,Hn,C7])⟩ (by (simp only []; omega))
 refine .d<|.cf<|.x 0 rfl<|.s<|.s<|.g<|.r 1<|.d<|.b 2<|T.Lp ((out:List Row),a_out,c_out,(0:Nat)) (fun (out,a_out,c_out,i)=>([(1,vI id),(2,vP ah),(5,.slice a_out out.length c_out),(7,vI (i:Int))],[],[⟨0,none,.rep a_out c_out out⟩],s.mem.length - i,(i≤s.mem.length)∧(out.length≤100000+i)∧((s.mem.drop i).foldl (CJ id) out=rowsOf s id))) [0] Z ⟨(by grind [rowsOf,Aa]),(by grind [rowsOf,Aa]),(by grind [rowsOf,Aa])⟩ ?_
 rintro ⟨out,a_out,c_out,i⟩ aT w Z ⟨aI,aJ,aK⟩ aa
 refine .s<|.s<|.g<|.r 2<|RG.Lb 0 Z<|.r 1<|.bp ((i:Int)< (s.mem.length:Int)) (fun aj=>?_) (fun aj=>.d<|.cf<|.x 2 rfl<|.s<|.g<|.r 2<|.d<|T.Rt func112 results112 ⟨Z.rL 0 out (by grind [Aa]),Z.xt⟩)
 refine .d<|.ct<|.sk<|.s<|.b 3<|.s<|.g<|.r 1<|RG.Lb 0 Z<|.r 1<|gx s.mem i fun ag ab=>?_
 have aL:=AZ ab
 exact RG.Ix 3 ab Z<|.r 1<|Z.el 3 ab fun Z=>RG.Lh 0 0 Z<|.r 1<|.eq ag.id id (fun ak=>.d<|.ct<|.g<|.r 2<|RG.Lb 0 Z<|.r 1<|RG.Ix 4 ab Z<|.r 1<|RG.Lg 0 1 Z<|RG.CL (Fw out ag.row (Z.a 1) AB) Z fun ay az w Z=>.r 1<|.d<|.ib 3<|.g<|.r 1<|.it ((i:Int)+1)<|.r 1<|.d<|aa (EG out ag.row,ay,az,i+1) _ _ AA (Z.to 0 [0] 3) ⟨(by grind [CJ,C6]),(by grind [CJ,C6]),(by grind [CJ,C6])⟩ (by (simp only []; omega))) fun ak=>.d<|.cf<|.sk<|.ib 3<|.g<|.r 1<|.it ((i:Int)+1)<|.r 1<|.d<|aa (out,a_out,c_out,i+1) _ _ AA (Z.to 0 [1] 2) ⟨(by grind [CJ,C6]),(by grind [CJ,C6]),(by grind [CJ,C6])⟩ (by (simp only []; omega))
theorem El (d:Dsk) (num:Int) (h1:RepS w F a1 n1 c1 d.files) (h2:RepS w F a2 n2 c2 d.list) (h3:RepS w F a3 n3 c3 d.names)  : Calls Tryz.prog 117 [.agg #[.slice a1 n1 c1,.slice a2 n2 c2,.slice a3 n3 c3,.int .i64 d.next],.int .i64 num].toArray w (Ag fun rv w'=>rv=.int .i64 (Ak d num)∧Ext w w'):=by
 cases h1.len
 cases h2.len
 cases h3.len
 refine goT func117 ?_
 have Z:=(((St.i0 F w).p h1).p h2).p h3
 have ai:=h1.max
 refine .s<|.g<|RG.Np Z fun ag w Z=>.r 1<|.d<|.s<|.s<|.g<|.r 1<|.d<|.b 0<|T.Lp (0:Nat) (fun i=>([(1,vI num),(2,vP ag),(5,vI (i:Int))],[],[],d.files.length - i,(i≤d.files.length)∧(C3 num i (d.files.drop i)=Ak d num))) [] Z ⟨(by simp [Ak]),(by simp [Ak])⟩ ?_
 rintro i ar w Z ⟨am,ao⟩ ab
 refine .s<|.s<|.g<|.r 2<|RG.Lb 0 Z<|.r 1<|.bp ((i:Int)< (d.files.length:Int)) (fun ac=>?_) (fun ac=>.d<|.cf<|.x 0 rfl<|.s<|.g<|.r 1<|.d<|T.rt func117 results117 (vI (-1)) ⟨(congrArg (Value.int .i64) (by grind [C3,Aa])),Z.xt⟩)
 refine .d<|.ct<|.sk<|.s<|.b 1<|.s<|.g<|.r 1<|RG.Lb 0 Z<|.r 1<|gx d.files i fun ah aa=>?_
 have aq:=AZ aa
 exact RG.Ix 2 aa Z<|.r 1<|Z.el 2 aa fun ax ay az aA Z=>RG.Lh 0 0 Z<|.r 1<|.eq ah.num num (fun ae=>.d<|.ct<|.s<|.g<|.r 2<|.d<|T.rt func117 results117 (vI (i:Int)) ⟨(congrArg (Value.int .i64) (by grind [C3,Aa])),Z.xt⟩) fun ae=>.d<|.cf<|.sk<|.ib 1<|.g<|.r 1<|.it ((i:Int)+1)<|.r 1<|.d<|ab (i+1) _ _ AA (Z.to 0 [] 3) ⟨AB,(by grind [C3])⟩ (by (simp only []; omega))
theorem Mx (ix:Idx) (n:List Tag) (h1:RepS w F a1 n1 c1 ix.names) (h2:RepS w F a2 n2 c2 ix.AY) (h3:RepS w F a3 n3 c3 n) (p0:ix.names.length≤1000) (p1:∀ n∈ix.names,Gi n) (p2:Gi n):Calls Tryz.prog 168 [.agg #[.slice a1 n1 c1,.slice a2 n2 c2],.slice a3 n3 c3].toArray w (Ag fun rv w'=>rv=.int .i64 (GP ix n)∧Ext w w'):=by
 cases h1.len
 cases h2.len
 cases h3.len
 refine goT func168 ?_
 have Z:=(((St.i0 F w).p h1).p h2).p h3
 refine .s<|.g<|RG.Np Z fun ag w Z=>.r 1<|.d<|.s<|.s<|.g<|.r 1<|.d<|.b 0<|T.Lp (0:Nat) (fun i=>([(1,.slice a3 n.length c3),(2,vP ag),(5,vI (i:Int))],[],[],ix.names.length - i,(i≤ix.names.length)∧(nmF (text n) i (ix.names.drop i)=GP ix n))) [] Z ⟨(by simp [GP]),(by simp [GP])⟩ ?_
 rintro i ar w Z ⟨ak,am⟩ ab
 refine .s<|.s<|.g<|.r 2<|RG.Lb 0 Z<|.r 1<|.bp ((i:Int)< (ix.names.length:Int)) (fun ae=>?_) (fun ae=>.d<|.cf<|.x 0 rfl<|.s<|.g<|.r 1<|.d<|T.rt func168 results168 (vI 0) ⟨(congrArg (Value.int .i64) (by grind [nmF,Aa])),Z.xt⟩)
 refine .d<|.ct<|.sk<|.s<|.b 1<|.s<|.g<|.r 1<|RG.Lb 0 Z<|.r 1<|gx ix.names i fun ac aa=>?_
 have ao:=AZ aa; have af:=AV aa
 refine RG.Ix 2 aa Z<|Z.el 2 aa fun ax ay Z=>RG.Lh 0 0 Z<|RG.C0 (HY ac (Z.a 1) (by grind [Gi]) (by grind [Gi])) Z fun w Z=>.r 1<|RG.C0 (HY n (Z.a 2) (by grind [Gi]) (by grind [Gi])) Z fun w Z=>RG.eqv (v:=.bool ((text ac==text n))) AA (Xm (text ac) (text n)) ?_
 cases aq:(text ac==text n)
 ·exact .d<|.cf<|.sk<|.ib 1<|.g<|.r 1<|.it ((i:Int)+1)<|.r 1<|.d<|ab (i+1) _ _ AA (Z.to 0 [] 2) ⟨AB,(by grind [nmF])⟩ (by (simp only []; omega))
 exact .d<|.ct<|.s<|.g<|.r 1<|.it ((i:Int)+1)<|.r 1<|.d<|T.rt func168 results168 (vI ((i:Int)+1)) ⟨(congrArg (Value.int .i64) (by grind [nmF,Aa])),Z.xt⟩
theorem FT (d:Dsk) (num:Int) (h1:RepS w F a1 n1 c1 d.files) (h2:RepS w F a2 n2 c2 d.list) (h3:RepS w F a3 n3 c3 d.names)  : Calls Tryz.prog 173 [.agg #[.slice a1 n1 c1,.slice a2 n2 c2,.slice a3 n3 c3,.int .i64 d.next],.int .i64 num].toArray w (Ag fun rv w'=>rv=.bool ((d.list.contains num))∧Ext w w'):=by
 cases h1.len
 cases h2.len
 cases h3.len
 refine goT func173 ?_
 have Z:=(((St.i0 F w).p h1).p h2).p h3
 have aj:=h2.max
 refine .s<|.g<|RG.Np Z fun ag w Z=>.r 1<|.d<|.s<|.s<|.g<|.r 1<|.d<|.b 0<|T.Lp (0:Nat) (fun i=>([(1,vI num),(2,vP ag),(5,vI (i:Int))],[],[],d.list.length - i,(i≤d.list.length)∧((d.list.drop i).contains num=d.list.contains num))) [] Z ⟨AD,AD⟩ ?_
 rintro i ar w Z ⟨am,ao⟩ ab
 refine .s<|.s<|.g<|.r 2<|RG.Lb 0 Z<|.r 1<|.bp ((i:Int)< (d.list.length:Int)) (fun ac=>?_) (fun ac=>.d<|.cf<|.x 0 rfl<|.s<|.g<|.r 1<|.d<|T.rt func173 results173 (.bool false) ⟨(AG (by grind [Aa])),Z.xt⟩)
 refine .d<|.ct<|.sk<|.s<|.b 1<|.s<|.g<|.r 1<|RG.Lb 0 Z<|.r 1<|gx d.list i fun ah aa=>?_
 have aq:=AZ aa
 exact RG.Ix 1 aa Z<|Z.el 1 aa fun Z=>RG.Lh 0 0 Z<|.r 1<|.eq ah num (fun ae=>.d<|.ct<|.s<|.g<|.r 1<|.d<|T.rt func173 results173 (.bool true) ⟨(AG (by grind [Aa])),Z.xt⟩) fun ae=>.d<|.cf<|.sk<|.ib 1<|.g<|.r 1<|.it ((i:Int)+1)<|.r 1<|.d<|ab (i+1) _ _ AA (Z.to 0 [] 1) ⟨AB,(by grind)⟩ (by (simp only []; omega))
end Go.Proofs.YtcginoabkicdiaaGreat
namespace Go.Proofs.YtcginoabkicdiaaGreat
def H9 (k v:Nat):Tag:=⟨[UInt8.ofNat k],[UInt8.ofNat v]⟩
def Ec (names:List (List Tag)) (t:Tag):List Pst:=if (ids names t).length > 0 then [⟨t,ids names t⟩] else []
def Fy (names:List (List Tag)) (k:Nat):Nat→Nat→List Pst
 | 0,_=>[]
 | f+1,v=>Ec names (H9 k v)++Fy names k f (v+1)
def F0 (names:List (List Tag)):Nat→Nat→List Pst
 | 0,_=>[]
 | f+1,k=>Fy names k 11 112++F0 names f (k+1)
def DG (names:List (List Tag)):List Pst:=F0 names 4 97
def idxOf (names:List (List Tag)):Idx:=⟨names,DG names⟩
def BX (ix:Idx) (n:List Tag):Idx × Int × Bool :=
 if GP ix n > 0 then (ix,GP ix n,true)
 else if !At n || decide (ix.names.length≥6) then (ix,0,false)
 else (idxOf (ix.names++[n]),(ix.names.length:Int)+1,true)
def GQ (bl:List (List Row)) (m:Smp):List (List Row):=bl.set (m.id - 1).toNat (EG (bl.getD (m.id - 1).toNat []) m.row)
def Ah (mem:List Smp):Prt:=Dy (mem.foldl GQ [[],[],[],[],[],[]])
theorem RS (bl:List (List Row)) (m:Smp):(GQ bl m).length=bl.length:=by simp [GQ]
theorem Tb {l:List Smp}{i:Nat}{xs:List (List Row)}{m:Smp}{x:List Row}{Y:List (List Row)}(hi:(l.drop i).foldl GQ xs=Y) (hd:l.drop i=m::l.drop (i+1)) (hx:xs[(m.id - 1).toNat]? = some x) :
 (l.drop (i+1)).foldl GQ (xs.set (m.id - 1).toNat (EG x m.row))=Y:=by
 rw [hd,List.foldl_cons] at hi
 have:GQ xs m=xs.set (m.id - 1).toNat (EG x m.row):=by unfold GQ; rw [List.getD_eq_getElem?_getD,hx]; rfl
 rw [this] at hi
 exact hi
theorem Ve {xs:List (List Row)}{j i:Nat}{x:List Row}{r:Row}(h:∀ b∈xs,b.length≤i) (hx:xs[j]? = some x):∀ b∈xs.set j (EG x r),b.length≤i+1:=by
 intro b hb
 rcases List.mem_or_eq_of_mem_set hb with hb | rfl
 ·have:=h b hb; omega
 ·have h1:=h x (AV hx)
  have h2:=C6 x r
  omega
theorem Iu (names:List (List Tag)) (k v:Nat) (h:v≤122):Fy names k (123 - v) v=Ec names (H9 k v)++Fy names k (123 - (v+1)) (v+1):=by
 rw [show 123 - v=(123 - (v+1))+1 by omega]
 rfl
theorem QY (names:List (List Tag)) (k:Nat) (h:k≤100):F0 names (101 - k) k=Fy names k 11 112++F0 names (101 - (k+1)) (k+1):=by
 rw [show 101 - k=(101 - (k+1))+1 by omega]
 rfl
theorem O0 (names:List (List Tag)) (k v:Nat) (h:123≤v):Fy names k (123 - v) v=[]:=by
 rw [show 123 - v=0 by omega]; rfl
theorem O1 (names:List (List Tag)) (k:Nat) (h:101≤k):F0 names (101 - k) k=[]:=by
 rw [show 101 - k=0 by omega]; rfl
end Go.Proofs.YtcginoabkicdiaaGreat
namespace Go.Proofs.YtcginoabkicdiaaGreat
set_option maxRecDepth 100000
set_option maxHeartbeats 4000000
variable {w:World} {F:Nat→Prop} {a1 a2 a3 a4:Option Addr} {n1 c1 n2 c2 n3 c3 n4 c4:Nat}
theorem Em (names:List (List Tag)) (h1:RepS w F a1 n1 c1 names) (p0:names.length≤1000) (p1:∀ n∈names,Gi n):Calls Tryz.prog 120 [.slice a1 n1 c1].toArray w (Ag fun rv w'=>VS (ge w.heap.size) w' (idxOf names:Idx) rv∧Ext w w'):=by
 cases h1.len
 refine goT func120 ?_
 have Z:=(St.i0 F w).p h1
 refine .s<|.g<|RG.Np Z fun ae w Z=>.d<|.s<|.g<|RG.N0 Pst 0 Z fun ai w Z=>.r 1<|.d<|.s<|.s<|.g<|.r 1<|.d<|.b 0<|T.Lp (([]:List Pst),ai,(0:Nat),(97:Nat)) (fun (AY,r_posts,c_posts,k)=>([(0,.slice a1 names.length c1),(2,vP ae),(3,vS r_posts AY.length c_posts),(4,.int .i32 (k:Int))],[(0,.own 0 r_posts 204 c_posts AY)],[],101 - k,(97≤k)∧(k≤101)∧(AY.length≤11 * (k - 97))∧(AY++F0 names (101 - k) k=DG names))) [] Z ⟨AB,AB,(by simp [DG]),(by simp [DG])⟩ ?_
 rintro ⟨AY,r_posts,c_posts,k⟩ aE w Z ⟨ao,aq,ar,ax⟩ ac
 refine .s<|.s<|.g<|.r 1<|.bp ((k:Int)≤100) (fun af=>?_) (fun af=>?_)
 ·refine .d<|.ct<|.sk<|.s<|.b 1<|.s<|.g<|.r 1<|.d<|.b 2<|T.Lp ((AY:List Pst),r_posts,c_posts,(112:Nat)) (fun (aa,r_posts1,c_posts1,v)=>([(0,.slice a1 names.length c1),(2,vP ae),(3,vS r_posts1 aa.length c_posts1),(4,.int .i32 (k:Int)),(5,.int .i32 (v:Int))],[(0,.own 0 r_posts1 204 c_posts1 aa)],[],123 - v,(112≤v)∧(v≤123)∧(97≤k)∧(k≤100)∧(aa.length≤11 * (k - 97)+(v - 112))∧(aa++Fy names k (123 - v) v++F0 names (101 - (k+1)) (k+1)=DG names))) [] Z ⟨AB,AB,AB,AB,AB,(by grind [QY])⟩ ?_
  rintro ⟨aa,r_posts1,c_posts1,v⟩ aF w Z ⟨ay,az,aA,aB,aC,aD⟩ ab
  exact .s<|.s<|.g<|.r 1<|.bp ((v:Int)≤122) (fun ag=>.d<|.ct<|.sk<|.s<|.b 3<|.s<|.g<|.r 1<|RG.eqv (v:=.string (bs [UInt8.ofNat k])) AA (Ut k AB)<|.r 1<|RG.eqv (v:=.string (bs [UInt8.ofNat v])) AA (Ut v AB)<|.r 1<|RG.Np Z fun aG w Z=>RG.Ss 0 Z fun w Z=>.d<|.s<|.g<|.r 1<|RG.Ln 0 Z<|RG.CL (LQ names (⟨[UInt8.ofNat k],[UInt8.ofNat v]⟩:Tag) (Z.a 0) AB) Z fun aH aI w Z=>.r 1<|.d<|.s<|.g<|.r 2<|.bp ((((ids names (⟨[UInt8.ofNat k],[UInt8.ofNat v]⟩:Tag)).length):Int) > 0) (fun ah=>.d<|.ct<|.g<|.r 1<|RG.Ln 0 Z<|.r 2<|RG.Nb 1 Z fun aJ w Z=>RG.Ap 1 0 aa (⟨(⟨[UInt8.ofNat k],[UInt8.ofNat v]⟩:Tag),ids names (⟨[UInt8.ofNat k],[UInt8.ofNat v]⟩:Tag)⟩:Pst) [0] Z fun aj ak w Z=>.r 1<|.d<|.ib 3<|.g<|.r 1<|RG.int32 ((v:Int)+1) AA AB<|.r 1<|.d<|ab ((aa++[(⟨(⟨[UInt8.ofNat k],[UInt8.ofNat v]⟩:Tag),ids names (⟨[UInt8.ofNat k],[UInt8.ofNat v]⟩:Tag)⟩:Pst)]),aj,ak,v+1) _ _ AA (Z.to 1 [] 1) ⟨AB,AB,AB,AB,(by grind [Iu,Ec,H9]),(by grind [Iu,Ec,H9])⟩ (by (simp only []; omega))) fun ah=>.d<|.cf<|.sk<|.ib 3<|.g<|.r 1<|RG.int32 ((v:Int)+1) AA AB<|.r 1<|.d<|ab (aa,r_posts1,c_posts1,v+1) _ _ AA (Z.to 1 [] 1) ⟨AB,AB,AB,AB,AB,(by grind [Iu,Ec,H9])⟩ (by (simp only []; omega))) fun ag=>.d<|.cf<|.x 2 rfl<|.ib 1<|.g<|.r 1<|RG.int32 ((k:Int)+1) AA AB<|.r 1<|.d<|ac (aa,r_posts1,c_posts1,k+1) _ _ AA (Z.to 0 [] 0) ⟨AB,AB,AB,(by grind [O0])⟩ (by (simp only []; omega))
 refine .d<|.cf<|.x 0 rfl<|.s<|.g<|.r 1<|RG.CO 0 (BQ names (Z.a 0) (by grind [Gi]) (by grind [Gi])) Z fun aK aL w Z=>.r 2<|RG.Ss 2 Z fun w Z=>.d ?_
 have Z:=(Z.sl 0).sl 0
 exact T.Rb 0 func120 results120 Z ⟨Z.rS (⟨names,AY⟩:Idx) [1,0] (by grind [idxOf,O1]),Z.xt⟩
theorem ES (s:Sto) (h1:RepS w F a1 n1 c1 s.idx.names) (h2:RepS w F a2 n2 c2 s.idx.AY) (h3:RepS w F a3 n3 c3 s.parts) (h4:RepS w F a4 n4 c4 s.mem) (p0:s.mem.length≤1000) (p1:∀ m∈s.mem,1≤m.id∧m.id≤6):Calls Tryz.prog 113 [.agg #[.slice a1 n1 c1,.slice a2 n2 c2,.slice a3 n3 c3,.slice a4 n4 c4]].toArray w (Ag fun rv w'=>VS (ge w.heap.size) w' (Ah s.mem:Prt) rv∧Ext w w'):=by
 cases h1.len
 cases h2.len
 cases h3.len
 cases h4.len
 refine goT func113 ?_
 have Z:=((((St.i0 F w).p h1).p h2).p h3).p h4
 refine .s<|.g<|RG.Np Z fun ao w Z=>RG.Np Z fun aq w Z=>.d<|.s<|.g<|RG.Nl 0 ([([]:List Row),([]:List Row),([]:List Row),([]:List Row),([]:List Row),([]:List Row)]:List (List Row)) [[5],[4],[3],[2],[1],[0]] ((((((Z.nl Row).nl Row).nl Row).nl Row).nl Row).nl Row) fun ah w Z=>.r 1<|.d<|.s<|.s<|.g<|.r 1<|.d<|.b 0<|T.Lp ((0:Nat),([([]:List Row),([]:List Row),([]:List Row),([]:List Row),([]:List Row),([]:List Row)]:List (List Row))) (fun (i,xs)=>([(1,vP ao),(2,vP aq),(3,vS ah 6 6),(4,vI (i:Int))],[(0,.own 0 ah 159 6 xs)],[],s.mem.length - i,(i≤s.mem.length)∧(xs.length=6)∧(∀ b∈xs,b.length≤i)∧((s.mem.drop i).foldl GQ xs=s.mem.foldl GQ [[],[],[],[],[],[]]))) [] Z ⟨AD,AD,AD,AD⟩ ?_
 rintro ⟨i,xs⟩ aG w Z ⟨aA,aB,aC,aD⟩ ae
 refine .s<|.s<|.g<|.r 2<|RG.Lb 2 Z<|.r 1<|.bp ((i:Int)< (s.mem.length:Int)) (fun ai=>?_) (fun ai=>.d<|.cf<|.x 0 rfl<|.s<|.g<|.r 1<|RG.CS (Gl xs (Z.ob' 0 6) AB (by intro b hb; have af:=‹∀ b∈xs,b.length≤i› _ hb; omega)) Z fun aH aI aJ aK w Z=>RG.Ss 1 Z fun w Z=>.d<|T.Rb 1 func113 results113 Z ⟨Z.rS (Dy xs) [0,1] (by have af:=Aa (xs:=s.mem) (k:=i) AB; have aj:List.foldl GQ xs (s.mem.drop i)=_:=‹_›; rw [af] at aj; unfold Ah; rw [← aj]; rfl),Z.xt⟩)
 refine .d<|.ct<|.sk<|.s<|.b 1<|.s<|.g<|.r 1<|RG.Lb 2 Z<|.r 1<|gx (h:=AB) s.mem i fun ab ac=>?_
 have aE:=AZ ac; have ak:=AV ac
 refine RG.Ix 6 ac Z<|.r 1<|Z.el 6 ac fun Z=>RG.Lh 0 0 Z<|.r 1<|.d<|T.Gd 15 Z fun w Z=>.r [0,1]<|GA.int (i:=2) (ab.id - 1) AA (by (have:=p1 _ ‹_›; omega))<|.r [3,4]<|GA.int (i:=5) (ab.id - 1) AA (by (have:=p1 _ ‹_›; omega))<|gx (h:=(by (have:=p1 _ ‹_›; omega))) xs ((ab.id - 1).toNat) fun ag aa=>?_
 have am:=AV aa
 exact GA.Ko (hz:=(by (have:=p1 _ ‹_›; omega))) (hn:=(by (have:=p1 _ ‹_›; omega))) 6 0 6 (ab.id - 1) aa Z<|Z.eo 0 aa fun aL aM Z=>GA.Lt 7 0 0 Z<|.r [8]<|GA.Lb 9 2 Z<|.r [10]<|GA.Ix 11 8 ac Z<|.r [12]<|GA.Lg 13 1 1 Z<|.go 14<|GE.CL (fun w Z=>Fw ag ab.row (Z.a 0) (by have af:=‹∀ b∈xs,b.length≤i› _ ‹_›; omega)) Z fun aN aO w Z=>GA.Dn Z fun w Z=>RG.Ko (hz:=(by (have:=p1 _ ‹_›; omega))) (hn:=(by (have:=p1 _ ‹_›; omega))) 0 6 (ab.id - 1) aa Z<|RG.Se 0 0 0 aa (EG ag ab.row) [0] Z fun w Z=>.d<|.ib 1<|.g<|.r 1<|RG.int ((i:Int)+1) AA AB<|.r 1<|.d<|ae (i+1,(xs.set ((ab.id - 1).toNat) (EG ag ab.row))) _ _ AA (Z.to 0 [] 3) ⟨AB,(by simp; omega),(by exact Ve ‹_› ‹_›),(by exact Tb ‹_› ‹_› ‹_›)⟩ (by (simp only []; omega))
end Go.Proofs.YtcginoabkicdiaaGreat
namespace Go.Proofs.YtcginoabkicdiaaGreat
def RT (x:Idx):Prop:=x.names.length≤1000∧∀ n∈x.names,Gi n
def Nq (s:Sto):Prop:=RT s.idx∧s.parts.length≤100∧(∀ p∈s.parts,CK p)∧s.mem.length≤900
def BC (s:Sto):Sto × Bool :=
 if s.mem.length=0∨s.parts.length≥6 then (s,false) else (⟨s.idx,s.parts++[Ah s.mem],[]⟩,true)
def F1 (ps:List Prt) (at_:Nat):List Prt:=match ps[at_]?,ps[at_+1]? with
 | some x,some y=>ps.take at_++[BA x y]++ps.drop (at_+2)
 | _,_=>ps
def BG (s:Sto) (at_:Int):Sto × Bool :=
 if inR at_ 0 ((s.parts.length:Int) - 2) then (⟨s.idx,F1 s.parts at_.toNat,s.mem⟩,true) else (s,false)
def Iv (s:Sto) (n:List Tag) (r:Row):Sto:=⟨(BX s.idx n).1,s.parts,s.mem++[⟨(BX s.idx n).2.1,r⟩]⟩
def Ca (s:Sto) (n:List Tag) (r:Row):Sto × Bool :=
 if !(BX s.idx n).2.2 || !BU r || decide (s.mem.length≥20) then (s,false)
 else if (rowsOf (Iv s n r) (BX s.idx n).2.1).length > 24 then (s,false) else (Iv s n r,true)
theorem Gn {ix:Idx}{n:List Tag}(h:GP ix n > 0):BX ix n=(ix,GP ix n,true):=by unfold BX; rw [if_pos h]
theorem FA {ix:Idx}{n:List Tag}(h:¬ GP ix n > 0) (h2:At n=false∨(ix.names.length:Int)≥6):BX ix n=(ix,0,false):=by
 unfold BX
 rw [if_neg h,if_pos]
 rcases h2 with h2 | h2
 ·simp [h2]
 ·simp; omega
theorem Gp {ix:Idx}{n:List Tag}(h:¬ GP ix n > 0) (h2:At n=true) (h3:¬ (ix.names.length:Int)≥6):BX ix n=(idxOf (ix.names++[n]),(ix.names.length:Int)+1,true):=by
 unfold BX
 rw [if_neg h,if_neg]
 simp [h2]
 omega
theorem HF {ps:List Prt}{i:Nat}{x y:Prt}(hx:ps[i]? = some x) (hy:ps[i+1]? = some y):F1 ps i=ps.take i++[BA x y]++ps.drop (i+2):=by
 simp [F1,hx,hy]
theorem O2 {s:Sto}{n:List Tag}{r:Row}(h:(BX s.idx n).2.2=false):Ca s n r=(s,false):=by unfold Ca; rw [if_pos (by simp [h])]
theorem O3 {s:Sto}{n:List Tag}{r:Row}(h:BU r=false):Ca s n r=(s,false):=by unfold Ca; rw [if_pos (by simp [h])]
theorem O4 {s:Sto}{n:List Tag}{r:Row}(h:(s.mem.length:Int)≥20):Ca s n r=(s,false):=by unfold Ca; rw [if_pos (by simp; omega)]
theorem Ho {s:Sto}{n:List Tag}{r:Row}(h1:(BX s.idx n).2.2=true) (h2:BU r=true) (h3:¬ (s.mem.length:Int)≥20) (h:((rowsOf (Iv s n r) (BX s.idx n).2.1).length:Int) > 24):Ca s n r=(s,false):=by
 unfold Ca; rw [if_neg (by simp [h1,h2]; omega),if_pos AB]
theorem Hp {s:Sto}{n:List Tag}{r:Row}(h1:(BX s.idx n).2.2=true) (h2:BU r=true) (h3:¬ (s.mem.length:Int)≥20) (h:¬ ((rowsOf (Iv s n r) (BX s.idx n).2.1).length:Int) > 24):Ca s n r=(Iv s n r,true):=by
 unfold Ca; rw [if_neg (by simp [h1,h2]; omega),if_neg AB]
theorem KY {s:Sto}{a:Int}(h:inR a 0 ((s.parts.length:Int) - 2)=false):BG s a=(s,false):=by unfold BG; rw [if_neg (by simp [h])]
theorem KZ {s:Sto}{a:Int}{x y:Prt}(h:inR a 0 ((s.parts.length:Int) - 2)=true) (hx:s.parts[a.toNat]? = some x) (hy:s.parts[(a+1).toNat]? = some y) :
 BG s a=(⟨s.idx,(([]++(s.parts.take a.toNat).drop 0)++[BA x y])++((s.parts.take s.parts.length).drop (a+2).toNat),s.mem⟩,true):=by
 have h1:=Bu h
 have e1:(a+1).toNat=a.toNat+1:=by omega
 have e2:(a+2).toNat=a.toNat+2:=by omega
 rw [e1] at hy
 unfold BG
 rw [if_pos h,HF hx hy,e2]
 simp
end Go.Proofs.YtcginoabkicdiaaGreat
namespace Go.Proofs.YtcginoabkicdiaaGreat
set_option maxRecDepth 100000
set_option maxHeartbeats 4000000
variable {w:World} {F:Nat→Prop} {a1 a2 a3 a4 a5:Option Addr} {n1 c1 n2 c2 n3 c3 n4 c4 n5 c5:Nat}
theorem LU (ix:Idx) (n:List Tag) (h1:RepS w F a1 n1 c1 ix.names) (h2:RepS w F a2 n2 c2 ix.AY) (h3:RepS w F a3 n3 c3 n) (p0:RT ix) (p1:Gi n):Calls Tryz.prog 110 [.agg #[.slice a1 n1 c1,.slice a2 n2 c2],.slice a3 n3 c3].toArray w (Ag fun rv w'=>(∃ v0,rv=.tuple #[v0,.int .i64 ((BX ix n).2.1),.bool ((BX ix n).2.2)]∧VS (fo F w.heap.size) w' ((BX ix n).1:Idx) v0)∧Ext w w'):=by
 cases h1.len
 cases h2.len
 cases h3.len
 refine goT func110 ?_
 have Z:=(((St.i0 F w).p h1).p h2).p h3
 have af:=h1.max
 have ah:=h3.max
 refine .s<|.g<|RG.Np Z fun ac w Z=>RG.Np Z fun aj w Z=>.r 2<|.d<|.s<|.g<|RG.Ln 1 Z<|.r 1<|RG.C0 (Mx ix n (Z.a 2) (Z.a 1) (Z.a 0) p0.1 p0.2 p1) Z fun w Z=>.r 1<|.d<|.s<|.s<|.g<|.r 1<|.bp (GP ix n > 0) (fun aa=>.d<|.ct<|.s<|.g<|RG.Ln 1 Z<|.r 1<|RG.Ss 0 Z fun w Z=>.r 2<|.d<|T.r3 func110 results110 (.B 0 Z) (.t (vI (GP ix n))) (.t (.bool true)) ⟨⟨_,(Mp rfl (congrArg (Value.int .i64) (by (rw [Gn ‹_›]))) (AG (by (rw [Gn ‹_›])))),Z.rS (g:=1) ix [2,1] (by (rw [Gn ‹_›]))⟩,Z.xt⟩) fun aa=>.d<|.cf<|.sk<|.s<|.s<|.g<|.r 1<|RG.C0 (HX n (Z.a 0)) Z fun w Z=>?_
 cases ai:(At n)
 ·exact .r 7<|.d<|.ct<|.s<|.g<|RG.Ln 1 Z<|RG.Ss 0 Z fun w Z=>.r 2<|.d<|T.r3 func110 results110 (.B 0 Z) (.t (vI 0)) (.t (.bool false)) ⟨⟨_,(Mp rfl (congrArg (Value.int .i64) (by (rw [FA ‹_› (.inl ‹_›)]))) (AG (by (rw [FA ‹_› (.inl ‹_›)])))),Z.rS (g:=1) ix [2,1] (by (rw [FA ‹_› (.inl ‹_›)]))⟩,Z.xt⟩
 exact .r 3<|RG.Lb 1 Z<|.r 1<|.bp ((ix.names.length:Int)≥6) (fun ab=>.r 1<|.d<|.ct<|.s<|.g<|RG.Ln 1 Z<|RG.Ss 0 Z fun w Z=>.r 2<|.d<|T.r3 func110 results110 (.B 0 Z) (.t (vI 0)) (.t (.bool false)) ⟨⟨_,(Mp rfl (congrArg (Value.int .i64) (by (rw [FA ‹_› (.inr ‹_›)]))) (AG (by (rw [FA ‹_› (.inr ‹_›)])))),Z.rS (g:=1) ix [2,1] (by (rw [FA ‹_› (.inr ‹_›)]))⟩,Z.xt⟩) fun ab=>.r 1<|.d<|.cf<|.sk<|.s<|.g<|.r 1<|RG.Lb 1 Z<|RG.CO 1 (BQ ix.names (Z.a 2) (by have:=p0.1; omega) (by intro n hn; have:=(p0.2 n hn).1; omega)) Z fun ak am w Z=>RG.N0 Tag 1 Z fun ao w Z=>.r 1<|RG.An (hs:=by (simp only [List.nil_append,List.length_nil,List.length_append,List.length_cons] <;> exact (by have:=p0.1; have:=p1.1; omega))) 0 0 ([]:List Tag) n Z fun aq ar w Z=>RG.Nb 1 Z fun ax w Z=>RG.Ap (hs:=by exact (by have:=p0.1; have:=p1.1; omega)) 0 0 ix.names ([]++n) [0] (Z.sl 1) fun ay az w Z=>RG.CS (Em (ix.names++[([]++n)]) (Z.oa 0) (by have:=p0.1; simp; omega) (by intro m hm; simp at hm; rcases hm with hm | rfl; exact p0.2 m hm; exact p1)) Z fun aA aB aC aD w Z=>RG.Np Z fun ae w Z=>RG.Ss 0 Z fun w Z=>.d<|.s<|T.GS 5 [ae,ac] Z fun _ w Z=>GA.Ln 0 0 Z<|.r [1]<|GA.Lb 2 0 Z<|.r [3]<|.go 4<|GE.Ss 2 [0,3] Z fun w Z=>GA.Do Z fun w Z=>.r 2<|.d<|T.r3 func110 results110 (.B 2 Z) (.t (vI ((((idxOf (ix.names++[([]++n)])).names).length):Int))) (.t (.bool true)) ⟨⟨_,(Mp rfl (congrArg (Value.int .i64) (by (rw [Gp ‹_› ‹_› ‹_›] <;> simp [idxOf]))) (AG (by (rw [Gp ‹_› ‹_› ‹_›] <;> simp [idxOf])))),Z.rS (g:=1) (idxOf (ix.names++[([]++n)])) [0,1] (by (rw [Gp ‹_› ‹_› ‹_›] <;> simp [idxOf]))⟩,Z.xt⟩
theorem Jp (s:Sto) (h1:RepS w F a1 n1 c1 s.idx.names) (h2:RepS w F a2 n2 c2 s.idx.AY) (h3:RepS w F a3 n3 c3 s.parts) (h4:RepS w F a4 n4 c4 s.mem) (p0:s.mem.length≤1000) (p1:∀ m∈s.mem,1≤m.id∧m.id≤6):Calls Tryz.prog 51 [.agg #[.slice a1 n1 c1,.slice a2 n2 c2,.slice a3 n3 c3,.slice a4 n4 c4]].toArray w (Ag fun rv w'=>(∃ v0,rv=.tuple #[v0,.bool ((BC s).2)]∧VS (fo F w.heap.size) w' ((BC s).1:Sto) v0)∧Ext w w'):=by
 cases h1.len
 cases h2.len
 cases h3.len
 cases h4.len
 refine goT func51 ?_
 have Z:=((((St.i0 F w).p h1).p h2).p h3).p h4
 have ah:=h3.max
 refine .s<|.g<|RG.Np Z fun ac w Z=>RG.Np Z fun ae w Z=>.r 1<|.d<|.s<|.s<|.g<|.r 1<|RG.Lb 1 Z<|.r 1<|.eq (s.mem.length:Int) 0 (fun aa=>.r 6<|.d<|.ct<|.s<|.g<|RG.Ln 1 Z<|RG.Ss 0 Z fun w Z=>.r 1<|.d<|T.r2 func51 results51 (.B 0 Z) (.t (.bool false)) ⟨⟨_,(Ch rfl (AG (by (unfold BC; (rw [if_pos AB]))))),Z.rS (g:=1) s [3,2,1,0] (by (unfold BC; (rw [if_pos AB])))⟩,Z.xt⟩) fun aa=>.r 2<|RG.Lb 1 Z<|.r 1<|.bp ((s.parts.length:Int)≥6) (fun ab=>.r 1<|.d<|.ct<|.s<|.g<|RG.Ln 1 Z<|RG.Ss 0 Z fun w Z=>.r 1<|.d<|T.r2 func51 results51 (.B 0 Z) (.t (.bool false)) ⟨⟨_,(Ch rfl (AG (by (unfold BC; (rw [if_pos AB]))))),Z.rS (g:=1) s [3,2,1,0] (by (unfold BC; (rw [if_pos AB])))⟩,Z.xt⟩) fun ab=>.r 1<|.d<|.cf<|.sk<|.s<|T.GS 5 [ae,ac] Z fun _ w Z=>.r [1]<|GA.Lb (q:=1) 2 1 Z<|GA.Ln (q:=1) 4 1 Z<|.go 0<|GE.N0 Prt 1 Z fun aj w Z=>.go 3<|GE.An 0 1 ([]:List Prt) s.parts [1,2] Z fun ak am w Z=>GA.Do Z fun w Z=>RG.CS (ES s (Z.a 3) (Z.a 2) (Z.a 1) (Z.a 0) p0 p1) Z fun ao aq ar ax w Z=>RG.Nb 1 Z fun ay w Z=>RG.Ap 0 0 ([]++s.parts) (Ah s.mem) [0,1] Z fun az aA w Z=>.r 1<|RG.Ss 2 Z fun w Z=>.d<|.s<|.g<|RG.N0 Smp 1 Z fun aB w Z=>.r 1<|RG.Ss 3 Z fun w Z=>.d<|.s<|.g<|RG.Ln 3 Z<|RG.Ss 2 Z fun w Z=>.r 1<|.d ?_
 have Z:=(Z.sl 1).sl 0
 exact T.r2 func51 results51 (.B 0 Z) (.t (.bool true)) ⟨⟨_,(Ch rfl (AG (by (unfold BC; (rw [if_neg AB] <;> simp))))),Z.rS (g:=1) (⟨(⟨s.idx.names,s.idx.AY⟩:Idx),(([]++s.parts)++[(Ah s.mem)]),([]:List Smp)⟩:Sto) [7,6,1,0] (by (unfold BC; (rw [if_neg AB] <;> simp)))⟩,Z.xt⟩
theorem Jq (s:Sto) (at_:Int) (h1:RepS w F a1 n1 c1 s.idx.names) (h2:RepS w F a2 n2 c2 s.idx.AY) (h3:RepS w F a3 n3 c3 s.parts) (h4:RepS w F a4 n4 c4 s.mem) (p0:s.parts.length≤100) (p1:∀ p∈s.parts,CK p):Calls Tryz.prog 54 [.agg #[.slice a1 n1 c1,.slice a2 n2 c2,.slice a3 n3 c3,.slice a4 n4 c4],.int .i64 at_].toArray w (Ag fun rv w'=>(∃ v0,rv=.tuple #[v0,.bool ((BG s at_).2)]∧VS (fo F w.heap.size) w' ((BG s at_).1:Sto) v0)∧Ext w w'):=by
 cases h1.len
 cases h2.len
 cases h3.len
 cases h4.len
 refine goT func54 ?_
 have Z:=((((St.i0 F w).p h1).p h2).p h3).p h4
 refine .s<|.g<|RG.Np Z fun ai w Z=>RG.Np Z fun aj w Z=>.r 1<|.d<|.s<|.s<|.g<|.r 2<|RG.Lb 1 Z<|.r 1<|RG.int ((s.parts.length:Int) - 2) AA (by grind [inR])<|RG.C0 (C8 at_ 0 ((s.parts.length:Int) - 2) (F:=all)) Z fun w Z=>?_
 cases af:(inR at_ 0 ((s.parts.length:Int) - 2))
 ·exact .r 1<|.d<|.ct<|.s<|.g<|RG.Ln 1 Z<|RG.Ss 0 Z fun w Z=>.r 1<|.d<|T.r2 func54 results54 (.B 0 Z) (.t (.bool false)) ⟨⟨_,(Ch rfl (AG (by rw [KY ‹_›]))),Z.rS (g:=1) s [3,2,1,0] (by rw [KY ‹_›])⟩,Z.xt⟩
 have ax:=Bu af
 refine .r 1<|.d<|.cf<|.sk<|.s<|.g<|RG.N0 Prt 1 Z fun aA w Z=>.r 1<|RG.Lb 2 Z<|.r 1<|RG.Sb (hlh:=(by grind [inR])) (hh:=(by grind [inR])) (hhi:=bdI at_) 1 0 (at_.toNat) s.parts Z fun aB aC Z=>RG.An 0 0 ([]:List Prt) ((s.parts.take (at_.toNat)).drop 0) Z fun aD aE w Z=>.r 1<|.d<|.s<|T.GS 14 [aj,ai] Z fun _ w Z=>.r [0,1]<|GA.Lb (q:=1) 2 2 Z<|.r [3]<|gx (h:=(by grind [inR])) s.parts (at_.toNat) fun ac aa=>?_
 have ag:=AV aa
 refine GA.Jx (hz:=(by grind [inR])) 4 2 at_ aa Z<|Z.el 2 aa fun aF aG aH aI Z=>GA.Lg 5 0 0 Z<|.r [6]<|GA.Lb (q:=1) 7 2 Z<|.r [8]<|GA.int (i:=9) (at_+1) AA (by grind [inR])<|gx (h:=(by grind [inR])) s.parts ((at_+1).toNat) fun ae ab=>?_
 have ah:=AV ab
 refine GA.Jx (hz:=(by grind [inR])) 10 5 (at_+1) ab Z<|Z.el 5 ab fun aJ aK aL aM Z=>GA.Lg 11 0 0 Z<|.go 12<|GE.CS (fun w Z=>DW ac ae (Z.a 4) (Z.a 5) (Z.a 1) (Z.a 2) (by grind) (by grind)) Z fun aN aO aP aQ w Z=>.go 13<|GE.Nb 1 Z fun aR w Z=>GA.Do Z fun w Z=>RG.Ap 0 0 ([]++((s.parts.take (at_.toNat)).drop 0)) (BA ac ae) [0,1] Z fun aS aT w Z=>.r 1<|.d<|.s<|.g<|.r 2<|RG.Lb 2 Z<|.r 1<|RG.int (at_+2) AA (by grind [inR])<|RG.Sb (hlh:=(by grind [inR])) (hh:=(by grind [inR])) (hlo:=bdI (at_+2)) 10 ((at_+2).toNat) s.parts.length s.parts Z fun aU aV Z=>RG.An 0 0 (([]++((s.parts.take (at_.toNat)).drop 0))++[(BA ac ae)]) ((s.parts.take s.parts.length).drop ((at_+2).toNat)) Z fun aW aX w Z=>.r 1<|RG.Ss 2 Z fun w Z=>.d<|.s<|.g<|RG.Ln 2 Z<|RG.Ss 1 Z fun w Z=>.r 1<|.d ?_
 have Z:=Z.sl 0
 exact T.r2 func54 results54 (.B 0 Z) (.t (.bool true)) ⟨⟨_,(Ch rfl (AG (by rw [KZ ‹_› ‹_› ‹_›]))),Z.rS (g:=1) (⟨(⟨s.idx.names,s.idx.AY⟩:Idx),((([]++((s.parts.take (at_.toNat)).drop 0))++[(BA ac ae)])++((s.parts.take s.parts.length).drop ((at_+2).toNat))),s.mem⟩:Sto) [14,13,0,11] (by rw [KZ ‹_› ‹_› ‹_›])⟩,Z.xt⟩
theorem LV (s:Sto) (n:List Tag) (r:Row) (h1:RepS w F a1 n1 c1 s.idx.names) (h2:RepS w F a2 n2 c2 s.idx.AY) (h3:RepS w F a3 n3 c3 s.parts) (h4:RepS w F a4 n4 c4 s.mem) (h5:RepS w F a5 n5 c5 n) (p0:Nq s) (p1:Gi n):Calls Tryz.prog 50 [.agg #[.slice a1 n1 c1,.slice a2 n2 c2,.slice a3 n3 c3,.slice a4 n4 c4],.slice a5 n5 c5,.agg #[.int .i64 r.t,.int .i64 r.v]].toArray w (Ag fun rv w'=>(∃ v0,rv=.tuple #[v0,.bool ((Ca s n r).2)]∧VS (fo F w.heap.size) w' ((Ca s n r).1:Sto) v0)∧Ext w w'):=by
 cases h1.len
 cases h2.len
 cases h3.len
 cases h4.len
 cases h5.len
 refine goT func50 ?_
 have Z:=(((((St.i0 F w).p h1).p h2).p h3).p h4).p h5
 have aq:=h4.max
 refine .s<|.g<|RG.Np Z fun af w Z=>RG.Np Z fun ag w Z=>RG.Np Z fun ah w Z=>.r 1<|.d<|.s<|.g<|.r 1<|RG.Ln 2 Z<|.r 1<|RG.CT (us:=[vI ((BX s.idx n).2.1),.bool ((BX s.idx n).2.2)]) (LU s.idx n (Z.mg 1 4) (Z.mg 1 3) (Z.mg 1 0) p0.1 p1) Z fun az aA aB aC w Z=>.r 3 ?_
 cases ax:(BX s.idx n).2.2
 ·exact .r 1<|RG.Np Z fun aD w Z=>RG.Ss 0 Z fun w Z=>.r 2<|.d<|.s<|.s<|.g<|.r 13<|.d<|.ct<|.s<|.g<|RG.Ln 3 Z<|RG.Ss 1 Z fun w Z=>.r 1<|.d<|T.r2 func50 results50 (.B 1 Z) (.t (.bool false)) ⟨⟨_,(Ch rfl (AG (by rw [O2 ‹_›]))),Z.rS (g:=1) s [6,5,4,3] (by rw [O2 ‹_›])⟩,Z.xt⟩
 refine .r 1<|RG.Np Z fun ai w Z=>RG.Ss 0 Z fun w Z=>.r 2<|.d<|.s<|.s<|.g<|.r 3<|RG.Ln 2 Z<|RG.C0 (Ms r (F:=all)) Z fun w Z=>?_
 cases ay:(BU r)
 ·exact .r 8<|.d<|.ct<|.s<|.g<|RG.Ln 3 Z<|RG.Ss 1 Z fun w Z=>.r 1<|.d<|T.r2 func50 results50 (.B 1 Z) (.t (.bool false)) ⟨⟨_,(Ch rfl (AG (by rw [O3 ‹_›]))),Z.rS (g:=1) s [6,5,4,3] (by rw [O3 ‹_›])⟩,Z.xt⟩
 refine .r 4<|RG.Lb 3 Z<|.r 1<|.bp ((s.mem.length:Int)≥20) (fun aa=>.r 1<|.d<|.ct<|.s<|.g<|RG.Ln 3 Z<|RG.Ss 1 Z fun w Z=>.r 1<|.d<|T.r2 func50 results50 (.B 1 Z) (.t (.bool false)) ⟨⟨_,(Ch rfl (AG (by rw [O4 ‹_›]))),Z.rS (g:=1) s [6,5,4,3] (by rw [O4 ‹_›])⟩,Z.xt⟩) fun aa=>.r 1<|.d<|.cf<|.sk<|.s<|.g<|RG.Ln 3 Z<|RG.Np Z fun aj w Z=>RG.Ss 0 Z fun w Z=>.d<|.s<|.g<|RG.Ln 1 Z<|.r 1<|RG.Ss 0 Z fun w Z=>.d<|.s<|T.GS 8 [aj,ai,ah,ag,af] Z fun _ w Z=>.r [1]<|GA.Lb (q:=4) 2 4 Z<|.r [4]<|GA.Ln (q:=3) 5 3 Z<|.r [6]<|.tw 0 7 ?_ ?_
 ·refine GE.N0 Smp 1 Z fun aE w Z=>.tw 3 7 ?_ ?_
  ·refine GE.An (hs:=by (simp only [List.nil_append,List.length_nil,List.length_append,List.length_cons] <;> exact (by have:=p0.2.2.2; omega))) 0 3 ([]:List Smp) s.mem [1,2,3,4,5] Z fun aF aG w Z=>.go 7<|GE.Nb 1 Z fun aH w Z=>GA.Do Z fun w Z=>RG.Ap (hs:=by (simp only [List.nil_append,List.length_nil,List.length_append,List.length_cons] <;> exact (by have:=p0.2.2.2; omega))) 0 0 ([]++s.mem) (⟨(BX s.idx n).2.1,(⟨r.t,r.v⟩:Row)⟩:Smp) [] Z fun aI aJ w Z=>.r 1<|RG.Ss 1 Z fun w Z=>.d<|.s<|.s<|.g<|RG.Ln 1 Z<|.r 1<|RG.CL (E0 (⟨(⟨(BX s.idx n).1.names,((BX s.idx n).1).AY⟩:Idx),s.parts,(([]++s.mem)++[(⟨(BX s.idx n).2.1,(⟨r.t,r.v⟩:Row)⟩:Smp)])⟩:Sto) ((BX s.idx n).2.1) (Z.a 0) (Z.a 1) (Z.a 4) (Z.oa 0) p0.2.1 p0.2.2.1 (by have:=p0.2.2.2; simp; omega)) Z fun aK aL w Z=>.r 1<|.bp ((((rowsOf (⟨(⟨(BX s.idx n).1.names,((BX s.idx n).1).AY⟩:Idx),s.parts,(([]++s.mem)++[(⟨(BX s.idx n).2.1,(⟨r.t,r.v⟩:Row)⟩:Smp)])⟩:Sto) ((BX s.idx n).2.1)).length):Int) > 24) (fun ab=>.d<|.ct<|.s<|.g<|RG.Ln 5 Z<|RG.Ss 3 Z fun w Z=>.r 1<|.d<|T.r2 func50 results50 (.B 3 Z) (.t (.bool false)) ⟨⟨_,(Ch rfl (AG (by rw [Ho ‹_› ‹_› ‹_› ‹_›]))),Z.rS (g:=1) s [7,6,5,4] (by rw [Ho ‹_› ‹_› ‹_› ‹_›])⟩,Z.xt⟩) fun ab=>.d<|.cf<|.sk<|.s<|.g<|RG.Ln 1 Z<|RG.Ss 3 Z fun w Z=>.r 1<|.d ?_
   have Z:=Z.sl 0
   exact T.r2 func50 results50 (.B 2 Z) (.t (.bool true)) ⟨⟨_,(Ch rfl (AG (by (rw [Hp ‹_› ‹_› ‹_› ‹_›] <;> rfl)))),Z.rS (g:=1) (⟨(⟨(BX s.idx n).1.names,((BX s.idx n).1).AY⟩:Idx),s.parts,(([]++s.mem)++[(⟨(BX s.idx n).2.1,(⟨r.t,r.v⟩:Row)⟩:Smp)])⟩:Sto) [2,3,6,0] (by (rw [Hp ‹_› ‹_› ‹_› ‹_›] <;> rfl))⟩,Z.xt⟩
  refine GE.Nb 1 Z fun aM w Z=>.go 3<|GE.An (hs:=by (simp only [List.nil_append,List.length_nil,List.length_append,List.length_cons] <;> exact (by have:=p0.2.2.2; omega))) 1 3 ([]:List Smp) s.mem [2,3,4,5,6] Z fun aN aO w Z=>GA.Do Z fun w Z=>RG.Ap (hs:=by (simp only [List.nil_append,List.length_nil,List.length_append,List.length_cons] <;> exact (by have:=p0.2.2.2; omega))) 0 0 ([]++s.mem) (⟨(BX s.idx n).2.1,(⟨r.t,r.v⟩:Row)⟩:Smp) [] Z fun aP aQ w Z=>.r 1<|RG.Ss 1 Z fun w Z=>.d<|.s<|.s<|.g<|RG.Ln 1 Z<|.r 1<|RG.CL (E0 (⟨(⟨(BX s.idx n).1.names,((BX s.idx n).1).AY⟩:Idx),s.parts,(([]++s.mem)++[(⟨(BX s.idx n).2.1,(⟨r.t,r.v⟩:Row)⟩:Smp)])⟩:Sto) ((BX s.idx n).2.1) (Z.a 0) (Z.a 1) (Z.a 4) (Z.oa 0) p0.2.1 p0.2.2.1 (by have:=p0.2.2.2; simp; omega)) Z fun aR aS w Z=>.r 1<|.bp ((((rowsOf (⟨(⟨(BX s.idx n).1.names,((BX s.idx n).1).AY⟩:Idx),s.parts,(([]++s.mem)++[(⟨(BX s.idx n).2.1,(⟨r.t,r.v⟩:Row)⟩:Smp)])⟩:Sto) ((BX s.idx n).2.1)).length):Int) > 24) (fun ac=>.d<|.ct<|.s<|.g<|RG.Ln 5 Z<|RG.Ss 3 Z fun w Z=>.r 1<|.d<|T.r2 func50 results50 (.B 3 Z) (.t (.bool false)) ⟨⟨_,(Ch rfl (AG (by rw [Ho ‹_› ‹_› ‹_› ‹_›]))),Z.rS (g:=1) s [7,6,5,4] (by rw [Ho ‹_› ‹_› ‹_› ‹_›])⟩,Z.xt⟩) fun ac=>.d<|.cf<|.sk<|.s<|.g<|RG.Ln 1 Z<|RG.Ss 3 Z fun w Z=>.r 1<|.d ?_
  have Z:=Z.sl 0
  exact T.r2 func50 results50 (.B 2 Z) (.t (.bool true)) ⟨⟨_,(Ch rfl (AG (by (rw [Hp ‹_› ‹_› ‹_› ‹_›] <;> rfl)))),Z.rS (g:=1) (⟨(⟨(BX s.idx n).1.names,((BX s.idx n).1).AY⟩:Idx),s.parts,(([]++s.mem)++[(⟨(BX s.idx n).2.1,(⟨r.t,r.v⟩:Row)⟩:Smp)])⟩:Sto) [2,3,6,0] (by (rw [Hp ‹_› ‹_› ‹_› ‹_›] <;> rfl))⟩,Z.xt⟩
 refine GE.Nb 1 Z fun aT w Z=>.go 0<|GE.N0 Smp 1 Z fun aU w Z=>.go 3<|GE.An (hs:=by (simp only [List.nil_append,List.length_nil,List.length_append,List.length_cons] <;> exact (by have:=p0.2.2.2; omega))) 0 3 ([]:List Smp) s.mem [2,3,4,5,6] Z fun aV aW w Z=>GA.Do Z fun w Z=>RG.Ap (hs:=by (simp only [List.nil_append,List.length_nil,List.length_append,List.length_cons] <;> exact (by have:=p0.2.2.2; omega))) 0 1 ([]++s.mem) (⟨(BX s.idx n).2.1,(⟨r.t,r.v⟩:Row)⟩:Smp) [] Z fun aX aY w Z=>.r 1<|RG.Ss 1 Z fun w Z=>.d<|.s<|.s<|.g<|RG.Ln 1 Z<|.r 1<|RG.CL (E0 (⟨(⟨(BX s.idx n).1.names,((BX s.idx n).1).AY⟩:Idx),s.parts,(([]++s.mem)++[(⟨(BX s.idx n).2.1,(⟨r.t,r.v⟩:Row)⟩:Smp)])⟩:Sto) ((BX s.idx n).2.1) (Z.a 0) (Z.a 1) (Z.a 4) (Z.oa 0) p0.2.1 p0.2.2.1 (by have:=p0.2.2.2; simp; omega)) Z fun aZ ba w Z=>.r 1<|.bp ((((rowsOf (⟨(⟨(BX s.idx n).1.names,((BX s.idx n).1).AY⟩:Idx),s.parts,(([]++s.mem)++[(⟨(BX s.idx n).2.1,(⟨r.t,r.v⟩:Row)⟩:Smp)])⟩:Sto) ((BX s.idx n).2.1)).length):Int) > 24) (fun ae=>.d<|.ct<|.s<|.g<|RG.Ln 5 Z<|RG.Ss 3 Z fun w Z=>.r 1<|.d<|T.r2 func50 results50 (.B 3 Z) (.t (.bool false)) ⟨⟨_,(Ch rfl (AG (by rw [Ho ‹_› ‹_› ‹_› ‹_›]))),Z.rS (g:=1) s [7,6,5,4] (by rw [Ho ‹_› ‹_› ‹_› ‹_›])⟩,Z.xt⟩) fun ae=>.d<|.cf<|.sk<|.s<|.g<|RG.Ln 1 Z<|RG.Ss 3 Z fun w Z=>.r 1<|.d ?_
 have Z:=Z.sl 0
 exact T.r2 func50 results50 (.B 2 Z) (.t (.bool true)) ⟨⟨_,(Ch rfl (AG (by (rw [Hp ‹_› ‹_› ‹_› ‹_›] <;> rfl)))),Z.rS (g:=1) (⟨(⟨(BX s.idx n).1.names,((BX s.idx n).1).AY⟩:Idx),s.parts,(([]++s.mem)++[(⟨(BX s.idx n).2.1,(⟨r.t,r.v⟩:Row)⟩:Smp)])⟩:Sto) [2,3,6,0] (by (rw [Hp ‹_› ‹_› ‹_› ‹_›] <;> rfl))⟩,Z.xt⟩
end Go.Proofs.YtcginoabkicdiaaGreat
namespace Go.Proofs.YtcginoabkicdiaaGreat
def Ad (s:Sto):Sto:=⟨idxOf s.idx.names,s.parts,s.mem⟩
def BR (d:Dsk):Dsk:=⟨d.files.filter (fun f=>d.list.contains f.num),d.list,d.names,d.next⟩
def BE (d:Dsk) (s:Sto):List Stp :=
 if s.mem.length=0∨d.list.length≥6∨d.next≥999∨d.files.length≥20 then []
 else [⟨1,d.next,Ah s.mem,[],[]⟩,⟨2,0,⟨[],[]⟩,d.list++[d.next],s.idx.names⟩]
theorem E1 {d:Dsk}{s:Sto}(h:(s.mem.length:Int)=0∨(d.list.length:Int)≥6∨d.next≥999∨(d.files.length:Int)≥20):BE d s=[]:=by unfold BE; rw [if_pos AB]
theorem C9 {d:Dsk}{s:Sto}(h1:(s.mem.length:Int)≠0) (h2:¬ (d.list.length:Int)≥6) (h3:¬ d.next≥999) (h4:¬ (d.files.length:Int)≥20) :
 BE d s=[⟨1,d.next,Ah s.mem,[],[]⟩,⟨2,0,⟨[],[]⟩,d.list++[d.next],s.idx.names⟩]:=by unfold BE; rw [if_neg AB]
theorem Py {α:Type}{l:List (List α)}{i:Nat}{k:List (List α)}{q:List α}(h:k++l.drop i=l) (hd:l.drop i=q::l.drop (i+1)):(k++[[]++q])++l.drop (i+1)=l:=by
 rw [hd] at h
 simpa using h
theorem RU {l:List Prt}{i:Nat}{k:List Prt}{q:Prt}{a:List Int}{b:List (List Row)}(h:k++l.drop i=l) (hd:l.drop i=q::l.drop (i+1)) (ha:a=q.ids) (hb:b=q.blocks):(k++[⟨a,b⟩])++l.drop (i+1)=l:=by
 subst ha hb
 rw [hd] at h
 simpa using h
end Go.Proofs.YtcginoabkicdiaaGreat
namespace Go.Proofs.YtcginoabkicdiaaGreat
set_option maxRecDepth 100000
set_option maxHeartbeats 4000000
variable {w:World} {F:Nat→Prop} {a1 a2 a3 a4 a5 a6 a7:Option Addr} {n1 c1 n2 c2 n3 c3 n4 c4 n5 c5 n6 c6 n7 c7:Nat}
theorem Ka (d:Dsk) (h1:RepS w F a1 n1 c1 d.files) (h2:RepS w F a2 n2 c2 d.list) (h3:RepS w F a3 n3 c3 d.names) (p0:d.files.length≤1000):Calls Tryz.prog 118 [.agg #[.slice a1 n1 c1,.slice a2 n2 c2,.slice a3 n3 c3,.int .i64 d.next]].toArray w (Ag fun rv w'=>VS (fo F w.heap.size) w' (BR d:Dsk) rv∧Ext w w'):=by
 cases h1.len
 cases h2.len
 cases h3.len
 refine goT func118 ?_
 have Z:=(((St.i0 F w).p h1).p h2).p h3
 refine .s<|.g<|RG.Np Z fun ag w Z=>RG.Np Z fun ah w Z=>.d<|.s<|.g<|RG.N0 Fil 1 Z fun ai w Z=>.r 1<|.d<|.s<|.s<|.g<|.r 1<|.d<|.b 0<|T.Lp (([]:List Fil),ai,(0:Nat),(0:Nat)) (fun (files,r_files,c_files,i)=>([(1,vP ag),(2,vP ah),(3,vS r_files files.length c_files),(4,vI (i:Int))],[(0,.own 1 r_files 148 c_files files)],[],d.files.length - i,(i≤d.files.length)∧(files.length≤i)∧(files++(d.files.drop i).filter (fun f=>d.list.contains f.num)=d.files.filter (fun f=>d.list.contains f.num)))) [] Z ⟨AD,AD,AD⟩ ?_
 rintro ⟨files,r_files,c_files,i⟩ aB w Z ⟨ar,ax,ay⟩ aa
 refine .s<|.s<|.g<|.r 2<|RG.Lb 2 Z<|.r 1<|.bp ((i:Int)< (d.files.length:Int)) (fun ae=>?_) (fun ae=>?_)
 ·refine .d<|.ct<|.sk<|.s<|.b 1<|.s<|T.Gd 7 Z fun w Z=>GA.Ln 0 2 Z<|.r [1]<|GA.Lb 2 2 Z<|.r [3]<|gx d.files i fun ac ab=>?_
  have az:=AZ ab
  refine GA.Ix 4 2 ab Z<|.r [5]<|Z.el 2 ab fun aC aD aE aF Z=>GA.Lh 6 0 0 Z<|GA.Dn Z fun w Z=>RG.C0 (FT d ac.num (Z.a 5) (Z.a 4) (Z.a 3)) Z fun w Z=>?_
  cases aA:(d.list.contains ac.num)
  ·exact .d<|.cf<|.sk<|.ib 1<|.g<|.r 1<|.it ((i:Int)+1)<|.r 1<|.d<|aa (files,r_files,c_files,i+1) _ _ AA (Z.to 0 [] 3) ⟨AB,AB,(by grind)⟩ (by (simp only []; omega))
  exact .d<|.ct<|.g<|.r 2<|RG.Lb 2 Z<|.r 1<|RG.Ix 5 ab Z<|RG.Lg 0 0 Z<|RG.Nb 1 Z fun aG w Z=>RG.Ap 0 0 files ac [1,2] Z fun aj ak w Z=>.r 1<|.d<|.ib 1<|.g<|.r 1<|.it ((i:Int)+1)<|.r 1<|.d<|aa ((files++[ac]),aj,ak,i+1) _ _ AA (Z.to 0 [] 3) ⟨AB,(by (simp; omega)),(by grind)⟩ (by (simp only []; omega))
 refine .d<|.cf<|.x 0 rfl<|.s<|.g<|.r 2<|RG.Ss 2 Z fun w Z=>.d<|.s<|.g<|RG.Ln 2 Z<|RG.Ss 1 Z fun w Z=>.d ?_
 have Z:=Z.sl 0
 exact T.Rb 0 func118 results118 Z ⟨Z.rS (g:=1) (⟨files,d.list,d.names,d.next⟩:Dsk) [0,2,1] (by grind [BR,Aa]),Z.xt⟩
theorem Jr (d:Dsk) (s:Sto) (h1:RepS w F a1 n1 c1 d.files) (h2:RepS w F a2 n2 c2 d.list) (h3:RepS w F a3 n3 c3 d.names) (h4:RepS w F a4 n4 c4 s.idx.names) (h5:RepS w F a5 n5 c5 s.idx.AY) (h6:RepS w F a6 n6 c6 s.parts) (h7:RepS w F a7 n7 c7 s.mem) (p0:s.mem.length≤1000) (p1:∀ m∈s.mem,1≤m.id∧m.id≤6) (p2:d.list.length≤1000) (p3:s.idx.names.length≤1000) (p4:∀ n∈s.idx.names,n.length≤1000):Calls Tryz.prog 53 [.agg #[.slice a1 n1 c1,.slice a2 n2 c2,.slice a3 n3 c3,.int .i64 d.next],.agg #[.slice a4 n4 c4,.slice a5 n5 c5,.slice a6 n6 c6,.slice a7 n7 c7]].toArray w (Ag fun rv w'=>VL (ge w.heap.size) w' (BE d s:List Stp) rv∧Ext w w'):=by
 cases h1.len
 cases h2.len
 cases h3.len
 cases h4.len
 cases h5.len
 cases h6.len
 cases h7.len
 refine goT func53 ?_
 have Z:=(((((((St.i0 F w).p h1).p h2).p h3).p h4).p h5).p h6).p h7
 have ah:=h1.max
 refine .s<|.g<|RG.Np Z fun af w Z=>RG.Np Z fun ag w Z=>.r 1<|.d<|.s<|.s<|.g<|.r 1<|RG.Lb 0 Z<|.r 1<|.eq (s.mem.length:Int) 0 (fun aa=>.r 17<|.d<|.ct<|.s<|.g<|RG.N0 Stp 0 Z fun ar w Z=>.r 1<|.d<|T.Rt func53 results53 ⟨Z.rM 0 ([]:List Stp) (by rw [E1 AB]),Z.xt⟩) fun aa=>.r 2<|RG.Lb 1 Z<|.r 1<|.bp ((d.list.length:Int)≥6) (fun ab=>.r 12<|.d<|.ct<|.s<|.g<|RG.N0 Stp 0 Z fun ax w Z=>.r 1<|.d<|T.Rt func53 results53 ⟨Z.rM 0 ([]:List Stp) (by rw [E1 AB]),Z.xt⟩) fun ab=>.r 3<|RG.Lb 1 Z<|.bp (d.next≥999) (fun ac=>.r 7<|.d<|.ct<|.s<|.g<|RG.N0 Stp 0 Z fun ay w Z=>.r 1<|.d<|T.Rt func53 results53 ⟨Z.rM 0 ([]:List Stp) (by rw [E1 AB]),Z.xt⟩) fun ac=>.r 3<|RG.Lb 1 Z<|.r 1<|.bp ((d.files.length:Int)≥20) (fun ae=>.r 1<|.d<|.ct<|.s<|.g<|RG.N0 Stp 0 Z fun az w Z=>.r 1<|.d<|T.Rt func53 results53 ⟨Z.rM 0 ([]:List Stp) (by rw [E1 AB]),Z.xt⟩) fun ae=>.r 1<|.d<|.cf<|.sk<|.s<|T.GS 7 [ag,af] Z fun _ w Z=>.r [1]<|GA.Lb (q:=1) 2 1 Z<|.r [4]<|GA.Lb (q:=1) 5 1 Z<|.tw 0 6 ?_ ?_
 ·refine GE.N0 Int 0 Z fun aA w Z=>.tw 3 6 ?_ ?_
  ·exact GE.An (hf:=.inr Au) 0 5 ([]:List Int) d.list [1,2] Z fun aB aC w Z=>.go 6<|GE.Nb 1 Z fun aD w Z=>GA.Do Z fun w Z=>RG.Ap 0 0 ([]++d.list) d.next [] Z fun aE aF w Z=>.r 1<|.d<|.s<|T.Gd 11 Z fun w Z=>.r [0]<|GA.Lb 1 2 Z<|GA.Ln 2 1 Z<|.r [5,6,7]<|GA.Lb 8 1 Z<|.go 3<|GE.CS (fun w Z=>ES s (Z.a 3) (Z.a 2) (Z.a 1) (Z.a 0) p0 p1) Z fun aG aH aI aJ w Z=>.r [4]<|.go 9<|GE.CO 0 (fun w Z=>BQ s.idx.names (Z.a 5) AB (by intro n hn; have:=p4 n hn; omega)) Z fun aK aL w Z=>.r [10]<|GA.Dn Z fun w Z=>RG.Nl 0 ([(⟨1,d.next,(⟨(Ah s.mem).ids,(Ah s.mem).blocks⟩:Prt),([]:List Int),([]:List (List Tag))⟩:Stp),(⟨2,0,(⟨([]:List Int),([]:List (List Row))⟩:Prt),(([]++d.list)++[d.next]),s.idx.names⟩:Stp)]:List Stp) [[6,7,5,4],[1,0,3,2]] ((((((Z.nl Int).nl (List Tag)).sl 1).sl 0).nl Int).nl (List Row)) fun aM w Z=>.r 1<|.d<|T.Rt func53 results53 ⟨Z.rM 0 ([(⟨1,d.next,(⟨(Ah s.mem).ids,(Ah s.mem).blocks⟩:Prt),([]:List Int),([]:List (List Tag))⟩:Stp),(⟨2,0,(⟨([]:List Int),([]:List (List Row))⟩:Prt),(([]++d.list)++[d.next]),s.idx.names⟩:Stp)]:List Stp) (by (rw [C9 ‹_› ‹_› ‹_› ‹_›] <;> simp)),Z.xt⟩
  exact GE.Nb 1 Z fun aN w Z=>.go 3<|GE.An (hf:=.inr Au) 1 5 ([]:List Int) d.list [2,3] Z fun aO aP w Z=>GA.Do Z fun w Z=>RG.Ap 0 0 ([]++d.list) d.next [] Z fun aQ aR w Z=>.r 1<|.d<|.s<|T.Gd 11 Z fun w Z=>.r [0]<|GA.Lb 1 2 Z<|GA.Ln 2 1 Z<|.r [5,6,7]<|GA.Lb 8 1 Z<|.go 3<|GE.CS (fun w Z=>ES s (Z.a 3) (Z.a 2) (Z.a 1) (Z.a 0) p0 p1) Z fun aS aT aU aV w Z=>.r [4]<|.go 9<|GE.CO 0 (fun w Z=>BQ s.idx.names (Z.a 5) AB (by intro n hn; have:=p4 n hn; omega)) Z fun aW aX w Z=>.r [10]<|GA.Dn Z fun w Z=>RG.Nl 0 ([(⟨1,d.next,(⟨(Ah s.mem).ids,(Ah s.mem).blocks⟩:Prt),([]:List Int),([]:List (List Tag))⟩:Stp),(⟨2,0,(⟨([]:List Int),([]:List (List Row))⟩:Prt),(([]++d.list)++[d.next]),s.idx.names⟩:Stp)]:List Stp) [[6,7,5,4],[1,0,3,2]] ((((((Z.nl Int).nl (List Tag)).sl 1).sl 0).nl Int).nl (List Row)) fun aY w Z=>.r 1<|.d<|T.Rt func53 results53 ⟨Z.rM 0 ([(⟨1,d.next,(⟨(Ah s.mem).ids,(Ah s.mem).blocks⟩:Prt),([]:List Int),([]:List (List Tag))⟩:Stp),(⟨2,0,(⟨([]:List Int),([]:List (List Row))⟩:Prt),(([]++d.list)++[d.next]),s.idx.names⟩:Stp)]:List Stp) (by (rw [C9 ‹_› ‹_› ‹_› ‹_›] <;> simp)),Z.xt⟩
 exact GE.Nb 1 Z fun aZ w Z=>.go 0<|GE.N0 Int 0 Z fun ba w Z=>.go 3<|GE.An (hf:=.inr Au) 0 5 ([]:List Int) d.list [2,3] Z fun bg bh w Z=>GA.Do Z fun w Z=>RG.Ap 0 1 ([]++d.list) d.next [] Z fun bi bj w Z=>.r 1<|.d<|.s<|T.Gd 11 Z fun w Z=>.r [0]<|GA.Lb 1 2 Z<|GA.Ln 2 1 Z<|.r [5,6,7]<|GA.Lb 8 1 Z<|.go 3<|GE.CS (fun w Z=>ES s (Z.a 3) (Z.a 2) (Z.a 1) (Z.a 0) p0 p1) Z fun bk bm bn bo w Z=>.r [4]<|.go 9<|GE.CO 0 (fun w Z=>BQ s.idx.names (Z.a 5) AB (by intro n hn; have:=p4 n hn; omega)) Z fun bq br w Z=>.r [10]<|GA.Dn Z fun w Z=>RG.Nl 0 ([(⟨1,d.next,(⟨(Ah s.mem).ids,(Ah s.mem).blocks⟩:Prt),([]:List Int),([]:List (List Tag))⟩:Stp),(⟨2,0,(⟨([]:List Int),([]:List (List Row))⟩:Prt),(([]++d.list)++[d.next]),s.idx.names⟩:Stp)]:List Stp) [[6,7,5,4],[1,0,3,2]] ((((((Z.nl Int).nl (List Tag)).sl 1).sl 0).nl Int).nl (List Row)) fun bu w Z=>.r 1<|.d<|T.Rt func53 results53 ⟨Z.rM 0 ([(⟨1,d.next,(⟨(Ah s.mem).ids,(Ah s.mem).blocks⟩:Prt),([]:List Int),([]:List (List Tag))⟩:Stp),(⟨2,0,(⟨([]:List Int),([]:List (List Row))⟩:Prt),(([]++d.list)++[d.next]),s.idx.names⟩:Stp)]:List Stp) (by (rw [C9 ‹_› ‹_› ‹_› ‹_›] <;> simp)),Z.xt⟩
theorem Gq (s:Sto) (h1:RepS w F a1 n1 c1 s.idx.names) (h2:RepS w F a2 n2 c2 s.idx.AY) (h3:RepS w F a3 n3 c3 s.parts) (h4:RepS w F a4 n4 c4 s.mem) (p0:Nq s):Calls Tryz.prog 57 [.agg #[.slice a1 n1 c1,.slice a2 n2 c2,.slice a3 n3 c3,.slice a4 n4 c4]].toArray w (Ag fun rv w'=>(∃ (a0:Option Addr) (n0 c0:Nat) (a1:Option Addr) (n1 c1:Nat) (a2:Option Addr) (n2 c2:Nat) (r3 n3 c3:Nat),rv=.agg #[.slice a0 n0 c0,.slice a1 n1 c1,.slice a2 n2 c2,.slice (some ⟨r3,0,none⟩) n3 c3]∧RepS w' (nin (ge w.heap.size) [r3]) a0 n0 c0 ((((Ad s)).idx).names)∧RepS w' (nin (ge w.heap.size) [r3]) a1 n1 c1 ((((Ad s)).idx).AY)∧RepS w' (nin (ge w.heap.size) [r3]) a2 n2 c2 (((Ad s)).parts)∧Own w' r3 158 (nin (ge w.heap.size) [r3]) n3 c3 (((Ad s)).mem)∧w.heap.size≤r3)∧Ext w w'):=by
 cases h1.len
 cases h2.len
 cases h3.len
 cases h4.len
 refine goT func57 ?_
 have Z:=((((St.i0 F w).p h1).p h2).p h3).p h4
 have bh:=h3.max
 have bi:=h4.max
 refine .s<|.g<|RG.Np Z fun az w Z=>RG.Np Z fun aA w Z=>.d<|.s<|.g<|RG.N0 Prt 0 Z fun aG w Z=>.r 1<|.d<|.s<|.s<|.g<|.r 1<|.d<|.b 0<|T.Lp (([]:List Prt),aG,(0:Nat),(0:Nat)) (fun (k,r_k,c_k,k1)=>([(1,vP az),(2,vP aA),(3,vS r_k k.length c_k),(4,vI (k1:Int))],[(0,.own 0 r_k 146 c_k k)],[],s.parts.length - k1,(k1≤s.parts.length)∧(k.length≤k1)∧(k++s.parts.drop k1=s.parts))) [] Z ⟨AD,AD,AD⟩ ?_
 rintro ⟨k,r_k,c_k,k1⟩ bP w Z ⟨bj,bk,bm⟩ ao
 have bn:=Z.mo 0 k
 refine .s<|.s<|.g<|.r 2<|RG.Lb 2 Z<|.r 1<|.bp ((k1:Int)< (s.parts.length:Int)) (fun aC=>?_) (fun aC=>?_)
 ·refine .d<|.ct<|.sk<|.s<|.b 1<|.s<|.g<|RG.N0 Int 0 Z fun bQ w Z=>.r 1<|RG.Lb 3 Z<|.r 1<|gx s.parts k1 fun ab ae=>?_
  have bo:=AZ ae; have aE:=AV ae
  refine RG.Ix 1 ae Z<|.r 1<|Z.el 1 ae fun bR bS bT bU Z=>?_
  have br:=Z.mf 2 ab.blocks
  refine RG.Lh 0 0 Z<|RG.An (hs:=by (simp only [List.nil_append,List.length_nil,List.length_append,List.length_cons] <;> exact (by have q1:=p0.2.1; (have q3:=p0.2.2.1 _ ‹_›; have q4:=q3.1; have q5:=q3.2.1; omega)))) (hf:=.inr Au) 0 1 ([]:List Int) ab.ids Z fun aH aI w Z=>?_
  refine RG.N0 (List Row) 0 Z fun aJ w Z=>.r 1<|RG.Np Z fun aB w Z=>RG.Ss 0 Z fun w Z=>.d<|.s<|.s<|.g<|.r 1<|.d<|.b 2<|T.Lp ((0:Nat),(([]++ab.ids):List Int),aH,aI,([]:List (List Row)),aJ,(0:Nat)) (fun (k2,ag,r_k_0,c_k_0,ac,r_k_1,c_k_1)=>([(1,vP az),(2,vP aA),(3,vS r_k k.length c_k),(4,vI (k1:Int)),(5,vP aB),(6,vI (k2:Int))],[(0,.box aB 146 [vS r_k_0 ag.length c_k_0,vS r_k_1 ac.length c_k_1]),(1,.own 0 r_k_1 159 c_k_1 ac),(2,.own 0 r_k_0 3 c_k_0 ag)],[],ab.blocks.length - k2,(k2≤ab.blocks.length)∧(ag=ab.ids)∧(ac.length≤k2)∧(ac++ab.blocks.drop k2=ab.blocks))) [] Z ⟨AD,AD,AD,AD⟩ ?_
  rintro ⟨k2,ag,r_k_0,c_k_0,ac,r_k_1,c_k_1⟩ bV w Z ⟨bv,bw,bz,bA⟩ ay
  have bD:=Z.mo 1 ac
  refine .s<|.s<|.g<|.r 2<|RG.Lb 5 Z<|.r 1<|RG.Ix 4 ae Z<|.r 1<|RG.Lh 0 1 Z<|.r 1<|.bp ((k2:Int)< (ab.blocks.length:Int)) (fun aD=>?_) (fun aD=>?_)
  ·refine .d<|.ct<|.sk<|.s<|.b 3<|T.GS 14 [aB,aA,az] Z fun _ w Z=>.r [0]<|GA.Lb 1 0 Z<|.r [3]<|GA.Lb (q:=2) 4 5 Z<|.r [5]<|GA.Ix 6 4 ae Z<|.r [7]<|GA.Lh 8 0 1 Z<|.r [9]<|gx ab.blocks k2 fun ak aj=>?_
   have bE:=AZ aj; have aF:=AV aj
   refine GA.Ix 10 2 aj Z<|Z.el 2 aj fun bW bX Z=>?_
   have bF:=Z.mf 1 ak
   refine GA.Lh 11 0 0 Z<|.go 2<|GE.N0 Row 0 Z fun bY w Z=>.go 12<|GE.An (hs:=by (simp only [List.nil_append,List.length_nil,List.length_append,List.length_cons] <;> exact (by have q1:=p0.2.1; (have q3:=p0.2.2.1 _ ‹_›; (have q6:=q3.2.2 _ ‹_›; omega))))) (hf:=.inr Bl) 0 1 ([]:List Row) ak [1,5,6] Z fun bZ b6 w Z=>?_
   refine .go 13<|GE.Nb 1 Z fun b7 w Z=>GA.Do Z fun w Z=>RG.Ap (hs:=by exact (by have q1:=p0.2.1; (have q3:=p0.2.2.1 _ ‹_›; have q5:=q3.2.1; omega))) 1 0 ac ([]++ak) [0] (Z.sl 1) fun aK aL w Z=>?_
   exact .r 1<|RG.Ss 0 Z fun w Z=>.d<|.ib 3<|.g<|.r 1<|.it ((k2:Int)+1)<|.r 1<|.d<|ay (k2+1,ag,r_k_0,c_k_0,(ac++[([]++ak)]),aK,aL) _ _ AA (Z.to 0 [] 3) ⟨AB,‹_›,(by simp; omega),(by exact Py ‹_› ‹_›)⟩ (by (simp only []; omega))
  refine .d<|.cf<|.x 2 rfl<|.g<|.r 1<|RG.Ln 0 Z<|RG.Nb 1 Z fun b8 w Z=>RG.Ap (hs:=by exact (by have q1:=p0.2.1; omega)) 1 0 k (⟨ag,ac⟩:Prt) [1,0] ((Z.sl 3).sl 2) fun aM aN w Z=>?_
  exact .r 1<|.d<|.ib 1<|.g<|.r 1<|.it ((k1:Int)+1)<|.r 1<|.d<|ao ((k++[(⟨ag,ac⟩:Prt)]),aM,aN,k1+1) _ _ AA (Z.to 1 [] 5) ⟨AB,(by simp; omega),(by exact RU ‹_› ‹_› ‹_› (by have q1:=Aa (xs:=ab.blocks) (k:=k2) AB; have q2:ac++ab.blocks.drop k2=ab.blocks:=‹_›; rw [q1,List.append_nil] at q2; exact q2))⟩ (by (simp only []; omega))
 refine .d<|.cf<|.x 0 rfl<|.s<|T.GS 9 [aA,az] Z fun _ w Z=>.r [0,1]<|GA.Lb (q:=1) 2 2 Z<|.r [4,6]<|GA.Lb (q:=1) 7 2 Z<|.tw 3 5 ?_ ?_
 ·refine GE.CS (fun w Z=>Em s.idx.names (Z.a 3) p0.1.1 p0.1.2) Z fun aO aP aQ aR w Z=>?_
  refine .go 5<|GE.N0 Smp 0 Z fun b9 w Z=>.go 8<|GE.An (hs:=by (simp only [List.nil_append,List.length_nil,List.length_append,List.length_cons] <;> exact (by have q1:=p0.2.1; have q2:=p0.2.2.2; omega))) (hf:=.inr Ge) 0 2 ([]:List Smp) s.mem [2,3] Z fun aS aT w Z=>?_
  refine GA.Do Z fun w Z=>.r 1<|RG.Ss 2 Z fun w Z=>.d ?_
  have Z:=Z.sl 1
  exact T.Rb 1 func57 results57 Z ⟨⟨aO,((idxOf s.idx.names).names.length),aP,aQ,((idxOf s.idx.names).AY.length),aR,(some ⟨r_k,0,none⟩),k.length,c_k,aS,(([]++s.mem).length),aT,AA,Z.qr [0] 1 ((idxOf s.idx.names).names) AF,Z.qr [0] 2 ((idxOf s.idx.names).AY) AF,Z.qr [0] 0 k (by have q1:=Aa (xs:=s.parts) (k:=k1) AB; have q2:k++s.parts.drop k1=s.parts:=‹_›; rw [q1,List.append_nil] at q2; exact q2),Z.qo [0] 0 ([]++s.mem) AF,Z.qb 0⟩,Z.xt⟩
 refine GE.N0 Smp 0 Z fun cd w Z=>.go 3<|GE.CS (fun w Z=>Em s.idx.names (Z.a 3) p0.1.1 p0.1.2) Z fun aU aV aW aX w Z=>?_
 refine .go 8<|GE.An (hs:=by (simp only [List.nil_append,List.length_nil,List.length_append,List.length_cons] <;> exact (by have q1:=p0.2.1; have q2:=p0.2.2.2; omega))) (hf:=.inr Ge) 0 2 ([]:List Smp) s.mem [2,3] Z fun aY aZ w Z=>?_
 refine GA.Do Z fun w Z=>.r 1<|RG.Ss 2 Z fun w Z=>.d ?_
 have Z:=Z.sl 1
 exact T.Rb 1 func57 results57 Z ⟨⟨aU,((idxOf s.idx.names).names.length),aV,aW,((idxOf s.idx.names).AY.length),aX,(some ⟨r_k,0,none⟩),k.length,c_k,aY,(([]++s.mem).length),aZ,AA,Z.qr [0] 1 ((idxOf s.idx.names).names) AF,Z.qr [0] 2 ((idxOf s.idx.names).AY) AF,Z.qr [0] 0 k (by have q1:=Aa (xs:=s.parts) (k:=k1) AB; have q2:k++s.parts.drop k1=s.parts:=‹_›; rw [q1,List.append_nil] at q2; exact q2),Z.qo [0] 0 ([]++s.mem) AF,Z.qb 0⟩,Z.xt⟩
end Go.Proofs.YtcginoabkicdiaaGreat
namespace Go.Proofs.YtcginoabkicdiaaGreat
def As (d:Dsk) (n:Int):Prt:=(d.files.getD (Ak d n).toNat default).part
def Aj (d:Dsk):Sto:=⟨idxOf d.names,d.list.map (As d),[]⟩
def Kb (f:Fil):Fil:=⟨f.num,BA f.part ⟨[],[]⟩⟩
def BK (d:Dsk):Dsk:=⟨d.files.map Kb,d.list,d.names,d.next⟩
def D3 (d:Dsk) (n:Int):List Fil:=if Ak d n≥0∧d.list.contains n=false then d.files.take (Ak d n).toNat++d.files.drop ((Ak d n).toNat+1) else d.files
def doD (d:Dsk) (x:Stp):Dsk :=
 if x.kind=1 then ⟨d.files++[⟨x.num,x.part⟩],d.list,d.names,x.num+1⟩
 else if x.kind=2 then ⟨d.files,x.list,x.names,d.next⟩
 else if x.kind=3 then ⟨D3 d x.num,d.list,d.names,d.next⟩
 else d
def toD (d:Dsk) (steps:List Stp) (cut:Int):Dsk:=(steps.take cut.toNat).foldl doD d
def BF (d:Dsk) (at_:Int):List Stp :=
 if !(inR at_ 0 ((d.list.length:Int) - 2)) || decide (d.next≥999) || decide (d.files.length≥20) then []
 else
  let a:=d.list.getD at_.toNat 0
  let b:=d.list.getD (at_.toNat+1) 0
  [⟨1,d.next,BA (As d a) (As d b),[],[]⟩,⟨2,0,⟨[],[]⟩,d.list.take at_.toNat++[d.next]++d.list.drop (at_.toNat+2),d.names⟩,⟨3,a,⟨[],[]⟩,[],[]⟩,⟨3,b,⟨[],[]⟩,[],[]⟩]
def BV (w:Wld):Wld:=⟨Ad (Aj (BK (BR w.disk))),BK (BR w.disk)⟩
def Bn (w:Wld) (steps:List Stp) (cut:Int) (s:Sto):Wld :=
 if steps.length=0∨cut< 0 then w
 else if cut< steps.length then BV ⟨w.store,toD w.disk steps cut⟩ else ⟨s,toD w.disk steps cut⟩
def doW (w:Wld) (e:Evt):Wld :=
 if e.kind=1 then (if At e.name then ⟨(Ca w.store e.name e.row).1,w.disk⟩ else w)
 else if e.kind=2 then Bn w (BE w.disk w.store) e.cut (BC w.store).1
 else if e.kind=3 then Bn w (BF w.disk e.at_) e.cut (BG w.store e.at_).1
 else if e.kind=4 then BV w
 else w
def Cq (w:Wld):Wld:=⟨Ad w.store,BK w.disk⟩
theorem KH (n:Int):∀ (fs:List Fil) (i:Nat),C3 n i fs< (i:Int)+fs.length∧(C3 n i fs = -1∨(i:Int)≤C3 n i fs):=by
 intro fs
 induction fs with
 | nil=>intro i; simp [C3]; omega
 | cons f fs ih =>
   intro i
   have h:=ih (i+1)
   simp only [C3,List.length_cons]
   split <;> omega
theorem CU (d:Dsk) (n:Int):Ak d n< d.files.length:=by have:=KH n d.files 0; unfold Ak; omega
theorem IA (d:Dsk) (n:Int):Ak d n ≥ -1:=by have:=KH n d.files 0; unfold Ak; omega
theorem Iw {d:Dsk}{n:Int}(h:∀ n∈d.list,0≤Ak d n) (hm:n∈d.list):(Ak d n).toNat< d.files.length:=by
 have h1:=h n hm
 have h2:=CU d n
 omega
theorem Iy {d:Dsk}{n:Int}(h:∀ n∈d.list,0≤Ak d n) (hm:n∈d.list):Ak d n=((Ak d n).toNat:Int):=by
 have h1:=h n hm
 omega
theorem Et {d:Dsk}{n:Int}{f:Fil}(h:d.files[(Ak d n).toNat]? = some f):As d n=f.part:=by
 unfold As; rw [List.getD_eq_getElem?_getD,h]; rfl
theorem mapStep {α β:Type}{l:List α}{f:α→β}{i:Nat}{k:List β}{q:α}{y:β}(h:k++(l.drop i).map f=l.map f) (hd:l.drop i=q::l.drop (i+1)) (hy:y=f q):(k++[y])++(l.drop (i+1)).map f=l.map f:=by
 subst hy
 rw [hd] at h
 simpa using h
theorem RV {α β:Type}{l:List α}{f:α→β}{i:Nat}{k:List β}(h:k++(l.drop i).map f=l.map f) (hi:l.length≤i):k=l.map f:=by
 rw [Aa hi] at h
 simpa using h
theorem toStep {l:List Stp}{c:Nat}{i:Nat}{d:Dsk}{q:Stp}{Y:Dsk}(h:((l.take c).drop i).foldl doD d=Y) (hd:l.drop i=q::l.drop (i+1)) (hc:i< c):((l.take c).drop (i+1)).foldl doD (doD d q)=Y:=by
 have h1:(l.take c).drop i=q::(l.take c).drop (i+1):=by
  rw [List.drop_take,List.drop_take,hd,show c - i=(c - (i+1))+1 by omega]
  rfl
 rw [h1] at h
 exact h
theorem toEnd {l:List Stp}{c:Nat}{i:Nat}{d:Dsk}{Y:Dsk}(h:((l.take c).drop i).foldl doD d=Y) (hc:l.length≤i∨c≤i):d=Y:=by
 rw [List.drop_of_length_le (by rw [List.length_take]; omega)] at h
 exact h
theorem E2 {d:Dsk}{x:Stp}(h:x.kind=1):doD d x=⟨d.files++[⟨x.num,x.part⟩],d.list,d.names,x.num+1⟩:=by unfold doD; rw [if_pos h]
theorem Gr {d:Dsk}{x:Stp}(h:x.kind=2):doD d x=⟨d.files,x.list,x.names,d.next⟩:=by unfold doD; rw [if_neg AB,if_pos h]
theorem FB {d:Dsk}{x:Stp}(h:x.kind=3):doD d x=⟨D3 d x.num,d.list,d.names,d.next⟩:=by unfold doD; rw [if_neg AB,if_neg AB,if_pos h]
theorem Uu {d:Dsk}{x:Stp}(h:x.kind≠1) (h2:x.kind≠2) (h3:x.kind≠3):doD d x=d:=by unfold doD; rw [if_neg h,if_neg h2,if_neg h3]
theorem RW {d:Dsk}{n:Int}(h:Ak d n≥0) (h2:d.list.contains n=false):D3 d n=d.files.take (Ak d n).toNat++d.files.drop ((Ak d n).toNat+1):=by unfold D3; rw [if_pos ⟨h,h2⟩]
theorem My {d:Dsk}{n:Int}(h:¬ Ak d n≥0∨d.list.contains n=true):D3 d n=d.files:=by unfold D3; rw [if_neg]; rintro ⟨h1,h2⟩; rcases h with h | h; exact h h1; rw [h2] at h; cases h
theorem IB {d:Dsk}{a:Int}(h:inR a 0 ((d.list.length:Int) - 2)=false∨d.next≥999∨(d.files.length:Int)≥20):BF d a=[]:=by
 unfold BF
 rw [if_pos]
 rcases h with h | h | h
 ·simp [h]
 ·simp [h]
 ·have h:d.files.length≥20:=by omega
  simp [h]
theorem EO {d:Dsk}{at_ a b:Int}{f g:Fil}(h:inR at_ 0 ((d.list.length:Int) - 2)=true) (h2:¬ d.next≥999) (h3:¬ (d.files.length:Int)≥20) (ha:d.list[at_.toNat]? = some a) (hb:d.list[(at_+1).toNat]? = some b)
 (hf:d.files[(Ak d a).toNat]? = some f) (hg:d.files[(Ak d b).toNat]? = some g) :
 BF d at_=[⟨1,d.next,BA f.part g.part,[],[]⟩,⟨2,0,⟨[],[]⟩,(([]++(d.list.take at_.toNat).drop 0)++[d.next])++(d.list.take d.list.length).drop (at_+2).toNat,d.names⟩,⟨3,a,⟨[],[]⟩,[],[]⟩,⟨3,b,⟨[],[]⟩,[],[]⟩]:=by
 have h0:=Bu h
 have e1:(at_+1).toNat=at_.toNat+1:=by omega
 have e2:(at_+2).toNat=at_.toNat+2:=by omega
 rw [e1] at hb
 have h4:¬ d.files.length≥20:=by omega
 unfold BF
 rw [if_neg (by simp [h]; omega),← Et hf,← Et hg,e2,List.getD_eq_getElem?_getD,List.getD_eq_getElem?_getD,ha,hb]
 simp
theorem Pz {d:Dsk}{x:Stp}(h:x.list.length≤1000) (hd:d.list.length≤1000):(doD d x).files.length≤d.files.length+1∧(doD d x).list.length≤1000:=by
 unfold doD D3
 split
 ·simp; exact hd
 ·split
  ·simp; exact h
  ·split
   ·simp only
    split <;> simp <;> omega
   ·omega
def Ja (x:Stp):Prop:=x.list.length≤1000∧x.names.length≤1000∧(∀ n∈x.names,n.length≤1000) ∧ -9000000≤x.num∧x.num≤9000000
end Go.Proofs.YtcginoabkicdiaaGreat
namespace Go.Proofs.YtcginoabkicdiaaGreat
set_option maxRecDepth 100000
set_option maxHeartbeats 4000000
variable {w:World} {F:Nat→Prop} {a1 a2 a3 a4 a5 a6 a7:Option Addr} {n1 c1 n2 c2 n3 c3 n4 c4 n5 c5 n6 c6 n7 c7:Nat}
theorem Kc (d:Dsk) (h1:RepS w F a1 n1 c1 d.files) (h2:RepS w F a2 n2 c2 d.list) (h3:RepS w F a3 n3 c3 d.names) (p0:d.names.length≤1000) (p1:∀ n∈d.names,Gi n) (p2:d.list.length≤1000) (p3:∀ n∈d.list,0≤Ak d n):Calls Tryz.prog 119 [.agg #[.slice a1 n1 c1,.slice a2 n2 c2,.slice a3 n3 c3,.int .i64 d.next]].toArray w (Ag fun rv w'=>VS (fo F w.heap.size) w' (Aj d:Sto) rv∧Ext w w'):=by
 cases h1.len
 cases h2.len
 cases h3.len
 refine goT func119 ?_
 have Z:=(((St.i0 F w).p h1).p h2).p h3
 refine .s<|.g<|RG.Np Z fun ak w Z=>RG.Np Z fun am w Z=>.d<|.s<|.g<|.r 1<|RG.Lb 1 Z<|RG.CS (Em d.names (Z.a 0) p0 p1) Z fun ay az aA aB w Z=>RG.N0 Prt 1 Z fun aC w Z=>RG.N0 Smp 1 Z fun aD w Z=>.r 1<|RG.Np Z fun ai w Z=>RG.Ss 0 Z fun w Z=>.d<|.s<|.s<|.g<|.r 1<|.d<|.b 0<|T.Lp ((0:Nat),((idxOf d.names).names:List (List Tag)),ay,az,((idxOf d.names).AY:List Pst),aA,aB,([]:List Prt),aC,(0:Nat),([]:List Smp),aD,(0:Nat)) (fun (i,ae,a_s_0,c_s_0,af,a_s_1,c_s_1,aa,r_s_2,c_s_2,ag,r_s_3,c_s_3)=>([(1,vP ak),(2,vP am),(3,vP ai),(4,vI (i:Int))],[(0,.box ai 31 [.slice a_s_0 ae.length c_s_0,.slice a_s_1 af.length c_s_1,vS r_s_2 aa.length c_s_2,vS r_s_3 ag.length c_s_3]),(1,.own 1 r_s_3 158 c_s_3 ag),(2,.own 1 r_s_2 146 c_s_2 aa)],[⟨0,none,.rep a_s_0 c_s_0 ae⟩,⟨0,none,.rep a_s_1 c_s_1 af⟩],d.list.length - i,(i≤d.list.length)∧(ae=d.names)∧(af=DG d.names)∧(ag=[])∧(aa.length≤i)∧(aa++(d.list.drop i).map (As d)=d.list.map (As d)))) [0,1] Z ⟨AD,AF,AF,AF,AD,AF⟩ ?_
 rintro ⟨i,ae,a_s_0,c_s_0,af,a_s_1,c_s_1,aa,r_s_2,c_s_2,ag,r_s_3,c_s_3⟩ aR w Z ⟨aJ,aK,aL,aM,aN,aO⟩ ah
 refine .s<|.s<|.g<|.r 2<|RG.Lb 4 Z<|.r 1<|.bp ((i:Int)< (d.list.length:Int)) (fun ao=>?_) (fun ao=>?_)
 ·refine .d<|.ct<|.sk<|.s<|.b 1<|T.GS 15 [ai,am,ak] Z fun _ w Z=>.r [0]<|GA.Lb 1 0 Z<|.r [2]<|GA.Lb (q:=2) 3 4 Z<|GA.Ln (q:=2) 4 4 Z<|.r [5]<|GA.Lb (q:=2) 6 4 Z<|.r [7]<|gx (h:=AB) d.list i fun aj ab=>?_
  have aP:=AZ ab; have ar:=AV ab
  refine GA.Ix 8 5 ab Z<|Z.el 5 ab fun Z=>GA.Lh 9 0 0 Z<|GA.D0 10 Z (fun w Y=>El d aj (Y.a 7) (Y.a 6) (Y.a 5))<|gx (h:=(by exact Iw p3 ‹_›)) d.files ((Ak d aj).toNat) fun aq ac=>?_
  exact GA.Jx (hz:=(by exact Iy p3 ‹_›)) 11 7 (Ak d aj) ac Z<|.r [12]<|Z.el 7 ac fun aS aT aU aV Z=>GA.Lg 13 0 1 Z<|.go 14<|GE.Nb 1 Z fun aW w Z=>GA.Do Z fun w Z=>RG.Ap 2 0 aa aq.part [1,2] Z fun aE aF w Z=>.r 1<|RG.Ss 0 Z fun w Z=>.d<|.ib 1<|.g<|.r 1<|.it ((i:Int)+1)<|.r 1<|.d<|ah (i+1,ae,a_s_0,c_s_0,af,a_s_1,c_s_1,(aa++[aq.part]),aE,aF,ag,r_s_3,c_s_3) _ _ AA (Z.to 0 [4,5] 6) ⟨AB,‹_›,‹_›,‹_›,(by simp; omega),(by exact mapStep ‹_› ‹_› (Et ‹_›).symm)⟩ (by (simp only []; omega))
 refine .d<|.cf<|.x 0 rfl<|.s<|.g<|RG.Ln 0 Z<|RG.Ss 3 Z fun w Z=>.d ?_
 have Z:=(Z.sl 2).sl 1
 exact T.Rb 1 func119 results119 Z ⟨Z.rS (g:=1) (⟨(⟨ae,af⟩:Idx),aa,ag⟩:Sto) [2,3,1,0] (by have q1:aa=_:=RV ‹_› AB; subst_vars; rfl),Z.xt⟩
theorem Gs (d:Dsk) (h1:RepS w F a1 n1 c1 d.files) (h2:RepS w F a2 n2 c2 d.list) (h3:RepS w F a3 n3 c3 d.names) (p0:d.names.length≤1000) (p1:∀ n∈d.names,n.length≤1000) (p2:d.list.length≤1000) (p3:d.files.length≤1000) (p4:∀ f∈d.files,CK f.part):Calls Tryz.prog 58 [.agg #[.slice a1 n1 c1,.slice a2 n2 c2,.slice a3 n3 c3,.int .i64 d.next]].toArray w (Ag fun rv w'=>(∃ (r0 n0 c0:Nat) (r1 n1 c1:Nat) (r2 n2 c2:Nat),rv=.agg #[.slice (some ⟨r0,0,none⟩) n0 c0,.slice (some ⟨r1,0,none⟩) n1 c1,.slice (some ⟨r2,0,none⟩) n2 c2,.int .i64 (((BK d)).next)]∧Own w' r0 148 (nin (ge w.heap.size) [r0,r1,r2]) n0 c0 (((BK d)).files)∧w.heap.size≤r0∧Own w' r1 3 (nin (ge w.heap.size) [r0,r1,r2]) n1 c1 (((BK d)).list)∧w.heap.size≤r1∧Nb r1 r0∧Own w' r2 69 (nin (ge w.heap.size) [r0,r1,r2]) n2 c2 (((BK d)).names)∧w.heap.size≤r2∧Nb r2 r0∧Nb r2 r1)∧Ext w w'):=by
 cases h1.len
 cases h2.len
 cases h3.len
 refine goT func58 ?_
 have Z:=(((St.i0 F w).p h1).p h2).p h3
 refine .s<|.g<|RG.Np Z fun ae w Z=>RG.Np Z fun af w Z=>.d<|.s<|.g<|RG.N0 Fil 0 Z fun ai w Z=>.r 1<|.d<|.s<|.s<|.g<|.r 1<|.d<|.b 0<|T.Lp (([]:List Fil),ai,(0:Nat),(0:Nat)) (fun (files,r_files,c_files,i)=>([(1,vP ae),(2,vP af),(3,vS r_files files.length c_files),(4,vI (i:Int))],[(0,.own 0 r_files 148 c_files files)],[],d.files.length - i,(i≤d.files.length)∧(files.length≤i)∧(files++(d.files.drop i).map Kb=d.files.map Kb))) [] Z ⟨AD,AD,AD⟩ ?_
 rintro ⟨files,r_files,c_files,i⟩ aE w Z ⟨aA,aB,aC⟩ ac
 refine .s<|.s<|.g<|.r 2<|RG.Lb 2 Z<|.r 1<|.bp ((i:Int)< (d.files.length:Int)) (fun ag=>?_) (fun ag=>.d<|.cf<|.x 0 rfl<|.s<|T.GS 10 [af,ae] Z fun _ w Z=>.r [0,2]<|GA.Lb (q:=1) 3 2 Z<|.r [5]<|GA.Lb (q:=1) 6 2 Z<|.r [8]<|GA.Lb (q:=1) 9 2 Z<|.go 1<|GE.N0 Int 0 Z fun aF w Z=>.go 4<|GE.An (hs:=by exact (by (simp; omega))) (hf:=.inr Au) 0 1 ([]:List Int) d.list [2,3] Z fun aj ak w Z=>.go 7<|GE.CO 0 (fun w Z=>BQ d.names (Z.a 0) AB (by intro n hn; have:=p1 n hn; omega)) Z fun am ao w Z=>GA.Do Z fun w Z=>.r 1<|RG.Ss 3 Z fun w Z=>.d<|T.Rb 3 func58 results58 Z ⟨⟨r_files,files.length,c_files,aj,(([]++d.list).length),ak,am,d.names.length,ao,(by rw [show (((BK d)).next)=d.next from Eq.symm AF]; kernel_rfl),Z.qo [2,1,0] 2 files (by exact RV ‹_› AB),Z.qb 2,Z.qo [2,1,0] 1 ([]++d.list) AF,Z.qb 1,Z.qn 1 2,Z.qo [2,1,0] 0 d.names AF,Z.qb 0,Z.qn 0 2,Z.qn 0 1⟩,Z.xt⟩)
 refine .d<|.ct<|.sk<|.s<|.b 1<|T.GS 17 [af,ae] Z fun _ w Z=>.r [0,1]<|GA.Lb (q:=1) 2 2 Z<|.r [3]<|gx d.files i fun ab aa=>?_
 have aD:=AZ aa; have ah:=AV aa
 exact GA.Ix 4 2 aa Z<|.r [5]<|Z.el 2 aa fun aG aH aI aJ Z=>GA.Lh 6 0 0 Z<|.r [7]<|GA.Lb (q:=1) 8 2 Z<|.r [9]<|GA.Ix 10 5 aa Z<|.r [11]<|GA.Lg 12 0 1 Z<|.r [13]<|.go 14<|GE.CS (fun w Z=>DW ab.part (⟨([]:List Int),([]:List (List Row))⟩:Prt) (Z.a 1) (Z.a 2) Z.na Z.na (p4 _ ‹_›) (by simp [CK])) Z fun aK aL aM aN w Z=>.r [15]<|.go 16<|GE.Nb 1 Z fun aO w Z=>GA.Do Z fun w Z=>RG.Ap (hs:=by exact AB) 0 0 files (⟨ab.num,(⟨(BA ab.part (⟨([]:List Int),([]:List (List Row))⟩:Prt)).ids,(BA ab.part (⟨([]:List Int),([]:List (List Row))⟩:Prt)).blocks⟩:Prt)⟩:Fil) [0,1] Z fun aq ar w Z=>.r 1<|.d<|.ib 1<|.g<|.r 1<|.it ((i:Int)+1)<|.r 1<|.d<|ac ((files++[(⟨ab.num,(⟨(BA ab.part (⟨([]:List Int),([]:List (List Row))⟩:Prt)).ids,(BA ab.part (⟨([]:List Int),([]:List (List Row))⟩:Prt)).blocks⟩:Prt)⟩:Fil)]),aq,ar,i+1) _ _ AA (Z.to 0 [] 5) ⟨AB,(by simp; omega),(by exact mapStep ‹_› ‹_› rfl)⟩ (by (simp only []; omega))
theorem Mz (d:Dsk) (x:Stp) (h1:RepS w F a1 n1 c1 d.files) (h2:RepS w F a2 n2 c2 d.list) (h3:RepS w F a3 n3 c3 d.names) (h4:RepS w F a4 n4 c4 x.part.ids) (h5:RepS w F a5 n5 c5 x.part.blocks) (h6:RepS w F a6 n6 c6 x.list) (h7:RepS w F a7 n7 c7 x.names) (p0:d.files.length≤2000) (p1:d.list.length≤2000) (p2:Ja x):Calls Tryz.prog 172 [.agg #[.slice a1 n1 c1,.slice a2 n2 c2,.slice a3 n3 c3,.int .i64 d.next],.agg #[.int .i64 x.kind,.int .i64 x.num,.slice a4 n4 c4,.slice a5 n5 c5,.slice a6 n6 c6,.slice a7 n7 c7]].toArray w (Ag fun rv w'=>VS (fo F w.heap.size) w' (doD d x:Dsk) rv∧Ext w w'):=by
 cases h1.len
 cases h2.len
 cases h3.len
 cases h4.len
 cases h5.len
 cases h6.len
 cases h7.len
 refine goT func172 ?_
 have Z:=(((((((St.i0 F w).p h1).p h2).p h3).p h4).p h5).p h6).p h7
 have ay:=h6.max
 have az:=h7.max
 refine .s<|.g<|RG.Np Z fun ac w Z=>RG.Np Z fun ae w Z=>RG.Np Z fun af w Z=>.d<|.s<|.s<|.g<|.r 1<|RG.Lb 1 Z<|.d<|.b 0<|.s<|.g<|.eq x.kind 1 (fun ag=>?_) (fun ag=>?_)
 ·refine .r 1<|.d<|.ct<|.s<|T.GS 10 [af,ae,ac] Z fun _ w Z=>.r [1]<|GA.Lb (q:=2) 2 2 Z<|.r [4]<|GA.Lb (q:=1) 5 1 Z<|.r [6]<|GA.Ln (q:=1) 7 1 Z<|.r [8]<|.tw 0 9 ?_ ?_
  ·refine GE.N0 Fil 1 Z fun aB w Z=>.tw 3 9 ?_ ?_
   ·refine GE.An (hs:=by (simp only [List.nil_append,List.length_nil,List.length_append,List.length_cons] <;> exact (by have:=p2.1; omega))) 0 6 ([]:List Fil) d.files [1,2,3] Z fun aC aD w Z=>.go 9<|GE.Nb 1 Z fun aE w Z=>GA.Do Z fun w Z=>RG.Ap (hs:=by (simp only [List.nil_append,List.length_nil,List.length_append,List.length_cons] <;> exact (by have:=p2.1; omega))) 0 0 ([]++d.files) (⟨x.num,(⟨x.part.ids,x.part.blocks⟩:Prt)⟩:Fil) [3,2] Z fun aF aG w Z=>.r 1<|RG.Ss 3 Z fun w Z=>.d<|.g<|.r 1<|RG.Lb 2 Z<|RG.int (x.num+1) AA (by have q1:=CU d x.num; have q2:=p2.2.2.2; omega)<|.r 1<|RG.Ss 3 Z fun w Z=>.d<|.ib 0<|.s<|.g<|RG.Ln 3 Z<|RG.Ss 1 Z fun w Z=>.d ?_
    have Z:=Z.sl 0
    exact T.Rb 0 func172 results172 Z ⟨Z.rS (g:=1) (⟨(([]++d.files)++[(⟨x.num,(⟨x.part.ids,x.part.blocks⟩:Prt)⟩:Fil)]),d.list,d.names,x.num+1⟩:Dsk) [0,6,5] (by (rw [E2 ‹_›]; simp; done)),Z.xt⟩
   refine GE.Nb 1 Z fun aH w Z=>.go 3<|GE.An (hs:=by (simp only [List.nil_append,List.length_nil,List.length_append,List.length_cons] <;> exact (by have:=p2.1; omega))) 1 6 ([]:List Fil) d.files [2,3,4] Z fun aI aJ w Z=>GA.Do Z fun w Z=>RG.Ap (hs:=by (simp only [List.nil_append,List.length_nil,List.length_append,List.length_cons] <;> exact (by have:=p2.1; omega))) 0 0 ([]++d.files) (⟨x.num,(⟨x.part.ids,x.part.blocks⟩:Prt)⟩:Fil) [3,2] Z fun aK aL w Z=>.r 1<|RG.Ss 3 Z fun w Z=>.d<|.g<|.r 1<|RG.Lb 2 Z<|RG.int (x.num+1) AA (by have q1:=CU d x.num; have q2:=p2.2.2.2; omega)<|.r 1<|RG.Ss 3 Z fun w Z=>.d<|.ib 0<|.s<|.g<|RG.Ln 3 Z<|RG.Ss 1 Z fun w Z=>.d ?_
   have Z:=Z.sl 0
   exact T.Rb 0 func172 results172 Z ⟨Z.rS (g:=1) (⟨(([]++d.files)++[(⟨x.num,(⟨x.part.ids,x.part.blocks⟩:Prt)⟩:Fil)]),d.list,d.names,x.num+1⟩:Dsk) [0,6,5] (by (rw [E2 ‹_›]; simp; done)),Z.xt⟩
  refine GE.Nb 1 Z fun aM w Z=>.go 0<|GE.N0 Fil 1 Z fun aN w Z=>.go 3<|GE.An (hs:=by (simp only [List.nil_append,List.length_nil,List.length_append,List.length_cons] <;> exact (by have:=p2.1; omega))) 0 6 ([]:List Fil) d.files [2,3,4] Z fun aO aP w Z=>GA.Do Z fun w Z=>RG.Ap (hs:=by (simp only [List.nil_append,List.length_nil,List.length_append,List.length_cons] <;> exact (by have:=p2.1; omega))) 0 1 ([]++d.files) (⟨x.num,(⟨x.part.ids,x.part.blocks⟩:Prt)⟩:Fil) [3,2] Z fun aQ aR w Z=>.r 1<|RG.Ss 3 Z fun w Z=>.d<|.g<|.r 1<|RG.Lb 2 Z<|RG.int (x.num+1) AA (by have q1:=CU d x.num; have q2:=p2.2.2.2; omega)<|.r 1<|RG.Ss 3 Z fun w Z=>.d<|.ib 0<|.s<|.g<|RG.Ln 3 Z<|RG.Ss 1 Z fun w Z=>.d ?_
  have Z:=Z.sl 0
  exact T.Rb 0 func172 results172 Z ⟨Z.rS (g:=1) (⟨(([]++d.files)++[(⟨x.num,(⟨x.part.ids,x.part.blocks⟩:Prt)⟩:Fil)]),d.list,d.names,x.num+1⟩:Dsk) [0,6,5] (by (rw [E2 ‹_›]; simp; done)),Z.xt⟩
 refine .r 1<|.d<|.cf<|.s<|.g<|.eq x.kind 2 (fun ah=>?_) (fun ah=>?_)
 ·refine .r 1<|.d<|.ct<|.s<|.g<|RG.N0 Int 1 Z fun aS w Z=>.r 1<|RG.Lb 2 Z<|RG.An (hs:=by (simp only [List.nil_append,List.length_nil,List.length_append,List.length_cons] <;> exact (by have:=p2.1; omega))) 0 1 ([]:List Int) x.list Z fun aT aU w Z=>.r 1<|RG.Ss 3 Z fun w Z=>.d<|.g<|.r 1<|RG.Lb 2 Z<|RG.CO 1 (BQ x.names (Z.a 0) (by have:=p2.2.1; omega) (by intro n hn; have:=p2.2.2.1 n hn; omega)) Z fun aV aW w Z=>.r 1<|RG.Ss 4 Z fun w Z=>.d<|.ib 0<|.s<|.g<|RG.Ln 4 Z<|RG.Ss 2 Z fun w Z=>.d ?_
  have Z:=(Z.sl 1).sl 0
  exact T.Rb 0 func172 results172 Z ⟨Z.rS (g:=1) (⟨d.files,([]++x.list),x.names,d.next⟩:Dsk) [8,1,0] (by (rw [Gr ‹_›]; simp; done)),Z.xt⟩
 refine .r 1<|.d<|.cf<|.s<|.g<|.eq x.kind 3 (fun ai=>?_) (fun ai=>.r 1<|.d<|.cf<|.sk<|.ib 0<|.s<|.g<|RG.Ln 2 Z<|RG.Ss 0 Z fun w Z=>.d<|T.Rb 0 func172 results172 Z ⟨Z.rS (g:=1) d [6,5,4] (by rw [Uu ‹_› ‹_› ‹_›]),Z.xt⟩)
 refine .r 1<|.d<|.ct<|.s<|.g<|RG.Ln 2 Z<|.r 1<|RG.Lb 1 Z<|RG.C0 (El d x.num (Z.a 6) (Z.a 5) (Z.a 4)) Z fun w Z=>.r 1<|.d<|.s<|.g<|.r 1<|.bp (Ak d x.num≥0) (fun aj=>?_) (fun aj=>.r 7<|.d<|.cf<|.sk<|.ib 0<|.s<|.g<|RG.Ln 2 Z<|RG.Ss 0 Z fun w Z=>.d<|T.Rb 0 func172 results172 Z ⟨Z.rS (g:=1) d [6,5,4] (by (rw [FB ‹_›,My (.inl ‹_›)])),Z.xt⟩)
 refine .r 1<|RG.Ln 2 Z<|.r 1<|RG.Lb 1 Z<|RG.C0 (FT d x.num (Z.a 6) (Z.a 5) (Z.a 4)) Z fun w Z=>?_
 cases aA:(d.list.contains x.num)
 ·refine .r 2<|.d<|.ct<|T.GS 11 [af,ae,ac] Z fun _ w Z=>.r [1]<|GA.Lb (q:=2) 2 2 Z<|.r [3]<|GA.Sb (hlh:=(by have q1:=CU d x.num; omega)) (hh:=(by have q1:=CU d x.num; omega)) (hhi:=bdI (Ak d x.num)) 4 6 0 ((Ak d x.num).toNat) d.files Z fun aX aY Z=>.r [6]<|GA.Lb (q:=2) 7 2 Z<|.r [8]<|GA.int (i:=9) (Ak d x.num+1) AA (by have q1:=CU d x.num; omega)<|GA.Sb (hlh:=(by have q1:=CU d x.num; omega)) (hh:=(by have q1:=CU d x.num; omega)) (hlo:=bdI (Ak d x.num+1)) 10 7 ((Ak d x.num+1).toNat) d.files.length d.files Z fun aZ ba Z=>.go 0<|GE.N0 Fil 1 Z fun bg w Z=>.go 5<|GE.An (hs:=by (simp <;> omega)) 0 1 ([]:List Fil) ((d.files.take ((Ak d x.num).toNat)).drop 0) [1,2,3] Z fun bh bi w Z=>GA.Do Z fun w Z=>RG.An (hs:=by (simp <;> omega)) 0 0 ([]++((d.files.take ((Ak d x.num).toNat)).drop 0)) ((d.files.take d.files.length).drop ((Ak d x.num+1).toNat)) Z fun bj bk w Z=>.r 1<|RG.Ss 3 Z fun w Z=>.d<|.ib 0<|.s<|.g<|RG.Ln 3 Z<|RG.Ss 1 Z fun w Z=>.d ?_
  have Z:=Z.sl 0
  exact T.Rb 0 func172 results172 Z ⟨Z.rS (g:=1) (⟨(([]++((d.files.take ((Ak d x.num).toNat)).drop 0))++((d.files.take d.files.length).drop ((Ak d x.num+1).toNat))),d.list,d.names,d.next⟩:Dsk) [0,8,7] (by (rw [FB ‹_›,RW ‹_› ‹_›]; have e1:(Ak d x.num+1).toNat=(Ak d x.num).toNat+1:=AB; simp [e1]; done)),Z.xt⟩
 exact .r 2<|.d<|.cf<|.sk<|.ib 0<|.s<|.g<|RG.Ln 2 Z<|RG.Ss 0 Z fun w Z=>.d<|T.Rb 0 func172 results172 Z ⟨Z.rS (g:=1) d [6,5,4] (by (rw [FB ‹_›,My (.inr ‹_›)])),Z.xt⟩
theorem M0 (d:Dsk) (steps:List Stp) (cut:Int) (h1:RepS w F a1 n1 c1 d.files) (h2:RepS w F a2 n2 c2 d.list) (h3:RepS w F a3 n3 c3 d.names) (h4:RepS w F a4 n4 c4 steps) (p0:d.files.length≤1000) (p1:steps.length≤1000) (p2:d.list.length≤1000) (p3:∀ x∈steps,Ja x):Calls Tryz.prog 114 [.agg #[.slice a1 n1 c1,.slice a2 n2 c2,.slice a3 n3 c3,.int .i64 d.next],.slice a4 n4 c4,.int .i64 cut].toArray w (Ag fun rv w'=>VS (fo F w.heap.size) w' (toD d steps cut:Dsk) rv∧Ext w w'):=by
 cases h1.len
 cases h2.len
 cases h3.len
 cases h4.len
 refine goT func114 ?_
 have Z:=((((St.i0 F w).p h1).p h2).p h3).p h4
 refine .s<|.g<|RG.Np Z fun ai w Z=>RG.Np Z fun ao w Z=>.d<|.s<|.s<|.g<|.r 1<|.d<|.b 0<|T.Lp ((0:Nat),(d.files:List Fil),a1,c1,(d.list:List Int),a2,c2,(d.names:List (List Tag)),a3,c3,d.next) (fun (i,aa,a_d_0,c_d_0,ab,a_d_1,c_d_1,ac,a_d_2,c_d_2,ae)=>([(1,.slice a4 steps.length c4),(2,vI cut),(3,vP ai),(6,vP ao),(7,vI (i:Int))],[(1,.box ai 35 [.slice a_d_0 aa.length c_d_0,.slice a_d_1 ab.length c_d_1,.slice a_d_2 ac.length c_d_2,vI ae])],[⟨1,none,.rep a_d_0 c_d_0 aa⟩,⟨1,none,.rep a_d_1 c_d_1 ab⟩,⟨1,none,.rep a_d_2 c_d_2 ac⟩],steps.length - i,(i≤steps.length)∧(aa.length≤d.files.length+i)∧(ab.length≤1000)∧(((steps.take cut.toNat).drop i).foldl doD ⟨aa,ab,ac,ae⟩=toD d steps cut))) [3,2,1] Z ⟨AB,AB,AB,AF⟩ ?_
 rintro ⟨i,aa,a_d_0,c_d_0,ab,a_d_1,c_d_1,ac,a_d_2,c_d_2,ae⟩ aM w Z ⟨aH,aI,aJ,aK⟩ ag
 refine .s<|.s<|.g<|.r 3<|.bp ((i:Int)< (steps.length:Int)) (fun aj=>?_) (fun aj=>.r 5<|.d<|.cf<|.x 0 rfl<|.s<|.g<|RG.Ln 1 Z<|RG.Ss 0 Z fun w Z=>.d<|T.Rb 0 func114 results114 Z ⟨Z.rS (g:=1) (⟨aa,ab,ac,ae⟩:Dsk) [0,1,2] (by exact toEnd ‹_› AB),Z.xt⟩)
 refine .r 3<|.bp ((i:Int)< cut) (fun ak=>?_) (fun ak=>.r 1<|.d<|.cf<|.x 0 rfl<|.s<|.g<|RG.Ln 1 Z<|RG.Ss 0 Z fun w Z=>.d<|T.Rb 0 func114 results114 Z ⟨Z.rS (g:=1) (⟨aa,ab,ac,ae⟩:Dsk) [0,1,2] (by exact toEnd ‹_› AB),Z.xt⟩)
 refine .r 1<|.d<|.ct<|.sk<|.s<|.b 1<|T.Gd 5 Z fun w Z=>GA.Ln 0 1 Z<|.r [1,2]<|gx steps i fun ah af=>?_
 have aL:=AZ af; have am:=AV af
 exact GA.Ix 3 3 af Z<|Z.el 3 af fun aN aO aP aQ aR aS aT aU Z=>GA.Lg 4 0 0 Z<|GA.Dn Z fun w Z=>RG.CS (Mz (⟨aa,ab,ac,ae⟩:Dsk) ah (Z.mg 1 5) (Z.mg 1 6) (Z.mg 1 7) (Z.mg 1 1) (Z.mg 1 2) (Z.mg 1 3) (Z.mg 1 4) (by simp only; omega) (by simp only; omega) (p3 _ ‹_›)) Z fun aq ar ax ay az aA w Z=>RG.Ss 1 Z fun w Z=>.d<|.ib 1<|.g<|.r 1<|.it ((i:Int)+1)<|.r 1<|.d<|ag (i+1,(doD (⟨aa,ab,ac,ae⟩:Dsk) ah).files,aq,ar,(doD (⟨aa,ab,ac,ae⟩:Dsk) ah).list,ax,ay,(doD (⟨aa,ab,ac,ae⟩:Dsk) ah).names,az,aA,(doD (⟨aa,ab,ac,ae⟩:Dsk) ah).next) _ _ AA (Z.to 0 [0,1,2] 11) ⟨AB,(by have q1:=p3 _ ‹_›; have q2:=Pz (d:=⟨aa,ab,ac,ae⟩) q1.1 ‹_›; dsimp only at q2; omega),(by have q1:=p3 _ ‹_›; have q2:=Pz (d:=⟨aa,ab,ac,ae⟩) q1.1 ‹_›; dsimp only at q2; omega),(by exact toStep ‹_› ‹_› AB)⟩ (by (simp only []; omega))
theorem Js (d:Dsk) (at_:Int) (h1:RepS w F a1 n1 c1 d.files) (h2:RepS w F a2 n2 c2 d.list) (h3:RepS w F a3 n3 c3 d.names) (p0:d.names.length≤1000) (p1:∀ n∈d.names,n.length≤1000) (p2:d.list.length≤1000) (p3:∀ n∈d.list,0≤Ak d n) (p4:∀ f∈d.files,CK f.part):Calls Tryz.prog 55 [.agg #[.slice a1 n1 c1,.slice a2 n2 c2,.slice a3 n3 c3,.int .i64 d.next],.int .i64 at_].toArray w (Ag fun rv w'=>VL (ge w.heap.size) w' (BF d at_:List Stp) rv∧Ext w w'):=by
 cases h1.len
 cases h2.len
 cases h3.len
 refine goT func55 ?_
 have Z:=(((St.i0 F w).p h1).p h2).p h3
 refine .s<|.g<|RG.Np Z fun ak w Z=>.r 1<|.d<|.s<|.s<|.g<|.r 2<|RG.Lb 0 Z<|.r 1<|.it ((d.list.length:Int) - 2)<|RG.C0 (C8 at_ 0 ((d.list.length:Int) - 2) (F:=all)) Z fun w Z=>?_
 cases aj:(inR at_ 0 ((d.list.length:Int) - 2))
 ·exact .r 12<|.d<|.ct<|.s<|.g<|RG.N0 Stp 0 Z fun bN w Z=>.r 1<|.d<|T.Rt func55 results55 ⟨Z.rM 0 ([]:List Stp) (by rw [IB (.inl ‹_›)]),Z.xt⟩
 have aF:=Bu aj
 refine .r 3<|RG.Lb 0 Z<|.bp (d.next≥999) (fun am=>.r 7<|.d<|.ct<|.s<|.g<|RG.N0 Stp 0 Z fun bO w Z=>.r 1<|.d<|T.Rt func55 results55 ⟨Z.rM 0 ([]:List Stp) (by rw [IB (.inr (.inl ‹_›))]),Z.xt⟩) fun am=>.r 3<|RG.Lb 0 Z<|.r 1<|.bp ((d.files.length:Int)≥20) (fun ao=>.r 1<|.d<|.ct<|.s<|.g<|RG.N0 Stp 0 Z fun bP w Z=>.r 1<|.d<|T.Rt func55 results55 ⟨Z.rM 0 ([]:List Stp) (by rw [IB (.inr (.inr ‹_›))]),Z.xt⟩) fun ao=>.r 1<|.d<|.cf<|.sk<|.s<|.g<|.r 1<|RG.Lb 0 Z<|.r 1<|gx (h:=AB) d.list (at_.toNat) fun ac af=>?_
 have ar:=AV af
 refine RG.Jx (hz:=AB) 1 at_ af Z<|Z.el 1 af fun Z=>RG.Lh 0 0 Z<|.r 1<|.d<|.s<|.g<|.r 1<|RG.Lb 0 Z<|.r 1<|.it (at_+1)<|gx (h:=AB) d.list ((at_+1).toNat) fun ae ag=>?_
 have ax:=AV ag
 refine RG.Jx (hz:=AB) 2 (at_+1) ag Z<|Z.el 2 ag fun Z=>RG.Lh 0 0 Z<|.r 1<|.d<|.s<|T.Gd 18 Z fun w Z=>.r [0]<|GA.Lb 1 0 Z<|GA.Ln 2 0 Z<|.r [3]<|GA.C0 4 Z (fun w Z=>El d ac (Z.a 4) (Z.a 3) (Z.a 2))<|gx (h:=(by exact Iw p3 ‹_›)) d.files ((Ak d ac).toNat) fun aa ah=>?_
 have ay:=AV ah
 refine GA.Jx (hz:=(by exact Iy p3 ‹_›)) 5 4 (Ak d ac) ah Z<|.r [6]<|Z.el 4 ah fun bQ bR bS bT Z=>GA.Lg 7 0 1 Z<|.r [8]<|GA.Lb 9 0 Z<|GA.Ln 10 0 Z<|.r [11]<|GA.C0 12 Z (fun w Z=>El d ae (Z.a 7) (Z.a 6) (Z.a 5))<|gx (h:=(by exact Iw p3 ‹_›)) d.files ((Ak d ae).toNat) fun ab ai=>?_
 have az:=AV ai
 refine GA.Jx (hz:=(by exact Iy p3 ‹_›)) 13 7 (Ak d ae) ai Z<|.r [14]<|Z.el 7 ai fun bU bV bW bX Z=>GA.Lg 15 0 1 Z<|.tw 16 17 ?_ ?_
 ·refine GE.CS (fun w Z=>DW aa.part ab.part (Z.a 4) (Z.a 5) (Z.a 1) (Z.a 2) (p4 _ ‹_›) (p4 _ ‹_›)) Z fun bY bZ b6 b7 w Z=>.go 17<|GE.Np Z fun aA w Z=>GA.Dn Z fun w Z=>RG.Ss 0 Z fun w Z=>.d<|.s<|T.GS 15 [aA,ak] Z fun _ w Z=>.r [1]<|GA.Lb (q:=1) 2 1 Z<|.r [3]<|GA.Sb (hhi:=bdI at_) 4 11 0 (at_.toNat) d.list Z fun b8 b9 Z=>.r [6]<|GA.Lb (q:=1) 7 1 Z<|.r [10]<|GA.Lb (q:=1) 11 1 Z<|.r [12]<|GA.int (i:=13) (at_+2) AA AB<|GA.Sb (hlo:=bdI (at_+2)) 14 12 ((at_+2).toNat) d.list.length d.list Z fun cd ce Z=>.tw 0 8 ?_ ?_
  ·refine GE.N0 Int 0 Z fun cg w Z=>.tw 5 8 ?_ ?_
   ·exact GE.An (hf:=.inr Au) 0 1 ([]:List Int) ((d.list.take (at_.toNat)).drop 0) [1,2] Z fun ci cj w Z=>.go 8<|GE.Nb 1 Z fun ck w Z=>.go 9<|GE.Ap 0 0 ([]++((d.list.take (at_.toNat)).drop 0)) d.next [] [1,2] Z fun cm co w Z=>GA.Do Z fun w Z=>RG.An (hf:=.inr Au) 0 0 (([]++((d.list.take (at_.toNat)).drop 0))++[d.next]) ((d.list.take d.list.length).drop ((at_+2).toNat)) Z fun cp cq w Z=>.r 1<|.d<|.s<|T.Gd 13 Z fun w Z=>.r [0]<|GA.Lb 1 2 Z<|GA.Ln 2 1 Z<|.r [3,4,5]<|GA.Lb 6 2 Z<|.r [9,10,11,12]<|.go 7<|GE.CO 0 (fun w Z=>BQ d.names (Z.a 12) AB (by intro n hn; have:=p1 n hn; omega)) Z fun cr cu w Z=>.r [8]<|GA.Dn Z fun w Z=>RG.Nl 0 ([(⟨1,d.next,(⟨(BA aa.part ab.part).ids,(BA aa.part ab.part).blocks⟩:Prt),([]:List Int),([]:List (List Tag))⟩:Stp),(⟨2,0,(⟨([]:List Int),([]:List (List Row))⟩:Prt),((([]++((d.list.take (at_.toNat)).drop 0))++[d.next])++((d.list.take d.list.length).drop ((at_+2).toNat))),d.names⟩:Stp),(⟨3,ac,(⟨([]:List Int),([]:List (List Row))⟩:Prt),([]:List Int),([]:List (List Tag))⟩:Stp),(⟨3,ae,(⟨([]:List Int),([]:List (List Row))⟩:Prt),([]:List Int),([]:List (List Tag))⟩:Stp)]:List Stp) [[16,17,13,12],[9,8,11,10],[7,6,5,4],[3,2,1,0]] ((((((((((((((Z.nl Int).nl (List Tag)).sl 1).sl 0).nl Int).nl (List Row)).nl Int).nl (List Row)).nl Int).nl (List Tag)).nl Int).nl (List Row)).nl Int).nl (List Tag)) fun cw w Z=>.r 1<|.d<|T.Rt func55 results55 ⟨Z.rM 0 ([(⟨1,d.next,(⟨(BA aa.part ab.part).ids,(BA aa.part ab.part).blocks⟩:Prt),([]:List Int),([]:List (List Tag))⟩:Stp),(⟨2,0,(⟨([]:List Int),([]:List (List Row))⟩:Prt),((([]++((d.list.take (at_.toNat)).drop 0))++[d.next])++((d.list.take d.list.length).drop ((at_+2).toNat))),d.names⟩:Stp),(⟨3,ac,(⟨([]:List Int),([]:List (List Row))⟩:Prt),([]:List Int),([]:List (List Tag))⟩:Stp),(⟨3,ae,(⟨([]:List Int),([]:List (List Row))⟩:Prt),([]:List Int),([]:List (List Tag))⟩:Stp)]:List Stp) (by rw [EO ‹_› ‹_› ‹_› ‹_› ‹_› ‹_› ‹_›]),Z.xt⟩
   exact GE.Nb 1 Z fun cx w Z=>.go 5<|GE.An (hf:=.inr Au) 1 1 ([]:List Int) ((d.list.take (at_.toNat)).drop 0) [2,3] Z fun cy cz w Z=>.go 9<|GE.Ap 0 0 ([]++((d.list.take (at_.toNat)).drop 0)) d.next [] [1,2] Z fun cA cB w Z=>GA.Do Z fun w Z=>RG.An (hf:=.inr Au) 0 0 (([]++((d.list.take (at_.toNat)).drop 0))++[d.next]) ((d.list.take d.list.length).drop ((at_+2).toNat)) Z fun cC cD w Z=>.r 1<|.d<|.s<|T.Gd 13 Z fun w Z=>.r [0]<|GA.Lb 1 2 Z<|GA.Ln 2 1 Z<|.r [3,4,5]<|GA.Lb 6 2 Z<|.r [9,10,11,12]<|.go 7<|GE.CO 0 (fun w Z=>BQ d.names (Z.a 12) AB (by intro n hn; have:=p1 n hn; omega)) Z fun cE cF w Z=>.r [8]<|GA.Dn Z fun w Z=>RG.Nl 0 ([(⟨1,d.next,(⟨(BA aa.part ab.part).ids,(BA aa.part ab.part).blocks⟩:Prt),([]:List Int),([]:List (List Tag))⟩:Stp),(⟨2,0,(⟨([]:List Int),([]:List (List Row))⟩:Prt),((([]++((d.list.take (at_.toNat)).drop 0))++[d.next])++((d.list.take d.list.length).drop ((at_+2).toNat))),d.names⟩:Stp),(⟨3,ac,(⟨([]:List Int),([]:List (List Row))⟩:Prt),([]:List Int),([]:List (List Tag))⟩:Stp),(⟨3,ae,(⟨([]:List Int),([]:List (List Row))⟩:Prt),([]:List Int),([]:List (List Tag))⟩:Stp)]:List Stp) [[16,17,13,12],[9,8,11,10],[7,6,5,4],[3,2,1,0]] ((((((((((((((Z.nl Int).nl (List Tag)).sl 1).sl 0).nl Int).nl (List Row)).nl Int).nl (List Row)).nl Int).nl (List Tag)).nl Int).nl (List Row)).nl Int).nl (List Tag)) fun cG w Z=>.r 1<|.d<|T.Rt func55 results55 ⟨Z.rM 0 ([(⟨1,d.next,(⟨(BA aa.part ab.part).ids,(BA aa.part ab.part).blocks⟩:Prt),([]:List Int),([]:List (List Tag))⟩:Stp),(⟨2,0,(⟨([]:List Int),([]:List (List Row))⟩:Prt),((([]++((d.list.take (at_.toNat)).drop 0))++[d.next])++((d.list.take d.list.length).drop ((at_+2).toNat))),d.names⟩:Stp),(⟨3,ac,(⟨([]:List Int),([]:List (List Row))⟩:Prt),([]:List Int),([]:List (List Tag))⟩:Stp),(⟨3,ae,(⟨([]:List Int),([]:List (List Row))⟩:Prt),([]:List Int),([]:List (List Tag))⟩:Stp)]:List Stp) (by rw [EO ‹_› ‹_› ‹_› ‹_› ‹_› ‹_› ‹_›]),Z.xt⟩
  exact GE.Nb 1 Z fun cH w Z=>.go 0<|GE.N0 Int 0 Z fun cI w Z=>.go 5<|GE.An (hf:=.inr Au) 0 1 ([]:List Int) ((d.list.take (at_.toNat)).drop 0) [2,3] Z fun cJ cK w Z=>.go 9<|GE.Ap 0 1 ([]++((d.list.take (at_.toNat)).drop 0)) d.next [] [1,2] Z fun cL cM w Z=>GA.Do Z fun w Z=>RG.An (hf:=.inr Au) 0 0 (([]++((d.list.take (at_.toNat)).drop 0))++[d.next]) ((d.list.take d.list.length).drop ((at_+2).toNat)) Z fun cN cO w Z=>.r 1<|.d<|.s<|T.Gd 13 Z fun w Z=>.r [0]<|GA.Lb 1 2 Z<|GA.Ln 2 1 Z<|.r [3,4,5]<|GA.Lb 6 2 Z<|.r [9,10,11,12]<|.go 7<|GE.CO 0 (fun w Z=>BQ d.names (Z.a 12) AB (by intro n hn; have:=p1 n hn; omega)) Z fun aK aL w Z=>.r [8]<|GA.Dn Z fun w Z=>RG.Nl 0 ([(⟨1,d.next,(⟨(BA aa.part ab.part).ids,(BA aa.part ab.part).blocks⟩:Prt),([]:List Int),([]:List (List Tag))⟩:Stp),(⟨2,0,(⟨([]:List Int),([]:List (List Row))⟩:Prt),((([]++((d.list.take (at_.toNat)).drop 0))++[d.next])++((d.list.take d.list.length).drop ((at_+2).toNat))),d.names⟩:Stp),(⟨3,ac,(⟨([]:List Int),([]:List (List Row))⟩:Prt),([]:List Int),([]:List (List Tag))⟩:Stp),(⟨3,ae,(⟨([]:List Int),([]:List (List Row))⟩:Prt),([]:List Int),([]:List (List Tag))⟩:Stp)]:List Stp) [[16,17,13,12],[9,8,11,10],[7,6,5,4],[3,2,1,0]] ((((((((((((((Z.nl Int).nl (List Tag)).sl 1).sl 0).nl Int).nl (List Row)).nl Int).nl (List Row)).nl Int).nl (List Tag)).nl Int).nl (List Row)).nl Int).nl (List Tag)) fun aM w Z=>.r 1<|.d<|T.Rt func55 results55 ⟨Z.rM 0 ([(⟨1,d.next,(⟨(BA aa.part ab.part).ids,(BA aa.part ab.part).blocks⟩:Prt),([]:List Int),([]:List (List Tag))⟩:Stp),(⟨2,0,(⟨([]:List Int),([]:List (List Row))⟩:Prt),((([]++((d.list.take (at_.toNat)).drop 0))++[d.next])++((d.list.take d.list.length).drop ((at_+2).toNat))),d.names⟩:Stp),(⟨3,ac,(⟨([]:List Int),([]:List (List Row))⟩:Prt),([]:List Int),([]:List (List Tag))⟩:Stp),(⟨3,ae,(⟨([]:List Int),([]:List (List Row))⟩:Prt),([]:List Int),([]:List (List Tag))⟩:Stp)]:List Stp) (by rw [EO ‹_› ‹_› ‹_› ‹_› ‹_› ‹_› ‹_›]),Z.xt⟩
 refine GE.Np Z fun aq w Z=>.go 16<|GE.CS (fun w Z=>DW aa.part ab.part (Z.a 4) (Z.a 5) (Z.a 1) (Z.a 2) (p4 _ ‹_›) (p4 _ ‹_›)) Z fun aN aO aP aQ w Z=>GA.Dn Z fun w Z=>RG.Ss 0 Z fun w Z=>.d<|.s<|T.GS 15 [aq,ak] Z fun _ w Z=>.r [1]<|GA.Lb (q:=1) 2 1 Z<|.r [3]<|GA.Sb (hhi:=bdI at_) 4 11 0 (at_.toNat) d.list Z fun aR aS Z=>.r [6]<|GA.Lb (q:=1) 7 1 Z<|.r [10]<|GA.Lb (q:=1) 11 1 Z<|.r [12]<|GA.int (i:=13) (at_+2) AA AB<|GA.Sb (hlo:=bdI (at_+2)) 14 12 ((at_+2).toNat) d.list.length d.list Z fun aT aU Z=>.tw 0 8 ?_ ?_
 ·refine GE.N0 Int 0 Z fun aV w Z=>.tw 5 8 ?_ ?_
  ·exact GE.An (hf:=.inr Au) 0 1 ([]:List Int) ((d.list.take (at_.toNat)).drop 0) [1,2] Z fun aW aX w Z=>.go 8<|GE.Nb 1 Z fun aY w Z=>.go 9<|GE.Ap 0 0 ([]++((d.list.take (at_.toNat)).drop 0)) d.next [] [1,2] Z fun aZ ba w Z=>GA.Do Z fun w Z=>RG.An (hf:=.inr Au) 0 0 (([]++((d.list.take (at_.toNat)).drop 0))++[d.next]) ((d.list.take d.list.length).drop ((at_+2).toNat)) Z fun bg bh w Z=>.r 1<|.d<|.s<|T.Gd 13 Z fun w Z=>.r [0]<|GA.Lb 1 2 Z<|GA.Ln 2 1 Z<|.r [3,4,5]<|GA.Lb 6 2 Z<|.r [9,10,11,12]<|.go 7<|GE.CO 0 (fun w Z=>BQ d.names (Z.a 12) AB (by intro n hn; have:=p1 n hn; omega)) Z fun bi bj w Z=>.r [8]<|GA.Dn Z fun w Z=>RG.Nl 0 ([(⟨1,d.next,(⟨(BA aa.part ab.part).ids,(BA aa.part ab.part).blocks⟩:Prt),([]:List Int),([]:List (List Tag))⟩:Stp),(⟨2,0,(⟨([]:List Int),([]:List (List Row))⟩:Prt),((([]++((d.list.take (at_.toNat)).drop 0))++[d.next])++((d.list.take d.list.length).drop ((at_+2).toNat))),d.names⟩:Stp),(⟨3,ac,(⟨([]:List Int),([]:List (List Row))⟩:Prt),([]:List Int),([]:List (List Tag))⟩:Stp),(⟨3,ae,(⟨([]:List Int),([]:List (List Row))⟩:Prt),([]:List Int),([]:List (List Tag))⟩:Stp)]:List Stp) [[16,17,13,12],[9,8,11,10],[7,6,5,4],[3,2,1,0]] ((((((((((((((Z.nl Int).nl (List Tag)).sl 1).sl 0).nl Int).nl (List Row)).nl Int).nl (List Row)).nl Int).nl (List Tag)).nl Int).nl (List Row)).nl Int).nl (List Tag)) fun bk w Z=>.r 1<|.d<|T.Rt func55 results55 ⟨Z.rM 0 ([(⟨1,d.next,(⟨(BA aa.part ab.part).ids,(BA aa.part ab.part).blocks⟩:Prt),([]:List Int),([]:List (List Tag))⟩:Stp),(⟨2,0,(⟨([]:List Int),([]:List (List Row))⟩:Prt),((([]++((d.list.take (at_.toNat)).drop 0))++[d.next])++((d.list.take d.list.length).drop ((at_+2).toNat))),d.names⟩:Stp),(⟨3,ac,(⟨([]:List Int),([]:List (List Row))⟩:Prt),([]:List Int),([]:List (List Tag))⟩:Stp),(⟨3,ae,(⟨([]:List Int),([]:List (List Row))⟩:Prt),([]:List Int),([]:List (List Tag))⟩:Stp)]:List Stp) (by rw [EO ‹_› ‹_› ‹_› ‹_› ‹_› ‹_› ‹_›]),Z.xt⟩
  exact GE.Nb 1 Z fun bm w Z=>.go 5<|GE.An (hf:=.inr Au) 1 1 ([]:List Int) ((d.list.take (at_.toNat)).drop 0) [2,3] Z fun bn bo w Z=>.go 9<|GE.Ap 0 0 ([]++((d.list.take (at_.toNat)).drop 0)) d.next [] [1,2] Z fun bq br w Z=>GA.Do Z fun w Z=>RG.An (hf:=.inr Au) 0 0 (([]++((d.list.take (at_.toNat)).drop 0))++[d.next]) ((d.list.take d.list.length).drop ((at_+2).toNat)) Z fun bu bv w Z=>.r 1<|.d<|.s<|T.Gd 13 Z fun w Z=>.r [0]<|GA.Lb 1 2 Z<|GA.Ln 2 1 Z<|.r [3,4,5]<|GA.Lb 6 2 Z<|.r [9,10,11,12]<|.go 7<|GE.CO 0 (fun w Z=>BQ d.names (Z.a 12) AB (by intro n hn; have:=p1 n hn; omega)) Z fun bw bz w Z=>.r [8]<|GA.Dn Z fun w Z=>RG.Nl 0 ([(⟨1,d.next,(⟨(BA aa.part ab.part).ids,(BA aa.part ab.part).blocks⟩:Prt),([]:List Int),([]:List (List Tag))⟩:Stp),(⟨2,0,(⟨([]:List Int),([]:List (List Row))⟩:Prt),((([]++((d.list.take (at_.toNat)).drop 0))++[d.next])++((d.list.take d.list.length).drop ((at_+2).toNat))),d.names⟩:Stp),(⟨3,ac,(⟨([]:List Int),([]:List (List Row))⟩:Prt),([]:List Int),([]:List (List Tag))⟩:Stp),(⟨3,ae,(⟨([]:List Int),([]:List (List Row))⟩:Prt),([]:List Int),([]:List (List Tag))⟩:Stp)]:List Stp) [[16,17,13,12],[9,8,11,10],[7,6,5,4],[3,2,1,0]] ((((((((((((((Z.nl Int).nl (List Tag)).sl 1).sl 0).nl Int).nl (List Row)).nl Int).nl (List Row)).nl Int).nl (List Tag)).nl Int).nl (List Row)).nl Int).nl (List Tag)) fun bA w Z=>.r 1<|.d<|T.Rt func55 results55 ⟨Z.rM 0 ([(⟨1,d.next,(⟨(BA aa.part ab.part).ids,(BA aa.part ab.part).blocks⟩:Prt),([]:List Int),([]:List (List Tag))⟩:Stp),(⟨2,0,(⟨([]:List Int),([]:List (List Row))⟩:Prt),((([]++((d.list.take (at_.toNat)).drop 0))++[d.next])++((d.list.take d.list.length).drop ((at_+2).toNat))),d.names⟩:Stp),(⟨3,ac,(⟨([]:List Int),([]:List (List Row))⟩:Prt),([]:List Int),([]:List (List Tag))⟩:Stp),(⟨3,ae,(⟨([]:List Int),([]:List (List Row))⟩:Prt),([]:List Int),([]:List (List Tag))⟩:Stp)]:List Stp) (by rw [EO ‹_› ‹_› ‹_› ‹_› ‹_› ‹_› ‹_›]),Z.xt⟩
 exact GE.Nb 1 Z fun bC w Z=>.go 0<|GE.N0 Int 0 Z fun bD w Z=>.go 5<|GE.An (hf:=.inr Au) 0 1 ([]:List Int) ((d.list.take (at_.toNat)).drop 0) [2,3] Z fun bE bF w Z=>.go 9<|GE.Ap 0 1 ([]++((d.list.take (at_.toNat)).drop 0)) d.next [] [1,2] Z fun bG bH w Z=>GA.Do Z fun w Z=>RG.An (hf:=.inr Au) 0 0 (([]++((d.list.take (at_.toNat)).drop 0))++[d.next]) ((d.list.take d.list.length).drop ((at_+2).toNat)) Z fun bI bJ w Z=>.r 1<|.d<|.s<|T.Gd 13 Z fun w Z=>.r [0]<|GA.Lb 1 2 Z<|GA.Ln 2 1 Z<|.r [3,4,5]<|GA.Lb 6 2 Z<|.r [9,10,11,12]<|.go 7<|GE.CO 0 (fun w Z=>BQ d.names (Z.a 12) AB (by intro n hn; have:=p1 n hn; omega)) Z fun bK bL w Z=>.r [8]<|GA.Dn Z fun w Z=>RG.Nl 0 ([(⟨1,d.next,(⟨(BA aa.part ab.part).ids,(BA aa.part ab.part).blocks⟩:Prt),([]:List Int),([]:List (List Tag))⟩:Stp),(⟨2,0,(⟨([]:List Int),([]:List (List Row))⟩:Prt),((([]++((d.list.take (at_.toNat)).drop 0))++[d.next])++((d.list.take d.list.length).drop ((at_+2).toNat))),d.names⟩:Stp),(⟨3,ac,(⟨([]:List Int),([]:List (List Row))⟩:Prt),([]:List Int),([]:List (List Tag))⟩:Stp),(⟨3,ae,(⟨([]:List Int),([]:List (List Row))⟩:Prt),([]:List Int),([]:List (List Tag))⟩:Stp)]:List Stp) [[16,17,13,12],[9,8,11,10],[7,6,5,4],[3,2,1,0]] ((((((((((((((Z.nl Int).nl (List Tag)).sl 1).sl 0).nl Int).nl (List Row)).nl Int).nl (List Row)).nl Int).nl (List Tag)).nl Int).nl (List Row)).nl Int).nl (List Tag)) fun bM w Z=>.r 1<|.d<|T.Rt func55 results55 ⟨Z.rM 0 ([(⟨1,d.next,(⟨(BA aa.part ab.part).ids,(BA aa.part ab.part).blocks⟩:Prt),([]:List Int),([]:List (List Tag))⟩:Stp),(⟨2,0,(⟨([]:List Int),([]:List (List Row))⟩:Prt),((([]++((d.list.take (at_.toNat)).drop 0))++[d.next])++((d.list.take d.list.length).drop ((at_+2).toNat))),d.names⟩:Stp),(⟨3,ac,(⟨([]:List Int),([]:List (List Row))⟩:Prt),([]:List Int),([]:List (List Tag))⟩:Stp),(⟨3,ae,(⟨([]:List Int),([]:List (List Row))⟩:Prt),([]:List Int),([]:List (List Tag))⟩:Stp)]:List Stp) (by rw [EO ‹_› ‹_› ‹_› ‹_› ‹_› ‹_› ‹_›]),Z.xt⟩
end Go.Proofs.YtcginoabkicdiaaGreat
namespace Go.Proofs.YtcginoabkicdiaaGreat
def Blk (b:List Row):Prop:=CP none b=true
theorem BY {o:Option Row}{r:Row}{rs:List Row}:CP o (r::rs)=true↔BU r=true∧(∀ q,o=some q→q.t< r.t)∧CP (some r) rs=true:=by
 simp only [CP,AW]
 cases o <;> simp [and_assoc]
theorem Nr {o:Option Row}{b:List Row}(h:CP o b=true):Blk b:=by
 cases b with
 | nil=>rfl
 | cons r rs=>exact BY.2 ⟨(BY.1 h).1,by simp,(BY.1 h).2.2⟩
theorem M3 {r:Row}(h:BU r=true):0≤r.t∧r.t≤99:=by
 simp only [BU,AW] at h
 exact Bu h.1
theorem Tc {r:Row}(h:BU r=true):-99≤r.v∧r.v≤99:=by
 simp only [BU,AW] at h
 exact Bu h.2
theorem O5:∀ (b:List Row) (q:Row),CP (some q) b=true→q.t≤99→(b.length:Int)≤99 - q.t:=by
 intro b
 induction b with
 | nil=>intro q _ h; simp; omega
 | cons r rs ih =>
   intro q h hq
   obtain ⟨h1,h2,h3⟩:=BY.1 h
   have h4:=h2 q rfl
   have h5:=M3 h1
   have h6:=ih r h3 AB
   simp only [List.length_cons]
   omega
theorem Blk.len {b:List Row}(h:Blk b):b.length≤100:=by
 cases b with
 | nil=>simp
 | cons r rs =>
   obtain ⟨h1,_,h3⟩:=BY.1 h
   have h5:=M3 h1
   have h6:=O5 rs r h3 AB
   simp only [List.length_cons]
   omega
theorem Ns:∀ (b:List Row) (o:Option Row),CP o b=true→∀ r∈b,BU r=true:=by
 intro b
 induction b with
 | nil=>intro o _ r hr; cases hr
 | cons x xs ih =>
   intro o h r hr
   obtain ⟨h1,_,h3⟩:=BY.1 h
   rcases List.mem_cons.1 hr with rfl | hr
   ·exact h1
   ·exact ih _ h3 r hr
theorem Blk.rows {b:List Row}(h:Blk b):∀ r∈b,BU r=true:=Ns b none h
theorem L4:∀ (b:List Row) (q:Row),CP (some q) b=true→∀ r∈b,q.t< r.t:=by
 intro b
 induction b with
 | nil=>intro q _ r hr; cases hr
 | cons x xs ih =>
   intro q h r hr
   obtain ⟨_,h2,h3⟩:=BY.1 h
   have h4:=h2 q rfl
   rcases List.mem_cons.1 hr with rfl | hr
   ·exact h4
   ·have:=ih x h3 r hr; omega
def Cr (r:Row):List Row→List Row
 | []=>[r]
 | x::xs=>if r.t< x.t then r::x::xs else if r.t=x.t then r::xs else x::Cr r xs
theorem L5 (r:Row):∀ (b out:List Row),(∀ x∈b,r.t< x.t)→CZ out r true b=out++b:=by
 intro b
 induction b with
 | nil=>intro out _; simp [CZ]
 | cons x xs ih =>
   intro out h
   have h1:=h x AD
   have h2:(x.t != r.t)=true:=by simp; omega
   unfold CZ
   simp only [Bool.not_true,Bool.false_and,if_neg,h2,if_true]
   rw [if_neg AD,ih _ (fun y hy=>h y (by simp [hy]))]
   simp
theorem RX (r:Row):∀ (b out:List Row) (o:Option Row),CP o b=true→CZ out r false b=out++Cr r b:=by
 intro b
 induction b with
 | nil=>intro out o _; simp [CZ,Cr]
 | cons x xs ih =>
   intro out o h
   obtain ⟨_,_,h3⟩:=BY.1 h
   have hg:=L4 xs x h3
   unfold CZ Cr
   by_cases h1:r.t< x.t
   ·have e1:(x.t != r.t)=true:=by simp; omega
    have e2:(!false&&decide (x.t≥r.t))=true:=by simp; omega
    rw [if_pos e2,if_pos e1,if_pos h1,L5 r xs _ (fun y hy=>by have:=hg y hy; omega)]
    simp
   ·by_cases h2:r.t=x.t
    ·have e1:¬ (x.t != r.t)=true:=by simp; omega
     have e2:(!false&&decide (x.t≥r.t))=true:=by simp; omega
     rw [if_pos e2,if_neg e1,if_neg h1,if_pos h2,L5 r xs _ (fun y hy=>by have:=hg y hy; omega)]
     simp
    ·have e1:(x.t != r.t)=true:=by simp; omega
     have e2:¬ (!false&&decide (x.t≥r.t))=true:=by simp; omega
     rw [if_neg e2,if_pos e1,if_neg h1,if_neg h2,ih _ _ h3]
     simp
theorem FU {b:List Row}(h:Blk b) (r:Row):EG b r=Cr r b:=by
 unfold EG
 rw [RX r b [] none h]
 rfl
theorem Td {r:Row}(hr:BU r=true):∀ (b:List Row) (o:Option Row),CP o b=true→(∀ q,o=some q→q.t< r.t)→CP o (Cr r b)=true:=by
 intro b
 induction b with
 | nil=>intro o _ ho; exact BY.2 ⟨hr,ho,rfl⟩
 | cons x xs ih =>
   intro o h ho
   obtain ⟨h1,h2,h3⟩:=BY.1 h
   unfold Cr
   split
   ·exact BY.2 ⟨hr,ho,BY.2 ⟨h1,fun q hq=>by cases hq; assumption,h3⟩⟩
   ·split
    ·rename_i _ he
     refine BY.2 ⟨hr,ho,?_⟩
     cases xs with
     | nil=>rfl
     | cons y ys =>
       obtain ⟨g1,g2,g3⟩:=BY.1 h3
       exact BY.2 ⟨g1,fun q hq=>by cases hq; have:=g2 x rfl; omega,g3⟩
    ·exact BY.2 ⟨h1,h2,ih _ h3 (fun q hq=>by cases hq; omega)⟩
theorem Blk.put {b:List Row}(h:Blk b){r:Row}(hr:BU r=true):Blk (EG b r):=by
 rw [FU h]
 exact Td hr b none h AD
theorem Blk.nil:Blk []:=rfl
theorem Blk.foldl {b:List Row}:∀ {a:List Row},Blk a→(∀ r∈b,BU r=true)→Blk (b.foldl EG a):=by
 induction b with
 | nil=>intro a h _; exact h
 | cons x xs ih=>intro a h hr; exact ih (h.put (hr x AD)) (fun r hr'=>hr r (by simp [hr']))
theorem Blk.merge {a b:List Row}(ha:Blk a) (hb:Blk b):Blk (Bb a b):=Blk.foldl ha hb.rows
structure PrtI (p:Prt):Prop where
 len:p.ids.length=p.blocks.length
 le:p.blocks.length≤6
 blk:∀ b∈p.blocks,Blk b
theorem PrtI.sz {p:Prt}(h:PrtI p):CK p:=⟨h.len,by have:=h.le; omega,fun b hb=>by have:=(h.blk b hb).len; omega⟩
theorem PrtI.nil:PrtI ⟨[],[]⟩:=⟨rfl,by simp,by simp⟩
theorem PrtI.of {p:Prt}(h:PrtI p) (id:Int):Blk (partOf p id):=by
 rcases Iq id p.ids p.blocks with h1 | h1
 ·unfold partOf; rw [h1]; exact Blk.nil
 ·exact h.blk _ h1
theorem L6:∀ (bs:List (List Row)) (i:Nat),(BM i bs).1.length=(BM i bs).2.length∧(BM i bs).2.length≤bs.length∧∀ b∈(BM i bs).2,b∈bs:=by
 intro bs
 induction bs with
 | nil=>intro i; simp [BM]
 | cons b bs ih =>
   intro i
   obtain ⟨h1,h2,h3⟩:=ih (i+1)
   unfold BM
   split
   ·refine ⟨by simp [h1],by simp; omega,fun x hx=>?_⟩
    rcases List.mem_cons.1 hx with rfl | hx
    ·simp
    ·exact List.mem_cons_of_mem _ (h3 x hx)
   ·exact ⟨h1,by simp; omega,fun x hx=>List.mem_cons_of_mem _ (h3 x hx)⟩
theorem PrtI.make {bs:List (List Row)}(hl:bs.length≤6) (h:∀ b∈bs,Blk b):PrtI (Dy bs):=by
 obtain ⟨h1,h2,h3⟩:=L6 bs 0
 exact ⟨h1,by unfold Dy; dsimp only; omega,fun b hb=>h b (h3 b hb)⟩
theorem PrtI.merge {p q:Prt}(hp:PrtI p) (hq:PrtI q):PrtI (BA p q):=by
 refine PrtI.make (by rw [Dk]; omega) (fun b hb=>?_)
 simp only [BT,List.mem_map] at hb
 obtain ⟨i,_,rfl⟩:=hb
 exact (hp.of _).merge (hq.of _)
theorem RY:∀ (mem:List Smp) (bl:List (List Row)),bl.length=6→(∀ b∈bl,Blk b)→(∀ m∈mem,BU m.row=true)→(mem.foldl GQ bl).length=6∧∀ b∈mem.foldl GQ bl,Blk b:=by
 intro mem
 induction mem with
 | nil=>intro bl h1 h2 _; exact ⟨h1,h2⟩
 | cons m ms ih =>
   intro bl h1 h2 h3
   refine ih (GQ bl m) (by rw [RS,h1]) (fun b hb=>?_) (fun x hx=>h3 x (by simp [hx]))
   unfold GQ at hb
   rcases List.mem_or_eq_of_mem_set hb with hb | rfl
   ·exact h2 b hb
   ·refine Blk.put ?_ (h3 m AD)
    rw [List.getD_eq_getElem?_getD]
    cases hx:bl[(m.id - 1).toNat]? with
    | none=>exact Blk.nil
    | some y=>exact h2 y (AV hx)
theorem PrtI.mem {mem:List Smp}(h:∀ m∈mem,BU m.row=true):PrtI (Ah mem):=by
 obtain ⟨h1,h2⟩:=RY mem [[],[],[],[],[],[]] rfl (by simp [Blk.nil]) h
 exact PrtI.make AB h2
structure NmI (names:List (List Tag)):Prop where
 len:names.length≤6
 ok:∀ n∈names,At n=true
 nodup:(names.map text).Nodup
theorem DO {lo hi:Int}{s:Str}(h:LO lo hi s=true):s.length=1:=by
 match s,h with
 | [x],_=>rfl
 | [],h=>simp [LO] at h
 | x::y::r,h=>simp [LO] at h
theorem F3:∀ (n:List Tag) (o:Option Tag),DI o n=true→∀ t∈n,CI t=true:=by
 intro n
 induction n with
 | nil=>intro o _ t ht; cases ht
 | cons x xs ih =>
   intro o h t ht
   simp only [DI,AW] at h
   rcases List.mem_cons.1 ht with rfl | ht
   ·exact h.1.1
   ·exact ih _ h.2 t ht
theorem L7 {n:List Tag}(h:At n=true):n.length≤3∧Gi n:=by
 simp only [At,AW] at h
 have h1:=Bu h.2
 refine ⟨by omega,by omega,fun t ht=>?_⟩
 have h2:=F3 n none h.1 t ht
 simp only [CI,AW] at h2
 have h3:=DO h2.1
 have h4:=DO h2.2
 omega
theorem NmI.sz {names:List (List Tag)}(h:NmI names):∀ n∈names,Gi n:=fun n hn=>(L7 (h.ok n hn)).2
theorem Nt (t:Str):∀ (ns:List (List Tag)) (i:Nat),(nmF t i ns=0∧t∉ns.map text)∨((i:Int)< nmF t i ns∧nmF t i ns≤i+ns.length∧t∈ns.map text):=by
 intro ns
 induction ns with
 | nil=>intro i; simp [nmF]
 | cons x xs ih =>
   intro i
   unfold nmF
   by_cases h:text x=t
   ·right
    simp [h]
    omega
   ·have h1:¬ (text x==t)=true:=by simpa using h
    rw [if_neg h1]
    rcases ih (i+1) with ⟨h2,h3⟩ | ⟨h2,h3,h4⟩
    ·left
     refine ⟨h2,?_⟩
     simp only [List.map_cons,List.mem_cons,not_or]
     exact ⟨fun e=>h e.symm,h3⟩
    ·right
     refine ⟨by omega,by simp only [List.length_cons]; omega,?_⟩
     simp only [List.map_cons,List.mem_cons]
     exact .inr h4
theorem NmI.add {names:List (List Tag)}{ps:List Pst}(h:NmI names){n:List Tag}(hn:At n=true) (h0:¬ GP ⟨names,ps⟩ n > 0) (hl:names.length< 6):NmI (names++[n]):=by
 refine ⟨by simp; omega,fun m hm=>?_,?_⟩
 ·rcases List.mem_append.1 hm with hm | hm
  ·exact h.ok m hm
  ·simp at hm; rw [hm]; exact hn
 ·rw [List.map_append]
  refine List.nodup_append.2 ⟨h.nodup,by simp,fun a ha b hb=>?_⟩
  simp at hb
  subst hb
  rintro rfl
  rcases Nt (text n) names 0 with ⟨h2,h3⟩ | ⟨h2,_,_⟩
  ·exact h3 ha
  ·exact h0 (by unfold GP; simpa using h2)
structure StoI (s:Sto):Prop where
 idx:s.idx=idxOf s.idx.names
 nm:NmI s.idx.names
 np:s.parts.length≤6
 part:∀ p∈s.parts,PrtI p
 nm2:s.mem.length≤20
 mem:∀ m∈s.mem,1≤m.id∧m.id≤s.idx.names.length∧BU m.row=true
theorem StoI.sz {s:Sto}(h:StoI s):Nq s:=⟨⟨by have:=h.nm.len; omega,h.nm.sz⟩,by have:=h.np; omega,fun p hp=>(h.part p hp).sz,by have:=h.nm2; omega⟩
theorem StoI.copy {s:Sto}(h:StoI s):Ad s=s:=by
 have:=h.idx
 unfold Ad
 rw [← this]
theorem StoI.Iz {s:Sto}(h:StoI s):∀ m∈s.mem,1≤m.id∧m.id≤6:=fun m hm=>by
 have h1:=h.mem m hm
 have h2:=h.nm.len
 omega
theorem StoI.new:StoI ⟨⟨[],[]⟩,[],[]⟩:=⟨by rfl,⟨by simp,by simp,by simp⟩,by simp,by simp,by simp,by simp⟩
theorem RZ {ix:Idx}(h:ix=idxOf ix.names) (hn:NmI ix.names) (n:List Tag) :
 (BX ix n).1=idxOf (BX ix n).1.names∧NmI (BX ix n).1.names∧ix.names.length≤(BX ix n).1.names.length∧((BX ix n).2.2=true→1≤(BX ix n).2.1∧(BX ix n).2.1≤(BX ix n).1.names.length):=by
 by_cases h1:GP ix n > 0
 ·rw [Gn h1]
  refine ⟨h,hn,Nat.le_refl _,fun _=>?_⟩
  rcases Nt (text n) ix.names 0 with ⟨h2,_⟩ | ⟨h2,h3,_⟩
  ·unfold GP at h1; omega
  ·unfold GP at h1 ⊢; simp only; omega
 ·by_cases h2:At n=false∨(ix.names.length:Int)≥6
  ·rw [FA h1 h2]
   exact ⟨h,hn,Nat.le_refl _,by simp⟩
  ·have h3:At n=true:=by
    cases h4:At n
    ·exact absurd (.inl h4) h2
    ·rfl
   have h4:¬ (ix.names.length:Int)≥6:=fun h=>h2 (.inr h)
   rw [Gp h1 h3 h4]
   refine ⟨rfl,?_,by simp [idxOf],fun _=>by simp [idxOf]; omega⟩
   exact NmI.add (ps:=ix.AY) hn h3 h1 AB
theorem StoI.add {s:Sto}(h:StoI s) (n:List Tag) (r:Row):StoI (Ca s n r).1:=by
 unfold Ca
 split
 ·exact h
 ·rename_i h1
  split
  ·exact h
  ·simp only [Bool.or_eq_true,not_or] at h1
   obtain ⟨⟨h1,h2⟩,h3⟩:=h1
   obtain ⟨g1,g2,g3,g4⟩:=RZ h.idx h.nm n
   have h5:=g4 (by simpa using h1)
   refine ⟨g1,g2,h.np,h.part,?_,fun m hm=>?_⟩
   ·have:¬ s.mem.length≥20:=by simpa using h3
    simp only [Iv,List.length_append,List.length_cons,List.length_nil]; omega
   ·rcases List.mem_append.1 hm with hm | hm
    ·have:=h.mem m hm
     refine ⟨this.1,?_,this.2.2⟩
     have h6:=this.2.1
     show m.id≤((BX s.idx n).1.names.length:Int)
     omega
    ·simp at hm
     subst hm
     exact ⟨h5.1,h5.2,by simpa using h2⟩
theorem StoI.flush {s:Sto}(h:StoI s):StoI (BC s).1:=by
 unfold BC
 split
 ·exact h
 ·rename_i h1
  refine ⟨h.idx,h.nm,by simp; omega,fun p hp=>?_,by simp,by simp⟩
  rcases List.mem_append.1 hp with hp | hp
  ·exact h.part p hp
  ·simp at hp; subst hp; exact PrtI.mem (fun m hm=>(h.mem m hm).2.2)
theorem StoI.merge {s:Sto}(h:StoI s) (a:Int):StoI (BG s a).1:=by
 unfold BG
 split
 ·rename_i h1
  have h2:=Bu h1
  have h3:a.toNat+1< s.parts.length:=by omega
  refine ⟨h.idx,h.nm,?_,fun p hp=>?_,h.nm2,h.mem⟩
  ·show (F1 s.parts a.toNat).length≤6
   rw [HF (AU AB) (AU h3)]
   have:=h.np
   simp only [List.length_append,List.length_take,List.length_drop,List.length_cons,List.length_nil]
   omega
  ·change p∈F1 s.parts a.toNat at hp
   rw [HF (AU AB) (AU h3)] at hp
   rcases List.mem_append.1 hp with hp | hp
   ·rcases List.mem_append.1 hp with hp | hp
    ·exact h.part p (List.mem_of_mem_take hp)
    ·simp at hp; subst hp
     exact (h.part _ (List.getElem_mem _)).merge (h.part _ (List.getElem_mem _))
   ·exact h.part p (List.mem_of_mem_drop hp)
 ·exact h
structure DskI (d:Dsk):Prop where
 nm:NmI d.names
 nf:d.files.length≤20
 file:∀ f∈d.files,PrtI f.part
 nl:d.list.length≤6
 there:∀ n∈d.list,∃ f∈d.files,f.num=n
 num:∀ n∈d.list,0≤n∧n≤999
 next:1≤d.next∧d.next≤999
theorem QZ (n:Int):∀ (fs:List Fil) (i:Nat),0≤C3 n i fs↔∃ f∈fs,f.num=n:=by
 intro fs
 induction fs with
 | nil=>intro i; simp [C3]
 | cons f fs ih =>
   intro i
   unfold C3
   by_cases h:f.num=n
   ·simp [h]
   ·have h1:¬ (f.num==n)=true:=by simpa using h
    rw [if_neg h1,ih]
    simp [h]
theorem F4 (d:Dsk) (n:Int):0≤Ak d n↔∃ f∈d.files,f.num=n:=QZ n d.files 0
theorem DskI.at {d:Dsk}(h:DskI d):∀ n∈d.list,0≤Ak d n:=fun n hn=>(F4 d n).2 (h.there n hn)
theorem DskI.new:DskI ⟨[],[],[],1⟩:=⟨⟨by simp,by simp,by simp⟩,by simp,by simp,by simp,by simp,by simp,by simp⟩
theorem DskI.part {d:Dsk}(h:DskI d) (n:Int):PrtI (As d n):=by
 unfold As
 rw [List.getD_eq_getElem?_getD]
 cases hx:d.files[(Ak d n).toNat]? with
 | none=>exact PrtI.nil
 | some f=>exact h.file f (AV hx)
theorem DskI.copy {d:Dsk}(h:DskI d):DskI (BK d):=by
 refine ⟨h.nm,by simp [BK]; exact h.nf,fun f hf=>?_,h.nl,fun n hn=>?_,h.num,h.next⟩
 ·simp only [BK,List.mem_map] at hf
  obtain ⟨g,hg,rfl⟩:=hf
  exact (h.file g hg).merge PrtI.nil
 ·obtain ⟨f,hf,he⟩:=h.there n hn
  exact ⟨Kb f,by simp only [BK,List.mem_map]; exact ⟨f,hf,rfl⟩,he⟩
theorem DskI.tidy {d:Dsk}(h:DskI d):DskI (BR d):=by
 refine ⟨h.nm,Nat.le_trans (List.length_filter_le _ _) h.nf,fun f hf=>h.file f (List.mem_filter.1 hf).1,h.nl,fun n hn=>?_,h.num,h.next⟩
 obtain ⟨f,hf,he⟩:=h.there n hn
 exact ⟨f,List.mem_filter.2 ⟨hf,by rw [he]; have h1:n∈d.list:=hn; simpa using h1⟩,he⟩
theorem DskI.open {d:Dsk}(h:DskI d):StoI (Aj d):=by
 refine ⟨rfl,h.nm,by simp [Aj]; exact h.nl,fun p hp=>?_,by simp [Aj],by simp [Aj]⟩
 simp only [Aj,List.mem_map] at hp
 obtain ⟨n,_,rfl⟩:=hp
 exact h.part n
theorem DskI.gone {d:Dsk}(h:DskI d) (n:Int):DskI ⟨D3 d n,d.list,d.names,d.next⟩:=by
 unfold D3
 split
 ·rename_i h1
  refine ⟨h.nm,?_,fun f hf=>?_,h.nl,fun k hk=>?_,h.num,h.next⟩
  ·have:=h.nf
   simp only [List.length_append,List.length_take,List.length_drop]; omega
  ·rcases List.mem_append.1 hf with hf | hf
   ·exact h.file f (List.mem_of_mem_take hf)
   ·exact h.file f (List.mem_of_mem_drop hf)
  ·obtain ⟨f,hf,he⟩:=h.there k hk
   obtain ⟨i,hi,hif⟩:=List.mem_iff_getElem.1 hf
   have hne:k≠n:=by rintro rfl; have:=h1.2; simp at this; exact this hk
   have hat:∀ (fs:List Fil) (j:Nat) (g:Fil),0≤C3 n j fs→fs[(C3 n j fs).toNat - j]? = some g→g.num=n:=by
    intro fs
    induction fs with
    | nil=>intro j g hj; simp [C3] at hj
    | cons y ys ih =>
      intro j g hj hg
      unfold C3 at hj hg
      by_cases hy:(y.num==n)=true
      ·rw [if_pos hy] at hg
       simp at hg
       subst hg
       simpa using hy
      ·rw [if_neg hy] at hj hg
       have h3:=KH n ys (j+1)
       have h4:(C3 n (j+1) ys).toNat - j=((C3 n (j+1) ys).toNat - (j+1))+1:=by omega
       rw [h4,List.getElem?_cons_succ] at hg
       exact ih _ _ hj hg
   have hin:i≠(Ak d n).toNat:=by
    rintro rfl
    have:=hat d.files 0 f h1.1 (by show d.files[(Ak d n).toNat - 0]? = _; rw [Nat.sub_zero,AU hi,hif])
    exact hne (he▸this)
   refine ⟨f,?_,he⟩
   rcases Nat.lt_or_gt_of_ne hin with hlt | hgt
   ·refine List.mem_append.2 (.inl (List.mem_iff_getElem.2 ⟨i,by simp; omega,?_⟩))
    rw [List.getElem_take]; exact hif
   ·refine List.mem_append.2 (.inr (List.mem_iff_getElem.2 ⟨i - ((Ak d n).toNat+1),by simp; omega,?_⟩))
    rw [List.getElem_drop]
    simp only [show (Ak d n).toNat+1+(i - ((Ak d n).toNat+1))=i by omega]
    exact hif
 ·exact h
theorem DskI.Uv {d:Dsk}(h:DskI d){p:Prt}(hp:PrtI p) (hf:d.files.length< 20) (hn:d.next< 999):DskI ⟨d.files++[⟨d.next,p⟩],d.list,d.names,d.next+1⟩:=by
 refine ⟨h.nm,by simp; omega,fun f hf=>?_,h.nl,fun n hn=>?_,h.num,by have:=h.next; simp only; omega⟩
 ·rcases List.mem_append.1 hf with hf | hf
  ·exact h.file f hf
  ·simp at hf; subst hf; exact hp
 ·obtain ⟨f,hf,he⟩:=h.there n hn
  exact ⟨f,List.mem_append.2 (.inl hf),he⟩
structure WI (w:Wld):Prop where
 sto:StoI w.store
 dsk:DskI w.disk
theorem WI.new:WI ⟨⟨⟨[],[]⟩,[],[]⟩,⟨[],[],[],1⟩⟩:=⟨StoI.new,DskI.new⟩
theorem WI.TN {w:Wld}(h:DskI w.disk):WI (BV w):=by
 have h1:=h.tidy.copy
 refine ⟨?_,h1⟩
 show StoI (Ad (Aj (BK (BR w.disk))))
 rw [h1.open.copy]
 exact h1.open
theorem WI.copy {w:Wld}(h:WI w):WI (Cq w):=⟨by show StoI (Ad w.store); rw [h.sto.copy]; exact h.sto,h.dsk.copy⟩
structure StI (d:Dsk) (st:List Stp):Prop where
 len:st.length≤4
 sz:∀ x∈st,Ja x
 ok:∀ k:Nat,DskI ((st.take k).foldl doD d)
theorem StI.nil {d:Dsk}(h:DskI d):StI d []:=⟨by simp,by simp,by simpa using h⟩
theorem I0 {d:Dsk}{x:Stp}{xs:List Stp}(h0:DskI d) (h:∀ k:Nat,DskI ((xs.take k).foldl doD (doD d x))):∀ k:Nat,DskI (((x::xs).take k).foldl doD d):=by
 intro k
 cases k with
 | zero=>exact h0
 | succ k=>exact h k
theorem P0 {d:Dsk}(h0:DskI d):∀ k:Nat,DskI ((([]:List Stp).take k).foldl doD d):=by intro k; simpa using h0
theorem StI.flush {w:Wld}(h:WI w):StI w.disk (BE w.disk w.store):=by
 unfold BE
 split
 ·exact StI.nil h.dsk
 ·rename_i h1
  have hd:=h.dsk
  have hs:=h.sto
  have hp:PrtI (Ah w.store.mem):=PrtI.mem (fun m hm=>(hs.mem m hm).2.2)
  have h2:=hd.Uv hp AB AB
  have hn:=hd.next
  refine ⟨by simp,fun x hx=>?_,?_⟩
  ·simp only [List.mem_cons,List.not_mem_nil,or_false] at hx
   rcases hx with rfl | rfl
   ·exact ⟨by simp,by simp,by simp,by simp only; omega,by simp only; omega⟩
   ·refine ⟨?_,?_,fun n hn=>?_,by simp,by simp⟩
    ·have:=hd.nl; simp; omega
    ·have:=hs.nm.len; simp only; omega
    ·have:=(hs.nm.sz n hn).1; omega
  ·refine I0 hd (I0 ?_ (P0 ?_))
   ·rw [E2 rfl]; exact h2
   ·rw [Gr rfl,E2 rfl]
    refine ⟨hs.nm,h2.nf,h2.file,by simp only [List.length_append,List.length_cons,List.length_nil]; omega,fun n hn'=>?_,fun n hn'=>?_,h2.next⟩
    ·rcases List.mem_append.1 hn' with hn' | hn'
     ·exact h2.there n hn'
     ·simp at hn'; subst hn'
      exact ⟨⟨w.disk.next,Ah w.store.mem⟩,by simp,rfl⟩
    ·rcases List.mem_append.1 hn' with hn' | hn'
     ·exact h2.num n hn'
     ·simp at hn'; omega
theorem StI.merge {d:Dsk}(hd:DskI d) (at_:Int):StI d (BF d at_):=by
 unfold BF
 split
 ·exact StI.nil hd
 ·rename_i h1
  simp only [Bool.or_eq_true,not_or,Bool.not_eq_true,Bool.not_eq_false',decide_eq_true_eq] at h1
  obtain ⟨⟨h1,h3⟩,h4⟩:=h1
  have h0:=Bu (by simpa using h1)
  have hl:at_.toNat+1< d.list.length:=by omega
  have ha:d.list.getD at_.toNat 0∈d.list:=by rw [List.getD_eq_getElem?_getD,AU AB]; exact List.getElem_mem _
  have hb:d.list.getD (at_.toNat+1) 0∈d.list:=by rw [List.getD_eq_getElem?_getD,AU hl]; exact List.getElem_mem _
  have na:=hd.num _ ha
  have nb:=hd.num _ hb
  generalize d.list.getD at_.toNat 0=a at *
  generalize d.list.getD (at_.toNat+1) 0=b at *
  have hp:PrtI (BA (As d a) (As d b)):=(hd.part a).merge (hd.part b)
  have h2:=hd.Uv hp AB AB
  have hn:=hd.next
  have hlen:(d.list.take at_.toNat++[d.next]++d.list.drop (at_.toNat+2)).length≤6:=by
   have:=hd.nl
   simp only [List.length_append,List.length_take,List.length_drop,List.length_cons,List.length_nil]; omega
  have hm:∀ n∈d.list.take at_.toNat++[d.next]++d.list.drop (at_.toNat+2),n∈d.list∨n=d.next:=by
   intro n hn
   rcases List.mem_append.1 hn with hn | hn
   ·rcases List.mem_append.1 hn with hn | hn
    ·exact .inl (List.mem_of_mem_take hn)
    ·simp at hn; exact .inr hn
   ·exact .inl (List.mem_of_mem_drop hn)
  have h5:DskI ⟨d.files++[⟨d.next,BA (As d a) (As d b)⟩],d.list.take at_.toNat++[d.next]++d.list.drop (at_.toNat+2),d.names,d.next+1⟩:=by
   refine ⟨h2.nm,h2.nf,h2.file,hlen,fun n hn'=>?_,fun n hn'=>?_,h2.next⟩
   ·rcases hm n hn' with hn' | rfl
    ·exact h2.there n hn'
    ·exact ⟨⟨d.next,BA (As d a) (As d b)⟩,by simp,rfl⟩
   ·rcases hm n hn' with hn' | rfl
    ·exact h2.num n hn'
    ·omega
  refine ⟨by simp,fun x hx=>?_,?_⟩
  ·simp only [List.mem_cons,List.not_mem_nil,or_false] at hx
   rcases hx with rfl | rfl | rfl | rfl
   ·exact ⟨by simp,by simp,by simp,by simp only; omega,by simp only; omega⟩
   ·refine ⟨by simp only; omega,by have:=hd.nm.len; simp only; omega,fun n hn=>?_,by simp,by simp⟩
    have:=(hd.nm.sz n hn).1; omega
   ·exact ⟨by simp,by simp,by simp,by simp only; omega,by simp only; omega⟩
   ·exact ⟨by simp,by simp,by simp,by simp only; omega,by simp only; omega⟩
  ·refine I0 hd (I0 ?_ (I0 ?_ (I0 ?_ (P0 ?_))))
   ·rw [E2 rfl]; exact h2
   ·rw [Gr rfl,E2 rfl]; exact h5
   ·rw [FB rfl,Gr rfl,E2 rfl]; exact h5.gone a
   ·rw [FB rfl,FB rfl,Gr rfl,E2 rfl]; exact (h5.gone a).gone b
theorem WI.steps {w:Wld}(h:WI w){st:List Stp}(hs:StI w.disk st) (cut:Int){s:Sto}(h2:StoI s):WI (Bn w st cut s):=by
 unfold Bn
 split
 ·exact h
 ·split
  ·exact WI.TN (hs.ok _)
  ·exact ⟨h2,hs.ok _⟩
theorem WI.do {w:Wld}(h:WI w) (e:Evt):WI (doW w e):=by
 unfold doW
 split
 ·split
  ·exact ⟨h.sto.add _ _,h.dsk⟩
  ·exact h
 ·split
  ·exact h.steps (StI.flush h) _ h.sto.flush
  ·split
   ·exact h.steps (StI.merge h.dsk _) _ (h.sto.merge _)
   ·split
    ·exact WI.TN h.dsk
    ·exact h
theorem FV {w:Wld}{st:List Stp}{c:Int}{s:Sto}(h:(st.length:Int)=0∨c< 0):Bn w st c s=w:=by unfold Bn; rw [if_pos AB]
theorem Gt {w:Wld}{st:List Stp}{c:Int}{s:Sto}(h:(st.length:Int)≠0) (h2:¬ c< 0) (h3:c< st.length):Bn w st c s=BV ⟨w.store,toD w.disk st c⟩:=by unfold Bn; rw [if_neg AB,if_pos h3]
theorem Gu {w:Wld}{st:List Stp}{c:Int}{s:Sto}(h:(st.length:Int)≠0) (h2:¬ c< 0) (h3:¬ c< st.length):Bn w st c s=⟨s,toD w.disk st c⟩:=by unfold Bn; rw [if_neg AB,if_neg h3]
theorem P1 {w:Wld}{e:Evt}(h:e.kind=1) (h2:At e.name=true):doW w e=⟨(Ca w.store e.name e.row).1,w.disk⟩:=by unfold doW; rw [if_pos h,if_pos h2]
theorem M4 {w:Wld}{e:Evt}(h:e.kind=1) (h2:At e.name=false):doW w e=w:=by unfold doW; rw [if_pos h,if_neg (by simp [h2])]
theorem Nu {w:Wld}{e:Evt}(h:e.kind=2):doW w e=Bn w (BE w.disk w.store) e.cut (BC w.store).1:=by unfold doW; rw [if_neg AB,if_pos h]
theorem Nv {w:Wld}{e:Evt}(h:e.kind=3):doW w e=Bn w (BF w.disk e.at_) e.cut (BG w.store e.at_).1:=by unfold doW; rw [if_neg AB,if_neg AB,if_pos h]
theorem Ra {w:Wld}{e:Evt}(h:e.kind=4):doW w e=BV w:=by unfold doW; rw [if_neg AB,if_neg AB,if_neg AB,if_pos h]
theorem Rc {w:Wld}{e:Evt}(h:e.kind≠1) (h2:e.kind≠2) (h3:e.kind≠3) (h4:e.kind≠4):doW w e=w:=by unfold doW; rw [if_neg h,if_neg h2,if_neg h3,if_neg h4]
end Go.Proofs.YtcginoabkicdiaaGreat
namespace Go.Proofs.YtcginoabkicdiaaGreat
set_option maxRecDepth 100000
set_option maxHeartbeats 4000000
variable {w:World} {F:Nat→Prop} {a1 a2 a3 a4 a5 a6 a7 a8 a9 a10 a11 a12:Option Addr} {n1 c1 n2 c2 n3 c3 n4 c4 n5 c5 n6 c6 n7 c7 n8 c8 n9 c9 n10 c10 n11 c11 n12 c12:Nat}
theorem Kd (w_:Wld) (h1:RepS w F a1 n1 c1 w_.store.idx.names) (h2:RepS w F a2 n2 c2 w_.store.idx.AY) (h3:RepS w F a3 n3 c3 w_.store.parts) (h4:RepS w F a4 n4 c4 w_.store.mem) (h5:RepS w F a5 n5 c5 w_.disk.files) (h6:RepS w F a6 n6 c6 w_.disk.list) (h7:RepS w F a7 n7 c7 w_.disk.names) (p0:WI w_):Calls Tryz.prog 24 [.agg #[.slice a1 n1 c1,.slice a2 n2 c2,.slice a3 n3 c3,.slice a4 n4 c4,.slice a5 n5 c5,.slice a6 n6 c6,.slice a7 n7 c7,.int .i64 w_.disk.next]].toArray w (Ag fun rv w'=>(∃ (a0:Option Addr) (n0 c0:Nat) (a1:Option Addr) (n1 c1:Nat) (a2:Option Addr) (n2 c2:Nat) (r3 n3 c3:Nat) (r4 n4 c4:Nat) (r5 n5 c5:Nat) (r6 n6 c6:Nat),rv=.agg #[.slice a0 n0 c0,.slice a1 n1 c1,.slice a2 n2 c2,.slice (some ⟨r3,0,none⟩) n3 c3,.slice (some ⟨r4,0,none⟩) n4 c4,.slice (some ⟨r5,0,none⟩) n5 c5,.slice (some ⟨r6,0,none⟩) n6 c6,.int .i64 ((((Cq w_)).disk).next)]∧RepS w' (nin (ge w.heap.size) [r3,r4,r5,r6]) a0 n0 c0 (((((Cq w_)).store).idx).names)∧RepS w' (nin (ge w.heap.size) [r3,r4,r5,r6]) a1 n1 c1 (((((Cq w_)).store).idx).AY)∧RepS w' (nin (ge w.heap.size) [r3,r4,r5,r6]) a2 n2 c2 ((((Cq w_)).store).parts)∧Own w' r3 158 (nin (ge w.heap.size) [r3,r4,r5,r6]) n3 c3 ((((Cq w_)).store).mem)∧w.heap.size≤r3∧Own w' r4 148 (nin (ge w.heap.size) [r3,r4,r5,r6]) n4 c4 ((((Cq w_)).disk).files)∧w.heap.size≤r4∧Nb r4 r3∧Own w' r5 3 (nin (ge w.heap.size) [r3,r4,r5,r6]) n5 c5 ((((Cq w_)).disk).list)∧w.heap.size≤r5∧Nb r5 r3∧Nb r5 r4∧Own w' r6 69 (nin (ge w.heap.size) [r3,r4,r5,r6]) n6 c6 ((((Cq w_)).disk).names)∧w.heap.size≤r6∧Nb r6 r3∧Nb r6 r4∧Nb r6 r5)∧Ext w w'):=by
 cases h1.len
 cases h2.len
 cases h3.len
 cases h4.len
 cases h5.len
 cases h6.len
 cases h7.len
 refine goT func24 ?_
 have Z:=(((((((St.i0 F w).p h1).p h2).p h3).p h4).p h5).p h6).p h7
 have aR:=h5.max
 have aS:=h6.max
 have aT:=h7.max
 refine .s<|.g<|RG.Np Z fun aU w Z=>RG.Np Z fun aV w Z=>.d<|.s<|T.Gd 5 Z fun w Z=>.r [0]<|GA.Ln 1 1 Z<|.r [3]<|GA.Ln 4 1 Z<|.go 2<|GE.Cg (fun w Z=>Gq w_.store (Z.a 6) (Z.a 5) (Z.a 4) (Z.a 3) p0.sto.sz) Z ?_
 rintro w _ w Z ⟨⟨ag,aW,ah,ai,aX,aj,ak,aY,am,ao,aZ,aq,rfl,ar,ax,ay,aa,az⟩,ab⟩
 refine ⟨Ext.chg ab,?_⟩
 cases ar.len
 cases ax.len
 cases ay.len
 cases aa.len
 have Z:=Z.so ab [.own 0 ao 158 aq (((Ad w_.store)).mem)] [.rep ag ah ((((Ad w_.store)).idx).names),.rep ai aj ((((Ad w_.store)).idx).AY),.rep ak am (((Ad w_.store)).parts)] nd1 (oN aa az o0) (fc ar (fc ax (fc ay fn_)))
 refine GA.Dn Z fun w Z=>RG.cl (Gs w_.disk (Z.a 5) (Z.a 4) (Z.a 3) (by have:=p0.dsk.nm.len; omega) (fun n hn=>by have:=(p0.dsk.nm.sz n hn).1; omega) (by have:=p0.dsk.nl; omega) (by have:=p0.dsk.nf; omega) (fun f hf=>(p0.dsk.file f hf).sz)) ?_
 rintro _ w ⟨⟨aA,ba,aB,aC,bg,aD,aE,bh,aF,rfl,ac,aG,ae,aH,aI,af,aJ,aK,aL⟩,aM⟩
 cases ac.len
 cases ae.len
 cases af.len
 have Z:=Z.so aM [.own 0 aA 148 aB (((BK w_.disk)).files),.own 0 aC 3 aD (((BK w_.disk)).list),.own 0 aE 69 aF (((BK w_.disk)).names)] [] (nd3 aI aK aL) (oN ac aG (oN ae aH (oN af aJ o0))) fn_
 exact .r 1<|RG.Ss 4 Z fun w Z=>.d<|T.Rb 4 func24 results24 Z ⟨⟨ag,(((((Ad w_.store)).idx).names).length),ah,ai,(((((Ad w_.store)).idx).AY).length),aj,ak,((((Ad w_.store)).parts).length),am,ao,((((Ad w_.store)).mem).length),aq,aA,((((BK w_.disk)).files).length),aB,aC,((((BK w_.disk)).list).length),aD,aE,((((BK w_.disk)).names).length),aF,(by rw [show ((((Cq w_)).disk).next)=(((BK w_.disk)).next) from Eq.symm AF]; kernel_rfl),Z.qr [3,0,1,2] 0 ((((Ad w_.store)).idx).names) AF,Z.qr [3,0,1,2] 1 ((((Ad w_.store)).idx).AY) AF,Z.qr [3,0,1,2] 2 (((Ad w_.store)).parts) AF,Z.qo [3,0,1,2] 3 (((Ad w_.store)).mem) AF,Z.qb 3,Z.qo [3,0,1,2] 0 (((BK w_.disk)).files) AF,Z.qb 0,Z.qn 0 3,Z.qo [3,0,1,2] 1 (((BK w_.disk)).list) AF,Z.qb 1,Z.qn 1 3,Z.qn 1 0,Z.qo [3,0,1,2] 2 (((BK w_.disk)).names) AF,Z.qb 2,Z.qn 2 3,Z.qn 2 0,Z.qn 2 1⟩,Z.xt⟩
theorem Gv (w_:Wld) (h1:RepS w F a1 n1 c1 w_.store.idx.names) (h2:RepS w F a2 n2 c2 w_.store.idx.AY) (h3:RepS w F a3 n3 c3 w_.store.parts) (h4:RepS w F a4 n4 c4 w_.store.mem) (h5:RepS w F a5 n5 c5 w_.disk.files) (h6:RepS w F a6 n6 c6 w_.disk.list) (h7:RepS w F a7 n7 c7 w_.disk.names) (p0:DskI w_.disk):Calls Tryz.prog 56 [.agg #[.slice a1 n1 c1,.slice a2 n2 c2,.slice a3 n3 c3,.slice a4 n4 c4,.slice a5 n5 c5,.slice a6 n6 c6,.slice a7 n7 c7,.int .i64 w_.disk.next]].toArray w (Ag fun rv w'=>VS (ge w.heap.size) w' (BV w_:Wld) rv∧Ext w w'):=by
 cases h1.len
 cases h2.len
 cases h3.len
 cases h4.len
 cases h5.len
 cases h6.len
 cases h7.len
 refine goT func56 ?_
 have Z:=(((((((St.i0 F w).p h1).p h2).p h3).p h4).p h5).p h6).p h7
 have aR:=h5.max
 refine .s<|.g<|RG.Np Z fun aU w Z=>RG.Np Z fun aV w Z=>.d<|.s<|.g<|.r 1<|RG.Ln 1 Z<|RG.CS (Ka w_.disk (Z.mg 1 2) (Z.mg 1 1) (Z.mg 1 0) (by have:=p0.nf; omega)) Z fun aW aX aY aZ ba bg w Z=>RG.cl (Gs (BR w_.disk) (Z.a 0) (Z.a 1) (Z.a 2) (by have:=p0.tidy.nm.len; omega) (fun n hn=>by have:=(p0.tidy.nm.sz n hn).1; omega) (by have:=p0.tidy.nl; omega) (by have:=p0.tidy.nf; omega) (fun f hf=>(p0.tidy.file f hf).sz)) ?_
 rintro _ w ⟨⟨az,bh,aA,aB,bi,aC,aD,bj,aE,rfl,aa,af,ab,ag,ah,ac,ai,aj,ak⟩,am⟩
 cases aa.len
 cases ab.len
 cases ac.len
 have Z:=Z.so am [.own 0 az 148 aA (((BK (BR w_.disk))).files),.own 0 aB 3 aC (((BK (BR w_.disk))).list),.own 0 aD 69 aE (((BK (BR w_.disk))).names)] [] (nd3 ah aj ak) (oN aa af (oN ab ag (oN ac ai o0))) fn_
 refine .r 1<|RG.Ss 4 Z fun w Z=>.d<|.s<|.g<|.r 1<|RG.Ln 4 Z ?_
 have Z:=((Z.sl 0).sl 0).sl 0
 refine RG.CS (Kc ((BK (BR w_.disk))) (Z.mg 1 2) (Z.mg 1 1) (Z.mg 1 0) (by have:=p0.tidy.copy.nm.len; omega) p0.tidy.copy.nm.sz (by have:=p0.tidy.copy.nl; omega) p0.tidy.copy.at) Z fun bk bm bn bo bq br bu bv w Z=>RG.cl (Gq (⟨(⟨((Aj ((BK (BR w_.disk)))).idx).names,((Aj ((BK (BR w_.disk)))).idx).AY⟩:Idx),(Aj ((BK (BR w_.disk)))).parts,(Aj ((BK (BR w_.disk)))).mem⟩:Sto) (Z.a 0) (Z.a 1) (Z.a 2) (Z.a 3) p0.tidy.copy.open.sz) ?_
 rintro _ w ⟨⟨aF,bw,aG,aH,bz,aI,aJ,bA,aK,aL,bC,aM,rfl,ao,aq,ar,ae,ax⟩,ay⟩
 cases ao.len
 cases aq.len
 cases ar.len
 cases ae.len
 have Z:=Z.so ay [.own 0 aL 158 aM (((Ad (⟨(⟨((Aj ((BK (BR w_.disk)))).idx).names,((Aj ((BK (BR w_.disk)))).idx).AY⟩:Idx),(Aj ((BK (BR w_.disk)))).parts,(Aj ((BK (BR w_.disk)))).mem⟩:Sto))).mem)] [.rep aF aG ((((Ad (⟨(⟨((Aj ((BK (BR w_.disk)))).idx).names,((Aj ((BK (BR w_.disk)))).idx).AY⟩:Idx),(Aj ((BK (BR w_.disk)))).parts,(Aj ((BK (BR w_.disk)))).mem⟩:Sto))).idx).names),.rep aH aI ((((Ad (⟨(⟨((Aj ((BK (BR w_.disk)))).idx).names,((Aj ((BK (BR w_.disk)))).idx).AY⟩:Idx),(Aj ((BK (BR w_.disk)))).parts,(Aj ((BK (BR w_.disk)))).mem⟩:Sto))).idx).AY),.rep aJ aK (((Ad (⟨(⟨((Aj ((BK (BR w_.disk)))).idx).names,((Aj ((BK (BR w_.disk)))).idx).AY⟩:Idx),(Aj ((BK (BR w_.disk)))).parts,(Aj ((BK (BR w_.disk)))).mem⟩:Sto))).parts)] nd1 (oN ae ax o0) (fc ao (fc aq (fc ar fn_)))
 refine .r 1<|RG.Ss 2 Z fun w Z=>.d<|.s<|.g<|RG.Ln 2 Z<|RG.Ss 1 Z fun w Z=>.d ?_
 have Z:=Z.sl 0
 exact T.Rb 0 func56 results56 Z ⟨Z.rS (⟨(⟨(⟨(((Ad (⟨(⟨((Aj ((BK (BR w_.disk)))).idx).names,((Aj ((BK (BR w_.disk)))).idx).AY⟩:Idx),(Aj ((BK (BR w_.disk)))).parts,(Aj ((BK (BR w_.disk)))).mem⟩:Sto))).idx).names,(((Ad (⟨(⟨((Aj ((BK (BR w_.disk)))).idx).names,((Aj ((BK (BR w_.disk)))).idx).AY⟩:Idx),(Aj ((BK (BR w_.disk)))).parts,(Aj ((BK (BR w_.disk)))).mem⟩:Sto))).idx).AY⟩:Idx),((Ad (⟨(⟨((Aj ((BK (BR w_.disk)))).idx).names,((Aj ((BK (BR w_.disk)))).idx).AY⟩:Idx),(Aj ((BK (BR w_.disk)))).parts,(Aj ((BK (BR w_.disk)))).mem⟩:Sto))).parts,((Ad (⟨(⟨((Aj ((BK (BR w_.disk)))).idx).names,((Aj ((BK (BR w_.disk)))).idx).AY⟩:Idx),(Aj ((BK (BR w_.disk)))).parts,(Aj ((BK (BR w_.disk)))).mem⟩:Sto))).mem⟩:Sto),(⟨((BK (BR w_.disk))).files,((BK (BR w_.disk))).list,((BK (BR w_.disk))).names,((BK (BR w_.disk))).next⟩:Dsk)⟩:Wld) [1,2,3,0,10,9,8] AF,Z.xt⟩
theorem GJ (w_:Wld) (steps:List Stp) (cut:Int) (s:Sto) (h1:RepS w F a1 n1 c1 w_.store.idx.names) (h2:RepS w F a2 n2 c2 w_.store.idx.AY) (h3:RepS w F a3 n3 c3 w_.store.parts) (h4:RepS w F a4 n4 c4 w_.store.mem) (h5:RepS w F a5 n5 c5 w_.disk.files) (h6:RepS w F a6 n6 c6 w_.disk.list) (h7:RepS w F a7 n7 c7 w_.disk.names) (h8:RepS w F a8 n8 c8 steps) (h9:RepS w F a9 n9 c9 s.idx.names) (h10:RepS w F a10 n10 c10 s.idx.AY) (h11:RepS w F a11 n11 c11 s.parts) (h12:RepS w F a12 n12 c12 s.mem) (p0:WI w_) (p1:StI w_.disk steps) (p2:StoI s):Calls Tryz.prog 52 [.agg #[.slice a1 n1 c1,.slice a2 n2 c2,.slice a3 n3 c3,.slice a4 n4 c4,.slice a5 n5 c5,.slice a6 n6 c6,.slice a7 n7 c7,.int .i64 w_.disk.next],.slice a8 n8 c8,.int .i64 cut,.agg #[.slice a9 n9 c9,.slice a10 n10 c10,.slice a11 n11 c11,.slice a12 n12 c12]].toArray w (Ag fun rv w'=>VS (fo F w.heap.size) w' (Bn w_ steps cut s:Wld) rv∧Ext w w'):=by
 cases h1.len
 cases h2.len
 cases h3.len
 cases h4.len
 cases h5.len
 cases h6.len
 cases h7.len
 cases h8.len
 cases h9.len
 cases h10.len
 cases h11.len
 cases h12.len
 refine goT func52 ?_
 have Z:=((((((((((((St.i0 F w).p h1).p h2).p h3).p h4).p h5).p h6).p h7).p h8).p h9).p h10).p h11).p h12
 have ai:=h5.max
 have aj:=h6.max
 have am:=h8.max
 exact .s<|.g<|RG.Np Z fun ay w Z=>RG.Np Z fun az w Z=>RG.Np Z fun aA w Z=>.d<|.s<|.s<|.g<|.r 2<|.eq (steps.length:Int) 0 (fun aa=>.r 4<|.d<|.ct<|.s<|.g<|RG.Ln 2 Z<|RG.Ss 0 Z fun w Z=>.d<|T.Rb 0 func52 results52 Z ⟨Z.rS (g:=1) w_ [11,10,9,8,7,6,5] (by rw [FV AB]),Z.xt⟩) fun aa=>.r 2<|.bp (cut< 0) (fun ab=>.r 1<|.d<|.ct<|.s<|.g<|RG.Ln 2 Z<|RG.Ss 0 Z fun w Z=>.d<|T.Rb 0 func52 results52 Z ⟨Z.rS (g:=1) w_ [11,10,9,8,7,6,5] (by rw [FV AB]),Z.xt⟩) fun ab=>.r 1<|.d<|.cf<|.sk<|.s<|.g<|.r 1<|RG.Ln 2 Z<|.r 2<|RG.CS (M0 w_.disk steps cut (Z.mg 1 7) (Z.mg 1 6) (Z.mg 1 5) (Z.mg 1 4) (by have:=p0.dsk.nf; omega) (by have:=p1.len; omega) (by have:=p0.dsk.nl; omega) p1.sz) Z fun aB aC aD aE aF aG w Z=>.r 1<|RG.Ss 2 Z fun w Z=>.d<|.s<|.s<|.g<|.r 3<|.bp (cut< (steps.length:Int)) (fun ac=>.d<|.ct<|.s<|.g<|RG.Ln 2 Z<|RG.CS (Gv (⟨(⟨(⟨w_.store.idx.names,w_.store.idx.AY⟩:Idx),w_.store.parts,w_.store.mem⟩:Sto),(⟨(toD w_.disk steps cut).files,(toD w_.disk steps cut).list,(toD w_.disk steps cut).names,(toD w_.disk steps cut).next⟩:Dsk)⟩:Wld) (Z.a 14) (Z.a 13) (Z.a 12) (Z.a 11) (Z.a 0) (Z.a 1) (Z.a 2) (p1.ok _)) Z fun aH aI aJ aK aL aM aN aO aP aQ aR aS aT aU w Z=>RG.Ss 0 Z fun w Z=>.d<|T.Rb 0 func52 results52 Z ⟨Z.rS (g:=1) (⟨(⟨(⟨(((BV (⟨(⟨(⟨w_.store.idx.names,w_.store.idx.AY⟩:Idx),w_.store.parts,w_.store.mem⟩:Sto),(⟨(toD w_.disk steps cut).files,(toD w_.disk steps cut).list,(toD w_.disk steps cut).names,(toD w_.disk steps cut).next⟩:Dsk)⟩:Wld)).store).idx).names,(((BV (⟨(⟨(⟨w_.store.idx.names,w_.store.idx.AY⟩:Idx),w_.store.parts,w_.store.mem⟩:Sto),(⟨(toD w_.disk steps cut).files,(toD w_.disk steps cut).list,(toD w_.disk steps cut).names,(toD w_.disk steps cut).next⟩:Dsk)⟩:Wld)).store).idx).AY⟩:Idx),((BV (⟨(⟨(⟨w_.store.idx.names,w_.store.idx.AY⟩:Idx),w_.store.parts,w_.store.mem⟩:Sto),(⟨(toD w_.disk steps cut).files,(toD w_.disk steps cut).list,(toD w_.disk steps cut).names,(toD w_.disk steps cut).next⟩:Dsk)⟩:Wld)).store).parts,((BV (⟨(⟨(⟨w_.store.idx.names,w_.store.idx.AY⟩:Idx),w_.store.parts,w_.store.mem⟩:Sto),(⟨(toD w_.disk steps cut).files,(toD w_.disk steps cut).list,(toD w_.disk steps cut).names,(toD w_.disk steps cut).next⟩:Dsk)⟩:Wld)).store).mem⟩:Sto),(⟨((BV (⟨(⟨(⟨w_.store.idx.names,w_.store.idx.AY⟩:Idx),w_.store.parts,w_.store.mem⟩:Sto),(⟨(toD w_.disk steps cut).files,(toD w_.disk steps cut).list,(toD w_.disk steps cut).names,(toD w_.disk steps cut).next⟩:Dsk)⟩:Wld)).disk).files,((BV (⟨(⟨(⟨w_.store.idx.names,w_.store.idx.AY⟩:Idx),w_.store.parts,w_.store.mem⟩:Sto),(⟨(toD w_.disk steps cut).files,(toD w_.disk steps cut).list,(toD w_.disk steps cut).names,(toD w_.disk steps cut).next⟩:Dsk)⟩:Wld)).disk).list,((BV (⟨(⟨(⟨w_.store.idx.names,w_.store.idx.AY⟩:Idx),w_.store.parts,w_.store.mem⟩:Sto),(⟨(toD w_.disk steps cut).files,(toD w_.disk steps cut).list,(toD w_.disk steps cut).names,(toD w_.disk steps cut).next⟩:Dsk)⟩:Wld)).disk).names,((BV (⟨(⟨(⟨w_.store.idx.names,w_.store.idx.AY⟩:Idx),w_.store.parts,w_.store.mem⟩:Sto),(⟨(toD w_.disk steps cut).files,(toD w_.disk steps cut).list,(toD w_.disk steps cut).names,(toD w_.disk steps cut).next⟩:Dsk)⟩:Wld)).disk).next⟩:Dsk)⟩:Wld) [0,1,2,3,4,5,6] (by rw [Gt AB AB AB]),Z.xt⟩) fun ac=>.d<|.cf<|.sk<|.s<|.g<|RG.Ln 1 Z<|.r 1<|RG.Ss 2 Z fun w Z=>.d<|.s<|.g<|RG.Ln 2 Z<|RG.Ss 0 Z fun w Z=>.d<|T.Rb 0 func52 results52 Z ⟨Z.rS (g:=1) (⟨(⟨(⟨s.idx.names,s.idx.AY⟩:Idx),s.parts,s.mem⟩:Sto),(⟨(toD w_.disk steps cut).files,(toD w_.disk steps cut).list,(toD w_.disk steps cut).names,(toD w_.disk steps cut).next⟩:Dsk)⟩:Wld) [6,5,4,3,0,1,2] (by rw [Gu AB AB AB]),Z.xt⟩
end Go.Proofs.YtcginoabkicdiaaGreat
namespace Go.Proofs.YtcginoabkicdiaaGreat
def Uw (n m:Nat) (ops:Array Oper) (l is:List Nat) (e:Env):Bool :=
 is.all (fun i=>Ci n m ops l i&&CA n ops i e)&&decide (KQ ops l=is) && !is.isEmpty
section
variable {P:Program} {S:Nat→Prop} {n m:Nat} {L:Env→World→Prop} {ops:Array Oper} {l:List Nat} {e:Env} {w:World}
theorem GE.many (is:List Nat) (h:Uw n m ops l is e=true) (H:∀ i∈is,GE P S n m L ops l i e w):GA P S n m L ops l e w:=by
 intro hB f a hf ha inv
 simp only [Uw,AW,decide_eq_true_eq,List.all_eq_true] at h
 obtain ⟨⟨h1,hready⟩,hne⟩:=h
 rw [Im] at hready
 have hne:is≠[]:=by rintro rfl; simp at hne
 obtain ⟨i0,hi0⟩:=List.exists_mem_of_ne_nil is hne
 have hlm:=(Da (h1 i0 hi0).1).1
 obtain ⟨f,rfl⟩:∃ g,f=g+1:=⟨f - 1,by omega⟩
 have key:∀ k,Ci n m ops l k=true→CA n ops k e=true→GE P S n m L ops l k e w→∀ w1,Ext w w1→k< m∧gOp P S ops k (Jk P S ops m (fun listed a' w'=>listed=fin ops m∧∃ e',Sees n a' e'∧L e' w') f ((lst ops.size l).setIfInBounds k true)) a w1:=by
  intro k hk1 hk2 HK w1 hx
  obtain ⟨_,him,hd,hi,hr⟩:=Da hk1
  refine ⟨him,?_⟩
  simp only [CA,AW] at hk2
  unfold gOp
  simp only [hi]
  rw [ha.want,hk2.2,if_pos rfl,ha.eval]
  refine EK (fun v w2 _ hq=>?_) (HK w1 hx)
  have:=hq hB f (a.put (Ac ops k).dst v) (by simp only [List.length_cons]; omega) (ha.LK hd v) (by rw [Co]; exact inv.set hr him)
  rwa [Co] at this
 refine ⟨by rw [hready]; exact hne,fun w1 hx k hk=>?_⟩
 rw [hready] at hk
 exact key k (h1 k hk).1 (h1 k hk).2 (H k hk) w1 hx
end
theorem GA.quo {P:Program}{S:Nat→Prop}{n m:Nat}{L:Env→World→Prop}{ops:Array Oper}{l:List Nat}{e:Env}{w:World}{i:Nat}{t:TypeId}{a b:Int}(hb:gB n m ops l i=true) (h:Gg n ops i e=some (.quo,t,.int .i64 a,.int .i64 b)) (hb0:b≠0) (hr:-9223372036854775808≤a.tdiv b∧a.tdiv b≤9223372036854775807)
 (H:GA P S n m L ops (i::l) (Af e (Ac ops i).dst (.int .i64 (a.tdiv b))) w):GA P S n m L ops l e w :=
 GA.Mn hb (fun w=>EQ h (fun _ _=>Pq hb0 hr w)) H
theorem Cov.mk1 (w:World) (b:Nat):Cov (Go.Proofs.YtcginoabkicdiaaGreat.one b) w b:=⟨.inl rfl⟩
instance {w:World}{b:Nat}:Cov (Go.Proofs.YtcginoabkicdiaaGreat.one b) w b:=⟨.inl rfl⟩
def Xn (t:Tag):Prop:=t.key.length≤1000∧t.val.length≤1000
def NmD (n:List Tag):Prop:=n.length≤5∧∀ t∈n,Xn t
def Nw (r:Row):Prop:=-1≤r.t∧r.t≤100 ∧ -100≤r.v∧r.v≤100
end Go.Proofs.YtcginoabkicdiaaGreat
namespace Go.Proofs.YtcginoabkicdiaaGreat
def Te (P:Program) (s d:TypeId):Bool :=
 match P.underlying s,P.underlying d with
 | some (.slice e),some .string=>(match P.underlying e with | some (.int .u8)=>true | _=>false)
 | _,_=>false
theorem Ke {P:Program}{w:World}{r:Nat}{src dst:TypeId}{y:UInt8}{c:Nat}(h:Has w ⟨r,0,none⟩ [.int .u8 (y.toNat:Int)]) (hb:Te P src dst=true) :
 (convert src dst (.slice (some ⟨r,0,none⟩) 1 c)).run P w=.ok (.string (bs [y])) w:=by
 unfold Te at hb
 split at hb
 ·rename_i e h1 h2
  split at hb
  ·rename_i h3
   have h4:=run_loadCellsFrom (P:=P) ⟨r,0,none⟩ [.int .u8 (y.toNat:Int)] 0 #[] _ rfl h
   have h5:(loadCells ⟨r,0,none⟩ 1).run P w=.ok #[.int .u8 (y.toNat:Int)] w:=h4
   have h6:(Conv.bytesToString (.slice (some ⟨r,0,none⟩) 1 c)).run P w=.ok (.string (bs [y])) w:=by
    unfold Conv.bytesToString
    simp only []
    rw [AX h5]
    simp [go_sem]
    rfl
   unfold convert
   rw [AX (run_underlying h1 w),AX (run_underlying h2 w)]
   simp only []
   rw [AX (run_underlying h3 w)]
   exact h6
  ·cases hb
 ·cases hb
def Re (n:Nat) (ops:Array Oper) (j:Nat) (e:Env):Option (TypeId × TypeId × Value) :=
 bif CA n ops j e then
  match (Ac ops j).op with
  | .convert s d x=>some (s,d,ev e x)
  | _=>none
 else none
theorem I1 {P:Program}{n:Nat}{ops:Array Oper}{j:Nat}{e:Env}{s d:TypeId}{a v:Value}{w:World}(h:Re n ops j e=some (s,d,a))
 (hr:(convert s d a).run P w=.ok v w):CA n ops j e=true∧(execOp (ev e) (Ac ops j)).run P w=.ok (.value v) w:=by
 obtain ⟨hg,h⟩:=CE h
 refine ⟨hg,?_⟩
 split at h
 ·rename_i s' d' x hop
  simp only [Option.some.injEq,Prod.mk.injEq] at h
  obtain ⟨rfl,rfl,rfl⟩:=h
  simp only [execOp,hop]
  exact AX hr
 ·cases h
theorem GA.b2s {P:Program}{n m:Nat}{L:Env→World→Prop}{ops:Array Oper}{l:List Nat}{e:Env}{w:World}{i:Nat}{s d:TypeId}{r c:Nat}{y:UInt8}{t:TypeId}{F:Nat→Prop}
 (hb:gB n m ops l i=true) (ho:Own w r t F 1 c [y]) (h:Re n ops i e=some (s,d,.slice (some ⟨r,0,none⟩) 1 c)) (ht:Te P s d=true)
 (H:GA P nil n m L ops (i::l) (Af e (Ac ops i).dst (.string (bs [y]))) w):GA P nil n m L ops l e w:=by
 obtain ⟨cs,h1,h2⟩:=ho.elem 0 y rfl
 cases h1
 have h3:Has w ⟨r,0,none⟩ [.int .u8 (y.toNat:Int)]:=by simpa using h2
 have h4:=I1 (P:=P) (w:=w) h (Ke h3 ht)
 refine GA.det (by unfold gB at hb; rw [hb,h4.1]; rfl) (fun w1 hx=>?_) H
 exact (I1 (P:=P) (w:=w1) h (Ke (h3.ext hx) ht)).2
end Go.Proofs.YtcginoabkicdiaaGreat
namespace Go.Proofs.YtcginoabkicdiaaGreat
theorem NmD.sz {n:List Tag}(h:NmD n):Gi n:=⟨Nat.le_trans h.1 AE,h.2⟩
theorem NmD.nil:NmD []:=⟨by simp,by simp⟩
def NsD (ns:List (List Tag)):Prop:=∀ n∈ns,NmD n
structure WD (w:Wld):Prop where
 wi:WI w
 sn:NsD w.store.idx.names
 dn:NsD w.disk.names
theorem NsD.nil:NsD []:=by intro n hn; cases hn
theorem WD.new:WD ⟨⟨⟨[],[]⟩,[],[]⟩,⟨[],[],[],1⟩⟩:=⟨WI.new,NsD.nil,NsD.nil⟩
theorem Qa (Q:List (List Tag)→Prop):∀ (st:List Stp) (d:Dsk),Q d.names→(∀ x∈st,x.kind=2→Q x.names)→Q (st.foldl doD d).names:=by
 intro st
 induction st with
 | nil=>intro d h _; exact h
 | cons x xs ih =>
   intro d h hs
   refine ih (doD d x) ?_ (fun y hy=>hs y (by simp [hy]))
   unfold doD
   split
   ·exact h
   ·split
    ·exact hs x AD ‹_›
    ·split
     ·exact h
     ·exact h
theorem WD.steps {w:Wld}(h:WD w){st:List Stp}(hs:∀ x∈st,x.kind=2→NsD x.names) (cut:Int){s:Sto}(h2:NsD s.idx.names):NsD (Bn w st cut s).store.idx.names∧NsD (Bn w st cut s).disk.names:=by
 have h3:NsD (toD w.disk st cut).names:=Qa NsD _ _ h.dn (fun x hx hk=>hs x (List.mem_of_mem_take hx) hk)
 unfold Bn
 split
 ·exact ⟨h.sn,h.dn⟩
 ·split
  ·exact ⟨h3,h3⟩
  ·exact ⟨h2,h3⟩
theorem O6 {s:Sto}{n:List Tag}{r:Row}(h:NsD s.idx.names) (hn:NmD n):NsD (Ca s n r).1.idx.names:=by
 have h1:NsD (BX s.idx n).1.names:=by
  unfold BX
  split
  ·exact h
  ·split
   ·exact h
   ·intro m hm
    rcases List.mem_append.1 hm with hm | hm
    ·exact h m hm
    ·simp at hm; rw [hm]; exact hn
 unfold Ca
 split
 ·exact h
 ·split
  ·exact h
  ·exact h1
theorem O7 (s:Sto):(BC s).1.idx=s.idx:=by unfold BC; split <;> rfl
theorem O8 (s:Sto) (a:Int):(BG s a).1.idx=s.idx:=by unfold BG; split <;> rfl
theorem Qb {w:Wld}(h:WD w):∀ x∈BE w.disk w.store,x.kind=2→NsD x.names:=by
 unfold BE
 split
 ·intro x hx; cases hx
 ·intro x hx _
  simp only [List.mem_cons,List.not_mem_nil,or_false] at hx
  rcases hx with rfl | rfl
  ·exact NsD.nil
  ·exact h.sn
theorem Qc {d:Dsk}(h:NsD d.names) (a:Int):∀ x∈BF d a,x.kind=2→NsD x.names:=by
 unfold BF
 split
 ·intro x hx; cases hx
 ·intro x hx _
  simp only [List.mem_cons,List.not_mem_nil,or_false] at hx
  rcases hx with rfl | rfl | rfl | rfl
  ·exact NsD.nil
  ·exact h
  ·exact NsD.nil
  ·exact NsD.nil
theorem WD.do {w:Wld}(h:WD w){e:Evt}(he:NmD e.name):WD (doW w e):=by
 have key:NsD (doW w e).store.idx.names∧NsD (doW w e).disk.names:=by
  unfold doW
  split
  ·split
   ·exact ⟨O6 h.sn he,h.dn⟩
   ·exact ⟨h.sn,h.dn⟩
  ·split
   ·exact h.steps (Qb h) _ (by rw [O7]; exact h.sn)
   ·split
    ·exact h.steps (Qc h.dn _) _ (by rw [O8]; exact h.sn)
    ·split
     ·exact ⟨h.dn,h.dn⟩
     ·exact ⟨h.sn,h.dn⟩
 exact ⟨h.wi.do e,key.1,key.2⟩
theorem WD.copy {w:Wld}(h:WD w):WD (Cq w):=⟨h.wi.copy,h.sn,h.dn⟩
def EvD (e:Evt):Prop:=NmD e.name∧Nw e.row
structure SD (s:Sto):Prop where
 idx:s.idx=idxOf s.idx.names
 nm:NmI s.idx.names
 nd:NsD s.idx.names
 np:s.parts.length≤6
 part:∀ p∈s.parts,PrtI p
 nm2:s.mem.length≤21
 mem:∀ m∈s.mem,0≤m.id∧m.id≤7∧Nw m.row
theorem Rf {r:Row}(h:BU r=true):Nw r:=by
 have h1:=M3 h
 have h2:=Tc h
 unfold Nw
 omega
theorem WD.sd {w:Wld}(h:WD w):SD w.store:=⟨h.wi.sto.idx,h.wi.sto.nm,h.sn,h.wi.sto.np,h.wi.sto.part,by have:=h.wi.sto.nm2; omega,fun m hm=>by
 have h1:=h.wi.sto.Iz m hm
 exact ⟨by omega,by omega,Rf (h.wi.sto.mem m hm).2.2⟩⟩
end Go.Proofs.YtcginoabkicdiaaGreat
namespace Go.Proofs.YtcginoabkicdiaaGreat
def IC:List Tag:=(List.range' 97 4).flatMap (fun k=>(List.range' 112 11).map (H9 k))
theorem Qd (names:List (List Tag)) (k:Nat):∀ f v,Fy names k f v=((List.range' v f).map (H9 k)).flatMap (Ec names):=by
 intro f
 induction f with
 | zero=>intro v; rfl
 | succ f ih=>intro v; rw [Fy,ih,List.range'_succ]; rfl
theorem Qe (names:List (List Tag)):∀ f k,F0 names f k=((List.range' k f).flatMap (fun k=>(List.range' 112 11).map (H9 k))).flatMap (Ec names):=by
 intro f
 induction f with
 | zero=>intro k; rfl
 | succ f ih=>intro k; rw [F0,ih,Qd,show List.range' k (f+1)=k::List.range' (k+1) f from rfl,List.flatMap_cons,List.flatMap_append]
theorem F5 (names:List (List Tag)):DG names=IC.flatMap (Ec names):=Qe names 4 97
theorem M5:IC.Pairwise (fun a b=>Dj a b=true):=by decide +kernel
theorem Qf {t:Tag}(h:CI t=true):t∈IC:=by
 simp only [CI,AW] at h
 obtain ⟨h1,h2⟩:=h
 obtain ⟨x,hx⟩:∃ x,t.key=[x]:=by
  have:=DO h1
  match t.key,this with
  | [x],_=>exact ⟨x,rfl⟩
 obtain ⟨y,hy⟩:∃ y,t.val=[y]:=by
  have:=DO h2
  match t.val,this with
  | [y],_=>exact ⟨y,rfl⟩
 rw [hx] at h1
 rw [hy] at h2
 have g1:=Bu h1
 have g2:=Bu h2
 unfold IC
 refine List.mem_flatMap.2 ⟨x.toNat,?_,List.mem_map.2 ⟨y.toNat,?_,?_⟩⟩
 ·rw [List.mem_range'_1]; omega
 ·rw [List.mem_range'_1]; omega
 ·cases t
  simp only at hx hy
  subst hx hy
  simp [H9]
theorem L8 {names:List (List Tag)}{p:Pst}(h:p∈DG names):p.ids=ids names p.tag∧0< p.ids.length∧p.tag∈IC:=by
 rw [F5] at h
 obtain ⟨t,ht,hp⟩:=List.mem_flatMap.1 h
 unfold Ec at hp
 split at hp
 ·simp at hp
  subst hp
  exact ⟨rfl,by assumption,ht⟩
 ·cases hp
theorem Rh {names:List (List Tag)}{t:Tag}(h:t∈IC) (h2:0< (ids names t).length):⟨t,ids names t⟩∈DG names:=by
 rw [F5]
 refine List.mem_flatMap.2 ⟨t,h,?_⟩
 unfold Ec
 rw [if_pos h2]
 simp
theorem M6 (names:List (List Tag)):(DG names).Pairwise (fun a b=>Dj a.tag b.tag=true):=by
 rw [F5,List.pairwise_flatMap]
 refine ⟨fun t _=>?_,M5.imp ?_⟩
 ·unfold Ec
  split <;> simp
 ·intro a b hab x hx y hy
  have h1:x.tag=a:=by
   unfold Ec at hx
   split at hx
   ·simp at hx; rw [hx]
   ·cases hx
  have h2:y.tag=b:=by
   unfold Ec at hy
   split at hy
   ·simp at hy; rw [hy]
   ·cases hy
  rw [h1,h2]
  exact hab
theorem I2:∀ (s:Str),Bk s s=false:=by
 intro s
 induction s with
 | nil=>rfl
 | cons x xs ih =>
   have ih':Op.bytesLess xs xs=false:=ih
   show (decide (x< x) || x==x&&Op.bytesLess xs xs)=false
   simp [ih']
theorem L9 {a b:Tag}(ha:CI a=true) (hb:CI b=true) (h:Bk a.key b.key=true):∃ x y,a.key=[x]∧b.key=[y]∧x.toNat< y.toNat:=by
 simp only [CI,AW] at ha hb
 have h1:=DO ha.1
 have h2:=DO hb.1
 match ha':a.key,h1,hb':b.key,h2 with
 | [x], _, [y], _ =>
   rw [ha',hb',KU] at h
   exact ⟨x,y,rfl,rfl,by simpa using h⟩
theorem O9:∀ (n:List Tag) (o:Option Tag),DI o n=true→(∀ q,o=some q→CI q=true)→(∀ q,o=some q→∀ t∈n,Bk q.key t.key=true)∧n.Nodup:=by
 intro n
 induction n with
 | nil=>intro o _ _; exact ⟨fun _ _ t ht=>(by cases ht),by simp⟩
 | cons t ts ih =>
   intro o h ho
   simp only [DI,AW] at h
   obtain ⟨⟨h1,h2⟩,h3⟩:=h
   obtain ⟨g1,g2⟩:=ih (some t) h3 (fun q hq=>by cases hq; exact h1)
   refine ⟨fun q hq u hu=>?_,List.nodup_cons.2 ⟨fun hm=>?_,g2⟩⟩
   ·subst hq
    have h4:Bk q.key t.key=true:=h2
    rcases List.mem_cons.1 hu with rfl | hu
    ·exact h4
    ·have h5:=g1 t rfl u hu
     obtain ⟨x,y,e1,e2,l1⟩:=L9 (ho q rfl) h1 h4
     obtain ⟨y',z,e3,e4,l2⟩:=L9 h1 (F3 ts (some t) h3 u hu) h5
     rw [e2] at e3
     cases e3
     rw [e1,e4,KU]
     simp; omega
   ·have h5:=g1 t rfl t hm
    rw [I2] at h5
    cases h5
theorem ID {n:List Tag}(h:At n=true):n.Nodup∧∀ t∈n,t∈IC:=by
 simp only [At,AW] at h
 exact ⟨(O9 n none h.1 AD).2,fun t ht=>Qf (F3 n none h.1 t ht)⟩
end Go.Proofs.YtcginoabkicdiaaGreat
namespace Go.Proofs.YtcginoabkicdiaaGreat
structure IxI (x:Idx):Prop where
 eq:x=idxOf x.names
 nm:NmI x.names
theorem IxI.AY {x:Idx}(h:IxI x):x.AY=DG x.names:=by have:=h.eq; rw [this]; rfl
theorem IxI.sz {x:Idx}(h:IxI x):RT x:=⟨by have:=h.nm.len; omega,h.nm.sz⟩
theorem SD.ix {s:Sto}(h:SD s):IxI s.idx:=⟨h.idx,h.nm⟩
theorem SD.sz {s:Sto}(h:SD s):Nq s:=⟨h.ix.sz,by have:=h.np; omega,fun p hp=>(h.part p hp).sz,by have:=h.nm2; omega⟩
theorem Tf (names:List (List Tag)) (t:Tag):(ids names t).length≤names.length:=by
 unfold ids
 have:∀ (ns:List (List Tag)) (i:Nat),(Ft t i ns).length≤ns.length:=by
  intro ns
  induction ns with
  | nil=>intro i; simp [Ft]
  | cons n ns ih =>
    intro i
    have:=ih (i+1)
    rw [Ft,List.length_append,List.length_cons]
    split <;> simp <;> omega
 exact this names 0
theorem Qg (names:List (List Tag)):(DG names).length≤44:=by
 rw [F5]
 have h:∀ U:List Tag,(U.flatMap (Ec names)).length≤U.length:=by
  intro U
  induction U with
  | nil=>simp
  | cons t ts ih =>
    rw [List.flatMap_cons,List.length_append,List.length_cons]
    have:(Ec names t).length≤1:=by unfold Ec; split <;> simp
    omega
 have h2:IC.length=44:=by decide +kernel
 have:=h IC
 omega
theorem M7 {α:Type}{f:α→Bool}{l:List α}{i:Nat}{x:α}{b:Bool}(h:(l.drop i).all f=b) (hd:l.drop i=x::l.drop (i+1)) (hx:f x=true):(l.drop (i+1)).all f=b:=by
 rw [hd,List.all_cons,hx,Bool.true_and] at h
 exact h
theorem MA {α:Type}{f:α→Bool}{l:List α}{i:Nat}{x:α}{b:Bool}(h:(l.drop i).all f=b) (hd:l.drop i=x::l.drop (i+1)) (hx:f x=false):b=false:=by
 rw [hd,List.all_cons,hx,Bool.false_and] at h
 exact h.symm
theorem PA {α:Type}{f:α→Bool}{l:List α}{i:Nat}{b:Bool}(h:(l.drop i).all f=b) (hi:l.length≤i):b=true:=by
 rw [Aa hi] at h
 exact h.symm
def Ed (n:Nat) (m:Smp):Bool:=inR m.id 1 n&&BU m.row
def Ee (s:Sto) (i:Nat):Bool:=decide ((rowsOf s ((i:Int)+1)).length≤24)
def Ae (s:Sto):Bool :=
 decide (s.parts.length≤6)&&decide (s.mem.length≤20)&&s.parts.all (fun p=>Bj p s.idx.names.length)&&s.mem.all (Ed s.idx.names.length)&&(List.range s.idx.names.length).all (Ee s)
theorem MB {s:Sto}(h:(s.parts.length:Int) > 6∨(s.mem.length:Int) > 20):Ae s=false:=by
 unfold Ae
 rcases h with h | h
 ·rw [decide_eq_false AB]; simp
 ·rw [decide_eq_false (p:=s.mem.length≤20) AB]; simp
theorem I3 {s:Sto}(h:s.parts.all (fun p=>Bj p s.idx.names.length)=false):Ae s=false:=by unfold Ae; rw [h]; simp
theorem MC {s:Sto}(h:s.mem.all (Ed s.idx.names.length)=false):Ae s=false:=by unfold Ae; rw [h]; simp
theorem Qh {s:Sto}(h:(List.range s.idx.names.length).all (Ee s)=false):Ae s=false:=by unfold Ae; rw [h]; simp
theorem Qi {s:Sto}(h1:¬ (s.parts.length:Int) > 6) (h2:¬ (s.mem.length:Int) > 20) (h3:s.parts.all (fun p=>Bj p s.idx.names.length)=true) (h4:s.mem.all (Ed s.idx.names.length)=true) (h5:(List.range s.idx.names.length).all (Ee s)=true):Ae s=true:=by
 unfold Ae
 rw [h3,h4,h5,decide_eq_true AB,decide_eq_true AB]
 rfl
theorem Nx {n i:Nat}(h:i< n):(List.range n).drop i=i::(List.range n).drop (i+1):=by
 rw [List.drop_eq_getElem_cons (by simpa using h)]
 simp
def Db (s:Sto) (n:List Tag) (r:Row):Sto × Bool:=if Ae s=true∧At n=true then Ca (Ad s) n r else (⟨⟨[],[]⟩,[],[]⟩,false)
theorem KI {s:Sto}{n:List Tag}{r:Row}(h:Ae s=false∨At n=false):Db s n r=(⟨⟨[],[]⟩,[],[]⟩,false):=by
 unfold Db
 rw [if_neg]
 rintro ⟨h1,h2⟩
 rcases h with h | h
 ·rw [h] at h1; cases h1
 ·rw [h] at h2; cases h2
theorem Gw {s:Sto}{n:List Tag}{r:Row}(h:Ae s=true) (h2:At n=true):Db s n r=Ca (Ad s) n r:=by unfold Db; rw [if_pos ⟨h,h2⟩]
theorem SD.copy {s:Sto}(h:SD s):Ad s=s:=by
 have:=h.idx
 unfold Ad
 rw [← this]
theorem Tg {s:Sto}{n k:Nat}{b:Bool}(h:((List.range n).drop (k - 1)).all (Ee s)=b) (h1:1≤k) (h2:k≤n) (h3:((rowsOf s (k:Int)).length:Int)≤24):((List.range n).drop (k+1 - 1)).all (Ee s)=b:=by
 have hd:=Nx (n:=n) (i:=k - 1) AB
 have:=M7 h hd (by unfold Ee; rw [show ((k - 1:Nat):Int)+1=(k:Int) by omega]; simp; omega)
 rw [show k+1 - 1=k - 1+1 by omega]
 exact this
theorem Ws {s:Sto}{n k:Nat}{b:Bool}(h:((List.range n).drop (k - 1)).all (Ee s)=b) (h1:1≤k) (h2:k≤n) (h3:((rowsOf s (k:Int)).length:Int) > 24):b=false:=by
 have hd:=Nx (n:=n) (i:=k - 1) AB
 exact MA h hd (by unfold Ee; rw [show ((k - 1:Nat):Int)+1=(k:Int) by omega]; simp; omega)
theorem Vf {s:Sto}{n k:Nat}{b:Bool}(h:((List.range n).drop (k - 1)).all (Ee s)=b) (h1:n+1≤k):b=true:=PA h (by simp; omega)
end Go.Proofs.YtcginoabkicdiaaGreat
