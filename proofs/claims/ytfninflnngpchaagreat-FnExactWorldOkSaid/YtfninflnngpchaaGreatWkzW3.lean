/- walks; squeezed -/
import Derived.Test.YtfninflnngpchaaGreatWkzMem
open Go.Proofs.Tryz
set_option linter.unusedVariables false
set_option linter.unusedSimpArgs false
namespace Go.Proofs.YtfninflnngpchaaGreat
set_option maxRecDepth 100000
set_option maxHeartbeats 4000000
variable {w:World} {F:Nat→Prop} {a1 a2:Option Addr} {n1 c1 n2 c2:Nat}
theorem IQ (n:List Tag) (h1:RepS w F a1 n1 c1 n)  : Calls Tryz.prog 83 [.slice a1 n1 c1].toArray w (Ad fun rv w'=>rv=.bool (Aj n)∧Ext w w'):=by
 cases h1.len
 refine goT func83 ?_
 have Z:=(St.i0 F w).p h1
 have aj:=h1.max
 refine .s<|.g<|.r 1<|.d<|.s<|.s<|.g<|.r 1<|.d<|.b 0<|T.Lp (0:Nat) (fun i=>([(0,.slice a1 n.length c1),(3,vI (i:Int))],[],[],n.length - i,(i≤n.length)∧(CI (prev n i) (n.drop i)=CI none n))) [] Z ⟨(by simp [prev]),(by simp [prev])⟩ ?_
 rintro i ay w Z ⟨ak,am⟩ E
 refine .s<|.s<|.g<|.r 3<|.bp ((i:Int)< (n.length:Int)) (fun af=>?_) (fun af=>.d<|.cf<|.x 0 rfl<|.s<|.g<|.r 2<|RG.C0 (Bb (n.length:Int) 1 3 (F:=all)) Z fun w Z=>.r 1<|.d<|T.rt func83 results83 (.bool (inR (n.length:Int) 1 3)) ⟨(AG (by grind [CI,Aj,prev,AY])),Z.xt⟩)
 refine .d<|.ct<|.sk<|.s<|.b 1<|.s<|T.Gd 21 Z fun w Z=>.r [0,1]<|gx n i fun ac aa=>?_
 have ao:=drop_at aa; have ah:=AV aa
 refine GA.Ix 2 0 aa Z<|Z.el 0 aa fun Z=>GA.Lg 3 0 0 Z<|GA.C0 4 Z (fun w Z=>Ja ac (F:=all)) ?_
 cases aq:(Ba ac)
 ·exact .r [5,6]<|GA.Sk Z fun w Z=>.r 3<|.d<|.ct<|.s<|.g<|.r 1<|.d<|T.rt func83 results83 (.bool false) ⟨(AG (by grind [CI,Aj,prev,AY])),Z.xt⟩
 refine .r [5,6,7]<|GA.Cr (i:=8) ((i:Int) > 0) AA (fun ag=>?_) (fun ag=>.r [9]<|GA.Sk Z fun w Z=>.r 3<|.d<|.cf<|.sk<|.ib 1<|.g<|.r 1<|.it ((i:Int)+1)<|.r 1<|.d<|E (i+1) _ _ AA (Z.to 0 [] 1) ⟨AB,(by grind [CI,prev])⟩ (by first | omega | (simp only []; omega)))
 refine .r [9,10,11]<|GA.int (i:=12) ((i:Int) - 1) AA AB<|gx n (i - 1) fun ae ab=>?_
 have ar:=drop_at ab; have ai:=AV ab
 refine GA.Jx 13 1 ((i:Int) - 1) ab Z<|.r [14]<|Z.el 1 ab fun Z=>GA.Lh 15 0 0 Z<|.r [16,17]<|GA.Ix 18 2 aa Z<|.r [19]<|GA.Lh 20 1 0 Z<|GA.Dn Z fun w Z=>RG.eqv (v:=.bool (!(Au ae.key ac.key))) AA (Oi ae.key ac.key) ?_
 cases ax:(Au ae.key ac.key)
 ·exact .r 2<|.d<|.ct<|.s<|.g<|.r 1<|.d<|T.rt func83 results83 (.bool false) ⟨(AG (by grind [CI,Aj,prev,AY])),Z.xt⟩
 exact .r 2<|.d<|.cf<|.sk<|.ib 1<|.g<|.r 1<|.it ((i:Int)+1)<|.r 1<|.d<|E (i+1) _ _ AA (Z.to 0 [] 2) ⟨AB,(by grind [CI,prev])⟩ (by first | omega | (simp only []; omega))
theorem IS (n:List Tag) (h1:RepS w F a1 n1 c1 n)  : Calls Tryz.prog 162 [.slice a1 n1 c1].toArray w (Ad fun rv w'=>rv=.bool (Aj n)∧Ext w w'):=by
 cases h1.len
 refine goT func162 ?_
 have Z:=(St.i0 F w).p h1
 have aj:=h1.max
 refine .s<|.g<|.r 1<|.d<|.s<|.s<|.g<|.r 3<|.d<|.b 0<|T.Lp (0:Nat) (fun k=>([(0,.slice a1 n.length c1),(5,.slice a1 n.length c1),(6,vI (n.length:Int)),(7,vI (k:Int))],[],[],n.length - k,(k≤n.length)∧(CI (prev n k) (n.drop k)=CI none n))) [] Z ⟨(by simp [prev]),(by simp [prev])⟩ ?_
 rintro k ay w Z ⟨ak,am⟩ E
 refine .s<|.g<|.bp ((k:Int)< (n.length:Int)) (fun af=>?_) (fun af=>.d<|.s<|.cf<|.x 0 rfl<|.s<|.g<|.r 2<|RG.C0 (Be (n.length:Int) 1 3 (F:=all)) Z fun w Z=>.r 1<|.d<|T.rt func162 results162 (.bool (inR (n.length:Int) 1 3)) ⟨(AG (by grind [CI,Aj,prev,AY])),Z.xt⟩)
 refine .d<|.s<|.ct<|.sk<|.s<|.b 1<|.s<|.g<|.r 1<|gx n k fun ac aa=>?_
 have ao:=drop_at aa; have ah:=AV aa
 refine RG.Ix 0 aa Z<|Z.el 0 aa fun Z=>RG.Lg 0 0 Z<|RG.Np Z fun az w Z=>.r 1<|RG.Ss 0 Z fun w Z=>.d<|.s<|T.Gd 15 Z fun w Z=>GA.Ln 0 0 Z<|GA.C0 1 Z (fun w Z=>Jb ac (F:=all)) ?_
 cases aq:(Ba ac)
 ·exact .r [2,3]<|GA.Sk Z fun w Z=>.r 3<|.d<|.ct<|.s<|.g<|.r 1<|.d<|T.rt func162 results162 (.bool false) ⟨(AG (by grind [CI,Aj,prev,AY])),Z.xt⟩
 refine .r [2,3,4]<|GA.Cr (i:=5) ((k:Int) > 0) AA (fun ag=>?_) (fun ag=>.r [6]<|GA.Sk Z fun w Z=>.r 3<|.d<|.cf<|.sk<|.ib 1<|.g<|.it ((k:Int)+1)<|.r 1<|.d<|E (k+1) _ _ AA (Z.to 1 [] 1) ⟨AB,(by grind [CI,prev])⟩ (by first | omega | (simp only []; omega)))
 refine .r [6,7,8]<|GA.int (i:=9) ((k:Int) - 1) AA AB<|gx n (k - 1) fun ae ab=>?_
 have ar:=drop_at ab; have ai:=AV ab
 refine GA.Jx 10 1 ((k:Int) - 1) ab Z<|.r [11]<|Z.el 1 ab fun Z=>GA.Lh 12 0 0 Z<|.r [13]<|GA.Lb 14 0 Z<|GA.Dn Z fun w Z=>RG.eqv (v:=.bool (!(Au ae.key ac.key))) AA (Oi ae.key ac.key) ?_
 cases ax:(Au ae.key ac.key)
 ·exact .r 2<|.d<|.ct<|.s<|.g<|.r 1<|.d<|T.rt func162 results162 (.bool false) ⟨(AG (by grind [CI,Aj,prev,AY])),Z.xt⟩
 exact .r 2<|.d<|.cf<|.sk<|.ib 1<|.g<|.it ((k:Int)+1)<|.r 1<|.d<|E (k+1) _ _ AA (Z.to 1 [] 2) ⟨AB,(by grind [CI,prev])⟩ (by first | omega | (simp only []; omega))
theorem C9 (b:List Row) (h1:RepS w F a1 n1 c1 b)  : Calls Tryz.prog 131 [.slice a1 n1 c1].toArray w (Ad fun rv w'=>rv=.bool (Af b)∧Ext w w'):=by
 cases h1.len
 refine goT func131 ?_
 have Z:=(St.i0 F w).p h1
 have ak:=h1.max
 refine .s<|.g<|.r 1<|.d<|.s<|.s<|.g<|.r 1<|.d<|.b 0<|T.Lp (0:Nat) (fun i=>([(0,.slice a1 b.length c1),(3,vI (i:Int))],[],[],b.length - i,(i≤b.length)∧(A9 (prev b i) (b.drop i)=A9 none b))) [] Z ⟨(by simp [prev]),(by simp [prev])⟩ ?_
 rintro i ay w Z ⟨am,ao⟩ E
 refine .s<|.s<|.g<|.r 3<|.bp ((i:Int)< (b.length:Int)) (fun ae=>?_) (fun ae=>.d<|.cf<|.x 0 rfl<|.s<|.g<|.r 4<|.d<|T.rt func131 results131 (.bool (decide ((b.length:Int)≤24))) ⟨(AG (by grind [A9,Af,prev,AY])),Z.xt⟩)
 refine .d<|.ct<|.sk<|.s<|.b 1<|.s<|T.Gd 21 Z fun w Z=>.r [0,1]<|gx b i fun ac aa=>?_
 have aq:=drop_at aa; have ah:=AV aa
 refine GA.Ix 2 0 aa Z<|Z.el 0 aa fun Z=>GA.Lg 3 0 0 Z<|GA.C0 4 Z (fun w Z=>FQ ac (F:=all)) ?_
 cases ar:(BF ac)
 ·exact .r [5,6]<|GA.Sk Z fun w Z=>.r 3<|.d<|.ct<|.s<|.g<|.r 1<|.d<|T.rt func131 results131 (.bool false) ⟨(AG (by grind [A9,Af,prev,AY])),Z.xt⟩
 refine .r [5,6,7]<|GA.Cr (i:=8) ((i:Int) > 0) AA (fun af=>?_) (fun af=>.r [9]<|GA.Sk Z fun w Z=>.r 3<|.d<|.cf<|.sk<|.ib 1<|.g<|.r 1<|.it ((i:Int)+1)<|.r 1<|.d<|E (i+1) _ _ AA (Z.to 0 [] 1) ⟨AB,(by grind [A9,prev])⟩ (by first | omega | (simp only []; omega)))
 refine .r [9,10,11]<|GA.int (i:=12) ((i:Int) - 1) AA AB<|gx b (i - 1) fun aj ab=>?_
 have ax:=drop_at ab; have ai:=AV ab
 exact GA.Jx 13 1 ((i:Int) - 1) ab Z<|.r [14]<|Z.el 1 ab fun Z=>GA.Lh 15 0 0 Z<|.r [16,17]<|GA.Ix 18 2 aa Z<|.r [19]<|GA.Lh 20 1 0 Z<|GA.Dn Z fun w Z=>.bp (aj.t≥ac.t) (fun ag=>.r 2<|.d<|.ct<|.s<|.g<|.r 1<|.d<|T.rt func131 results131 (.bool false) ⟨(AG (by grind [A9,Af,prev,AY])),Z.xt⟩) fun ag=>.r 2<|.d<|.cf<|.sk<|.ib 1<|.g<|.r 1<|.it ((i:Int)+1)<|.r 1<|.d<|E (i+1) _ _ AA (Z.to 0 [] 2) ⟨AB,(by grind [A9,prev])⟩ (by first | omega | (simp only []; omega))
theorem ES (b:List Row) (h1:RepS w F a1 n1 c1 b)  : Calls Tryz.prog 196 [.slice a1 n1 c1].toArray w (Ad fun rv w'=>rv=.bool (Af b)∧Ext w w'):=by
 cases h1.len
 refine goT func196 ?_
 have Z:=(St.i0 F w).p h1
 have ak:=h1.max
 refine .s<|.g<|.r 1<|.d<|.s<|.s<|.g<|.r 3<|.d<|.b 0<|T.Lp (0:Nat) (fun k=>([(0,.slice a1 b.length c1),(5,.slice a1 b.length c1),(6,vI (b.length:Int)),(7,vI (k:Int))],[],[],b.length - k,(k≤b.length)∧(A9 (prev b k) (b.drop k)=A9 none b))) [] Z ⟨(by simp [prev]),(by simp [prev])⟩ ?_
 rintro k ay w Z ⟨am,ao⟩ E
 refine .s<|.g<|.bp ((k:Int)< (b.length:Int)) (fun ae=>?_) (fun ae=>.d<|.s<|.cf<|.x 0 rfl<|.s<|.g<|.r 4<|.d<|T.rt func196 results196 (.bool (decide ((b.length:Int)≤24))) ⟨(AG (by grind [A9,Af,prev,AY])),Z.xt⟩)
 refine .d<|.s<|.ct<|.sk<|.s<|.b 1<|.s<|.g<|.r 1<|gx b k fun ac aa=>?_
 have aq:=drop_at aa; have ah:=AV aa
 refine RG.Ix 0 aa Z<|Z.el 0 aa fun Z=>RG.Lg 0 0 Z<|RG.Np Z fun az w Z=>.r 1<|RG.Ss 0 Z fun w Z=>.d<|.s<|T.Gd 15 Z fun w Z=>GA.Ln 0 0 Z<|GA.C0 1 Z (fun w Z=>FP ac (F:=all)) ?_
 cases ar:(BF ac)
 ·exact .r [2,3]<|GA.Sk Z fun w Z=>.r 3<|.d<|.ct<|.s<|.g<|.r 1<|.d<|T.rt func196 results196 (.bool false) ⟨(AG (by grind [A9,Af,prev,AY])),Z.xt⟩
 refine .r [2,3,4]<|GA.Cr (i:=5) ((k:Int) > 0) AA (fun af=>?_) (fun af=>.r [6]<|GA.Sk Z fun w Z=>.r 3<|.d<|.cf<|.sk<|.ib 1<|.g<|.it ((k:Int)+1)<|.r 1<|.d<|E (k+1) _ _ AA (Z.to 1 [] 1) ⟨AB,(by grind [A9,prev])⟩ (by first | omega | (simp only []; omega)))
 refine .r [6,7,8]<|GA.int (i:=9) ((k:Int) - 1) AA AB<|gx b (k - 1) fun aj ab=>?_
 have ax:=drop_at ab; have ai:=AV ab
 exact GA.Jx 10 1 ((k:Int) - 1) ab Z<|.r [11]<|Z.el 1 ab fun Z=>GA.Lh 12 0 0 Z<|.r [13]<|GA.Lb 14 0 Z<|GA.Dn Z fun w Z=>.bp (aj.t≥ac.t) (fun ag=>.r 2<|.d<|.ct<|.s<|.g<|.r 1<|.d<|T.rt func196 results196 (.bool false) ⟨(AG (by grind [A9,Af,prev,AY])),Z.xt⟩) fun ag=>.r 2<|.d<|.cf<|.sk<|.ib 1<|.g<|.it ((k:Int)+1)<|.r 1<|.d<|E (k+1) _ _ AA (Z.to 1 [] 2) ⟨AB,(by grind [A9,prev])⟩ (by first | omega | (simp only []; omega))
theorem DT (p:Prt) (h1:RepS w F a1 n1 c1 p.ids) (h2:RepS w F a2 n2 c2 p.blocks)  : Calls Tryz.prog 125 [.agg #[.slice a1 n1 c1,.slice a2 n2 c2]].toArray w (Ad fun rv w'=>rv=.bool (Ac p)∧Ext w w'):=by
 cases h1.len
 cases h2.len
 refine goT func125 ?_
 have Z:=((St.i0 F w).p h1).p h2
 have aD:=h1.max
 have aE:=h2.max
 refine .s<|.g<|RG.Np Z fun aB w Z=>.r 1<|.d<|.s<|.s<|.g<|.r 1<|RG.Lb 0 Z<|.r 2<|RG.Lb 0 Z<|.r 1<|.ne (p.ids.length:Int) (p.blocks.length:Int) (fun aj=>.d<|.ct<|.s<|.g<|.r 1<|.d<|T.rt func125 results125 (.bool false) ⟨(AG (by first | grind [Ai,Ac,prev,AY] | (have hdd:=List.drop_eq_getElem_cons (l:=p.blocks) (i:=i) AB; grind [Ai,Ac,prev,AY]))),Z.xt⟩) fun aj=>.d<|.cf<|.sk<|.s<|.s<|.g<|.r 1<|.d<|.b 0<|T.Lp (0:Nat) (fun i=>([(1,vP aB),(3,vI (i:Int))],[],[],p.ids.length - i,(i≤p.ids.length)∧(Ai (prev p.ids i) (p.ids.drop i) (p.blocks.drop i)=Ai none p.ids p.blocks))) [] Z ⟨(by simp [prev]),(by simp [prev])⟩ ?_
 rintro i aP w Z ⟨aF,aG⟩ E
 refine .s<|.s<|.g<|.r 2<|RG.Lb 0 Z<|.r 1<|.bp ((i:Int)< (p.ids.length:Int)) (fun ak=>?_) (fun ak=>.d<|.cf<|.x 0 rfl<|.s<|.g<|.r 1<|.d<|T.rt func125 results125 (.bool true) ⟨(AG (by first | grind [Ai,Ac,prev,AY] | (have hdd:=List.drop_eq_getElem_cons (l:=p.blocks) (i:=i) AB; grind [Ai,Ac,prev,AY]))),Z.xt⟩)
 refine .d<|.ct<|.sk<|.s<|.b 1<|.s<|T.Gd 38 Z fun w Z=>.r [0]<|GA.Lb 1 0 Z<|.r [2]<|gx p.ids i fun ag aa=>?_
 have aH:=drop_at aa; have ax:=AV aa
 refine GA.Ix 3 1 aa Z<|Z.el 1 aa fun Z=>GA.Lh 4 0 0 Z<|GA.C0 5 Z (fun w Z=>Bb ag 1 6 (F:=all)) ?_
 cases af:(inR ag 1 6)
 ·have aI:=EP af
  exact .r [6,7,8,9,10,11,12,13,14,15,16,17,18,19,20,21,22,23,24,25,26,27,28,29,30,31,32,33,34,35,36,37]<|GA.Dn Z fun w Z=>.r 5<|.d<|.ct<|.s<|.g<|.r 1<|.d<|T.rt func125 results125 (.bool false) ⟨(AG (by first | grind [Ai,Ac,prev,AY] | (have hdd:=List.drop_eq_getElem_cons (l:=p.blocks) (i:=i) AB; grind [Ai,Ac,prev,AY]))),Z.xt⟩
 have aJ:=Bh af
 refine .r [6,7,8]<|GA.Cr (i:=9) ((i:Int) > 0) AA (fun am=>?_) (fun am=>?_)
 ·refine .r [10,11]<|GA.Lb 12 0 Z<|.r [13]<|GA.int (i:=14) ((i:Int) - 1) AA AB<|gx p.ids (i - 1) fun aC ae=>?_
  have aK:=drop_at ae; have ay:=AV ae
  refine GA.Jx 15 2 ((i:Int) - 1) ae Z<|Z.el 2 ae fun Z=>GA.Lh 16 0 0 Z<|.r [17]<|GA.Lb 18 0 Z<|.r [19]<|GA.Ix 20 3 aa Z<|GA.Lh 21 1 0 Z<|GA.Cr (i:=22) (aC≥ag) AA (fun ao=>.r [23,24,25,26,27,28,29,30,31,32,33,34,35,36,37]<|GA.Dn Z fun w Z=>.r 5<|.d<|.ct<|.s<|.g<|.r 1<|.d<|T.rt func125 results125 (.bool false) ⟨(AG (by first | grind [Ai,Ac,prev,AY] | (have hdd:=List.drop_eq_getElem_cons (l:=p.blocks) (i:=i) AB; grind [Ai,Ac,prev,AY]))),Z.xt⟩) fun ao=>.r [23,24,25,26]<|GA.Lb 27 0 Z<|.r [28]<|gx p.blocks i fun ah ab=>?_
  have aL:=drop_at ab; have az:=AV ab
  refine GA.Ix 29 2 ab Z<|Z.el 2 ab fun aQ aR Z=>GA.Lh 30 0 0 Z<|.r [31]<|GA.eqI (i:=32) (a:=(ah.length:Int)) (b:=0) AA (fun aq=>.r [33,34,35,36,37]<|GA.Dn Z fun w Z=>.r 5<|.d<|.ct<|.s<|.g<|.r 1<|.d<|T.rt func125 results125 (.bool false) ⟨(AG (by first | grind [Ai,Ac,prev,AY] | (have hdd:=List.drop_eq_getElem_cons (l:=p.blocks) (i:=i) AB; grind [Ai,Ac,prev,AY]))),Z.xt⟩) fun aq=>.r [33,34,35]<|GA.Lb 36 0 Z<|.r [37]<|GA.Dn Z fun w Z=>RG.Ix 4 ab Z<|RG.Lh 0 0 Z<|RG.C0 (C9 ah (Z.a 1)) Z fun w Z=>?_
  cases aM:(Af ah)
  ·exact .r 2<|.d<|.ct<|.s<|.g<|.r 1<|.d<|T.rt func125 results125 (.bool false) ⟨(AG (by first | grind [Ai,Ac,prev,AY] | (have hdd:=List.drop_eq_getElem_cons (l:=p.blocks) (i:=i) AB; grind [Ai,Ac,prev,AY]))),Z.xt⟩
  exact .r 2<|.d<|.cf<|.sk<|.ib 1<|.g<|.r 1<|.it ((i:Int)+1)<|.r 1<|.d<|E (i+1) _ _ AA (Z.to 0 [] 4) ⟨AB,(by grind [Ai,prev])⟩ (by first | omega | (simp only []; omega))
 refine .r [10,11,12,13,14,15,16,17,18,19,20,21,22,23,24,25,26]<|GA.Lb 27 0 Z<|.r [28]<|gx p.blocks i fun ai ac=>?_
 have aN:=drop_at ac; have aA:=AV ac
 refine GA.Ix 29 1 ac Z<|Z.el 1 ac fun aS aT Z=>GA.Lh 30 0 0 Z<|.r [31]<|GA.eqI (i:=32) (a:=(ai.length:Int)) (b:=0) AA (fun ar=>.r [33,34,35,36,37]<|GA.Dn Z fun w Z=>.r 5<|.d<|.ct<|.s<|.g<|.r 1<|.d<|T.rt func125 results125 (.bool false) ⟨(AG (by first | grind [Ai,Ac,prev,AY] | (have hdd:=List.drop_eq_getElem_cons (l:=p.blocks) (i:=i) AB; grind [Ai,Ac,prev,AY]))),Z.xt⟩) fun ar=>.r [33,34,35]<|GA.Lb 36 0 Z<|.r [37]<|GA.Dn Z fun w Z=>RG.Ix 3 ac Z<|RG.Lh 0 0 Z<|RG.C0 (C9 ai (Z.a 1)) Z fun w Z=>?_
 cases aO:(Af ai)
 ·exact .r 2<|.d<|.ct<|.s<|.g<|.r 1<|.d<|T.rt func125 results125 (.bool false) ⟨(AG (by first | grind [Ai,Ac,prev,AY] | (have hdd:=List.drop_eq_getElem_cons (l:=p.blocks) (i:=i) AB; grind [Ai,Ac,prev,AY]))),Z.xt⟩
 exact .r 2<|.d<|.cf<|.sk<|.ib 1<|.g<|.r 1<|.it ((i:Int)+1)<|.r 1<|.d<|E (i+1) _ _ AA (Z.to 0 [] 3) ⟨AB,(by grind [Ai,prev])⟩ (by first | omega | (simp only []; omega))
theorem Cj (p:Prt) (h1:RepS w F a1 n1 c1 p.ids) (h2:RepS w F a2 n2 c2 p.blocks)  : Calls Tryz.prog 139 [.agg #[.slice a1 n1 c1,.slice a2 n2 c2]].toArray w (Ad fun rv w'=>rv=.bool (Ac p)∧Ext w w'):=by
 cases h1.len
 cases h2.len
 refine goT func139 ?_
 have Z:=((St.i0 F w).p h1).p h2
 have aD:=h1.max
 have aE:=h2.max
 refine .s<|.g<|RG.Np Z fun aB w Z=>.r 1<|.d<|.s<|.s<|.g<|.r 1<|RG.Lb 0 Z<|.r 2<|RG.Lb 0 Z<|.r 1<|.ne (p.ids.length:Int) (p.blocks.length:Int) (fun aj=>.d<|.ct<|.s<|.g<|.r 1<|.d<|T.rt func139 results139 (.bool false) ⟨(AG (by first | grind [Ai,Ac,prev,AY] | (have hdd:=List.drop_eq_getElem_cons (l:=p.blocks) (i:=k) AB; grind [Ai,Ac,prev,AY]))),Z.xt⟩) fun aj=>.d<|.cf<|.sk<|.s<|.s<|.g<|.r 1<|RG.Lb 0 Z<|.r 2<|.d<|.b 0<|T.Lp (0:Nat) (fun k=>([(1,vP aB),(13,.slice a1 p.ids.length c1),(14,vI (p.ids.length:Int)),(15,vI (k:Int))],[],[],p.ids.length - k,(k≤p.ids.length)∧(Ai (prev p.ids k) (p.ids.drop k) (p.blocks.drop k)=Ai none p.ids p.blocks))) [] Z ⟨(by simp [prev]),(by simp [prev])⟩ ?_
 rintro k aP w Z ⟨aF,aG⟩ E
 refine .s<|.g<|.bp ((k:Int)< (p.ids.length:Int)) (fun ak=>?_) (fun ak=>.d<|.s<|.cf<|.x 0 rfl<|.s<|.g<|.r 1<|.d<|T.rt func139 results139 (.bool true) ⟨(AG (by first | grind [Ai,Ac,prev,AY] | (have hdd:=List.drop_eq_getElem_cons (l:=p.blocks) (i:=k) AB; grind [Ai,Ac,prev,AY]))),Z.xt⟩)
 refine .d<|.s<|.ct<|.sk<|.s<|.b 1<|.s<|.g<|.r 1<|gx p.ids k fun ag ac=>?_
 have aH:=drop_at ac; have ax:=AV ac
 refine RG.Ix 1 ac Z<|Z.el 1 ac fun Z=>RG.Lh 0 0 Z<|.r 2<|.d<|.s<|.g<|.r 1<|RG.C0 (Be ag 1 6 (F:=all)) Z fun w Z=>?_
 cases af:(inR ag 1 6)
 ·have aI:=EP af
  exact .r 33<|.d<|.ct<|.s<|.g<|.r 1<|.d<|T.rt func139 results139 (.bool false) ⟨(AG (by first | grind [Ai,Ac,prev,AY] | (have hdd:=List.drop_eq_getElem_cons (l:=p.blocks) (i:=k) AB; grind [Ai,Ac,prev,AY]))),Z.xt⟩
 have aJ:=Bh af
 refine .r 3<|.bp ((k:Int) > 0) (fun am=>?_) (fun am=>?_)
 ·refine .r 2<|RG.Lb 0 Z<|.r 1<|.it ((k:Int) - 1)<|gx p.ids (k - 1) fun aC ae=>?_
  have aK:=drop_at ae; have ay:=AV ae
  refine RG.Jx 2 ((k:Int) - 1) ae Z<|Z.el 2 ae fun Z=>RG.Lh 0 0 Z<|.r 1<|.bp (aC≥ag) (fun ao=>.r 20<|.d<|.ct<|.s<|.g<|.r 1<|.d<|T.rt func139 results139 (.bool false) ⟨(AG (by first | grind [Ai,Ac,prev,AY] | (have hdd:=List.drop_eq_getElem_cons (l:=p.blocks) (i:=k) AB; grind [Ai,Ac,prev,AY]))),Z.xt⟩) fun ao=>.r 4<|RG.Lb 0 Z<|.r 1<|gx p.blocks k fun ah aa=>?_
  have aL:=drop_at aa; have az:=AV aa
  refine RG.Ix 2 aa Z<|Z.el 2 aa fun aQ aR Z=>RG.Lh 0 0 Z<|RG.C0 (ES ah (Z.a 1)) Z fun w Z=>?_
  cases aM:(Af ah)
  ·exact .r 11<|.d<|.ct<|.s<|.g<|.r 1<|.d<|T.rt func139 results139 (.bool false) ⟨(AG (by first | grind [Ai,Ac,prev,AY] | (have hdd:=List.drop_eq_getElem_cons (l:=p.blocks) (i:=k) AB; grind [Ai,Ac,prev,AY]))),Z.xt⟩
  exact .r 4<|RG.Lb 0 Z<|.r 1<|RG.Ix 4 aa Z<|RG.Lh 0 0 Z<|.r 1<|.eq (ah.length:Int) 0 (fun aq=>.r 1<|.d<|.ct<|.s<|.g<|.r 1<|.d<|T.rt func139 results139 (.bool false) ⟨(AG (by first | grind [Ai,Ac,prev,AY] | (have hdd:=List.drop_eq_getElem_cons (l:=p.blocks) (i:=k) AB; grind [Ai,Ac,prev,AY]))),Z.xt⟩) fun aq=>.r 1<|.d<|.cf<|.sk<|.ib 1<|.g<|.it ((k:Int)+1)<|.r 1<|.d<|E (k+1) _ _ AA (Z.to 0 [] 4) ⟨AB,(by grind [Ai,prev])⟩ (by first | omega | (simp only []; omega))
 refine .r 13<|RG.Lb 0 Z<|.r 1<|gx p.blocks k fun ai ab=>?_
 have aN:=drop_at ab; have aA:=AV ab
 refine RG.Ix 1 ab Z<|Z.el 1 ab fun aS aT Z=>RG.Lh 0 0 Z<|RG.C0 (ES ai (Z.a 1)) Z fun w Z=>?_
 cases aO:(Af ai)
 ·exact .r 11<|.d<|.ct<|.s<|.g<|.r 1<|.d<|T.rt func139 results139 (.bool false) ⟨(AG (by first | grind [Ai,Ac,prev,AY] | (have hdd:=List.drop_eq_getElem_cons (l:=p.blocks) (i:=k) AB; grind [Ai,Ac,prev,AY]))),Z.xt⟩
 exact .r 4<|RG.Lb 0 Z<|.r 1<|RG.Ix 3 ab Z<|RG.Lh 0 0 Z<|.r 1<|.eq (ai.length:Int) 0 (fun ar=>.r 1<|.d<|.ct<|.s<|.g<|.r 1<|.d<|T.rt func139 results139 (.bool false) ⟨(AG (by first | grind [Ai,Ac,prev,AY] | (have hdd:=List.drop_eq_getElem_cons (l:=p.blocks) (i:=k) AB; grind [Ai,Ac,prev,AY]))),Z.xt⟩) fun ar=>.r 1<|.d<|.cf<|.sk<|.ib 1<|.g<|.it ((k:Int)+1)<|.r 1<|.d<|E (k+1) _ _ AA (Z.to 0 [] 3) ⟨AB,(by grind [Ai,prev])⟩ (by first | omega | (simp only []; omega))
theorem HX (p:Prt) (names:Int) (h1:RepS w F a1 n1 c1 p.ids) (h2:RepS w F a2 n2 c2 p.blocks)  : Calls Tryz.prog 128 [.agg #[.slice a1 n1 c1,.slice a2 n2 c2],.int .i64 names].toArray w (Ad fun rv w'=>rv=.bool (Ax p names)∧Ext w w'):=by
 cases h1.len
 cases h2.len
 refine goT func128 ?_
 have Z:=((St.i0 F w).p h1).p h2
 have ae:=h1.max
 have af:=h2.max
 refine .s<|.g<|RG.Np Z fun ai w Z=>.r 1<|.d<|.s<|.g<|RG.Ln 0 Z<|RG.C0 (DT p (Z.a 1) (Z.a 0)) Z fun w Z=>?_
 cases ag:(Ac p)
 ·exact .r 19<|.d<|T.rt func128 results128 (.bool false) ⟨(AG (by grind [Ax])),Z.xt⟩
 refine .r 2<|RG.Lb 0 Z<|.r 1<|.bp ((p.ids.length:Int) > 0) (fun aa=>?_) (fun aa=>.r 14<|.d<|T.rt func128 results128 (.bool false) ⟨(AG (by grind [Ax])),Z.xt⟩)
 refine .r 3<|RG.Lb 0 Z<|.r 1<|RG.Lb 0 Z<|.r 1<|.it ((p.ids.length:Int) - 1)<|gx p.ids (p.ids.length - 1) fun ac E=>?_
 have ah:=drop_at E; have ab:=AV E
 exact RG.Jx 1 ((p.ids.length:Int) - 1) E Z<|Z.el 1 E fun Z=>RG.Lh 0 0 Z<|.r 4<|.d<|T.rt func128 results128 (.bool (decide (ac≤names))) ⟨(AG (by grind [Ax])),Z.xt⟩
theorem CR (s:List Int) (v:Int) (h1:RepS w F a1 n1 c1 s)  : Calls Tryz.prog 201 [.slice a1 n1 c1,.int .i64 v].toArray w (Ad fun rv w'=>rv=.int .i64 (Cd v 0 s)∧Ext w w'):=by
 cases h1.len
 refine goT func201 ?_
 have Z:=(St.i0 F w).p h1
 have ag:=h1.max
 refine .s<|.g<|.r 1<|.d<|.s<|.s<|.g<|.r 3<|.d<|.b 0<|T.Lp (0:Nat) (fun k=>([(0,.slice a1 s.length c1),(1,vI v),(7,vI (s.length:Int)),(8,vI (k:Int))],[],[],s.length - k,(k≤s.length)∧(Cd v k (s.drop k)=Cd v 0 s))) [] Z ⟨AD,AD⟩ ?_
 rintro k ak w Z ⟨ah,ai⟩ aa
 refine .s<|.g<|.bp ((k:Int)< (s.length:Int)) (fun ab=>?_) (fun ab=>.d<|.s<|.cf<|.x 0 rfl<|.s<|.g<|.r 1<|.d<|T.rt func201 results201 (vI (-1)) ⟨(congrArg (Value.int .i64) (by grind [Cd,AY])),Z.xt⟩)
 refine .d<|.s<|.ct<|.sk<|.s<|.b 1<|.s<|.g<|.r 2<|.d<|.s<|.g<|.r 3<|gx s k fun af E=>?_
 have aj:=drop_at E; have ae:=AV E
 exact RG.Ix 0 E Z<|Z.el 0 E fun Z=>RG.Lh 0 0 Z<|.eq v af (fun ac=>.d<|.ct<|.s<|.g<|.r 2<|.d<|T.rt func201 results201 (vI (k:Int)) ⟨(congrArg (Value.int .i64) (by grind [Cd,AY])),Z.xt⟩) fun ac=>.d<|.cf<|.sk<|.ib 1<|.g<|.it ((k:Int)+1)<|.r 1<|.d<|aa (k+1) _ _ AA (Z.to 0 [] 1) ⟨AB,(by grind [Cd])⟩ (by first | omega | (simp only []; omega))
theorem ET (x:List Int) (h1:RepS w F a1 n1 c1 x) (p0:0< x.length):Calls Tryz.prog 140 [.slice a1 n1 c1].toArray w (Ad fun rv w'=>rv=.int .i64 (maxOf x)∧Ext w w'):=by
 cases h1.len
 refine goT func140 ?_
 have Z:=(St.i0 F w).p h1
 have aj:=h1.max
 refine .s<|.g<|.r 1<|.d<|.s<|.s<|.g<|.r 2<|.bp ((x.length:Int)< 1) (fun ac=>.d<|.ct<|.g<|absurd (show False by omega) id) fun ac=>.d<|.cf<|.sk<|.s<|.g<|.r 1<|gx x 0 fun ai E=>?_
 have ak:=drop_at E; have ag:=AV E
 refine RG.Ix 0 E Z<|Z.el 0 E fun Z=>RG.Lh 0 0 Z<|.r 1<|.d<|.s<|.s<|.g<|.r 1<|.d<|.b 0<|T.Lp (ai,(1:Nat)) (fun (m,i)=>([(0,.slice a1 x.length c1),(3,vI m),(4,vI (i:Int))],[],[],x.length - i,(i≤x.length)∧(IP m (x.drop i)=maxOf x))) [] Z ⟨AB,(by grind [maxOf])⟩ ?_
 rintro ⟨m,i⟩ ar w Z ⟨am,ao⟩ ab
 refine .s<|.s<|.g<|.r 3<|.bp ((i:Int)< (x.length:Int)) (fun ae=>?_) (fun ae=>.d<|.cf<|.x 0 rfl<|.s<|.g<|.r 2<|.d<|T.rt func140 results140 (vI m) ⟨(congrArg (Value.int .i64) (by grind [IP,AY])),Z.xt⟩)
 refine .d<|.ct<|.sk<|.s<|.b 1<|.g<|.r 3<|gx x i fun af aa=>?_
 have aq:=drop_at aa; have ah:=AV aa
 exact RG.Ix 1 aa Z<|Z.el 1 aa fun Z=>RG.Lh 0 0 Z<|.r 2<|.d<|.ib 1<|.g<|.r 1<|.it ((i:Int)+1)<|.r 1<|.d<|ab ((if af > m then af else m),i+1) _ _ AA (Z.to 0 [] 1) ⟨AB,(by grind [IP])⟩ (by first | omega | (simp only []; omega))
theorem Ck (n:List Tag) (h1:RepS w F a1 n1 c1 n) (p0:n.length≤1000000) (p1:∀ t∈n,t.key.length≤1000000∧t.val.length≤1000000):Calls Tryz.prog 58 [.slice a1 n1 c1].toArray w (Ad fun rv w'=>rv=.string (bs (text n))∧Ext w w'):=by
 cases h1.len
 refine goT func58 ?_
 have Z:=(St.i0 F w).p h1
 have aj:=h1.max
 refine .s<|.g<|.r 1<|.d<|.s<|.g<|.r 1<|.d<|.s<|.s<|.g<|.r 1<|.d<|.b 0<|T.Lp ([],(0:Nat)) (fun (out,i)=>([(0,.slice a1 n.length c1),(3,vT out),(4,vI (i:Int))],[],[],n.length - i,(i≤n.length)∧(out.length≤3000000 * i)∧(out++EQ i (n.drop i)=text n))) [] Z ⟨(by simp [text]),(by simp [text]),(by simp [text])⟩ ?_
 rintro ⟨out,i⟩ ax w Z ⟨ak,am,ao⟩ E
 refine .s<|.s<|.g<|.r 3<|.bp ((i:Int)< (n.length:Int)) (fun af=>?_) (fun af=>.d<|.cf<|.x 0 rfl<|.s<|.g<|.r 2<|.d<|T.rt func58 results58 (vT out) ⟨(congrArg (fun s=>Value.string (bs s)) (by grind [EQ,AY])),Z.xt⟩)
 refine .d<|.ct<|.sk<|.s<|.b 1<|.s<|.s<|.g<|.r 1<|.bp ((i:Int) > 0) (fun ag=>?_) (fun ag=>?_)
 ·refine .d<|.ct<|.g<|.r 1<|RG.cat (t:=9) (s:=out) (u:=[44]) AA (by grind)<|.r 1<|.d<|T.Gd 13 Z fun w Z=>.r [0,1,2]<|gx n i fun ac aa=>?_
  have aq:=drop_at aa; have ah:=AV aa
  exact GA.Ix 3 0 aa Z<|.r [4]<|Z.el 0 aa fun Z=>GA.Lh 5 0 0 Z<|GA.cat (i:=6) (t:=9) (s:=(out++[44])) (u:=ac.key) AA AA (by grind)<|GA.cat (i:=7) (t:=9) (s:=((out++[44])++ac.key)) (u:=[61]) AA AA (by grind)<|.r [8,9]<|GA.Ix 10 1 aa Z<|.r [11]<|GA.Lh 12 0 1 Z<|GA.Dn Z fun w Z=>RG.cat (t:=9) (s:=(((out++[44])++ac.key)++[61])) (u:=ac.val) AA (by grind)<|.r 1<|.d<|.ib 1<|.g<|.r 1<|.it ((i:Int)+1)<|.r 1<|.d<|E (((((out++[44])++ac.key)++[61])++ac.val),i+1) _ _ AA (Z.to 0 [] 1) ⟨AB,(by grind),(by grind [EQ,I2])⟩ (by first | omega | (simp only []; omega))
 refine .d<|.cf<|.sk<|T.Gd 13 Z fun w Z=>.r [0,1,2]<|gx n i fun ae ab=>?_
 have ar:=drop_at ab; have ai:=AV ab
 exact GA.Ix 3 0 ab Z<|.r [4]<|Z.el 0 ab fun Z=>GA.Lh 5 0 0 Z<|GA.cat (i:=6) (t:=9) (s:=out) (u:=ae.key) AA AA (by grind)<|GA.cat (i:=7) (t:=9) (s:=(out++ae.key)) (u:=[61]) AA AA (by grind)<|.r [8,9]<|GA.Ix 10 1 ab Z<|.r [11]<|GA.Lh 12 0 1 Z<|GA.Dn Z fun w Z=>RG.cat (t:=9) (s:=((out++ae.key)++[61])) (u:=ae.val) AA (by grind)<|.r 1<|.d<|.ib 1<|.g<|.r 1<|.it ((i:Int)+1)<|.r 1<|.d<|E ((((out++ae.key)++[61])++ae.val),i+1) _ _ AA (Z.to 0 [] 1) ⟨AB,(by grind),(by grind [EQ,I2])⟩ (by first | omega | (simp only []; omega))
theorem HY (a:Tag) (b:Tag){F:Nat→Prop}   : Calls Tryz.prog 186 [.agg #[.string (bs a.key),.string (bs a.val)],.agg #[.string (bs b.key),.string (bs b.val)]].toArray w (Ad fun rv w'=>rv=.bool (BO a b)∧Ext w w'):=by
 refine goT func186 ?_
 have Z:=St.i0 F w
 refine .s<|.g<|RG.Np Z fun ab w Z=>RG.Np Z fun ac w Z=>.r 1<|.d<|.s<|.g<|.r 1<|RG.Lb 1 Z<|.r 1<|RG.Lb 0 Z<|RG.eqv (v:=.bool ((Au a.key b.key))) AA (Qn a.key b.key) ?_
 cases E:(Au a.key b.key)
 ·refine .r 2<|RG.Lb 1 Z<|.r 1<|RG.Lb 0 Z<|RG.eqv (v:=.bool ((a.key==b.key))) AA (Qm a.key b.key) ?_
  cases aa:(a.key==b.key)
  ·exact .r 9<|.d<|T.rt func186 results186 (.bool false) ⟨(AG (by grind [BO])),Z.xt⟩
  exact .r 2<|RG.Lb 1 Z<|.r 1<|RG.Lb 0 Z<|RG.eqv (v:=.bool ((Au a.val b.val))) AA (Qn a.val b.val)<|.r 3<|.d<|T.rt func186 results186 (.bool (Au a.val b.val)) ⟨(AG (by grind [BO])),Z.xt⟩
 exact .r 15<|.d<|T.rt func186 results186 (.bool true) ⟨(AG (by grind [BO])),Z.xt⟩
end Go.Proofs.YtfninflnngpchaaGreat
namespace Go.Proofs.YtfninflnngpchaaGreat
set_option maxRecDepth 100000
set_option maxHeartbeats 4000000
variable {w:World} {F:Nat→Prop} {a1 a2 a3 a4:Option Addr} {n1 c1 n2 c2 n3 c3 n4 c4:Nat}
theorem HZ (s:Sto) (id:Int) (h1:RepS w F a1 n1 c1 s.idx.names) (h2:RepS w F a2 n2 c2 s.idx.Ae) (h3:RepS w F a3 n3 c3 s.parts) (h4:RepS w F a4 n4 c4 s.mem) (p0:s.parts.length≤100) (p1:∀ p∈s.parts,HP p) (p2:s.mem.length≤1000):Calls Tryz.prog 130 [.agg #[.slice a1 n1 c1,.slice a2 n2 c2,.slice a3 n3 c3,.slice a4 n4 c4],.int .i64 id].toArray w (Ad fun rv w'=>VL (ge w.heap.size) w' (rowsOf s id:List Row) rv∧Ext w w'):=by
 cases h1.len
 cases h2.len
 cases h3.len
 cases h4.len
 refine goT func130 ?_
 have Z:=((((St.i0 F w).p h1).p h2).p h3).p h4
 have az:=h1.max
 have aA:=h2.max
 have aB:=h3.max
 have aC:=h4.max
 refine .s<|.g<|RG.Np Z fun ag w Z=>.r 1<|.d<|.s<|.g<|RG.N0 Row 0 Z fun ao w Z=>.r 1<|.d<|.s<|.s<|.g<|.r 1<|.d<|.b 0 ?_
 have Z:=Z.sl 0
 refine T.Lp (([]:List Row),sA ao,(0:Nat),(0:Nat)) (fun (out,a_out,c_out,i)=>([(1,vI id),(2,vP ag),(5,.slice a_out out.length c_out),(6,vI (i:Int))],[],[⟨0,none,.rep a_out c_out out⟩],s.parts.length - i,(i≤s.parts.length)∧(out.length≤1000 * i)∧((s.parts.drop i).foldl (Bf id) out=s.parts.foldl (Bf id) []))) [0] Z ⟨AD,AD,AD⟩ ?_
 rintro ⟨out,a_out,c_out,i⟩ aL w Z ⟨aD,aE,aF⟩ ac
 refine .s<|.s<|.g<|.r 2<|RG.Lb 0 Z<|.r 1<|.bp ((i:Int)< (s.parts.length:Int)) (fun ah=>?_) (fun ah=>?_)
 ·refine .d<|.ct<|.sk<|.s<|.b 1<|.g<|.r 2<|RG.Lb 0 Z<|.r 1<|gx s.parts i fun ae ab=>?_
  have aG:=drop_at ab; have ak:=AV ab
  exact RG.Ix 3 ab Z<|Z.el 3 ab fun aM aN aO aP Z=>RG.Lg 0 0 Z<|.r 1<|RG.CL (Dy ae id (Z.mg 1 1) (Z.mg 1 2) (by grind [HP])) Z fun aQ aR w Z=>RG.CL (HW out (partOf ae id) (Z.a 4) (Z.a 0) (by grind [CE])) Z fun aq ar w Z=>.r 1<|.d<|.ib 1<|.g<|.r 1<|.it ((i:Int)+1)<|.r 1<|.d<|ac (BH out (partOf ae id),aq,ar,i+1) _ _ AA (Z.to 0 [0] 6) ⟨AB,(by grind [HQ,CE]),(by grind [Bf,HQ,CE])⟩ (by first | omega | (simp only []; omega))
 refine .d<|.cf<|.x 0 rfl<|.s<|.s<|.g<|.r 1<|.d<|.b 2<|T.Lp ((out:List Row),a_out,c_out,(0:Nat)) (fun (out,a_out,c_out,i)=>([(1,vI id),(2,vP ag),(5,.slice a_out out.length c_out),(7,vI (i:Int))],[],[⟨0,none,.rep a_out c_out out⟩],s.mem.length - i,(i≤s.mem.length)∧(out.length≤100000+i)∧((s.mem.drop i).foldl (Bp id) out=rowsOf s id))) [0] Z ⟨(by grind [rowsOf,AY]),(by grind [rowsOf,AY]),(by grind [rowsOf,AY])⟩ ?_
 rintro ⟨out,a_out,c_out,i⟩ aS w Z ⟨aH,aI,aJ⟩ E
 refine .s<|.s<|.g<|.r 2<|RG.Lb 0 Z<|.r 1<|.bp ((i:Int)< (s.mem.length:Int)) (fun ai=>?_) (fun ai=>.d<|.cf<|.x 2 rfl<|.s<|.g<|.r 2<|.d<|T.Rt func130 results130 ⟨Z.rL 0 out (by grind [AY]),Z.xt⟩)
 refine .d<|.ct<|.sk<|.s<|.b 3<|.s<|.g<|.r 1<|RG.Lb 0 Z<|.r 1<|gx s.mem i fun af aa=>?_
 have aK:=drop_at aa; have am:=AV aa
 exact RG.Ix 3 aa Z<|.r 1<|Z.el 3 aa fun Z=>RG.Lh 0 0 Z<|.r 1<|.eq af.id id (fun aj=>.d<|.ct<|.g<|.r 2<|RG.Lb 0 Z<|.r 1<|RG.Ix 4 aa Z<|.r 1<|RG.Lg 0 1 Z<|RG.CL (FR out af.row (Z.a 1) AB) Z fun ax ay w Z=>.r 1<|.d<|.ib 3<|.g<|.r 1<|.it ((i:Int)+1)<|.r 1<|.d<|E (DJ out af.row,ax,ay,i+1) _ _ AA (Z.to 0 [0] 3) ⟨(by grind [Bp,B7]),(by grind [Bp,B7]),(by grind [Bp,B7])⟩ (by first | omega | (simp only []; omega))) fun aj=>.d<|.cf<|.sk<|.ib 3<|.g<|.r 1<|.it ((i:Int)+1)<|.r 1<|.d<|E (out,a_out,c_out,i+1) _ _ AA (Z.to 0 [1] 2) ⟨(by grind [Bp,B7]),(by grind [Bp,B7]),(by grind [Bp,B7])⟩ (by first | omega | (simp only []; omega))
theorem Dz (d:Dsk) (num:Int) (h1:RepS w F a1 n1 c1 d.files) (h2:RepS w F a2 n2 c2 d.list) (h3:RepS w F a3 n3 c3 d.names)  : Calls Tryz.prog 59 [.agg #[.slice a1 n1 c1,.slice a2 n2 c2,.slice a3 n3 c3,.int .i64 d.next],.int .i64 num].toArray w (Ad fun rv w'=>rv=.int .i64 (At d num)∧Ext w w'):=by
 cases h1.len
 cases h2.len
 cases h3.len
 refine goT func59 ?_
 have Z:=(((St.i0 F w).p h1).p h2).p h3
 have ah:=h1.max
 have ai:=h2.max
 have aj:=h3.max
 refine .s<|.g<|RG.Np Z fun af w Z=>.r 1<|.d<|.s<|.s<|.g<|.r 1<|.d<|.b 0<|T.Lp (0:Nat) (fun i=>([(1,vI num),(2,vP af),(5,vI (i:Int))],[],[],d.files.length - i,(i≤d.files.length)∧(Cf num i (d.files.drop i)=At d num))) [] Z ⟨(by simp [At]),(by simp [At])⟩ ?_
 rintro i aq w Z ⟨ak,am⟩ aa
 refine .s<|.s<|.g<|.r 2<|RG.Lb 0 Z<|.r 1<|.bp ((i:Int)< (d.files.length:Int)) (fun ab=>?_) (fun ab=>.d<|.cf<|.x 0 rfl<|.s<|.g<|.r 1<|.d<|T.rt func59 results59 (vI (-1)) ⟨(congrArg (Value.int .i64) (by grind [Cf,AY])),Z.xt⟩)
 refine .d<|.ct<|.sk<|.s<|.b 1<|.s<|.g<|.r 1<|RG.Lb 0 Z<|.r 1<|gx d.files i fun ag E=>?_
 have ao:=drop_at E; have ae:=AV E
 exact RG.Ix 2 E Z<|.r 1<|Z.el 2 E fun ar ax ay az Z=>RG.Lh 0 0 Z<|.r 1<|.eq ag.num num (fun ac=>.d<|.ct<|.s<|.g<|.r 2<|.d<|T.rt func59 results59 (vI (i:Int)) ⟨(congrArg (Value.int .i64) (by grind [Cf,AY])),Z.xt⟩) fun ac=>.d<|.cf<|.sk<|.ib 1<|.g<|.r 1<|.it ((i:Int)+1)<|.r 1<|.d<|aa (i+1) _ _ AA (Z.to 0 [] 3) ⟨AB,(by grind [Cf])⟩ (by first | omega | (simp only []; omega))
end Go.Proofs.YtfninflnngpchaaGreat
namespace Go.Proofs.YtfninflnngpchaaGreat
def CZ (k v:Nat):Tag:=⟨[UInt8.ofNat k],[UInt8.ofNat v]⟩
def Bk (names:List (List Tag)) (t:Tag):List Pst:=if (ids names t).length > 0 then [⟨t,ids names t⟩] else []
def D1 (names:List (List Tag)) (k:Nat):Nat→Nat→List Pst
 | 0,_=>[]
 | f+1,v=>Bk names (CZ k v)++D1 names k f (v+1)
def D2 (names:List (List Tag)):Nat→Nat→List Pst
 | 0,_=>[]
 | f+1,k=>D1 names k 11 112++D2 names f (k+1)
def Ay (names:List (List Tag)):List Pst:=D2 names 4 97
def idxOf (names:List (List Tag)):Idx:=⟨names,Ay names⟩
def DU (ix:Idx) (n:List Tag):Idx × Int × Bool :=
 if HR ix n > 0 then (ix,HR ix n,true)
 else if !Aj n || decide (ix.names.length≥6) then (ix,0,false)
 else (idxOf (ix.names++[n]),(ix.names.length:Int)+1,true)
def Kp (bl:List (List Row)) (m:Smp):List (List Row):=bl.set (m.id - 1).toNat (DJ (bl.getD (m.id - 1).toNat []) m.row)
def FT (mem:List Smp):Prt:=DO (mem.foldl Kp [[],[],[],[],[],[]])
theorem NF (bl:List (List Row)) (m:Smp):(Kp bl m).length=bl.length:=by simp [Kp]
theorem BX (names:List (List Tag)) (k v:Nat) (h:v≤122):D1 names k (123 - v) v=Bk names (CZ k v)++D1 names k (123 - (v+1)) (v+1):=by
 rw [show 123 - v=(123 - (v+1))+1 by omega]
 rfl
theorem C5 (names:List (List Tag)) (k:Nat) (h:k≤100):D2 names (101 - k) k=D1 names k 11 112++D2 names (101 - (k+1)) (k+1):=by
 rw [show 101 - k=(101 - (k+1))+1 by omega]
 rfl
theorem D3 (names:List (List Tag)) (k v:Nat) (h:123≤v):D1 names k (123 - v) v=[]:=by
 rw [show 123 - v=0 by omega]; rfl
theorem Kq (names:List (List Tag)) (k:Nat) (h:101≤k):D2 names (101 - k) k=[]:=by
 rw [show 101 - k=0 by omega]; rfl
end Go.Proofs.YtfninflnngpchaaGreat
namespace Go.Proofs.YtfninflnngpchaaGreat
def PZ (x:Idx):Prop:=x.names.length≤1000∧∀ n∈x.names,NA n
def Pa (s:Sto):Prop:=PZ s.idx∧s.parts.length≤100∧(∀ p∈s.parts,HP p)∧s.mem.length≤900
def Ha (s:Sto):Sto × Bool :=
 if s.mem.length=0∨s.parts.length≥6 then (s,false) else (⟨s.idx,s.parts++[FT s.mem],[]⟩,true)
def F1 (ps:List Prt) (at_:Nat):List Prt:=match ps[at_]?,ps[at_+1]? with
 | some x,some y=>ps.take at_++[Ce x y]++ps.drop (at_+2)
 | _,_=>ps
def DV (s:Sto) (at_:Int):Sto × Bool :=
 if inR at_ 0 ((s.parts.length:Int) - 2) then (⟨s.idx,F1 s.parts at_.toNat,s.mem⟩,true) else (s,false)
def P5 (s:Sto) (n:List Tag) (r:Row):Sto:=⟨(DU s.idx n).1,s.parts,s.mem++[⟨(DU s.idx n).2.1,r⟩]⟩
def NG (s:Sto) (n:List Tag) (r:Row):Sto × Bool :=
 if !(DU s.idx n).2.2 || !BF r || decide (s.mem.length≥20) then (s,false)
 else if (rowsOf (P5 s n r) (DU s.idx n).2.1).length > 24 then (s,false) else (P5 s n r,true)
theorem NH {ix:Idx}{n:List Tag}(h:HR ix n > 0):DU ix n=(ix,HR ix n,true):=by unfold DU; rw [if_pos h]
theorem Ol {ix:Idx}{n:List Tag}(h:¬ HR ix n > 0) (h2:Aj n=false∨(ix.names.length:Int)≥6):DU ix n=(ix,0,false):=by
 unfold DU
 rw [if_neg h,if_pos]
 rcases h2 with h2 | h2
 ·simp [h2]
 ·simp; omega
theorem NI {ix:Idx}{n:List Tag}(h:¬ HR ix n > 0) (h2:Aj n=true) (h3:¬ (ix.names.length:Int)≥6):DU ix n=(idxOf (ix.names++[n]),(ix.names.length:Int)+1,true):=by
 unfold DU
 rw [if_neg h,if_neg]
 simp [h2]
 omega
theorem F3 {ps:List Prt}{i:Nat}{x y:Prt}(hx:ps[i]? = some x) (hy:ps[i+1]? = some y):F1 ps i=ps.take i++[Ce x y]++ps.drop (i+2):=by
 simp [F1,hx,hy]
theorem NJ {s:Sto}{a:Int}(h:inR a 0 ((s.parts.length:Int) - 2)=false):DV s a=(s,false):=by unfold DV; rw [if_neg (by simp [h])]
end Go.Proofs.YtfninflnngpchaaGreat
namespace Go.Proofs.YtfninflnngpchaaGreat
def EU (s:Sto):Sto:=⟨idxOf s.idx.names,s.parts,s.mem⟩
def Li (d:Dsk):Dsk:=⟨d.files.filter (fun f=>d.list.contains f.num),d.list,d.names,d.next⟩
def FU (d:Dsk) (s:Sto):List Stp :=
 if s.mem.length=0∨d.list.length≥6∨d.next≥999∨d.files.length≥20 then []
 else [⟨1,d.next,FT s.mem,[],[]⟩,⟨2,0,⟨[],[]⟩,d.list++[d.next],s.idx.names⟩]
theorem Om {α:Type}{l:List (List α)}{i:Nat}{k:List (List α)}{q:List α}(h:k++l.drop i=l) (hd:l.drop i=q::l.drop (i+1)):(k++[[]++q])++l.drop (i+1)=l:=by
 rw [hd] at h
 simpa using h
end Go.Proofs.YtfninflnngpchaaGreat
namespace Go.Proofs.YtfninflnngpchaaGreat
def Aw (d:Dsk) (n:Int):Prt:=(d.files.getD (At d n).toNat default).part
def BG (d:Dsk):Sto:=⟨idxOf d.names,d.list.map (Aw d),[]⟩
def Pb (f:Fil):Fil:=⟨f.num,Ce f.part ⟨[],[]⟩⟩
def Gl (d:Dsk):Dsk:=⟨d.files.map Pb,d.list,d.names,d.next⟩
def Lj (d:Dsk) (n:Int):List Fil:=if At d n≥0∧d.list.contains n=false then d.files.take (At d n).toNat++d.files.drop ((At d n).toNat+1) else d.files
def doD (d:Dsk) (x:Stp):Dsk :=
 if x.kind=1 then ⟨d.files++[⟨x.num,x.part⟩],d.list,d.names,x.num+1⟩
 else if x.kind=2 then ⟨d.files,x.list,x.names,d.next⟩
 else if x.kind=3 then ⟨Lj d x.num,d.list,d.names,d.next⟩
 else d
def toD (d:Dsk) (steps:List Stp) (cut:Int):Dsk:=(steps.take cut.toNat).foldl doD d
def FV (d:Dsk) (at_:Int):List Stp :=
 if !(inR at_ 0 ((d.list.length:Int) - 2)) || decide (d.next≥999) || decide (d.files.length≥20) then []
 else
  let a:=d.list.getD at_.toNat 0
  let b:=d.list.getD (at_.toNat+1) 0
  [⟨1,d.next,Ce (Aw d a) (Aw d b),[],[]⟩,⟨2,0,⟨[],[]⟩,d.list.take at_.toNat++[d.next]++d.list.drop (at_.toNat+2),d.names⟩,⟨3,a,⟨[],[]⟩,[],[]⟩,⟨3,b,⟨[],[]⟩,[],[]⟩]
def NK (w:Wld):Wld:=⟨EU (BG (Gl (Li w.disk))),Gl (Li w.disk)⟩
def FD (w:Wld) (steps:List Stp) (cut:Int) (s:Sto):Wld :=
 if steps.length=0∨cut< 0 then w
 else if cut< steps.length then NK ⟨w.store,toD w.disk steps cut⟩ else ⟨s,toD w.disk steps cut⟩
def doW (w:Wld) (e:Evt):Wld :=
 if e.kind=1 then (if Aj e.name then ⟨(NG w.store e.name e.row).1,w.disk⟩ else w)
 else if e.kind=2 then FD w (FU w.disk w.store) e.cut (Ha w.store).1
 else if e.kind=3 then FD w (FV w.disk e.at_) e.cut (DV w.store e.at_).1
 else if e.kind=4 then NK w
 else w
def Pc (w:Wld):Wld:=⟨EU w.store,Gl w.disk⟩
theorem Jd (n:Int):∀ (fs:List Fil) (i:Nat),Cf n i fs< (i:Int)+fs.length∧(Cf n i fs = -1∨(i:Int)≤Cf n i fs):=by
 intro fs
 induction fs with
 | nil=>intro i; simp [Cf]; omega
 | cons f fs ih =>
   intro i
   have h:=ih (i+1)
   simp only [Cf,List.length_cons]
   split <;> omega
theorem NL (d:Dsk) (n:Int):At d n< d.files.length:=by have:=Jd n d.files 0; unfold At; omega
theorem F4 {d:Dsk}{n:Int}(h:∀ n∈d.list,0≤At d n) (hm:n∈d.list):(At d n).toNat< d.files.length:=by
 have h1:=h n hm
 have h2:=NL d n
 omega
theorem F5 {d:Dsk}{n:Int}(h:∀ n∈d.list,0≤At d n) (hm:n∈d.list):At d n=((At d n).toNat:Int):=by
 have h1:=h n hm
 omega
theorem F6 {d:Dsk}{n:Int}{f:Fil}(h:d.files[(At d n).toNat]? = some f):Aw d n=f.part:=by
 unfold Aw; rw [List.getD_eq_getElem?_getD,h]; rfl
theorem mapStep {α β:Type}{l:List α}{f:α→β}{i:Nat}{k:List β}{q:α}{y:β}(h:k++(l.drop i).map f=l.map f) (hd:l.drop i=q::l.drop (i+1)) (hy:y=f q):(k++[y])++(l.drop (i+1)).map f=l.map f:=by
 subst hy
 rw [hd] at h
 simpa using h
theorem D4 {α β:Type}{l:List α}{f:α→β}{i:Nat}{k:List β}(h:k++(l.drop i).map f=l.map f) (hi:l.length≤i):k=l.map f:=by
 rw [AY hi] at h
 simpa using h
theorem I3 {d:Dsk}{x:Stp}(h:x.kind=1):doD d x=⟨d.files++[⟨x.num,x.part⟩],d.list,d.names,x.num+1⟩:=by unfold doD; rw [if_pos h]
theorem Lk {d:Dsk}{x:Stp}(h:x.kind=2):doD d x=⟨d.files,x.list,x.names,d.next⟩:=by unfold doD; rw [if_neg AB,if_pos h]
theorem NM {d:Dsk}{x:Stp}(h:x.kind=3):doD d x=⟨Lj d x.num,d.list,d.names,d.next⟩:=by unfold doD; rw [if_neg AB,if_neg AB,if_pos h]
def Qr (x:Stp):Prop:=x.list.length≤1000∧x.names.length≤1000∧(∀ n∈x.names,n.length≤1000) ∧ -9000000≤x.num∧x.num≤9000000
end Go.Proofs.YtfninflnngpchaaGreat
namespace Go.Proofs.YtfninflnngpchaaGreat
def Blk (b:List Row):Prop:=A9 none b=true
theorem Ao {o:Option Row}{r:Row}{rs:List Row}:A9 o (r::rs)=true↔BF r=true∧(∀ q,o=some q→q.t< r.t)∧A9 (some r) rs=true:=by
 simp only [A9,AW]
 cases o <;> simp [and_assoc]
theorem J5 {o:Option Row}{b:List Row}(h:A9 o b=true):Blk b:=by
 cases b with
 | nil=>rfl
 | cons r rs=>exact Ao.2 ⟨(Ao.1 h).1,by simp,(Ao.1 h).2.2⟩
theorem HF {r:Row}(h:BF r=true):0≤r.t∧r.t≤99:=by
 simp only [BF,AW] at h
 exact Bh h.1
theorem Ll {r:Row}(h:BF r=true):-99≤r.v∧r.v≤99:=by
 simp only [BF,AW] at h
 exact Bh h.2
theorem Kr:∀ (b:List Row) (q:Row),A9 (some q) b=true→q.t≤99→(b.length:Int)≤99 - q.t:=by
 intro b
 induction b with
 | nil=>intro q _ h; simp; omega
 | cons r rs ih =>
   intro q h hq
   obtain ⟨h1,h2,h3⟩:=Ao.1 h
   have h4:=h2 q rfl
   have h5:=HF h1
   have h6:=ih r h3 AB
   simp only [List.length_cons]
   omega
theorem Blk.len {b:List Row}(h:Blk b):b.length≤100:=by
 cases b with
 | nil=>simp
 | cons r rs =>
   obtain ⟨h1,_,h3⟩:=Ao.1 h
   have h5:=HF h1
   have h6:=Kr rs r h3 AB
   simp only [List.length_cons]
   omega
theorem J6:∀ (b:List Row) (o:Option Row),A9 o b=true→∀ r∈b,BF r=true:=by
 intro b
 induction b with
 | nil=>intro o _ r hr; cases hr
 | cons x xs ih =>
   intro o h r hr
   obtain ⟨h1,_,h3⟩:=Ao.1 h
   rcases List.mem_cons.1 hr with rfl | hr
   ·exact h1
   ·exact ih _ h3 r hr
theorem Blk.rows {b:List Row}(h:Blk b):∀ r∈b,BF r=true:=J6 b none h
theorem I4:∀ (b:List Row) (q:Row),A9 (some q) b=true→∀ r∈b,q.t< r.t:=by
 intro b
 induction b with
 | nil=>intro q _ r hr; cases hr
 | cons x xs ih =>
   intro q h r hr
   obtain ⟨_,h2,h3⟩:=Ao.1 h
   have h4:=h2 q rfl
   rcases List.mem_cons.1 hr with rfl | hr
   ·exact h4
   ·have:=ih x h3 r hr; omega
def Bv (r:Row):List Row→List Row
 | []=>[r]
 | x::xs=>if r.t< x.t then r::x::xs else if r.t=x.t then r::xs else x::Bv r xs
theorem I5 (r:Row):∀ (b out:List Row),(∀ x∈b,r.t< x.t)→Bg out r true b=out++b:=by
 intro b
 induction b with
 | nil=>intro out _; simp [Bg]
 | cons x xs ih =>
   intro out h
   have h1:=h x AD
   have h2:(x.t != r.t)=true:=by simp; omega
   unfold Bg
   simp only [Bool.not_true,Bool.false_and,if_neg,h2,if_true]
   rw [if_neg AD,ih _ (fun y hy=>h y (by simp [hy]))]
   simp
theorem NN (r:Row):∀ (b out:List Row) (o:Option Row),A9 o b=true→Bg out r false b=out++Bv r b:=by
 intro b
 induction b with
 | nil=>intro out o _; simp [Bg,Bv]
 | cons x xs ih =>
   intro out o h
   obtain ⟨_,_,h3⟩:=Ao.1 h
   have hg:=I4 xs x h3
   unfold Bg Bv
   by_cases h1:r.t< x.t
   ·have e1:(x.t != r.t)=true:=by simp; omega
    have e2:(!false&&decide (x.t≥r.t))=true:=by simp; omega
    rw [if_pos e2,if_pos e1,if_pos h1,I5 r xs _ (fun y hy=>by have:=hg y hy; omega)]
    simp
   ·by_cases h2:r.t=x.t
    ·have e1:¬ (x.t != r.t)=true:=by simp; omega
     have e2:(!false&&decide (x.t≥r.t))=true:=by simp; omega
     rw [if_pos e2,if_neg e1,if_neg h1,if_pos h2,I5 r xs _ (fun y hy=>by have:=hg y hy; omega)]
     simp
    ·have e1:(x.t != r.t)=true:=by simp; omega
     have e2:¬ (!false&&decide (x.t≥r.t))=true:=by simp; omega
     rw [if_neg e2,if_pos e1,if_neg h1,if_neg h2,ih _ _ h3]
     simp
theorem EV {b:List Row}(h:Blk b) (r:Row):DJ b r=Bv r b:=by
 unfold DJ
 rw [NN r b [] none h]
 rfl
theorem On {r:Row}(hr:BF r=true):∀ (b:List Row) (o:Option Row),A9 o b=true→(∀ q,o=some q→q.t< r.t)→A9 o (Bv r b)=true:=by
 intro b
 induction b with
 | nil=>intro o _ ho; exact Ao.2 ⟨hr,ho,rfl⟩
 | cons x xs ih =>
   intro o h ho
   obtain ⟨h1,h2,h3⟩:=Ao.1 h
   unfold Bv
   split
   ·exact Ao.2 ⟨hr,ho,Ao.2 ⟨h1,fun q hq=>by cases hq; assumption,h3⟩⟩
   ·split
    ·rename_i _ he
     refine Ao.2 ⟨hr,ho,?_⟩
     cases xs with
     | nil=>rfl
     | cons y ys =>
       obtain ⟨g1,g2,g3⟩:=Ao.1 h3
       exact Ao.2 ⟨g1,fun q hq=>by cases hq; have:=g2 x rfl; omega,g3⟩
    ·exact Ao.2 ⟨h1,h2,ih _ h3 (fun q hq=>by cases hq; omega)⟩
theorem Blk.put {b:List Row}(h:Blk b){r:Row}(hr:BF r=true):Blk (DJ b r):=by
 rw [EV h]
 exact On hr b none h AD
theorem Blk.nil:Blk []:=rfl
theorem Blk.foldl {b:List Row}:∀ {a:List Row},Blk a→(∀ r∈b,BF r=true)→Blk (b.foldl DJ a):=by
 induction b with
 | nil=>intro a h _; exact h
 | cons x xs ih=>intro a h hr; exact ih (h.put (hr x AD)) (fun r hr'=>hr r (by simp [hr']))
theorem Blk.merge {a b:List Row}(ha:Blk a) (hb:Blk b):Blk (BH a b):=Blk.foldl ha hb.rows
structure PrtI (p:Prt):Prop where
 len:p.ids.length=p.blocks.length
 le:p.blocks.length≤6
 blk:∀ b∈p.blocks,Blk b
theorem PrtI.sz {p:Prt}(h:PrtI p):HP p:=⟨h.len,by have:=h.le; omega,fun b hb=>by have:=(h.blk b hb).len; omega⟩
theorem PrtI.nil:PrtI ⟨[],[]⟩:=⟨rfl,by simp,by simp⟩
theorem PrtI.of {p:Prt}(h:PrtI p) (id:Int):Blk (partOf p id):=by
 rcases Fx id p.ids p.blocks with h1 | h1
 ·unfold partOf; rw [h1]; exact Blk.nil
 ·exact h.blk _ h1
theorem I6:∀ (bs:List (List Row)) (i:Nat),(Bu i bs).1.length=(Bu i bs).2.length∧(Bu i bs).2.length≤bs.length∧∀ b∈(Bu i bs).2,b∈bs:=by
 intro bs
 induction bs with
 | nil=>intro i; simp [Bu]
 | cons b bs ih =>
   intro i
   obtain ⟨h1,h2,h3⟩:=ih (i+1)
   unfold Bu
   split
   ·refine ⟨by simp [h1],by simp; omega,fun x hx=>?_⟩
    rcases List.mem_cons.1 hx with rfl | hx
    ·simp
    ·exact List.mem_cons_of_mem _ (h3 x hx)
   ·exact ⟨h1,by simp; omega,fun x hx=>List.mem_cons_of_mem _ (h3 x hx)⟩
theorem PrtI.make {bs:List (List Row)}(hl:bs.length≤6) (h:∀ b∈bs,Blk b):PrtI (DO bs):=by
 obtain ⟨h1,h2,h3⟩:=I6 bs 0
 exact ⟨h1,by unfold DO; dsimp only; omega,fun b hb=>h b (h3 b hb)⟩
theorem PrtI.merge {p q:Prt}(hp:PrtI p) (hq:PrtI q):PrtI (Ce p q):=by
 refine PrtI.make (by rw [Gk]; omega) (fun b hb=>?_)
 simp only [C1,List.mem_map] at hb
 obtain ⟨i,_,rfl⟩:=hb
 exact (hp.of _).merge (hq.of _)
theorem NO:∀ (mem:List Smp) (bl:List (List Row)),bl.length=6→(∀ b∈bl,Blk b)→(∀ m∈mem,BF m.row=true)→(mem.foldl Kp bl).length=6∧∀ b∈mem.foldl Kp bl,Blk b:=by
 intro mem
 induction mem with
 | nil=>intro bl h1 h2 _; exact ⟨h1,h2⟩
 | cons m ms ih =>
   intro bl h1 h2 h3
   refine ih (Kp bl m) (by rw [NF,h1]) (fun b hb=>?_) (fun x hx=>h3 x (by simp [hx]))
   unfold Kp at hb
   rcases List.mem_or_eq_of_mem_set hb with hb | rfl
   ·exact h2 b hb
   ·refine Blk.put ?_ (h3 m AD)
    rw [List.getD_eq_getElem?_getD]
    cases hx:bl[(m.id - 1).toNat]? with
    | none=>exact Blk.nil
    | some y=>exact h2 y (AV hx)
theorem PrtI.mem {mem:List Smp}(h:∀ m∈mem,BF m.row=true):PrtI (FT mem):=by
 obtain ⟨h1,h2⟩:=NO mem [[],[],[],[],[],[]] rfl (by simp [Blk.nil]) h
 exact PrtI.make AB h2
structure NmI (names:List (List Tag)):Prop where
 len:names.length≤6
 ok:∀ n∈names,Aj n=true
 nodup:(names.map text).Nodup
theorem Co {lo hi:Int}{s:Str}(h:IN lo hi s=true):s.length=1:=by
 match s,h with
 | [x],_=>rfl
 | [],h=>simp [IN] at h
 | x::y::r,h=>simp [IN] at h
theorem D5:∀ (n:List Tag) (o:Option Tag),CI o n=true→∀ t∈n,Ba t=true:=by
 intro n
 induction n with
 | nil=>intro o _ t ht; cases ht
 | cons x xs ih =>
   intro o h t ht
   simp only [CI,AW] at h
   rcases List.mem_cons.1 ht with rfl | ht
   ·exact h.1.1
   ·exact ih _ h.2 t ht
theorem BY {n:List Tag}(h:Aj n=true):n.length≤3∧NA n:=by
 simp only [Aj,AW] at h
 have h1:=Bh h.2
 refine ⟨by omega,by omega,fun t ht=>?_⟩
 have h2:=D5 n none h.1 t ht
 simp only [Ba,AW] at h2
 have h3:=Co h2.1
 have h4:=Co h2.2
 omega
theorem NmI.sz {names:List (List Tag)}(h:NmI names):∀ n∈names,NA n:=fun n hn=>(BY (h.ok n hn)).2
theorem J7 (t:Str):∀ (ns:List (List Tag)) (i:Nat),(nmF t i ns=0∧t∉ns.map text)∨((i:Int)< nmF t i ns∧nmF t i ns≤i+ns.length∧t∈ns.map text):=by
 intro ns
 induction ns with
 | nil=>intro i; simp [nmF]
 | cons x xs ih =>
   intro i
   unfold nmF
   by_cases h:text x=t
   ·right
    simp [h]
    omega
   ·have h1:¬ (text x==t)=true:=by simpa using h
    rw [if_neg h1]
    rcases ih (i+1) with ⟨h2,h3⟩ | ⟨h2,h3,h4⟩
    ·left
     refine ⟨h2,?_⟩
     simp only [List.map_cons,List.mem_cons,not_or]
     exact ⟨fun e=>h e.symm,h3⟩
    ·right
     refine ⟨by omega,by simp only [List.length_cons]; omega,?_⟩
     simp only [List.map_cons,List.mem_cons]
     exact .inr h4
theorem NmI.add {names:List (List Tag)}{ps:List Pst}(h:NmI names){n:List Tag}(hn:Aj n=true) (h0:¬ HR ⟨names,ps⟩ n > 0) (hl:names.length< 6):NmI (names++[n]):=by
 refine ⟨by simp; omega,fun m hm=>?_,?_⟩
 ·rcases List.mem_append.1 hm with hm | hm
  ·exact h.ok m hm
  ·simp at hm; rw [hm]; exact hn
 ·rw [List.map_append]
  refine List.nodup_append.2 ⟨h.nodup,by simp,fun a ha b hb=>?_⟩
  simp at hb
  subst hb
  rintro rfl
  rcases J7 (text n) names 0 with ⟨h2,h3⟩ | ⟨h2,_,_⟩
  ·exact h3 ha
  ·exact h0 (by unfold HR; simpa using h2)
structure StoI (s:Sto):Prop where
 idx:s.idx=idxOf s.idx.names
 nm:NmI s.idx.names
 np:s.parts.length≤6
 part:∀ p∈s.parts,PrtI p
 nm2:s.mem.length≤20
 mem:∀ m∈s.mem,1≤m.id∧m.id≤s.idx.names.length∧BF m.row=true
theorem StoI.sz {s:Sto}(h:StoI s):Pa s:=⟨⟨by have:=h.nm.len; omega,h.nm.sz⟩,by have:=h.np; omega,fun p hp=>(h.part p hp).sz,by have:=h.nm2; omega⟩
theorem StoI.copy {s:Sto}(h:StoI s):EU s=s:=by
 have:=h.idx
 unfold EU
 rw [← this]
theorem StoI.RH {s:Sto}(h:StoI s):∀ m∈s.mem,1≤m.id∧m.id≤6:=fun m hm=>by
 have h1:=h.mem m hm
 have h2:=h.nm.len
 omega
theorem StoI.new:StoI ⟨⟨[],[]⟩,[],[]⟩:=⟨by rfl,⟨by simp,by simp,by simp⟩,by simp,by simp,by simp,by simp⟩
theorem P6 {ix:Idx}(h:ix=idxOf ix.names) (hn:NmI ix.names) (n:List Tag) :
 (DU ix n).1=idxOf (DU ix n).1.names∧NmI (DU ix n).1.names∧ix.names.length≤(DU ix n).1.names.length∧((DU ix n).2.2=true→1≤(DU ix n).2.1∧(DU ix n).2.1≤(DU ix n).1.names.length):=by
 by_cases h1:HR ix n > 0
 ·rw [NH h1]
  refine ⟨h,hn,Nat.le_refl _,fun _=>?_⟩
  rcases J7 (text n) ix.names 0 with ⟨h2,_⟩ | ⟨h2,h3,_⟩
  ·unfold HR at h1; omega
  ·unfold HR at h1 ⊢; simp only; omega
 ·by_cases h2:Aj n=false∨(ix.names.length:Int)≥6
  ·rw [Ol h1 h2]
   exact ⟨h,hn,Nat.le_refl _,by simp⟩
  ·have h3:Aj n=true:=by
    cases h4:Aj n
    ·exact absurd (.inl h4) h2
    ·rfl
   have h4:¬ (ix.names.length:Int)≥6:=fun h=>h2 (.inr h)
   rw [NI h1 h3 h4]
   refine ⟨rfl,?_,by simp [idxOf],fun _=>by simp [idxOf]; omega⟩
   exact NmI.add (ps:=ix.Ae) hn h3 h1 AB
theorem StoI.add {s:Sto}(h:StoI s) (n:List Tag) (r:Row):StoI (NG s n r).1:=by
 unfold NG
 split
 ·exact h
 ·rename_i h1
  split
  ·exact h
  ·simp only [Bool.or_eq_true,not_or] at h1
   obtain ⟨⟨h1,h2⟩,h3⟩:=h1
   obtain ⟨g1,g2,g3,g4⟩:=P6 h.idx h.nm n
   have h5:=g4 (by simpa using h1)
   refine ⟨g1,g2,h.np,h.part,?_,fun m hm=>?_⟩
   ·have:¬ s.mem.length≥20:=by simpa using h3
    simp only [P5,List.length_append,List.length_cons,List.length_nil]; omega
   ·rcases List.mem_append.1 hm with hm | hm
    ·have:=h.mem m hm
     refine ⟨this.1,?_,this.2.2⟩
     have h6:=this.2.1
     show m.id≤((DU s.idx n).1.names.length:Int)
     omega
    ·simp at hm
     subst hm
     exact ⟨h5.1,h5.2,by simpa using h2⟩
theorem StoI.flush {s:Sto}(h:StoI s):StoI (Ha s).1:=by
 unfold Ha
 split
 ·exact h
 ·rename_i h1
  refine ⟨h.idx,h.nm,by simp; omega,fun p hp=>?_,by simp,by simp⟩
  rcases List.mem_append.1 hp with hp | hp
  ·exact h.part p hp
  ·simp at hp; subst hp; exact PrtI.mem (fun m hm=>(h.mem m hm).2.2)
theorem StoI.merge {s:Sto}(h:StoI s) (a:Int):StoI (DV s a).1:=by
 unfold DV
 split
 ·rename_i h1
  have h2:=Bh h1
  have h3:a.toNat+1< s.parts.length:=by omega
  refine ⟨h.idx,h.nm,?_,fun p hp=>?_,h.nm2,h.mem⟩
  ·show (F1 s.parts a.toNat).length≤6
   rw [F3 (AU AB) (AU h3)]
   have:=h.np
   simp only [List.length_append,List.length_take,List.length_drop,List.length_cons,List.length_nil]
   omega
  ·change p∈F1 s.parts a.toNat at hp
   rw [F3 (AU AB) (AU h3)] at hp
   rcases List.mem_append.1 hp with hp | hp
   ·rcases List.mem_append.1 hp with hp | hp
    ·exact h.part p (List.mem_of_mem_take hp)
    ·simp at hp; subst hp
     exact (h.part _ (List.getElem_mem _)).merge (h.part _ (List.getElem_mem _))
   ·exact h.part p (List.mem_of_mem_drop hp)
 ·exact h
structure DskI (d:Dsk):Prop where
 nm:NmI d.names
 nf:d.files.length≤20
 file:∀ f∈d.files,PrtI f.part
 nl:d.list.length≤6
 there:∀ n∈d.list,∃ f∈d.files,f.num=n
 num:∀ n∈d.list,0≤n∧n≤999
 next:1≤d.next∧d.next≤999
theorem MC (n:Int):∀ (fs:List Fil) (i:Nat),0≤Cf n i fs↔∃ f∈fs,f.num=n:=by
 intro fs
 induction fs with
 | nil=>intro i; simp [Cf]
 | cons f fs ih =>
   intro i
   unfold Cf
   by_cases h:f.num=n
   ·simp [h]
   ·have h1:¬ (f.num==n)=true:=by simpa using h
    rw [if_neg h1,ih]
    simp [h]
theorem Ks (d:Dsk) (n:Int):0≤At d n↔∃ f∈d.files,f.num=n:=MC n d.files 0
theorem DskI.at {d:Dsk}(h:DskI d):∀ n∈d.list,0≤At d n:=fun n hn=>(Ks d n).2 (h.there n hn)
theorem DskI.new:DskI ⟨[],[],[],1⟩:=⟨⟨by simp,by simp,by simp⟩,by simp,by simp,by simp,by simp,by simp,by simp⟩
theorem DskI.part {d:Dsk}(h:DskI d) (n:Int):PrtI (Aw d n):=by
 unfold Aw
 rw [List.getD_eq_getElem?_getD]
 cases hx:d.files[(At d n).toNat]? with
 | none=>exact PrtI.nil
 | some f=>exact h.file f (AV hx)
theorem DskI.copy {d:Dsk}(h:DskI d):DskI (Gl d):=by
 refine ⟨h.nm,by simp [Gl]; exact h.nf,fun f hf=>?_,h.nl,fun n hn=>?_,h.num,h.next⟩
 ·simp only [Gl,List.mem_map] at hf
  obtain ⟨g,hg,rfl⟩:=hf
  exact (h.file g hg).merge PrtI.nil
 ·obtain ⟨f,hf,he⟩:=h.there n hn
  exact ⟨Pb f,by simp only [Gl,List.mem_map]; exact ⟨f,hf,rfl⟩,he⟩
theorem DskI.tidy {d:Dsk}(h:DskI d):DskI (Li d):=by
 refine ⟨h.nm,Nat.le_trans (List.length_filter_le _ _) h.nf,fun f hf=>h.file f (List.mem_filter.1 hf).1,h.nl,fun n hn=>?_,h.num,h.next⟩
 obtain ⟨f,hf,he⟩:=h.there n hn
 exact ⟨f,List.mem_filter.2 ⟨hf,by rw [he]; have h1:n∈d.list:=hn; simpa using h1⟩,he⟩
theorem DskI.open {d:Dsk}(h:DskI d):StoI (BG d):=by
 refine ⟨rfl,h.nm,by simp [BG]; exact h.nl,fun p hp=>?_,by simp [BG],by simp [BG]⟩
 simp only [BG,List.mem_map] at hp
 obtain ⟨n,_,rfl⟩:=hp
 exact h.part n
theorem DskI.gone {d:Dsk}(h:DskI d) (n:Int):DskI ⟨Lj d n,d.list,d.names,d.next⟩:=by
 unfold Lj
 split
 ·rename_i h1
  refine ⟨h.nm,?_,fun f hf=>?_,h.nl,fun k hk=>?_,h.num,h.next⟩
  ·have:=h.nf
   simp only [List.length_append,List.length_take,List.length_drop]; omega
  ·rcases List.mem_append.1 hf with hf | hf
   ·exact h.file f (List.mem_of_mem_take hf)
   ·exact h.file f (List.mem_of_mem_drop hf)
  ·obtain ⟨f,hf,he⟩:=h.there k hk
   obtain ⟨i,hi,hif⟩:=List.mem_iff_getElem.1 hf
   have hne:k≠n:=by rintro rfl; have:=h1.2; simp at this; exact this hk
   have hat:∀ (fs:List Fil) (j:Nat) (g:Fil),0≤Cf n j fs→fs[(Cf n j fs).toNat - j]? = some g→g.num=n:=by
    intro fs
    induction fs with
    | nil=>intro j g hj; simp [Cf] at hj
    | cons y ys ih =>
      intro j g hj hg
      unfold Cf at hj hg
      by_cases hy:(y.num==n)=true
      ·rw [if_pos hy] at hg
       simp at hg
       subst hg
       simpa using hy
      ·rw [if_neg hy] at hj hg
       have h3:=Jd n ys (j+1)
       have h4:(Cf n (j+1) ys).toNat - j=((Cf n (j+1) ys).toNat - (j+1))+1:=by omega
       rw [h4,List.getElem?_cons_succ] at hg
       exact ih _ _ hj hg
   have hin:i≠(At d n).toNat:=by
    rintro rfl
    have:=hat d.files 0 f h1.1 (by show d.files[(At d n).toNat - 0]? = _; rw [Nat.sub_zero,AU hi,hif])
    exact hne (he▸this)
   refine ⟨f,?_,he⟩
   rcases Nat.lt_or_gt_of_ne hin with hlt | hgt
   ·refine List.mem_append.2 (.inl (List.mem_iff_getElem.2 ⟨i,by simp; omega,?_⟩))
    rw [List.getElem_take]; exact hif
   ·refine List.mem_append.2 (.inr (List.mem_iff_getElem.2 ⟨i - ((At d n).toNat+1),by simp; omega,?_⟩))
    rw [List.getElem_drop]
    simp only [show (At d n).toNat+1+(i - ((At d n).toNat+1))=i by omega]
    exact hif
 ·exact h
theorem DskI.Pd {d:Dsk}(h:DskI d){p:Prt}(hp:PrtI p) (hf:d.files.length< 20) (hn:d.next< 999):DskI ⟨d.files++[⟨d.next,p⟩],d.list,d.names,d.next+1⟩:=by
 refine ⟨h.nm,by simp; omega,fun f hf=>?_,h.nl,fun n hn=>?_,h.num,by have:=h.next; simp only; omega⟩
 ·rcases List.mem_append.1 hf with hf | hf
  ·exact h.file f hf
  ·simp at hf; subst hf; exact hp
 ·obtain ⟨f,hf,he⟩:=h.there n hn
  exact ⟨f,List.mem_append.2 (.inl hf),he⟩
structure WI (w:Wld):Prop where
 sto:StoI w.store
 dsk:DskI w.disk
theorem WI.new:WI ⟨⟨⟨[],[]⟩,[],[]⟩,⟨[],[],[],1⟩⟩:=⟨StoI.new,DskI.new⟩
theorem WI.Pq {w:Wld}(h:DskI w.disk):WI (NK w):=by
 have h1:=h.tidy.copy
 refine ⟨?_,h1⟩
 show StoI (EU (BG (Gl (Li w.disk))))
 rw [h1.open.copy]
 exact h1.open
theorem WI.copy {w:Wld}(h:WI w):WI (Pc w):=⟨by show StoI (EU w.store); rw [h.sto.copy]; exact h.sto,h.dsk.copy⟩
structure StI (d:Dsk) (st:List Stp):Prop where
 len:st.length≤4
 sz:∀ x∈st,Qr x
 ok:∀ k:Nat,DskI ((st.take k).foldl doD d)
theorem StI.nil {d:Dsk}(h:DskI d):StI d []:=⟨by simp,by simp,by simpa using h⟩
theorem F7 {d:Dsk}{x:Stp}{xs:List Stp}(h0:DskI d) (h:∀ k:Nat,DskI ((xs.take k).foldl doD (doD d x))):∀ k:Nat,DskI (((x::xs).take k).foldl doD d):=by
 intro k
 cases k with
 | zero=>exact h0
 | succ k=>exact h k
theorem Lm {d:Dsk}(h0:DskI d):∀ k:Nat,DskI ((([]:List Stp).take k).foldl doD d):=by intro k; simpa using h0
theorem StI.flush {w:Wld}(h:WI w):StI w.disk (FU w.disk w.store):=by
 unfold FU
 split
 ·exact StI.nil h.dsk
 ·rename_i h1
  have hd:=h.dsk
  have hs:=h.sto
  have hp:PrtI (FT w.store.mem):=PrtI.mem (fun m hm=>(hs.mem m hm).2.2)
  have h2:=hd.Pd hp AB AB
  have hn:=hd.next
  refine ⟨by simp,fun x hx=>?_,?_⟩
  ·simp only [List.mem_cons,List.not_mem_nil,or_false] at hx
   rcases hx with rfl | rfl
   ·exact ⟨by simp,by simp,by simp,by simp only; omega,by simp only; omega⟩
   ·refine ⟨?_,?_,fun n hn=>?_,by simp,by simp⟩
    ·have:=hd.nl; simp; omega
    ·have:=hs.nm.len; simp only; omega
    ·have:=(hs.nm.sz n hn).1; omega
  ·refine F7 hd (F7 ?_ (Lm ?_))
   ·rw [I3 rfl]; exact h2
   ·rw [Lk rfl,I3 rfl]
    refine ⟨hs.nm,h2.nf,h2.file,by simp only [List.length_append,List.length_cons,List.length_nil]; omega,fun n hn'=>?_,fun n hn'=>?_,h2.next⟩
    ·rcases List.mem_append.1 hn' with hn' | hn'
     ·exact h2.there n hn'
     ·simp at hn'; subst hn'
      exact ⟨⟨w.disk.next,FT w.store.mem⟩,by simp,rfl⟩
    ·rcases List.mem_append.1 hn' with hn' | hn'
     ·exact h2.num n hn'
     ·simp at hn'; omega
theorem StI.merge {d:Dsk}(hd:DskI d) (at_:Int):StI d (FV d at_):=by
 unfold FV
 split
 ·exact StI.nil hd
 ·rename_i h1
  simp only [Bool.or_eq_true,not_or,Bool.not_eq_true,Bool.not_eq_false',decide_eq_true_eq] at h1
  obtain ⟨⟨h1,h3⟩,h4⟩:=h1
  have h0:=Bh (by simpa using h1)
  have hl:at_.toNat+1< d.list.length:=by omega
  have ha:d.list.getD at_.toNat 0∈d.list:=by rw [List.getD_eq_getElem?_getD,AU AB]; exact List.getElem_mem _
  have hb:d.list.getD (at_.toNat+1) 0∈d.list:=by rw [List.getD_eq_getElem?_getD,AU hl]; exact List.getElem_mem _
  have na:=hd.num _ ha
  have nb:=hd.num _ hb
  generalize d.list.getD at_.toNat 0=a at *
  generalize d.list.getD (at_.toNat+1) 0=b at *
  have hp:PrtI (Ce (Aw d a) (Aw d b)):=(hd.part a).merge (hd.part b)
  have h2:=hd.Pd hp AB AB
  have hn:=hd.next
  have hlen:(d.list.take at_.toNat++[d.next]++d.list.drop (at_.toNat+2)).length≤6:=by
   have:=hd.nl
   simp only [List.length_append,List.length_take,List.length_drop,List.length_cons,List.length_nil]; omega
  have hm:∀ n∈d.list.take at_.toNat++[d.next]++d.list.drop (at_.toNat+2),n∈d.list∨n=d.next:=by
   intro n hn
   rcases List.mem_append.1 hn with hn | hn
   ·rcases List.mem_append.1 hn with hn | hn
    ·exact .inl (List.mem_of_mem_take hn)
    ·simp at hn; exact .inr hn
   ·exact .inl (List.mem_of_mem_drop hn)
  have h5:DskI ⟨d.files++[⟨d.next,Ce (Aw d a) (Aw d b)⟩],d.list.take at_.toNat++[d.next]++d.list.drop (at_.toNat+2),d.names,d.next+1⟩:=by
   refine ⟨h2.nm,h2.nf,h2.file,hlen,fun n hn'=>?_,fun n hn'=>?_,h2.next⟩
   ·rcases hm n hn' with hn' | rfl
    ·exact h2.there n hn'
    ·exact ⟨⟨d.next,Ce (Aw d a) (Aw d b)⟩,by simp,rfl⟩
   ·rcases hm n hn' with hn' | rfl
    ·exact h2.num n hn'
    ·omega
  refine ⟨by simp,fun x hx=>?_,?_⟩
  ·simp only [List.mem_cons,List.not_mem_nil,or_false] at hx
   rcases hx with rfl | rfl | rfl | rfl
   ·exact ⟨by simp,by simp,by simp,by simp only; omega,by simp only; omega⟩
   ·refine ⟨by simp only; omega,by have:=hd.nm.len; simp only; omega,fun n hn=>?_,by simp,by simp⟩
    have:=(hd.nm.sz n hn).1; omega
   ·exact ⟨by simp,by simp,by simp,by simp only; omega,by simp only; omega⟩
   ·exact ⟨by simp,by simp,by simp,by simp only; omega,by simp only; omega⟩
  ·refine F7 hd (F7 ?_ (F7 ?_ (F7 ?_ (Lm ?_))))
   ·rw [I3 rfl]; exact h2
   ·rw [Lk rfl,I3 rfl]; exact h5
   ·rw [NM rfl,Lk rfl,I3 rfl]; exact h5.gone a
   ·rw [NM rfl,NM rfl,Lk rfl,I3 rfl]; exact (h5.gone a).gone b
theorem WI.steps {w:Wld}(h:WI w){st:List Stp}(hs:StI w.disk st) (cut:Int){s:Sto}(h2:StoI s):WI (FD w st cut s):=by
 unfold FD
 split
 ·exact h
 ·split
  ·exact WI.Pq (hs.ok _)
  ·exact ⟨h2,hs.ok _⟩
theorem WI.do {w:Wld}(h:WI w) (e:Evt):WI (doW w e):=by
 unfold doW
 split
 ·split
  ·exact ⟨h.sto.add _ _,h.dsk⟩
  ·exact h
 ·split
  ·exact h.steps (StI.flush h) _ h.sto.flush
  ·split
   ·exact h.steps (StI.merge h.dsk _) _ (h.sto.merge _)
   ·split
    ·exact WI.Pq h.dsk
    ·exact h
end Go.Proofs.YtfninflnngpchaaGreat
namespace Go.Proofs.YtfninflnngpchaaGreat
theorem GA.quo {P:Program}{S:Nat→Prop}{n m:Nat}{L:Env→World→Prop}{ops:Array Oper}{l:List Nat}{e:Env}{w:World}{i:Nat}{t:TypeId}{a b:Int}(hb:gB n m ops l i=true) (h:EO n ops i e=some (.quo,t,.int .i64 a,.int .i64 b)) (hb0:b≠0) (hr:-9223372036854775808≤a.tdiv b∧a.tdiv b≤9223372036854775807)
 (H:GA P S n m L ops (i::l) (Ab e (Aa ops i).dst (.int .i64 (a.tdiv b))) w):GA P S n m L ops l e w :=
 GA.J1 hb (fun w=>Ch h (fun _ _=>LY hb0 hr w)) H
theorem Cov.mk1 (w:World) (b:Nat):Cov (Go.Proofs.YtfninflnngpchaaGreat.one b) w b:=⟨.inl rfl⟩
instance {w:World}{b:Nat}:Cov (Go.Proofs.YtfninflnngpchaaGreat.one b) w b:=⟨.inl rfl⟩
def RI (t:Tag):Prop:=t.key.length≤1000∧t.val.length≤1000
def NmD (n:List Tag):Prop:=n.length≤5∧∀ t∈n,RI t
def Lo (r:Row):Prop:=-1≤r.t∧r.t≤100 ∧ -100≤r.v∧r.v≤100
end Go.Proofs.YtfninflnngpchaaGreat
namespace Go.Proofs.YtfninflnngpchaaGreat
def Oo (P:Program) (s d:TypeId):Bool :=
 match P.underlying s,P.underlying d with
 | some (.slice e),some .string=>(match P.underlying e with | some (.int .u8)=>true | _=>false)
 | _,_=>false
theorem Hb {P:Program}{w:World}{r:Nat}{src dst:TypeId}{y:UInt8}{c:Nat}(h:Has w ⟨r,0,none⟩ [.int .u8 (y.toNat:Int)]) (hb:Oo P src dst=true) :
 (convert src dst (.slice (some ⟨r,0,none⟩) 1 c)).run P w=.ok (.string (bs [y])) w:=by
 unfold Oo at hb
 split at hb
 ·rename_i e h1 h2
  split at hb
  ·rename_i h3
   have h4:=run_loadCellsFrom (P:=P) ⟨r,0,none⟩ [.int .u8 (y.toNat:Int)] 0 #[] _ rfl h
   have h5:(loadCells ⟨r,0,none⟩ 1).run P w=.ok #[.int .u8 (y.toNat:Int)] w:=h4
   have h6:(Conv.bytesToString (.slice (some ⟨r,0,none⟩) 1 c)).run P w=.ok (.string (bs [y])) w:=by
    unfold Conv.bytesToString
    simp only []
    rw [AX h5]
    simp [go_sem]
    rfl
   unfold convert
   rw [AX (run_underlying h1 w),AX (run_underlying h2 w)]
   simp only []
   rw [AX (run_underlying h3 w)]
   exact h6
  ·cases hb
 ·cases hb
def NP (n:Nat) (ops:Array Oper) (j:Nat) (e:Env):Option (TypeId × TypeId × Value) :=
 bif BW n ops j e then
  match (Aa ops j).op with
  | .convert s d x=>some (s,d,ev e x)
  | _=>none
 else none
theorem F8 {P:Program}{n:Nat}{ops:Array Oper}{j:Nat}{e:Env}{s d:TypeId}{a v:Value}{w:World}(h:NP n ops j e=some (s,d,a))
 (hr:(convert s d a).run P w=.ok v w):BW n ops j e=true∧(execOp (ev e) (Aa ops j)).run P w=.ok (.value v) w:=by
 obtain ⟨hg,h⟩:=BQ h
 refine ⟨hg,?_⟩
 split at h
 ·rename_i s' d' x hop
  simp only [Option.some.injEq,Prod.mk.injEq] at h
  obtain ⟨rfl,rfl,rfl⟩:=h
  simp only [execOp,hop]
  exact AX hr
 ·cases h
theorem GA.b2s {P:Program}{n m:Nat}{L:Env→World→Prop}{ops:Array Oper}{l:List Nat}{e:Env}{w:World}{i:Nat}{s d:TypeId}{r c:Nat}{y:UInt8}{t:TypeId}{F:Nat→Prop}
 (hb:gB n m ops l i=true) (ho:Own w r t F 1 c [y]) (h:NP n ops i e=some (s,d,.slice (some ⟨r,0,none⟩) 1 c)) (ht:Oo P s d=true)
 (H:GA P nil n m L ops (i::l) (Ab e (Aa ops i).dst (.string (bs [y]))) w):GA P nil n m L ops l e w:=by
 obtain ⟨cs,h1,h2⟩:=ho.elem 0 y rfl
 cases h1
 have h3:Has w ⟨r,0,none⟩ [.int .u8 (y.toNat:Int)]:=by simpa using h2
 have h4:=F8 (P:=P) (w:=w) h (Hb h3 ht)
 refine GA.det (by unfold gB at hb; rw [hb,h4.1]; rfl) (fun w1 hx=>?_) H
 exact (F8 (P:=P) (w:=w1) h (Hb (h3.ext hx) ht)).2
end Go.Proofs.YtfninflnngpchaaGreat
namespace Go.Proofs.YtfninflnngpchaaGreat
theorem NmD.sz {n:List Tag}(h:NmD n):NA n:=⟨Nat.le_trans h.1 AE,h.2⟩
theorem NmD.nil:NmD []:=⟨by simp,by simp⟩
def NsD (ns:List (List Tag)):Prop:=∀ n∈ns,NmD n
structure WD (w:Wld):Prop where
 wi:WI w
 sn:NsD w.store.idx.names
 dn:NsD w.disk.names
theorem NsD.nil:NsD []:=by intro n hn; cases hn
theorem WD.new:WD ⟨⟨⟨[],[]⟩,[],[]⟩,⟨[],[],[],1⟩⟩:=⟨WI.new,NsD.nil,NsD.nil⟩
theorem MD (Q:List (List Tag)→Prop):∀ (st:List Stp) (d:Dsk),Q d.names→(∀ x∈st,x.kind=2→Q x.names)→Q (st.foldl doD d).names:=by
 intro st
 induction st with
 | nil=>intro d h _; exact h
 | cons x xs ih =>
   intro d h hs
   refine ih (doD d x) ?_ (fun y hy=>hs y (by simp [hy]))
   unfold doD
   split
   ·exact h
   ·split
    ·exact hs x AD ‹_›
    ·split
     ·exact h
     ·exact h
theorem WD.steps {w:Wld}(h:WD w){st:List Stp}(hs:∀ x∈st,x.kind=2→NsD x.names) (cut:Int){s:Sto}(h2:NsD s.idx.names):NsD (FD w st cut s).store.idx.names∧NsD (FD w st cut s).disk.names:=by
 have h3:NsD (toD w.disk st cut).names:=MD NsD _ _ h.dn (fun x hx hk=>hs x (List.mem_of_mem_take hx) hk)
 unfold FD
 split
 ·exact ⟨h.sn,h.dn⟩
 ·split
  ·exact ⟨h3,h3⟩
  ·exact ⟨h2,h3⟩
theorem Kt {s:Sto}{n:List Tag}{r:Row}(h:NsD s.idx.names) (hn:NmD n):NsD (NG s n r).1.idx.names:=by
 have h1:NsD (DU s.idx n).1.names:=by
  unfold DU
  split
  ·exact h
  ·split
   ·exact h
   ·intro m hm
    rcases List.mem_append.1 hm with hm | hm
    ·exact h m hm
    ·simp at hm; rw [hm]; exact hn
 unfold NG
 split
 ·exact h
 ·split
  ·exact h
  ·exact h1
theorem Ku (s:Sto):(Ha s).1.idx=s.idx:=by unfold Ha; split <;> rfl
theorem Kv (s:Sto) (a:Int):(DV s a).1.idx=s.idx:=by unfold DV; split <;> rfl
theorem ME {w:Wld}(h:WD w):∀ x∈FU w.disk w.store,x.kind=2→NsD x.names:=by
 unfold FU
 split
 ·intro x hx; cases hx
 ·intro x hx _
  simp only [List.mem_cons,List.not_mem_nil,or_false] at hx
  rcases hx with rfl | rfl
  ·exact NsD.nil
  ·exact h.sn
theorem MF {d:Dsk}(h:NsD d.names) (a:Int):∀ x∈FV d a,x.kind=2→NsD x.names:=by
 unfold FV
 split
 ·intro x hx; cases hx
 ·intro x hx _
  simp only [List.mem_cons,List.not_mem_nil,or_false] at hx
  rcases hx with rfl | rfl | rfl | rfl
  ·exact NsD.nil
  ·exact h
  ·exact NsD.nil
  ·exact NsD.nil
theorem WD.do {w:Wld}(h:WD w){e:Evt}(he:NmD e.name):WD (doW w e):=by
 have key:NsD (doW w e).store.idx.names∧NsD (doW w e).disk.names:=by
  unfold doW
  split
  ·split
   ·exact ⟨Kt h.sn he,h.dn⟩
   ·exact ⟨h.sn,h.dn⟩
  ·split
   ·exact h.steps (ME h) _ (by rw [Ku]; exact h.sn)
   ·split
    ·exact h.steps (MF h.dn _) _ (by rw [Kv]; exact h.sn)
    ·split
     ·exact ⟨h.dn,h.dn⟩
     ·exact ⟨h.sn,h.dn⟩
 exact ⟨h.wi.do e,key.1,key.2⟩
theorem WD.copy {w:Wld}(h:WD w):WD (Pc w):=⟨h.wi.copy,h.sn,h.dn⟩
structure SD (s:Sto):Prop where
 idx:s.idx=idxOf s.idx.names
 nm:NmI s.idx.names
 nd:NsD s.idx.names
 np:s.parts.length≤6
 part:∀ p∈s.parts,PrtI p
 nm2:s.mem.length≤21
 mem:∀ m∈s.mem,0≤m.id∧m.id≤7∧Lo m.row
theorem J8 {r:Row}(h:BF r=true):Lo r:=by
 have h1:=HF h
 have h2:=Ll h
 unfold Lo
 omega
theorem WD.sd {w:Wld}(h:WD w):SD w.store:=⟨h.wi.sto.idx,h.wi.sto.nm,h.sn,h.wi.sto.np,h.wi.sto.part,by have:=h.wi.sto.nm2; omega,fun m hm=>by
 have h1:=h.wi.sto.RH m hm
 exact ⟨by omega,by omega,J8 (h.wi.sto.mem m hm).2.2⟩⟩
end Go.Proofs.YtfninflnngpchaaGreat
namespace Go.Proofs.YtfninflnngpchaaGreat
def Cs:List Tag:=(List.range' 97 4).flatMap (fun k=>(List.range' 112 11).map (CZ k))
theorem MG (names:List (List Tag)) (k:Nat):∀ f v,D1 names k f v=((List.range' v f).map (CZ k)).flatMap (Bk names):=by
 intro f
 induction f with
 | zero=>intro v; rfl
 | succ f ih=>intro v; rw [D1,ih,List.range'_succ]; rfl
theorem MH (names:List (List Tag)):∀ f k,D2 names f k=((List.range' k f).flatMap (fun k=>(List.range' 112 11).map (CZ k))).flatMap (Bk names):=by
 intro f
 induction f with
 | zero=>intro k; rfl
 | succ f ih=>intro k; rw [D2,ih,MG,show List.range' k (f+1)=k::List.range' (k+1) f from rfl,List.flatMap_cons,List.flatMap_append]
theorem DA (names:List (List Tag)):Ay names=Cs.flatMap (Bk names):=MH names 4 97
theorem FW:Cs.Pairwise (fun a b=>BO a b=true):=by decide +kernel
theorem MJ {t:Tag}(h:Ba t=true):t∈Cs:=by
 simp only [Ba,AW] at h
 obtain ⟨h1,h2⟩:=h
 obtain ⟨x,hx⟩:∃ x,t.key=[x]:=by
  have:=Co h1
  match t.key,this with
  | [x],_=>exact ⟨x,rfl⟩
 obtain ⟨y,hy⟩:∃ y,t.val=[y]:=by
  have:=Co h2
  match t.val,this with
  | [y],_=>exact ⟨y,rfl⟩
 rw [hx] at h1
 rw [hy] at h2
 have g1:=Bh h1
 have g2:=Bh h2
 unfold Cs
 refine List.mem_flatMap.2 ⟨x.toNat,?_,List.mem_map.2 ⟨y.toNat,?_,?_⟩⟩
 ·rw [List.mem_range'_1]; omega
 ·rw [List.mem_range'_1]; omega
 ·cases t
  simp only at hx hy
  subst hx hy
  simp [CZ]
theorem F9 {names:List (List Tag)}{p:Pst}(h:p∈Ay names):p.ids=ids names p.tag∧0< p.ids.length∧p.tag∈Cs:=by
 rw [DA] at h
 obtain ⟨t,ht,hp⟩:=List.mem_flatMap.1 h
 unfold Bk at hp
 split at hp
 ·simp at hp
  subst hp
  exact ⟨rfl,by assumption,ht⟩
 ·cases hp
theorem J9 {names:List (List Tag)}{t:Tag}(h:t∈Cs) (h2:0< (ids names t).length):⟨t,ids names t⟩∈Ay names:=by
 rw [DA]
 refine List.mem_flatMap.2 ⟨t,h,?_⟩
 unfold Bk
 rw [if_pos h2]
 simp
theorem D6 (names:List (List Tag)):(Ay names).Pairwise (fun a b=>BO a.tag b.tag=true):=by
 rw [DA,List.pairwise_flatMap]
 refine ⟨fun t _=>?_,FW.imp ?_⟩
 ·unfold Bk
  split <;> simp
 ·intro a b hab x hx y hy
  have h1:x.tag=a:=by
   unfold Bk at hx
   split at hx
   ·simp at hx; rw [hx]
   ·cases hx
  have h2:y.tag=b:=by
   unfold Bk at hy
   split at hy
   ·simp at hy; rw [hy]
   ·cases hy
  rw [h1,h2]
  exact hab
def By (names:List (List Tag)):Nat:=(names.map List.length).sum
def Ct (ps:List Pst):Nat:=(ps.map (fun p=>p.ids.length)).sum
theorem NQ (t:Tag):∀ (ns:List (List Tag)) (i:Nat),(DK t i ns).length=(ns.map (fun n=>if has n t then 1 else 0)).sum:=by
 intro ns
 induction ns with
 | nil=>intro i; rfl
 | cons n ns ih =>
   intro i
   rw [DK,List.length_append,ih,List.map_cons,List.sum_cons]
   split <;> simp_all
theorem KA (names:List (List Tag)):Ct (Ay names)=(Cs.map (fun t=>(ids names t).length)).sum:=by
 rw [DA]
 generalize Cs=U
 induction U with
 | nil=>rfl
 | cons t ts ih =>
   rw [List.flatMap_cons]
   unfold Ct at ih ⊢
   rw [List.map_append,List.sum_append,ih,List.map_cons,List.sum_cons]
   congr 1
   unfold Bk
   split
   ·simp
   ·simp; omega
theorem Hc {α:Type}(U:List α) (f:α→Nat) (h:∀ a∈U,f a=0):(U.map f).sum=0:=by
 induction U with
 | nil=>rfl
 | cons a U ih=>rw [List.map_cons,List.sum_cons,h a AD,ih (fun b hb=>h b (by simp [hb]))]
theorem Lq {α:Type}(U:List α) (f g:α→Nat):(U.map (fun a=>f a+g a)).sum=(U.map f).sum+(U.map g).sum:=by
 induction U with
 | nil=>rfl
 | cons a U ih=>simp only [List.map_cons,List.sum_cons,ih]; omega
theorem Oq {U:List Tag}(hU:U.Nodup){t:Tag}(ht:t∈U):(U.map (fun u=>if t==u then 1 else 0)).sum=1:=by
 induction U with
 | nil=>cases ht
 | cons a U ih =>
   rw [List.map_cons,List.sum_cons]
   obtain ⟨h1,h2⟩:=List.nodup_cons.1 hU
   rcases List.mem_cons.1 ht with rfl | ht
   ·rw [Hc U _ (fun b hb=>by
     have:¬ (t==b)=true:=fun e=>h1 (by rw [eq_of_beq e]; exact hb)
     simp only [this]; rfl)]
    simp
   ·have:¬ (t==a)=true:=fun e=>h1 (by rw [← eq_of_beq e]; exact ht)
    rw [ih h2 ht,if_neg this]
theorem Ot {U:List Tag}(hU:U.Nodup):∀ (n:List Tag),n.Nodup→(∀ t∈n,t∈U)→(U.map (fun u=>if has n u then 1 else 0)).sum=n.length:=by
 intro n
 induction n with
 | nil=>intro _ _; exact Hc U _ (fun a _=>by simp [has])
 | cons t ts ih =>
   intro hn hm
   obtain ⟨h1,h2⟩:=List.nodup_cons.1 hn
   have e:(U.map (fun u=>if has (t::ts) u then 1 else 0))=U.map (fun u=>(if t==u then 1 else 0)+(if has ts u then 1 else 0)):=by
    apply List.map_congr_left
    intro u _
    by_cases hu:(t==u)=true
    ·have h3:has ts u=false:=by
      rw [← eq_of_beq hu]
      unfold has
      rw [List.any_eq_false]
      intro x hx hxt
      exact h1 (by rw [← eq_of_beq hxt]; exact hx)
     simp [has,hu]
     unfold has at h3
     rw [List.any_eq_false] at h3
     exact fun hm=>h3 u hm AD
    ·simp [has,hu]
   rw [e,Lq,Oq hU (hm t AD),ih h2 (fun x hx=>hm x (by simp [hx])),List.length_cons]
   omega
theorem Ek:∀ (s:Str),Au s s=false:=by
 intro s
 induction s with
 | nil=>rfl
 | cons x xs ih =>
   have ih':Op.bytesLess xs xs=false:=ih
   show (decide (x< x) || x==x&&Op.bytesLess xs xs)=false
   simp [ih']
theorem I7 {a b:Tag}(ha:Ba a=true) (hb:Ba b=true) (h:Au a.key b.key=true):∃ x y,a.key=[x]∧b.key=[y]∧x.toNat< y.toNat:=by
 simp only [Ba,AW] at ha hb
 have h1:=Co ha.1
 have h2:=Co hb.1
 match ha':a.key,h1,hb':b.key,h2 with
 | [x], _, [y], _ =>
   rw [ha',hb',HO] at h
   exact ⟨x,y,rfl,rfl,by simpa using h⟩
theorem Kw:∀ (n:List Tag) (o:Option Tag),CI o n=true→(∀ q,o=some q→Ba q=true)→(∀ q,o=some q→∀ t∈n,Au q.key t.key=true)∧n.Nodup:=by
 intro n
 induction n with
 | nil=>intro o _ _; exact ⟨fun _ _ t ht=>(by cases ht),by simp⟩
 | cons t ts ih =>
   intro o h ho
   simp only [CI,AW] at h
   obtain ⟨⟨h1,h2⟩,h3⟩:=h
   obtain ⟨g1,g2⟩:=ih (some t) h3 (fun q hq=>by cases hq; exact h1)
   refine ⟨fun q hq u hu=>?_,List.nodup_cons.2 ⟨fun hm=>?_,g2⟩⟩
   ·subst hq
    have h4:Au q.key t.key=true:=h2
    rcases List.mem_cons.1 hu with rfl | hu
    ·exact h4
    ·have h5:=g1 t rfl u hu
     obtain ⟨x,y,e1,e2,l1⟩:=I7 (ho q rfl) h1 h4
     obtain ⟨y',z,e3,e4,l2⟩:=I7 h1 (D5 ts (some t) h3 u hu) h5
     rw [e2] at e3
     cases e3
     rw [e1,e4,HO]
     simp; omega
   ·have h5:=g1 t rfl t hm
    rw [Ek] at h5
    cases h5
theorem C2 {n:List Tag}(h:Aj n=true):n.Nodup∧∀ t∈n,t∈Cs:=by
 simp only [Aj,AW] at h
 exact ⟨(Kw n none h.1 AD).2,fun t ht=>MJ (D5 n none h.1 t ht)⟩
theorem KB:Cs.Nodup:=FW.imp (fun {a b} h e=>by
 subst e
 unfold BO at h
 simp [Ek] at h)
theorem NR {names:List (List Tag)}(h:∀ n∈names,Aj n=true):Ct (Ay names)=By names:=by
 rw [KA]
 unfold ids
 have e:(Cs.map (fun t=>(DK t 0 names).length))=Cs.map (fun t=>(names.map (fun n=>if has n t then 1 else 0)).sum):=by
  apply List.map_congr_left
  intro t _
  exact NQ t names 0
 rw [e]
 clear e
 induction names with
 | nil=>exact Hc _ _ (fun _ _=>rfl)
 | cons n ns ih =>
   have e:(Cs.map (fun t=>((n::ns).map (fun n=>if has n t then 1 else 0)).sum))=Cs.map (fun t=>(if has n t then 1 else 0)+(ns.map (fun n=>if has n t then 1 else 0)).sum):=by
    apply List.map_congr_left
    intro t _
    rfl
   have g:=C2 (h n AD)
   rw [e,Lq,Ot KB n g.1 g.2,ih (fun m hm=>h m (by simp [hm]))]
   rfl
end Go.Proofs.YtfninflnngpchaaGreat
namespace Go.Proofs.YtfninflnngpchaaGreat
structure IxI (x:Idx):Prop where
 eq:x=idxOf x.names
 nm:NmI x.names
theorem IxI.Ae {x:Idx}(h:IxI x):x.Ae=Ay x.names:=by have:=h.eq; rw [this]; rfl
theorem IxI.sz {x:Idx}(h:IxI x):PZ x:=⟨by have:=h.nm.len; omega,h.nm.sz⟩
theorem SD.ix {s:Sto}(h:SD s):IxI s.idx:=⟨h.idx,h.nm⟩
theorem SD.sz {s:Sto}(h:SD s):Pa s:=⟨h.ix.sz,by have:=h.np; omega,fun p hp=>(h.part p hp).sz,by have:=h.nm2; omega⟩
theorem NS {names:List (List Tag)}(h:(names.map text).Nodup){i k:Nat}{x y:List Tag}(hx:names[i]? = some x) (hy:names[k]? = some y) (hk:k< i):¬ (text x=text y):=by
 intro e
 have h1:(names.map text)[i]? = some (text x):=by rw [List.getElem?_map,hx]; rfl
 have h2:(names.map text)[k]? = some (text y):=by rw [List.getElem?_map,hy]; rfl
 obtain ⟨g1,g2⟩:=List.getElem?_eq_some_iff.1 h1
 obtain ⟨g3,g4⟩:=List.getElem?_eq_some_iff.1 h2
 exact (List.pairwise_iff_getElem.1 h) k i g3 g1 hk (by rw [g2,g4,e])
theorem Cl (names:List (List Tag)) (t:Tag):(ids names t).length≤names.length:=by
 unfold ids
 have:∀ (ns:List (List Tag)) (i:Nat),(DK t i ns).length≤ns.length:=by
  intro ns
  induction ns with
  | nil=>intro i; simp [DK]
  | cons n ns ih =>
    intro i
    have:=ih (i+1)
    rw [DK,List.length_append,List.length_cons]
    split <;> simp <;> omega
 exact this names 0
theorem HG {α:Type}{f:α→Nat}{l:List α}{i:Nat}{x:α}(h:l[i]? = some x):((l.take (i+1)).map f).sum=((l.take i).map f).sum+f x:=by
 obtain ⟨h1,h2⟩:=List.getElem?_eq_some_iff.1 h
 rw [List.take_add_one,h]
 simp
theorem Kx {names:List (List Tag)}{i:Nat}{x y:Pst}(hx:(Ay names)[i]? = some x) (hy:(Ay names)[i - 1]? = some y) (hi:0< i):BO y.tag x.tag=true:=by
 have h:=D6 names
 rw [List.pairwise_iff_getElem] at h
 obtain ⟨g1,g2⟩:=List.getElem?_eq_some_iff.1 hx
 obtain ⟨g3,g4⟩:=List.getElem?_eq_some_iff.1 hy
 have:=h (i - 1) i g3 g1 AB
 rw [g2,g4] at this
 exact this
theorem MK (names:List (List Tag)):(Ay names).length≤44:=by
 rw [DA]
 have h:∀ U:List Tag,(U.flatMap (Bk names)).length≤U.length:=by
  intro U
  induction U with
  | nil=>simp
  | cons t ts ih =>
    rw [List.flatMap_cons,List.length_append,List.length_cons]
    have:(Bk names t).length≤1:=by unfold Bk; split <;> simp
    omega
 have h2:Cs.length=44:=by decide +kernel
 have:=h Cs
 omega
theorem FX {α:Type}{f:α→Bool}{l:List α}{i:Nat}{x:α}{b:Bool}(h:(l.drop i).all f=b) (hd:l.drop i=x::l.drop (i+1)) (hx:f x=true):(l.drop (i+1)).all f=b:=by
 rw [hd,List.all_cons,hx,Bool.true_and] at h
 exact h
theorem BP {α:Type}{f:α→Bool}{l:List α}{i:Nat}{x:α}{b:Bool}(h:(l.drop i).all f=b) (hd:l.drop i=x::l.drop (i+1)) (hx:f x=false):b=false:=by
 rw [hd,List.all_cons,hx,Bool.false_and] at h
 exact h.symm
theorem Hd {α:Type}{f:α→Bool}{l:List α}{i:Nat}{b:Bool}(h:(l.drop i).all f=b) (hi:l.length≤i):b=true:=by
 rw [AY hi] at h
 exact h.symm
def BR (n:Nat) (m:Smp):Bool:=inR m.id 1 n&&BF m.row
def Cu (s:Sto) (i:Nat):Bool:=decide ((rowsOf s ((i:Int)+1)).length≤24)
def AZ (s:Sto):Bool :=
 decide (s.parts.length≤6)&&decide (s.mem.length≤20)&&s.parts.all (fun p=>Ax p s.idx.names.length)&&s.mem.all (BR s.idx.names.length)&&(List.range s.idx.names.length).all (Cu s)
theorem BB {s:Sto}(h:(s.parts.length:Int) > 6∨(s.mem.length:Int) > 20):AZ s=false:=by
 unfold AZ
 rcases h with h | h
 ·rw [decide_eq_false AB]; simp
 ·rw [decide_eq_false (p:=s.mem.length≤20) AB]; simp
theorem BC {s:Sto}(h:s.parts.all (fun p=>Ax p s.idx.names.length)=false):AZ s=false:=by unfold AZ; rw [h]; simp
theorem BD {s:Sto}(h:s.mem.all (BR s.idx.names.length)=false):AZ s=false:=by unfold AZ; rw [h]; simp
theorem BE {s:Sto}(h:(List.range s.idx.names.length).all (Cu s)=false):AZ s=false:=by unfold AZ; rw [h]; simp
theorem I8 {s:Sto}(h1:¬ (s.parts.length:Int) > 6) (h2:¬ (s.mem.length:Int) > 20) (h3:s.parts.all (fun p=>Ax p s.idx.names.length)=true) (h4:s.mem.all (BR s.idx.names.length)=true) (h5:(List.range s.idx.names.length).all (Cu s)=true):AZ s=true:=by
 unfold AZ
 rw [h3,h4,h5,decide_eq_true AB,decide_eq_true AB]
 rfl
theorem KC {n i:Nat}(h:i< n):(List.range n).drop i=i::(List.range n).drop (i+1):=by
 rw [List.drop_eq_getElem_cons (by simpa using h)]
 simp
theorem SD.copy {s:Sto}(h:SD s):EU s=s:=by
 have:=h.idx
 unfold EU
 rw [← this]
theorem Lr {s:Sto}{n k:Nat}{b:Bool}(h:((List.range n).drop (k - 1)).all (Cu s)=b) (h1:1≤k) (h2:k≤n) (h3:((rowsOf s (k:Int)).length:Int)≤24):((List.range n).drop (k+1 - 1)).all (Cu s)=b:=by
 have hd:=KC (n:=n) (i:=k - 1) AB
 have:=FX h hd (by unfold Cu; rw [show ((k - 1:Nat):Int)+1=(k:Int) by omega]; simp; omega)
 rw [show k+1 - 1=k - 1+1 by omega]
 exact this
theorem Cv {s:Sto}{n k:Nat}{b:Bool}(h:((List.range n).drop (k - 1)).all (Cu s)=b) (h1:1≤k) (h2:k≤n) (h3:((rowsOf s (k:Int)).length:Int) > 24):b=false:=by
 have hd:=KC (n:=n) (i:=k - 1) AB
 exact BP h hd (by unfold Cu; rw [show ((k - 1:Nat):Int)+1=(k:Int) by omega]; simp; omega)
theorem NT {s:Sto}{n k:Nat}{b:Bool}(h:((List.range n).drop (k - 1)).all (Cu s)=b) (h1:n+1≤k):b=true:=Hd h (by simp; omega)
end Go.Proofs.YtfninflnngpchaaGreat
