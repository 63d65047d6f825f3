/- walks; pruned haves; hints pruned; squeezed -/
import Derived.Test.YtckdhcbbgmiccaaGreatDoorLdzMem
open Go.Proofs.Tryz
set_option linter.unusedVariables false
set_option linter.unusedSimpArgs false
namespace Go.Proofs.YtckdhcbbgmiccaaGreatDoor
set_option maxRecDepth 100000
set_option maxHeartbeats 4000000
variable {w:World} {F:Nat→Prop} {a1 a2:Option Addr} {n1 c1 n2 c2:Nat}
theorem GJ (n:List Tag) (h1:RepS w F a1 n1 c1 n)  : Calls Tryz.prog 90 [.slice a1 n1 c1].toArray w (Al fun rv w'=>rv=.bool (Ar n)∧Ext w w'):=by
 cases h1.len
 refine goT func90 ?_
 have Z:=(St.i0 F w).p h1
 have aj:=h1.max
 refine .s<|.g<|.r 1<|.d<|.s<|.s<|.g<|.r 1<|.d<|.b 0<|T.Lp (0:Nat) (fun i=>([(0,.slice a1 n.length c1),(3,vI (i:Int))],[],[],n.length - i,(i≤n.length)∧(ED (prev n i) (n.drop i)=ED none n))) [] Z ⟨(by simp [prev]),(by simp [prev])⟩ ?_
 rintro i ax w Z ⟨ak,al⟩ E
 refine .s<|.s<|.g<|.r 3<|.bp ((i:Int)< (n.length:Int)) (fun af=>?_) (fun af=>.d<|.cf<|.x 0 rfl<|.s<|.g<|.r 2<|RG.C0 (CP (n.length:Int) 1 3 (F:=all)) Z fun w Z=>.r 1<|.d<|T.rt func90 results90 (.bool (inR (n.length:Int) 1 3)) ⟨(AG (by grind [ED,Ar,prev,Ac])),Z.xt⟩)
 refine .d<|.ct<|.sk<|.s<|.b 1<|.s<|T.Gd 21 Z fun w Z=>.r [0,1]<|gxb n i fun ac aa am ah=>GA.Ix 2 0 aa Z<|Z.el 0 aa fun Z=>GA.Lg 3 0 0 Z<|GA.C0 4 Z (fun w Z=>FK ac (F:=all)) ?_
 cases ao:(CD ac)
 ·exact .r [5,6]<|GA.Sk Z fun w Z=>.r 3<|.d<|.ct<|.s<|.g<|.r 1<|.d<|T.rt func90 results90 (.bool false) ⟨(AG (by grind [ED,Ar,prev,Ac])),Z.xt⟩
 refine .r [5,6,7]<|GA.G5 (i:=8) ((i:Int) > 0) AA (fun ag=>?_) (fun ag=>.r [9]<|GA.Sk Z fun w Z=>.r 3<|.d<|.cf<|.sk<|.ib 1<|.g<|.r 1<|.it ((i:Int)+1)<|.r 1<|.d<|E (i+1) _ _ AA (Z.to 0 [] 1) ⟨AB,(by grind [ED,prev])⟩ (by (simp only []; omega)))
 refine .r [9,10,11]<|GA.int (i:=12) ((i:Int) - 1) AA AB<|gx n (i - 1) fun ae ab=>GA.Jx 13 1 ((i:Int) - 1) ab Z<|.r [14]<|Z.el 1 ab fun Z=>GA.Lh 15 0 0 Z<|.r [16,17]<|GA.Ix 18 2 aa Z<|.r [19]<|GA.Lh 20 1 0 Z<|GA.Dn Z fun w Z=>RG.eqv (v:=.bool (!(Bz ae.key ac.key))) AA (WK ae.key ac.key) ?_
 cases ar:(Bz ae.key ac.key)
 ·exact .r 2<|.d<|.ct<|.s<|.g<|.r 1<|.d<|T.rt func90 results90 (.bool false) ⟨(AG (by grind [ED,Ar,prev,Ac])),Z.xt⟩
 exact .r 2<|.d<|.cf<|.sk<|.ib 1<|.g<|.r 1<|.it ((i:Int)+1)<|.r 1<|.d<|E (i+1) _ _ AA (Z.to 0 [] 2) ⟨AB,(by grind [ED,prev])⟩ (by (simp only []; omega))
theorem Dv (n:List Tag) (h1:RepS w F a1 n1 c1 n)  : Calls Tryz.prog 87 [.slice a1 n1 c1].toArray w (Al fun rv w'=>rv=.bool (Ar n)∧Ext w w'):=by
 cases h1.len
 refine goT func87 ?_
 have Z:=(St.i0 F w).p h1
 have aj:=h1.max
 refine .s<|.g<|.r 1<|.d<|.s<|.s<|.g<|.r 3<|.d<|.b 0<|T.Lp (0:Nat) (fun k=>([(0,.slice a1 n.length c1),(5,.slice a1 n.length c1),(6,vI (n.length:Int)),(7,vI (k:Int))],[],[],n.length - k,(k≤n.length)∧(ED (prev n k) (n.drop k)=ED none n))) [] Z ⟨(by simp [prev]),(by simp [prev])⟩ ?_
 rintro k ax w Z ⟨ak,al⟩ E
 refine .s<|.g<|.bp ((k:Int)< (n.length:Int)) (fun af=>?_) (fun af=>.d<|.s<|.cf<|.x 0 rfl<|.s<|.g<|.r 2<|RG.C0 (Bp (n.length:Int) 1 3 (F:=all)) Z fun w Z=>.r 1<|.d<|T.rt func87 results87 (.bool (inR (n.length:Int) 1 3)) ⟨(AG (by grind [ED,Ar,prev,Ac])),Z.xt⟩)
 refine .d<|.s<|.ct<|.sk<|.s<|.b 1<|.s<|.g<|.r 1<|gxb n k fun ac aa am ah=>RG.Ix 0 aa Z<|Z.el 0 aa fun Z=>RG.Lg 0 0 Z<|RG.Np Z fun ay w Z=>.r 1<|RG.Ss 0 Z fun w Z=>.d<|.s<|T.Gd 15 Z fun w Z=>GA.Ln 0 0 Z<|GA.C0 1 Z (fun w Z=>JE ac (F:=all)) ?_
 cases ao:(CD ac)
 ·exact .r [2,3]<|GA.Sk Z fun w Z=>.r 3<|.d<|.ct<|.s<|.g<|.r 1<|.d<|T.rt func87 results87 (.bool false) ⟨(AG (by grind [ED,Ar,prev,Ac])),Z.xt⟩
 refine .r [2,3,4]<|GA.G5 (i:=5) ((k:Int) > 0) AA (fun ag=>?_) (fun ag=>.r [6]<|GA.Sk Z fun w Z=>.r 3<|.d<|.cf<|.sk<|.ib 1<|.g<|.it ((k:Int)+1)<|.r 1<|.d<|E (k+1) _ _ AA (Z.to 1 [] 1) ⟨AB,(by grind [ED,prev])⟩ (by (simp only []; omega)))
 refine .r [6,7,8]<|GA.int (i:=9) ((k:Int) - 1) AA AB<|gx n (k - 1) fun ae ab=>GA.Jx 10 1 ((k:Int) - 1) ab Z<|.r [11]<|Z.el 1 ab fun Z=>GA.Lh 12 0 0 Z<|.r [13]<|GA.Lb 14 0 Z<|GA.Dn Z fun w Z=>RG.eqv (v:=.bool (!(Bz ae.key ac.key))) AA (WK ae.key ac.key) ?_
 cases ar:(Bz ae.key ac.key)
 ·exact .r 2<|.d<|.ct<|.s<|.g<|.r 1<|.d<|T.rt func87 results87 (.bool false) ⟨(AG (by grind [ED,Ar,prev,Ac])),Z.xt⟩
 exact .r 2<|.d<|.cf<|.sk<|.ib 1<|.g<|.it ((k:Int)+1)<|.r 1<|.d<|E (k+1) _ _ AA (Z.to 1 [] 2) ⟨AB,(by grind [ED,prev])⟩ (by (simp only []; omega))
theorem Dc (b:List Row) (h1:RepS w F a1 n1 c1 b)  : Calls Tryz.prog 84 [.slice a1 n1 c1].toArray w (Al fun rv w'=>rv=.bool (Bn b)∧Ext w w'):=by
 cases h1.len
 refine goT func84 ?_
 have Z:=(St.i0 F w).p h1
 have ak:=h1.max
 refine .s<|.g<|.r 1<|.d<|.s<|.s<|.g<|.r 3<|.d<|.b 0<|T.Lp (0:Nat) (fun k=>([(0,.slice a1 b.length c1),(5,.slice a1 b.length c1),(6,vI (b.length:Int)),(7,vI (k:Int))],[],[],b.length - k,(k≤b.length)∧(Cp (prev b k) (b.drop k)=Cp none b))) [] Z ⟨(by simp [prev]),(by simp [prev])⟩ ?_
 rintro k ax w Z ⟨al,am⟩ E
 refine .s<|.g<|.bp ((k:Int)< (b.length:Int)) (fun ae=>?_) (fun ae=>.d<|.s<|.cf<|.x 0 rfl<|.s<|.g<|.r 4<|.d<|T.rt func84 results84 (.bool (decide ((b.length:Int)≤24))) ⟨(AG (by grind [Cp,Bn,prev,Ac])),Z.xt⟩)
 refine .d<|.s<|.ct<|.sk<|.s<|.b 1<|.s<|.g<|.r 1<|gxb b k fun ac aa ao ah=>RG.Ix 0 aa Z<|Z.el 0 aa fun Z=>RG.Lg 0 0 Z<|RG.Np Z fun ay w Z=>.r 1<|RG.Ss 0 Z fun w Z=>.d<|.s<|T.Gd 15 Z fun w Z=>GA.Ln 0 0 Z<|GA.C0 1 Z (fun w Z=>Gt ac (F:=all)) ?_
 cases aq:(Be ac)
 ·exact .r [2,3]<|GA.Sk Z fun w Z=>.r 3<|.d<|.ct<|.s<|.g<|.r 1<|.d<|T.rt func84 results84 (.bool false) ⟨(AG (by grind [Cp,Bn,prev,Ac])),Z.xt⟩
 refine .r [2,3,4]<|GA.G5 (i:=5) ((k:Int) > 0) AA (fun af=>?_) (fun af=>.r [6]<|GA.Sk Z fun w Z=>.r 3<|.d<|.cf<|.sk<|.ib 1<|.g<|.it ((k:Int)+1)<|.r 1<|.d<|E (k+1) _ _ AA (Z.to 1 [] 1) ⟨AB,(by grind [Cp,prev])⟩ (by (simp only []; omega)))
 exact .r [6,7,8]<|GA.int (i:=9) ((k:Int) - 1) AA AB<|gx b (k - 1) fun aj ab=>GA.Jx 10 1 ((k:Int) - 1) ab Z<|.r [11]<|Z.el 1 ab fun Z=>GA.Lh 12 0 0 Z<|.r [13]<|GA.Lb 14 0 Z<|GA.Dn Z fun w Z=>.bp (aj.t≥ac.t) (fun ag=>.r 2<|.d<|.ct<|.s<|.g<|.r 1<|.d<|T.rt func84 results84 (.bool false) ⟨(AG (by grind [Cp,Bn,prev,Ac])),Z.xt⟩) fun ag=>.r 2<|.d<|.cf<|.sk<|.ib 1<|.g<|.it ((k:Int)+1)<|.r 1<|.d<|E (k+1) _ _ AA (Z.to 1 [] 2) ⟨AB,(by grind [Cp,prev])⟩ (by (simp only []; omega))
theorem DM (p:Prt) (h1:RepS w F a1 n1 c1 p.ids) (h2:RepS w F a2 n2 c2 p.blocks)  : Calls Tryz.prog 80 [.agg #[.slice a1 n1 c1,.slice a2 n2 c2]].toArray w (Al fun rv w'=>rv=.bool (Ay p)∧Ext w w'):=by
 cases h1.len
 cases h2.len
 refine goT func80 ?_
 have Z:=((St.i0 F w).p h1).p h2
 have aC:=h1.max
 refine .s<|.g<|RG.Np Z fun aA w Z=>.r 1<|.d<|.s<|.s<|.g<|.r 1<|RG.Lb 0 Z<|.r 2<|RG.Lb 0 Z<|.r 1<|.ne (p.ids.length:Int) (p.blocks.length:Int) (fun aj=>.d<|.ct<|.s<|.g<|.r 1<|.d<|T.rt func80 results80 (.bool false) ⟨(AG (by grind [CB,Ay,prev,Ac])),Z.xt⟩) fun aj=>.d<|.cf<|.sk<|.s<|.s<|.g<|.r 1<|RG.Lb 0 Z<|.r 2<|.d<|.b 0<|T.Lp (0:Nat) (fun k=>([(1,vP aA),(13,.slice a1 p.ids.length c1),(14,vI (p.ids.length:Int)),(15,vI (k:Int))],[],[],p.ids.length - k,(k≤p.ids.length)∧(CB (prev p.ids k) (p.ids.drop k) (p.blocks.drop k)=CB none p.ids p.blocks))) [] Z ⟨(by simp [prev]),(by simp [prev])⟩ ?_
 rintro k aO w Z ⟨aE,aF⟩ E
 refine .s<|.g<|.bp ((k:Int)< (p.ids.length:Int)) (fun ak=>?_) (fun ak=>.d<|.s<|.cf<|.x 0 rfl<|.s<|.g<|.r 1<|.d<|T.rt func80 results80 (.bool true) ⟨(AG (by grind [CB,Ay,prev,Ac])),Z.xt⟩)
 refine .d<|.s<|.ct<|.sk<|.s<|.b 1<|.s<|.g<|.r 1<|gxb p.ids k fun ag ac aG ar=>RG.Ix 1 ac Z<|Z.el 1 ac fun Z=>RG.Lh 0 0 Z<|.r 2<|.d<|.s<|.g<|.r 1<|RG.C0 (Bp ag 1 6 (F:=all)) Z fun w Z=>?_
 cases af:(inR ag 1 6)
 ·exact .r 33<|.d<|.ct<|.s<|.g<|.r 1<|.d<|T.rt func80 results80 (.bool false) ⟨(AG (by (have hdd:=List.drop_eq_getElem_cons (l:=p.blocks) (i:=k) AB; grind [CB,Ay,prev,Ac]))),Z.xt⟩
 refine .r 3<|.bp ((k:Int) > 0) (fun al=>?_) (fun al=>?_)
 ·refine .r 2<|RG.Lb 0 Z<|.r 1<|.it ((k:Int) - 1)<|gx p.ids (k - 1) fun aB ae=>RG.Jx 2 ((k:Int) - 1) ae Z<|Z.el 2 ae fun Z=>RG.Lh 0 0 Z<|.r 1<|.bp (aB≥ag) (fun am=>.r 20<|.d<|.ct<|.s<|.g<|.r 1<|.d<|T.rt func80 results80 (.bool false) ⟨(AG (by (have hdd:=List.drop_eq_getElem_cons (l:=p.blocks) (i:=k) AB; grind [CB,Ay,prev,Ac]))),Z.xt⟩) fun am=>.r 4<|RG.Lb 0 Z<|.r 1<|gxd p.blocks k fun ah aa aK=>RG.Ix 2 aa Z<|Z.el 2 aa fun aP aQ Z=>RG.Lh 0 0 Z<|RG.C0 (Dc ah (Z.a 1)) Z fun w Z=>?_
  cases aL:(Bn ah)
  ·exact .r 11<|.d<|.ct<|.s<|.g<|.r 1<|.d<|T.rt func80 results80 (.bool false) ⟨(AG (by grind [CB,Ay,prev,Ac])),Z.xt⟩
  exact .r 4<|RG.Lb 0 Z<|.r 1<|RG.Ix 4 aa Z<|RG.Lh 0 0 Z<|.r 1<|.eq (ah.length:Int) 0 (fun ao=>.r 1<|.d<|.ct<|.s<|.g<|.r 1<|.d<|T.rt func80 results80 (.bool false) ⟨(AG (by grind [CB,Ay,prev,Ac])),Z.xt⟩) fun ao=>.r 1<|.d<|.cf<|.sk<|.ib 1<|.g<|.it ((k:Int)+1)<|.r 1<|.d<|E (k+1) _ _ AA (Z.to 0 [] 4) ⟨AB,(by grind [CB,prev])⟩ (by (simp only []; omega))
 refine .r 13<|RG.Lb 0 Z<|.r 1<|gxd p.blocks k fun ai ab aM=>RG.Ix 1 ab Z<|Z.el 1 ab fun aR aS Z=>RG.Lh 0 0 Z<|RG.C0 (Dc ai (Z.a 1)) Z fun w Z=>?_
 cases aN:(Bn ai)
 ·exact .r 11<|.d<|.ct<|.s<|.g<|.r 1<|.d<|T.rt func80 results80 (.bool false) ⟨(AG (by grind [CB,Ay,prev,Ac])),Z.xt⟩
 exact .r 4<|RG.Lb 0 Z<|.r 1<|RG.Ix 3 ab Z<|RG.Lh 0 0 Z<|.r 1<|.eq (ai.length:Int) 0 (fun aq=>.r 1<|.d<|.ct<|.s<|.g<|.r 1<|.d<|T.rt func80 results80 (.bool false) ⟨(AG (by grind [CB,Ay,prev,Ac])),Z.xt⟩) fun aq=>.r 1<|.d<|.cf<|.sk<|.ib 1<|.g<|.it ((k:Int)+1)<|.r 1<|.d<|E (k+1) _ _ AA (Z.to 0 [] 3) ⟨AB,(by grind [CB,prev])⟩ (by (simp only []; omega))
theorem EO (s:List Int) (v:Int) (h1:RepS w F a1 n1 c1 s)  : Calls Tryz.prog 151 [.slice a1 n1 c1,.int .i64 v].toArray w (Al fun rv w'=>rv=.int .i64 (Em v 0 s)∧Ext w w'):=by
 cases h1.len
 refine goT func151 ?_
 have Z:=(St.i0 F w).p h1
 have ag:=h1.max
 refine .s<|.g<|.r 1<|.d<|.s<|.s<|.g<|.r 3<|.d<|.b 0<|T.Lp (0:Nat) (fun k=>([(0,.slice a1 s.length c1),(1,vI v),(7,vI (s.length:Int)),(8,vI (k:Int))],[],[],s.length - k,(k≤s.length)∧(Em v k (s.drop k)=Em v 0 s))) [] Z ⟨AD,AD⟩ ?_
 rintro k ak w Z ⟨ah,ai⟩ aa
 refine .s<|.g<|.bp ((k:Int)< (s.length:Int)) (fun ab=>?_) (fun ab=>.d<|.s<|.cf<|.x 0 rfl<|.s<|.g<|.r 1<|.d<|T.rt func151 results151 (vI (-1)) ⟨(congrArg (Value.int .i64) (by grind [Em,Ac])),Z.xt⟩)
 exact .d<|.s<|.ct<|.sk<|.s<|.b 1<|.s<|.g<|.r 2<|.d<|.s<|.g<|.r 3<|gxd s k fun af E aj=>RG.Ix 0 E Z<|Z.el 0 E fun Z=>RG.Lh 0 0 Z<|.eq v af (fun ac=>.d<|.ct<|.s<|.g<|.r 2<|.d<|T.rt func151 results151 (vI (k:Int)) ⟨(congrArg (Value.int .i64) (by grind [Em,Ac])),Z.xt⟩) fun ac=>.d<|.cf<|.sk<|.ib 1<|.g<|.it ((k:Int)+1)<|.r 1<|.d<|aa (k+1) _ _ AA (Z.to 0 [] 1) ⟨AB,(by grind [Em])⟩ (by (simp only []; omega))
theorem HV (x:List Int) (h1:RepS w F a1 n1 c1 x) (p0:0< x.length):Calls Tryz.prog 81 [.slice a1 n1 c1].toArray w (Al fun rv w'=>rv=.int .i64 (maxOf x)∧Ext w w'):=by
 cases h1.len
 refine goT func81 ?_
 have Z:=(St.i0 F w).p h1
 have aj:=h1.max
 refine .s<|.g<|.r 1<|.d<|.s<|.s<|.g<|.r 2<|.bp ((x.length:Int)< 1) (fun ac=>.d<|.ct<|.g<|absurd (show False by omega) id) fun ac=>.d<|.cf<|.sk<|.s<|.g<|.r 1<|gxd x 0 fun ai E ak=>RG.Ix 0 E Z<|Z.el 0 E fun Z=>RG.Lh 0 0 Z<|.r 1<|.d<|.s<|.s<|.g<|.r 1<|.d<|.b 0<|T.Lp (ai,(1:Nat)) (fun (m,i)=>([(0,.slice a1 x.length c1),(3,vI m),(4,vI (i:Int))],[],[],x.length - i,(i≤x.length)∧(M6 m (x.drop i)=maxOf x))) [] Z ⟨AB,(by grind [maxOf])⟩ ?_
 rintro ⟨m,i⟩ aq w Z ⟨al,am⟩ ab
 refine .s<|.s<|.g<|.r 3<|.bp ((i:Int)< (x.length:Int)) (fun ae=>?_) (fun ae=>.d<|.cf<|.x 0 rfl<|.s<|.g<|.r 2<|.d<|T.rt func81 results81 (vI m) ⟨(congrArg (Value.int .i64) (by grind [M6,Ac])),Z.xt⟩)
 exact .d<|.ct<|.sk<|.s<|.b 1<|.g<|.r 3<|gxd x i fun af aa ao=>RG.Ix 1 aa Z<|Z.el 1 aa fun Z=>RG.Lh 0 0 Z<|.r 2<|.d<|.ib 1<|.g<|.r 1<|.it ((i:Int)+1)<|.r 1<|.d<|ab ((if af > m then af else m),i+1) _ _ AA (Z.to 0 [] 1) ⟨AB,(by grind [M6])⟩ (by (simp only []; omega))
theorem GK (n:List Tag) (h1:RepS w F a1 n1 c1 n) (p0:n.length≤1000000) (p1:∀ t∈n,t.key.length≤1000000∧t.val.length≤1000000):Calls Tryz.prog 55 [.slice a1 n1 c1].toArray w (Al fun rv w'=>rv=.string (bs (text n))∧Ext w w'):=by
 cases h1.len
 refine goT func55 ?_
 have Z:=(St.i0 F w).p h1
 refine .s<|.g<|.r 1<|.d<|.s<|.g<|.r 1<|.d<|.s<|.s<|.g<|.r 1<|.d<|.b 0<|T.Lp ([],(0:Nat)) (fun (out,i)=>([(0,.slice a1 n.length c1),(3,vT out),(4,vI (i:Int))],[],[],n.length - i,(i≤n.length)∧(out.length≤3000000 * i)∧(out++EF i (n.drop i)=text n))) [] Z ⟨(by simp [text]),(by simp [text]),(by simp [text])⟩ ?_
 rintro ⟨out,i⟩ ar w Z ⟨ak,al,am⟩ E
 refine .s<|.s<|.g<|.r 3<|.bp ((i:Int)< (n.length:Int)) (fun af=>?_) (fun af=>.d<|.cf<|.x 0 rfl<|.s<|.g<|.r 2<|.d<|T.rt func55 results55 (vT out) ⟨(congrArg (fun s=>Value.string (bs s)) (by grind [EF,Ac])),Z.xt⟩)
 refine .d<|.ct<|.sk<|.s<|.b 1<|.s<|.s<|.g<|.r 1<|.bp ((i:Int) > 0) (fun ag=>?_) (fun ag=>?_)
 ·exact .d<|.ct<|.g<|.r 1<|RG.cat (t:=9) (s:=out) (u:=[44]) AA (by grind)<|.r 1<|.d<|T.Gd 13 Z fun w Z=>.r [0,1,2]<|gxb n i fun ac aa ao ah=>GA.Ix 3 0 aa Z<|.r [4]<|Z.el 0 aa fun Z=>GA.Lh 5 0 0 Z<|GA.cat (i:=6) (t:=9) (s:=(out++[44])) (u:=ac.key) AA AA (by grind)<|GA.cat (i:=7) (t:=9) (s:=((out++[44])++ac.key)) (u:=[61]) AA AA (by grind)<|.r [8,9]<|GA.Ix 10 1 aa Z<|.r [11]<|GA.Lh 12 0 1 Z<|GA.Dn Z fun w Z=>RG.cat (t:=9) (s:=(((out++[44])++ac.key)++[61])) (u:=ac.val) AA (by grind)<|.r 1<|.d<|.ib 1<|.g<|.r 1<|.it ((i:Int)+1)<|.r 1<|.d<|E (((((out++[44])++ac.key)++[61])++ac.val),i+1) _ _ AA (Z.to 0 [] 1) ⟨AB,(by grind),(by grind [EF,HS])⟩ (by (simp only []; omega))
 exact .d<|.cf<|.sk<|T.Gd 13 Z fun w Z=>.r [0,1,2]<|gxb n i fun ae ab aq ai=>GA.Ix 3 0 ab Z<|.r [4]<|Z.el 0 ab fun Z=>GA.Lh 5 0 0 Z<|GA.cat (i:=6) (t:=9) (s:=out) (u:=ae.key) AA AA (by grind)<|GA.cat (i:=7) (t:=9) (s:=(out++ae.key)) (u:=[61]) AA AA (by grind)<|.r [8,9]<|GA.Ix 10 1 ab Z<|.r [11]<|GA.Lh 12 0 1 Z<|GA.Dn Z fun w Z=>RG.cat (t:=9) (s:=((out++ae.key)++[61])) (u:=ae.val) AA (by grind)<|.r 1<|.d<|.ib 1<|.g<|.r 1<|.it ((i:Int)+1)<|.r 1<|.d<|E ((((out++ae.key)++[61])++ae.val),i+1) _ _ AA (Z.to 0 [] 1) ⟨AB,(by grind),(by grind [EF,HS])⟩ (by (simp only []; omega))
end Go.Proofs.YtckdhcbbgmiccaaGreatDoor
namespace Go.Proofs.YtckdhcbbgmiccaaGreatDoor
set_option maxRecDepth 100000
set_option maxHeartbeats 4000000
variable {w:World} {F:Nat→Prop} {a1 a2 a3 a4:Option Addr} {n1 c1 n2 c2 n3 c3 n4 c4:Nat}
theorem M8  {F:Nat→Prop}   : Calls Tryz.prog 88 [].toArray w (Al fun rv w'=>VS (ge w.heap.size) w' ((⟨[],[]⟩:Idx):Idx) rv∧Ext w w'):=by
 refine goT func88 ?_
 have Z:=St.i0 F w
 refine .s<|.g<|RG.Np Z fun E w Z=>.d<|.s<|.g<|RG.N0 (List Tag) 0 Z fun aa w Z=>RG.N0 Pst 0 Z fun ab w Z=>.r 1<|RG.Ss 2 Z fun w Z=>.d ?_
 have Z:=(Z.sl 1).sl 0
 exact T.Rb 0 func88 results88 Z ⟨Z.rS (⟨([]:List (List Tag)),([]:List Pst)⟩:Idx) [1,0] AF,Z.xt⟩
theorem M9  {F:Nat→Prop}   : Calls Tryz.prog 44 [].toArray w (Al fun rv w'=>VS (ge w.heap.size) w' ((⟨⟨[],[]⟩,[],[]⟩:Sto):Sto) rv∧Ext w w'):=by
 refine goT func44 ?_
 have Z:=St.i0 F w
 refine .s<|.g<|RG.Np Z fun E w Z=>.d<|.s<|.g<|RG.CS (M8 (F:=all)) Z fun aa ab ac ae w Z=>RG.N0 Prt 0 Z fun af w Z=>RG.N0 Smp 0 Z fun ag w Z=>.r 1<|RG.Ss 2 Z fun w Z=>.d ?_
 have Z:=(Z.sl 1).sl 0
 exact T.Rb 0 func44 results44 Z ⟨Z.rS (⟨(⟨((⟨[],[]⟩:Idx)).names,((⟨[],[]⟩:Idx)).AY⟩:Idx),([]:List Prt),([]:List Smp)⟩:Sto) [2,3,1,0] AF,Z.xt⟩
theorem L5  {F:Nat→Prop}   : Calls Tryz.prog 45 [].toArray w (Al fun rv w'=>VS (ge w.heap.size) w' ((⟨[],[],[],1⟩:Dsk):Dsk) rv∧Ext w w'):=by
 refine goT func45 ?_
 have Z:=St.i0 F w
 refine .s<|.g<|RG.Np Z fun E w Z=>.d<|.s<|.g<|RG.N0 Fil 0 Z fun aa w Z=>RG.N0 Int 0 Z fun ab w Z=>RG.N0 (List Tag) 0 Z fun ac w Z=>.r 1<|RG.Ss 3 Z fun w Z=>.d ?_
 have Z:=((Z.sl 2).sl 1).sl 0
 exact T.Rb 0 func45 results45 Z ⟨Z.rS (⟨([]:List Fil),([]:List Int),([]:List (List Tag)),1⟩:Dsk) [2,1,0] AF,Z.xt⟩
theorem K9  {F:Nat→Prop}   : Calls Tryz.prog 22 [].toArray w (Al fun rv w'=>VS (ge w.heap.size) w' ((⟨⟨⟨[],[]⟩,[],[]⟩,⟨[],[],[],1⟩⟩:Wld):Wld) rv∧Ext w w'):=by
 refine goT func22 ?_
 have Z:=St.i0 F w
 exact .s<|.g<|RG.Np Z fun E w Z=>.d<|.s<|.g<|RG.CS (M9 (F:=all)) Z fun aa ab ac ae af ag ah ai w Z=>RG.CS (L5 (F:=all)) Z fun aj ak al am ao aq w Z=>.r 1<|RG.Ss 0 Z fun w Z=>.d<|T.Rb 0 func22 results22 Z ⟨Z.rS (⟨(⟨(⟨(((⟨⟨[],[]⟩,[],[]⟩:Sto)).idx).names,(((⟨⟨[],[]⟩,[],[]⟩:Sto)).idx).AY⟩:Idx),((⟨⟨[],[]⟩,[],[]⟩:Sto)).parts,((⟨⟨[],[]⟩,[],[]⟩:Sto)).mem⟩:Sto),(⟨((⟨[],[],[],1⟩:Dsk)).files,((⟨[],[],[],1⟩:Dsk)).list,((⟨[],[],[],1⟩:Dsk)).names,((⟨[],[],[],1⟩:Dsk)).next⟩:Dsk)⟩:Wld) [3,4,5,6,0,1,2] AF,Z.xt⟩
theorem D4 (a:Prt) (b:Prt) (h1:RepS w F a1 n1 c1 a.ids) (h2:RepS w F a2 n2 c2 a.blocks) (h3:RepS w F a3 n3 c3 b.ids) (h4:RepS w F a4 n4 c4 b.blocks) (p0:C9 a) (p1:C9 b):Calls Tryz.prog 160 [.agg #[.slice a1 n1 c1,.slice a2 n2 c2],.agg #[.slice a3 n3 c3,.slice a4 n4 c4]].toArray w (Al fun rv w'=>VS (ge w.heap.size) w' (BJ a b:Prt) rv∧Ext w w'):=by
 cases h1.len
 cases h2.len
 cases h3.len
 cases h4.len
 refine goT func160 ?_
 have Z:=((((St.i0 F w).p h1).p h2).p h3).p h4
 refine .s<|.g<|RG.Np Z fun aa w Z=>RG.Np Z fun ab w Z=>RG.Np Z fun ac w Z=>.d<|.s<|.g<|RG.N0 (List Row) 0 Z fun af w Z=>.r 1<|.d<|.s<|.s<|.g<|.r 1<|.d<|.b 0<|T.Lp (([]:List (List Row)),af,(0:Nat),(1:Nat)) (fun (blocks,r_blocks,c_blocks,id)=>([(2,vP aa),(3,vP ab),(4,vP ac),(5,vS r_blocks blocks.length c_blocks),(6,vI (id:Int))],[(0,.own 0 r_blocks 76 c_blocks blocks)],[],7 - id,(1≤id)∧(id≤7)∧(blocks=Bc a b (id - 1)))) [] Z ⟨(by simp [Bc]),(by simp [Bc]),(by simp [Bc])⟩ ?_
 rintro ⟨blocks,r_blocks,c_blocks,id⟩ ar w Z ⟨am,ao,aq⟩ E
 exact .s<|.s<|.g<|.r 1<|.bp ((id:Int)≤6) (fun ae=>.d<|.ct<|.sk<|.s<|.b 1<|T.GS 9 [ac,ab,aa] Z fun _ w Z=>.r [0]<|GA.Ln (q:=2) 1 3 Z<|.r [2]<|GA.Ln (q:=1) 4 2 Z<|.r [5]<|.go 3<|GE.CL (fun w Z=>Gv a (id:Int) (Z.mg 1 3) (Z.mg 1 2) (by grind [C9])) Z fun ax ay w Z=>.go 6<|GE.CL (fun w Z=>Gv b (id:Int) (Z.mg 1 2) (Z.mg 1 1) (by grind [C9])) Z fun az aA w Z=>.go 7<|GE.CL (fun w Z=>HT (partOf a (id:Int)) (partOf b (id:Int)) (Z.a 1) (Z.a 0) (by have q1:=Db p0 id; have q2:=Db p1 id; omega)) Z fun aB aC w Z=>.go 8<|GE.Nb 1 Z fun aD w Z=>GA.Do Z fun w Z=>RG.Ap (hs:=by exact (by grind [EG])) 0 0 blocks (Bl (partOf a (id:Int)) (partOf b (id:Int))) [0] Z fun ag ah w Z=>.r 1<|.d<|.ib 1<|.g<|.r 1<|.it ((id:Int)+1)<|.r 1<|.d<|E ((blocks++[Bl (partOf a (id:Int)) (partOf b (id:Int))]),ag,ah,id+1) _ _ AA (Z.to 0 [] 3) ⟨AB,AB,(by obtain ⟨q,rfl⟩:∃ q,id=q+1:=⟨id - 1,by omega⟩; have:=JA a b q; grind)⟩ (by (simp only []; omega))) fun ae=>.d<|.cf<|.x 0 rfl<|.s<|.g<|.r 1<|RG.CS (HU blocks (Z.oa 0) (by grind [EG]) (by have q:=PN p0 p1 6; grind)) Z fun aE aF aG aH w Z=>RG.Ss 1 Z fun w Z=>.d<|T.Rb 1 func160 results160 Z ⟨Z.rS (EM blocks) [0,1] (by grind [BJ]),Z.xt⟩
theorem EP (s:Sto) (id:Int) (h1:RepS w F a1 n1 c1 s.idx.names) (h2:RepS w F a2 n2 c2 s.idx.AY) (h3:RepS w F a3 n3 c3 s.parts) (h4:RepS w F a4 n4 c4 s.mem) (p0:s.parts.length≤100) (p1:∀ p∈s.parts,C9 p) (p2:s.mem.length≤1000):Calls Tryz.prog 54 [.agg #[.slice a1 n1 c1,.slice a2 n2 c2,.slice a3 n3 c3,.slice a4 n4 c4],.int .i64 id].toArray w (Al fun rv w'=>VL (ge w.heap.size) w' (rowsOf s id:List Row) rv∧Ext w w'):=by
 cases h1.len
 cases h2.len
 cases h3.len
 cases h4.len
 refine goT func54 ?_
 have Z:=((((St.i0 F w).p h1).p h2).p h3).p h4
 refine .s<|.g<|RG.Np Z fun ag w Z=>.r 1<|.d<|.s<|.g<|RG.N0 Row 0 Z fun am w Z=>.r 1<|.d<|.s<|.s<|.g<|.r 1<|.d<|.b 0 ?_
 have Z:=Z.sl 0
 refine T.Lp (([]:List Row),sA am,(0:Nat),(0:Nat)) (fun (out,a_out,c_out,i)=>([(1,vI id),(2,vP ag),(5,.slice a_out out.length c_out),(6,vI (i:Int))],[],[⟨0,none,.rep a_out c_out out⟩],s.parts.length - i,(i≤s.parts.length)∧(out.length≤1000 * i)∧((s.parts.drop i).foldl (CG id) out=s.parts.foldl (CG id) []))) [0] Z ⟨AD,AD,AD⟩ ?_
 rintro ⟨out,a_out,c_out,i⟩ aK w Z ⟨aC,aD,aE⟩ ac
 refine .s<|.s<|.g<|.r 2<|RG.Lb 0 Z<|.r 1<|.bp ((i:Int)< (s.parts.length:Int)) (fun ah=>?_) (fun ah=>?_)
 ·exact .d<|.ct<|.sk<|.s<|.b 1<|.g<|.r 2<|RG.Lb 0 Z<|.r 1<|gxb s.parts i fun ae ab aF ak=>RG.Ix 3 ab Z<|Z.el 3 ab fun aL aM aN aO Z=>RG.Lg 0 0 Z<|.r 1<|RG.CL (Gv ae id (Z.mg 1 1) (Z.mg 1 2) (by grind [C9])) Z fun aP aQ w Z=>RG.CL (HT out (partOf ae id) (Z.a 4) (Z.a 0) (by grind [Db])) Z fun ao aq w Z=>.r 1<|.d<|.ib 1<|.g<|.r 1<|.it ((i:Int)+1)<|.r 1<|.d<|ac (Bl out (partOf ae id),ao,aq,i+1) _ _ AA (Z.to 0 [0] 6) ⟨AB,(by grind [Ii,Db]),(by grind [CG,Ii,Db])⟩ (by (simp only []; omega))
 refine .d<|.cf<|.x 0 rfl<|.s<|.s<|.g<|.r 1<|.d<|.b 2<|T.Lp ((out:List Row),a_out,c_out,(0:Nat)) (fun (out,a_out,c_out,i)=>([(1,vI id),(2,vP ag),(5,.slice a_out out.length c_out),(7,vI (i:Int))],[],[⟨0,none,.rep a_out c_out out⟩],s.mem.length - i,(i≤s.mem.length)∧(out.length≤100000+i)∧((s.mem.drop i).foldl (Cl id) out=rowsOf s id))) [0] Z ⟨(by grind [rowsOf,Ac]),(by grind [rowsOf,Ac]),(by grind [rowsOf,Ac])⟩ ?_
 rintro ⟨out,a_out,c_out,i⟩ aR w Z ⟨aG,aH,aI⟩ E
 refine .s<|.s<|.g<|.r 2<|RG.Lb 0 Z<|.r 1<|.bp ((i:Int)< (s.mem.length:Int)) (fun ai=>?_) (fun ai=>.d<|.cf<|.x 2 rfl<|.s<|.g<|.r 2<|.d<|T.Rt func54 results54 ⟨Z.rL 0 out (by grind [Ac]),Z.xt⟩)
 exact .d<|.ct<|.sk<|.s<|.b 3<|.s<|.g<|.r 1<|RG.Lb 0 Z<|.r 1<|gxd s.mem i fun af aa aJ=>RG.Ix 3 aa Z<|.r 1<|Z.el 3 aa fun Z=>RG.Lh 0 0 Z<|.r 1<|.eq af.id id (fun aj=>.d<|.ct<|.g<|.r 2<|RG.Lb 0 Z<|.r 1<|RG.Ix 4 aa Z<|.r 1<|RG.Lg 0 1 Z<|RG.CL (Gu out af.row (Z.a 1) AB) Z fun ar ax w Z=>.r 1<|.d<|.ib 3<|.g<|.r 1<|.it ((i:Int)+1)<|.r 1<|.d<|E (Eg out af.row,ar,ax,i+1) _ _ AA (Z.to 0 [0] 3) ⟨(by grind [Cl,Da]),(by grind [Cl,Da]),(by grind [Cl,Da])⟩ (by (simp only []; omega))) fun aj=>.d<|.cf<|.sk<|.ib 3<|.g<|.r 1<|.it ((i:Int)+1)<|.r 1<|.d<|E (out,a_out,c_out,i+1) _ _ AA (Z.to 0 [1] 2) ⟨(by grind [Cl,Da]),(by grind [Cl,Da]),(by grind [Cl,Da])⟩ (by (simp only []; omega))
theorem FL (d:Dsk) (num:Int) (h1:RepS w F a1 n1 c1 d.files) (h2:RepS w F a2 n2 c2 d.list) (h3:RepS w F a3 n3 c3 d.names)  : Calls Tryz.prog 161 [.agg #[.slice a1 n1 c1,.slice a2 n2 c2,.slice a3 n3 c3,.int .i64 d.next],.int .i64 num].toArray w (Al fun rv w'=>rv=.int .i64 (Aw d num)∧Ext w w'):=by
 cases h1.len
 cases h2.len
 cases h3.len
 refine goT func161 ?_
 have Z:=(((St.i0 F w).p h1).p h2).p h3
 have ah:=h1.max
 refine .s<|.g<|RG.Np Z fun af w Z=>.r 1<|.d<|.s<|.s<|.g<|.r 1<|.d<|.b 0<|T.Lp (0:Nat) (fun i=>([(1,vI num),(2,vP af),(5,vI (i:Int))],[],[],d.files.length - i,(i≤d.files.length)∧(DY num i (d.files.drop i)=Aw d num))) [] Z ⟨(by simp [Aw]),(by simp [Aw])⟩ ?_
 rintro i ao w Z ⟨ak,al⟩ aa
 refine .s<|.s<|.g<|.r 2<|RG.Lb 0 Z<|.r 1<|.bp ((i:Int)< (d.files.length:Int)) (fun ab=>?_) (fun ab=>.d<|.cf<|.x 0 rfl<|.s<|.g<|.r 1<|.d<|T.rt func161 results161 (vI (-1)) ⟨(congrArg (Value.int .i64) (by grind [DY,Ac])),Z.xt⟩)
 exact .d<|.ct<|.sk<|.s<|.b 1<|.s<|.g<|.r 1<|RG.Lb 0 Z<|.r 1<|gxd d.files i fun ag E am=>RG.Ix 2 E Z<|.r 1<|Z.el 2 E fun aq ar ax ay Z=>RG.Lh 0 0 Z<|.r 1<|.eq ag.num num (fun ac=>.d<|.ct<|.s<|.g<|.r 2<|.d<|T.rt func161 results161 (vI (i:Int)) ⟨(congrArg (Value.int .i64) (by grind [DY,Ac])),Z.xt⟩) fun ac=>.d<|.cf<|.sk<|.ib 1<|.g<|.r 1<|.it ((i:Int)+1)<|.r 1<|.d<|aa (i+1) _ _ AA (Z.to 0 [] 3) ⟨AB,(by grind [DY])⟩ (by (simp only []; omega))
theorem OT (ix:Idx) (n:List Tag) (h1:RepS w F a1 n1 c1 ix.names) (h2:RepS w F a2 n2 c2 ix.AY) (h3:RepS w F a3 n3 c3 n) (p0:ix.names.length≤1000) (p1:∀ n∈ix.names,GI n) (p2:GI n):Calls Tryz.prog 205 [.agg #[.slice a1 n1 c1,.slice a2 n2 c2],.slice a3 n3 c3].toArray w (Al fun rv w'=>rv=.int .i64 (HL ix n)∧Ext w w'):=by
 cases h1.len
 cases h2.len
 cases h3.len
 refine goT func205 ?_
 have Z:=(((St.i0 F w).p h1).p h2).p h3
 refine .s<|.g<|RG.Np Z fun af w Z=>.r 1<|.d<|.s<|.s<|.g<|.r 1<|.d<|.b 0<|T.Lp (0:Nat) (fun i=>([(1,.slice a3 n.length c3),(2,vP af),(5,vI (i:Int))],[],[],ix.names.length - i,(i≤ix.names.length)∧(nmF (text n) i (ix.names.drop i)=HL ix n))) [] Z ⟨(by simp [HL]),(by simp [HL])⟩ ?_
 rintro i ao w Z ⟨aj,ak⟩ aa
 refine .s<|.s<|.g<|.r 2<|RG.Lb 0 Z<|.r 1<|.bp ((i:Int)< (ix.names.length:Int)) (fun ac=>?_) (fun ac=>.d<|.cf<|.x 0 rfl<|.s<|.g<|.r 1<|.d<|T.rt func205 results205 (vI 0) ⟨(congrArg (Value.int .i64) (by grind [nmF,Ac])),Z.xt⟩)
 refine .d<|.ct<|.sk<|.s<|.b 1<|.s<|.g<|.r 1<|RG.Lb 0 Z<|.r 1<|gxb ix.names i fun ab E al ae=>RG.Ix 2 E Z<|Z.el 2 E fun aq ar Z=>RG.Lh 0 0 Z<|RG.C0 (GK ab (Z.a 1) (by grind [GI]) (by grind [GI])) Z fun w Z=>.r 1<|RG.C0 (GK n (Z.a 2) (by grind [GI]) (by grind [GI])) Z fun w Z=>RG.eqv (v:=.bool ((text ab==text n))) AA (Cv (text ab) (text n)) ?_
 cases am:(text ab==text n)
 ·exact .d<|.cf<|.sk<|.ib 1<|.g<|.r 1<|.it ((i:Int)+1)<|.r 1<|.d<|aa (i+1) _ _ AA (Z.to 0 [] 2) ⟨AB,(by grind [nmF])⟩ (by (simp only []; omega))
 exact .d<|.ct<|.s<|.g<|.r 1<|.it ((i:Int)+1)<|.r 1<|.d<|T.rt func205 results205 (vI ((i:Int)+1)) ⟨(congrArg (Value.int .i64) (by grind [nmF,Ac])),Z.xt⟩
theorem Ga (d:Dsk) (num:Int) (h1:RepS w F a1 n1 c1 d.files) (h2:RepS w F a2 n2 c2 d.list) (h3:RepS w F a3 n3 c3 d.names)  : Calls Tryz.prog 162 [.agg #[.slice a1 n1 c1,.slice a2 n2 c2,.slice a3 n3 c3,.int .i64 d.next],.int .i64 num].toArray w (Al fun rv w'=>rv=.bool ((d.list.contains num))∧Ext w w'):=by
 cases h1.len
 cases h2.len
 cases h3.len
 refine goT func162 ?_
 have Z:=(((St.i0 F w).p h1).p h2).p h3
 have ai:=h2.max
 refine .s<|.g<|RG.Np Z fun af w Z=>.r 1<|.d<|.s<|.s<|.g<|.r 1<|.d<|.b 0<|T.Lp (0:Nat) (fun i=>([(1,vI num),(2,vP af),(5,vI (i:Int))],[],[],d.list.length - i,(i≤d.list.length)∧((d.list.drop i).contains num=d.list.contains num))) [] Z ⟨AD,AD⟩ ?_
 rintro i ao w Z ⟨ak,al⟩ aa
 refine .s<|.s<|.g<|.r 2<|RG.Lb 0 Z<|.r 1<|.bp ((i:Int)< (d.list.length:Int)) (fun ab=>?_) (fun ab=>.d<|.cf<|.x 0 rfl<|.s<|.g<|.r 1<|.d<|T.rt func162 results162 (.bool false) ⟨(AG (by grind [Ac])),Z.xt⟩)
 exact .d<|.ct<|.sk<|.s<|.b 1<|.s<|.g<|.r 1<|RG.Lb 0 Z<|.r 1<|gxd d.list i fun ag E am=>RG.Ix 1 E Z<|Z.el 1 E fun Z=>RG.Lh 0 0 Z<|.r 1<|.eq ag num (fun ac=>.d<|.ct<|.s<|.g<|.r 1<|.d<|T.rt func162 results162 (.bool true) ⟨(AG (by grind [Ac])),Z.xt⟩) fun ac=>.d<|.cf<|.sk<|.ib 1<|.g<|.r 1<|.it ((i:Int)+1)<|.r 1<|.d<|aa (i+1) _ _ AA (Z.to 0 [] 1) ⟨AB,(by grind)⟩ (by (simp only []; omega))
end Go.Proofs.YtckdhcbbgmiccaaGreatDoor
namespace Go.Proofs.YtckdhcbbgmiccaaGreatDoor
def JG (k v:Nat):Tag:=⟨[UInt8.ofNat k],[UInt8.ofNat v]⟩
def Gc (names:List (List Tag)) (t:Tag):List Pst:=if (ids names t).length > 0 then [⟨t,ids names t⟩] else []
def Gw (names:List (List Tag)) (k:Nat):Nat→Nat→List Pst
 | 0,_=>[]
 | f+1,v=>Gc names (JG k v)++Gw names k f (v+1)
def Gx (names:List (List Tag)):Nat→Nat→List Pst
 | 0,_=>[]
 | f+1,k=>Gw names k 11 112++Gx names f (k+1)
def D5 (names:List (List Tag)):List Pst:=Gx names 4 97
def idxOf (names:List (List Tag)):Idx:=⟨names,D5 names⟩
def BY (ix:Idx) (n:List Tag):Idx × Int × Bool :=
 if HL ix n > 0 then (ix,HL ix n,true)
 else if !Ar n || decide (ix.names.length≥6) then (ix,0,false)
 else (idxOf (ix.names++[n]),(ix.names.length:Int)+1,true)
def HM (bl:List (List Row)) (m:Smp):List (List Row):=bl.set (m.id - 1).toNat (Eg (bl.getD (m.id - 1).toNat []) m.row)
def Ak (mem:List Smp):Prt:=EM (mem.foldl HM [[],[],[],[],[],[]])
theorem Tv (bl:List (List Row)) (m:Smp):(HM bl m).length=bl.length:=by simp [HM]
theorem WQ {l:List Smp}{i:Nat}{xs:List (List Row)}{m:Smp}{x:List Row}{Y:List (List Row)}(hi:(l.drop i).foldl HM xs=Y) (hd:l.drop i=m::l.drop (i+1)) (hx:xs[(m.id - 1).toNat]? = some x) :
 (l.drop (i+1)).foldl HM (xs.set (m.id - 1).toNat (Eg x m.row))=Y:=by
 rw [hd,List.foldl_cons] at hi
 have:HM xs m=xs.set (m.id - 1).toNat (Eg x m.row):=by unfold HM; rw [List.getD_eq_getElem?_getD,hx]; rfl
 rw [this] at hi
 exact hi
theorem YM {xs:List (List Row)}{j i:Nat}{x:List Row}{r:Row}(h:∀ b∈xs,b.length≤i) (hx:xs[j]? = some x):∀ b∈xs.set j (Eg x r),b.length≤i+1:=by
 intro b hb
 rcases List.mem_or_eq_of_mem_set hb with hb | rfl
 ·have:=h b hb; omega
 ·have h1:=h x (AV hx)
  have h2:=Da x r
  omega
theorem J6 (names:List (List Tag)) (k v:Nat) (h:v≤122):Gw names k (123 - v) v=Gc names (JG k v)++Gw names k (123 - (v+1)) (v+1):=by
 rw [show 123 - v=(123 - (v+1))+1 by omega]
 rfl
theorem Sl (names:List (List Tag)) (k:Nat) (h:k≤100):Gx names (101 - k) k=Gw names k 11 112++Gx names (101 - (k+1)) (k+1):=by
 rw [show 101 - k=(101 - (k+1))+1 by omega]
 rfl
theorem Qe (names:List (List Tag)) (k v:Nat) (h:123≤v):Gw names k (123 - v) v=[]:=by
 rw [show 123 - v=0 by omega]; rfl
theorem Qf (names:List (List Tag)) (k:Nat) (h:101≤k):Gx names (101 - k) k=[]:=by
 rw [show 101 - k=0 by omega]; rfl
end Go.Proofs.YtckdhcbbgmiccaaGreatDoor
namespace Go.Proofs.YtckdhcbbgmiccaaGreatDoor
set_option maxRecDepth 100000
set_option maxHeartbeats 4000000
variable {w:World} {F:Nat→Prop} {a1 a2 a3 a4:Option Addr} {n1 c1 n2 c2 n3 c3 n4 c4:Nat}
theorem FM (names:List (List Tag)) (h1:RepS w F a1 n1 c1 names) (p0:names.length≤1000) (p1:∀ n∈names,GI n):Calls Tryz.prog 163 [.slice a1 n1 c1].toArray w (Al fun rv w'=>VS (ge w.heap.size) w' (idxOf names:Idx) rv∧Ext w w'):=by
 cases h1.len
 refine goT func163 ?_
 have Z:=(St.i0 F w).p h1
 refine .s<|.g<|RG.Np Z fun ac w Z=>.d<|.s<|.g<|RG.N0 Pst 0 Z fun ah w Z=>.r 1<|.d<|.s<|.s<|.g<|.r 1<|.d<|.b 0<|T.Lp (([]:List Pst),ah,(0:Nat),(97:Nat)) (fun (AY,r_posts,c_posts,k)=>([(0,.slice a1 names.length c1),(2,vP ac),(3,vS r_posts AY.length c_posts),(4,.int .i32 (k:Int))],[(0,.own 0 r_posts 145 c_posts AY)],[],101 - k,(97≤k)∧(k≤101)∧(AY.length≤11 * (k - 97))∧(AY++Gx names (101 - k) k=D5 names))) [] Z ⟨AB,AB,(by simp [D5]),(by simp [D5])⟩ ?_
 rintro ⟨AY,r_posts,c_posts,k⟩ aC w Z ⟨al,am,ao,aq⟩ ab
 refine .s<|.s<|.g<|.r 1<|.bp ((k:Int)≤100) (fun ae=>?_) (fun ae=>?_)
 ·refine .d<|.ct<|.sk<|.s<|.b 1<|.s<|.g<|.r 1<|.d<|.b 2<|T.Lp ((AY:List Pst),r_posts,c_posts,(112:Nat)) (fun (E,r_posts1,c_posts1,v)=>([(0,.slice a1 names.length c1),(2,vP ac),(3,vS r_posts1 E.length c_posts1),(4,.int .i32 (k:Int)),(5,.int .i32 (v:Int))],[(0,.own 0 r_posts1 145 c_posts1 E)],[],123 - v,(112≤v)∧(v≤123)∧(97≤k)∧(k≤100)∧(E.length≤11 * (k - 97)+(v - 112))∧(E++Gw names k (123 - v) v++Gx names (101 - (k+1)) (k+1)=D5 names))) [] Z ⟨AB,AB,AB,AB,AB,(by grind [Sl])⟩ ?_
  rintro ⟨E,r_posts1,c_posts1,v⟩ aD w Z ⟨ar,ax,ay,az,aA,aB⟩ aa
  exact .s<|.s<|.g<|.r 1<|.bp ((v:Int)≤122) (fun af=>.d<|.ct<|.sk<|.s<|.b 3<|.s<|.g<|.r 1<|RG.eqv (v:=.string (bs [UInt8.ofNat k])) AA (Xo k AB)<|.r 1<|RG.eqv (v:=.string (bs [UInt8.ofNat v])) AA (Xo v AB)<|.r 1<|RG.Np Z fun aE w Z=>RG.Ss 0 Z fun w Z=>.d<|.s<|.g<|.r 1<|RG.Ln 0 Z<|RG.CL (M7 names (⟨[UInt8.ofNat k],[UInt8.ofNat v]⟩:Tag) (Z.a 0) AB) Z fun aF aG w Z=>.r 1<|.d<|.s<|.g<|.r 2<|.bp ((((ids names (⟨[UInt8.ofNat k],[UInt8.ofNat v]⟩:Tag)).length):Int) > 0) (fun ag=>.d<|.ct<|.g<|.r 1<|RG.Ln 0 Z<|.r 2<|RG.Nb 1 Z fun aH w Z=>RG.Ap 1 0 E (⟨(⟨[UInt8.ofNat k],[UInt8.ofNat v]⟩:Tag),ids names (⟨[UInt8.ofNat k],[UInt8.ofNat v]⟩:Tag)⟩:Pst) [0] Z fun ai aj w Z=>.r 1<|.d<|.ib 3<|.g<|.r 1<|RG.int32 ((v:Int)+1) AA AB<|.r 1<|.d<|aa ((E++[(⟨(⟨[UInt8.ofNat k],[UInt8.ofNat v]⟩:Tag),ids names (⟨[UInt8.ofNat k],[UInt8.ofNat v]⟩:Tag)⟩:Pst)]),ai,aj,v+1) _ _ AA (Z.to 1 [] 1) ⟨AB,AB,AB,AB,(by grind [J6,Gc,JG]),(by grind [J6,Gc,JG])⟩ (by (simp only []; omega))) fun ag=>.d<|.cf<|.sk<|.ib 3<|.g<|.r 1<|RG.int32 ((v:Int)+1) AA AB<|.r 1<|.d<|aa (E,r_posts1,c_posts1,v+1) _ _ AA (Z.to 1 [] 1) ⟨AB,AB,AB,AB,AB,(by grind [J6,Gc,JG])⟩ (by (simp only []; omega))) fun af=>.d<|.cf<|.x 2 rfl<|.ib 1<|.g<|.r 1<|RG.int32 ((k:Int)+1) AA AB<|.r 1<|.d<|ab (E,r_posts1,c_posts1,k+1) _ _ AA (Z.to 0 [] 0) ⟨AB,AB,AB,(by grind [Qe])⟩ (by (simp only []; omega))
 refine .d<|.cf<|.x 0 rfl<|.s<|.g<|.r 1<|RG.CO 0 (BU names (Z.a 0) (by grind [GI]) (by grind [GI])) Z fun aI aJ w Z=>.r 2<|RG.Ss 2 Z fun w Z=>.d ?_
 have Z:=(Z.sl 0).sl 0
 exact T.Rb 0 func163 results163 Z ⟨Z.rS (⟨names,AY⟩:Idx) [1,0] (by grind [idxOf,Qf]),Z.xt⟩
theorem Ey (s:Sto) (h1:RepS w F a1 n1 c1 s.idx.names) (h2:RepS w F a2 n2 c2 s.idx.AY) (h3:RepS w F a3 n3 c3 s.parts) (h4:RepS w F a4 n4 c4 s.mem) (p0:s.mem.length≤1000) (p1:∀ m∈s.mem,1≤m.id∧m.id≤6):Calls Tryz.prog 157 [.agg #[.slice a1 n1 c1,.slice a2 n2 c2,.slice a3 n3 c3,.slice a4 n4 c4]].toArray w (Al fun rv w'=>VS (ge w.heap.size) w' (Ak s.mem:Prt) rv∧Ext w w'):=by
 cases h1.len
 cases h2.len
 cases h3.len
 cases h4.len
 refine goT func157 ?_
 have Z:=((((St.i0 F w).p h1).p h2).p h3).p h4
 refine .s<|.g<|RG.Np Z fun al w Z=>RG.Np Z fun am w Z=>.d<|.s<|.g<|RG.Nl 0 ([([]:List Row),([]:List Row),([]:List Row),([]:List Row),([]:List Row),([]:List Row)]:List (List Row)) [[5],[4],[3],[2],[1],[0]] ((((((Z.nl Row).nl Row).nl Row).nl Row).nl Row).nl Row) fun ag w Z=>.r 1<|.d<|.s<|.s<|.g<|.r 1<|.d<|.b 0<|T.Lp ((0:Nat),([([]:List Row),([]:List Row),([]:List Row),([]:List Row),([]:List Row),([]:List Row)]:List (List Row))) (fun (i,xs)=>([(1,vP al),(2,vP am),(3,vS ag 6 6),(4,vI (i:Int))],[(0,.own 0 ag 76 6 xs)],[],s.mem.length - i,(i≤s.mem.length)∧(xs.length=6)∧(∀ b∈xs,b.length≤i)∧((s.mem.drop i).foldl HM xs=s.mem.foldl HM [[],[],[],[],[],[]]))) [] Z ⟨AD,AD,AD,AD⟩ ?_
 rintro ⟨i,xs⟩ aE w Z ⟨ay,az,aA,aB⟩ ac
 refine .s<|.s<|.g<|.r 2<|RG.Lb 2 Z<|.r 1<|.bp ((i:Int)< (s.mem.length:Int)) (fun ah=>?_) (fun ah=>.d<|.cf<|.x 0 rfl<|.s<|.g<|.r 1<|RG.CS (HU xs (Z.ob' 0 6) AB (by intro b hb; have ae:=‹∀ b∈xs,b.length≤i› _ hb; omega)) Z fun aF aG aH aI w Z=>RG.Ss 1 Z fun w Z=>.d<|T.Rb 1 func157 results157 Z ⟨Z.rS (EM xs) [0,1] (by have ae:=Ac (xs:=s.mem) (k:=i) AB; have ai:List.foldl HM xs (s.mem.drop i)=_:=‹_›; rw [ae] at ai; unfold Ak; rw [← ai]; rfl),Z.xt⟩)
 exact .d<|.ct<|.sk<|.s<|.b 1<|.s<|.g<|.r 1<|RG.Lb 2 Z<|.r 1<|gxb (h:=AB) s.mem i fun aa ab aC aj=>RG.Ix 6 ab Z<|.r 1<|Z.el 6 ab fun Z=>RG.Lh 0 0 Z<|.r 1<|.d<|T.Gd 15 Z fun w Z=>.r [0,1]<|GA.int (i:=2) (aa.id - 1) AA (by (have:=p1 _ ‹_›; omega))<|.r [3,4]<|GA.int (i:=5) (aa.id - 1) AA (by (have:=p1 _ ‹_›; omega))<|gxm (h:=(by (have:=p1 _ ‹_›; omega))) xs ((aa.id - 1).toNat) fun af E ak=>GA.Ko (hz:=(by (have:=p1 _ ‹_›; omega))) (hn:=(by (have:=p1 _ ‹_›; omega))) 6 0 6 (aa.id - 1) E Z<|Z.eo 0 E fun aJ aK Z=>GA.Lt 7 0 0 Z<|.r [8]<|GA.Lb 9 2 Z<|.r [10]<|GA.Ix 11 8 ab Z<|.r [12]<|GA.Lg 13 1 1 Z<|.go 14<|GE.CL (fun w Z=>Gu af aa.row (Z.a 0) (by have ae:=‹∀ b∈xs,b.length≤i› _ ‹_›; omega)) Z fun aL aM w Z=>GA.Dn Z fun w Z=>RG.Ko (hz:=(by (have:=p1 _ ‹_›; omega))) (hn:=(by (have:=p1 _ ‹_›; omega))) 0 6 (aa.id - 1) E Z<|RG.Se 0 0 0 E (Eg af aa.row) [0] Z fun w Z=>.d<|.ib 1<|.g<|.r 1<|RG.int ((i:Int)+1) AA AB<|.r 1<|.d<|ac (i+1,(xs.set ((aa.id - 1).toNat) (Eg af aa.row))) _ _ AA (Z.to 0 [] 3) ⟨AB,(by simp; omega),(by exact YM ‹_› ‹_›),(by exact WQ ‹_› ‹_› ‹_›)⟩ (by (simp only []; omega))
end Go.Proofs.YtckdhcbbgmiccaaGreatDoor
namespace Go.Proofs.YtckdhcbbgmiccaaGreatDoor
def Tw (x:Idx):Prop:=x.names.length≤1000∧∀ n∈x.names,GI n
def NS (s:Sto):Prop:=Tw s.idx∧s.parts.length≤100∧(∀ p∈s.parts,C9 p)∧s.mem.length≤900
def BM (s:Sto):Sto × Bool :=
 if s.mem.length=0∨s.parts.length≥6 then (s,false) else (⟨s.idx,s.parts++[Ak s.mem],[]⟩,true)
def Gy (ps:List Prt) (at_:Nat):List Prt:=match ps[at_]?,ps[at_+1]? with
 | some x,some y=>ps.take at_++[BJ x y]++ps.drop (at_+2)
 | _,_=>ps
def BL (s:Sto) (at_:Int):Sto × Bool :=
 if inR at_ 0 ((s.parts.length:Int) - 2) then (⟨s.idx,Gy s.parts at_.toNat,s.mem⟩,true) else (s,false)
def GL (s:Sto) (n:List Tag) (r:Row):Sto:=⟨(BY s.idx n).1,s.parts,s.mem++[⟨(BY s.idx n).2.1,r⟩]⟩
def CQ (s:Sto) (n:List Tag) (r:Row):Sto × Bool :=
 if !(BY s.idx n).2.2 || !Be r || decide (s.mem.length≥20) then (s,false)
 else if (rowsOf (GL s n r) (BY s.idx n).2.1).length > 24 then (s,false) else (GL s n r,true)
theorem HW {ix:Idx}{n:List Tag}(h:HL ix n > 0):BY ix n=(ix,HL ix n,true):=by unfold BY; rw [if_pos h]
theorem F1 {ix:Idx}{n:List Tag}(h:¬ HL ix n > 0) (h2:Ar n=false∨(ix.names.length:Int)≥6):BY ix n=(ix,0,false):=by
 unfold BY
 rw [if_neg h,if_pos]
 rcases h2 with h2 | h2
 ·simp [h2]
 ·simp; omega
theorem HX {ix:Idx}{n:List Tag}(h:¬ HL ix n > 0) (h2:Ar n=true) (h3:¬ (ix.names.length:Int)≥6):BY ix n=(idxOf (ix.names++[n]),(ix.names.length:Int)+1,true):=by
 unfold BY
 rw [if_neg h,if_neg]
 simp [h2]
 omega
theorem H4 {ps:List Prt}{i:Nat}{x y:Prt}(hx:ps[i]? = some x) (hy:ps[i+1]? = some y):Gy ps i=ps.take i++[BJ x y]++ps.drop (i+2):=by
 simp [Gy,hx,hy]
theorem L6 {s:Sto}{n:List Tag}{r:Row}(h:(BY s.idx n).2.2=false):CQ s n r=(s,false):=by unfold CQ; rw [if_pos (by simp [h])]
theorem L7 {s:Sto}{n:List Tag}{r:Row}(h:Be r=false):CQ s n r=(s,false):=by unfold CQ; rw [if_pos (by simp [h])]
theorem Qg {s:Sto}{n:List Tag}{r:Row}(h:(s.mem.length:Int)≥20):CQ s n r=(s,false):=by unfold CQ; rw [if_pos (by simp; omega)]
theorem Gz {s:Sto}{n:List Tag}{r:Row}(h1:(BY s.idx n).2.2=true) (h2:Be r=true) (h3:¬ (s.mem.length:Int)≥20) (h:((rowsOf (GL s n r) (BY s.idx n).2.1).length:Int) > 24):CQ s n r=(s,false):=by
 unfold CQ; rw [if_neg (by simp [h1,h2]; omega),if_pos AB]
theorem G0 {s:Sto}{n:List Tag}{r:Row}(h1:(BY s.idx n).2.2=true) (h2:Be r=true) (h3:¬ (s.mem.length:Int)≥20) (h:¬ ((rowsOf (GL s n r) (BY s.idx n).2.1).length:Int) > 24):CQ s n r=(GL s n r,true):=by
 unfold CQ; rw [if_neg (by simp [h1,h2]; omega),if_neg AB]
theorem L8 {s:Sto}{a:Int}(h:inR a 0 ((s.parts.length:Int) - 2)=false):BL s a=(s,false):=by unfold BL; rw [if_neg (by simp [h])]
theorem L9 {s:Sto}{a:Int}{x y:Prt}(h:inR a 0 ((s.parts.length:Int) - 2)=true) (hx:s.parts[a.toNat]? = some x) (hy:s.parts[(a+1).toNat]? = some y) :
 BL s a=(⟨s.idx,(([]++(s.parts.take a.toNat).drop 0)++[BJ x y])++((s.parts.take s.parts.length).drop (a+2).toNat),s.mem⟩,true):=by
 have h1:=Bd h
 have e1:(a+1).toNat=a.toNat+1:=by omega
 have e2:(a+2).toNat=a.toNat+2:=by omega
 rw [e1] at hy
 unfold BL
 rw [if_pos h,H4 hx hy,e2]
 simp
end Go.Proofs.YtckdhcbbgmiccaaGreatDoor
namespace Go.Proofs.YtckdhcbbgmiccaaGreatDoor
set_option maxRecDepth 100000
set_option maxHeartbeats 4000000
variable {w:World} {F:Nat→Prop} {a1 a2 a3 a4 a5:Option Addr} {n1 c1 n2 c2 n3 c3 n4 c4 n5 c5:Nat}
theorem NA (ix:Idx) (n:List Tag) (h1:RepS w F a1 n1 c1 ix.names) (h2:RepS w F a2 n2 c2 ix.AY) (h3:RepS w F a3 n3 c3 n) (p0:Tw ix) (p1:GI n):Calls Tryz.prog 155 [.agg #[.slice a1 n1 c1,.slice a2 n2 c2],.slice a3 n3 c3].toArray w (Al fun rv w'=>(∃ v0,rv=.tuple #[v0,.int .i64 ((BY ix n).2.1),.bool ((BY ix n).2.2)]∧VS (fo F w.heap.size) w' ((BY ix n).1:Idx) v0)∧Ext w w'):=by
 cases h1.len
 cases h2.len
 cases h3.len
 refine goT func155 ?_
 have Z:=(((St.i0 F w).p h1).p h2).p h3
 have ae:=h1.max
 have ag:=h3.max
 refine .s<|.g<|RG.Np Z fun ab w Z=>RG.Np Z fun ai w Z=>.r 2<|.d<|.s<|.g<|RG.Ln 1 Z<|.r 1<|RG.C0 (OT ix n (Z.a 2) (Z.a 1) (Z.a 0) p0.1 p0.2 p1) Z fun w Z=>.r 1<|.d<|.s<|.s<|.g<|.r 1<|.bp (HL ix n > 0) (fun E=>.d<|.ct<|.s<|.g<|RG.Ln 1 Z<|.r 1<|RG.Ss 0 Z fun w Z=>.r 2<|.d<|T.r3 func155 results155 (.B 0 Z) (.t (vI (HL ix n))) (.t (.bool true)) ⟨⟨_,(K7 rfl (congrArg (Value.int .i64) (by (rw [HW ‹_›]))) (AG (by (rw [HW ‹_›])))),Z.rS (g:=1) ix [2,1] (by (rw [HW ‹_›]))⟩,Z.xt⟩) fun E=>.d<|.cf<|.sk<|.s<|.s<|.g<|.r 1<|RG.C0 (GJ n (Z.a 0)) Z fun w Z=>?_
 cases ah:(Ar n)
 ·exact .r 7<|.d<|.ct<|.s<|.g<|RG.Ln 1 Z<|RG.Ss 0 Z fun w Z=>.r 2<|.d<|T.r3 func155 results155 (.B 0 Z) (.t (vI 0)) (.t (.bool false)) ⟨⟨_,(K7 rfl (congrArg (Value.int .i64) (by (rw [F1 ‹_› (.inl ‹_›)]))) (AG (by (rw [F1 ‹_› (.inl ‹_›)])))),Z.rS (g:=1) ix [2,1] (by (rw [F1 ‹_› (.inl ‹_›)]))⟩,Z.xt⟩
 exact .r 3<|RG.Lb 1 Z<|.r 1<|.bp ((ix.names.length:Int)≥6) (fun aa=>.r 1<|.d<|.ct<|.s<|.g<|RG.Ln 1 Z<|RG.Ss 0 Z fun w Z=>.r 2<|.d<|T.r3 func155 results155 (.B 0 Z) (.t (vI 0)) (.t (.bool false)) ⟨⟨_,(K7 rfl (congrArg (Value.int .i64) (by (rw [F1 ‹_› (.inr ‹_›)]))) (AG (by (rw [F1 ‹_› (.inr ‹_›)])))),Z.rS (g:=1) ix [2,1] (by (rw [F1 ‹_› (.inr ‹_›)]))⟩,Z.xt⟩) fun aa=>.r 1<|.d<|.cf<|.sk<|.s<|.g<|.r 1<|RG.Lb 1 Z<|RG.CO 1 (BU ix.names (Z.a 2) (by have:=p0.1; omega) (by intro n hn; have:=(p0.2 n hn).1; omega)) Z fun aj ak w Z=>RG.N0 Tag 1 Z fun al w Z=>.r 1<|RG.An (hs:=by (simp only [List.nil_append,List.length_nil,List.length_append,List.length_cons] <;> exact (by have:=p0.1; have:=p1.1; omega))) 0 0 ([]:List Tag) n Z fun am ao w Z=>RG.Nb 1 Z fun aq w Z=>RG.Ap (hs:=by exact (by have:=p0.1; have:=p1.1; omega)) 0 0 ix.names ([]++n) [0] (Z.sl 1) fun ar ax w Z=>RG.CS (FM (ix.names++[([]++n)]) (Z.oa 0) (by have:=p0.1; simp; omega) (by intro m hm; simp at hm; rcases hm with hm | rfl; exact p0.2 m hm; exact p1)) Z fun ay az aA aB w Z=>RG.Np Z fun ac w Z=>RG.Ss 0 Z fun w Z=>.d<|.s<|T.GS 5 [ac,ab] Z fun _ w Z=>GA.Ln 0 0 Z<|.r [1]<|GA.Lb 2 0 Z<|.r [3]<|.go 4<|GE.Ss 2 [0,3] Z fun w Z=>GA.Do Z fun w Z=>.r 2<|.d<|T.r3 func155 results155 (.B 2 Z) (.t (vI ((((idxOf (ix.names++[([]++n)])).names).length):Int))) (.t (.bool true)) ⟨⟨_,(K7 rfl (congrArg (Value.int .i64) (by (rw [HX ‹_› ‹_› ‹_›] <;> simp [idxOf]))) (AG (by (rw [HX ‹_› ‹_› ‹_›] <;> simp [idxOf])))),Z.rS (g:=1) (idxOf (ix.names++[([]++n)])) [0,1] (by (rw [HX ‹_› ‹_› ‹_›] <;> simp [idxOf]))⟩,Z.xt⟩
theorem LA (s:Sto) (h1:RepS w F a1 n1 c1 s.idx.names) (h2:RepS w F a2 n2 c2 s.idx.AY) (h3:RepS w F a3 n3 c3 s.parts) (h4:RepS w F a4 n4 c4 s.mem) (p0:s.mem.length≤1000) (p1:∀ m∈s.mem,1≤m.id∧m.id≤6):Calls Tryz.prog 92 [.agg #[.slice a1 n1 c1,.slice a2 n2 c2,.slice a3 n3 c3,.slice a4 n4 c4]].toArray w (Al fun rv w'=>(∃ v0,rv=.tuple #[v0,.bool ((BM s).2)]∧VS (fo F w.heap.size) w' ((BM s).1:Sto) v0)∧Ext w w'):=by
 cases h1.len
 cases h2.len
 cases h3.len
 cases h4.len
 refine goT func92 ?_
 have Z:=((((St.i0 F w).p h1).p h2).p h3).p h4
 have ag:=h3.max
 refine .s<|.g<|RG.Np Z fun ab w Z=>RG.Np Z fun ac w Z=>.r 1<|.d<|.s<|.s<|.g<|.r 1<|RG.Lb 1 Z<|.r 1<|.eq (s.mem.length:Int) 0 (fun E=>.r 6<|.d<|.ct<|.s<|.g<|RG.Ln 1 Z<|RG.Ss 0 Z fun w Z=>.r 1<|.d<|T.r2 func92 results92 (.B 0 Z) (.t (.bool false)) ⟨⟨_,(Bk rfl (AG (by (unfold BM; (rw [if_pos AB]))))),Z.rS (g:=1) s [3,2,1,0] (by (unfold BM; (rw [if_pos AB])))⟩,Z.xt⟩) fun E=>.r 2<|RG.Lb 1 Z<|.r 1<|.bp ((s.parts.length:Int)≥6) (fun aa=>.r 1<|.d<|.ct<|.s<|.g<|RG.Ln 1 Z<|RG.Ss 0 Z fun w Z=>.r 1<|.d<|T.r2 func92 results92 (.B 0 Z) (.t (.bool false)) ⟨⟨_,(Bk rfl (AG (by (unfold BM; (rw [if_pos AB]))))),Z.rS (g:=1) s [3,2,1,0] (by (unfold BM; (rw [if_pos AB])))⟩,Z.xt⟩) fun aa=>.r 1<|.d<|.cf<|.sk<|.s<|T.GS 5 [ac,ab] Z fun _ w Z=>.r [1]<|GA.Lb (q:=1) 2 1 Z<|GA.Ln (q:=1) 4 1 Z<|.go 0<|GE.N0 Prt 1 Z fun ai w Z=>.go 3<|GE.An 0 1 ([]:List Prt) s.parts [1,2] Z fun aj ak w Z=>GA.Do Z fun w Z=>RG.CS (Ey s (Z.a 3) (Z.a 2) (Z.a 1) (Z.a 0) p0 p1) Z fun al am ao aq w Z=>RG.Nb 1 Z fun ar w Z=>RG.Ap 0 0 ([]++s.parts) (Ak s.mem) [0,1] Z fun ax ay w Z=>.r 1<|RG.Ss 2 Z fun w Z=>.d<|.s<|.g<|RG.N0 Smp 1 Z fun az w Z=>.r 1<|RG.Ss 3 Z fun w Z=>.d<|.s<|.g<|RG.Ln 3 Z<|RG.Ss 2 Z fun w Z=>.r 1<|.d ?_
 have Z:=(Z.sl 1).sl 0
 exact T.r2 func92 results92 (.B 0 Z) (.t (.bool true)) ⟨⟨_,(Bk rfl (AG (by (unfold BM; (rw [if_neg AB] <;> simp))))),Z.rS (g:=1) (⟨(⟨s.idx.names,s.idx.AY⟩:Idx),(([]++s.parts)++[(Ak s.mem)]),([]:List Smp)⟩:Sto) [7,6,1,0] (by (unfold BM; (rw [if_neg AB] <;> simp)))⟩,Z.xt⟩
theorem LB (s:Sto) (at_:Int) (h1:RepS w F a1 n1 c1 s.idx.names) (h2:RepS w F a2 n2 c2 s.idx.AY) (h3:RepS w F a3 n3 c3 s.parts) (h4:RepS w F a4 n4 c4 s.mem) (p0:s.parts.length≤100) (p1:∀ p∈s.parts,C9 p):Calls Tryz.prog 95 [.agg #[.slice a1 n1 c1,.slice a2 n2 c2,.slice a3 n3 c3,.slice a4 n4 c4],.int .i64 at_].toArray w (Al fun rv w'=>(∃ v0,rv=.tuple #[v0,.bool ((BL s at_).2)]∧VS (fo F w.heap.size) w' ((BL s at_).1:Sto) v0)∧Ext w w'):=by
 cases h1.len
 cases h2.len
 cases h3.len
 cases h4.len
 refine goT func95 ?_
 have Z:=((((St.i0 F w).p h1).p h2).p h3).p h4
 refine .s<|.g<|RG.Np Z fun ah w Z=>RG.Np Z fun ai w Z=>.r 1<|.d<|.s<|.s<|.g<|.r 2<|RG.Lb 1 Z<|.r 1<|RG.int ((s.parts.length:Int) - 2) AA (by grind [inR])<|RG.C0 (CP at_ 0 ((s.parts.length:Int) - 2) (F:=all)) Z fun w Z=>?_
 cases ae:(inR at_ 0 ((s.parts.length:Int) - 2))
 ·exact .r 1<|.d<|.ct<|.s<|.g<|RG.Ln 1 Z<|RG.Ss 0 Z fun w Z=>.r 1<|.d<|T.r2 func95 results95 (.B 0 Z) (.t (.bool false)) ⟨⟨_,(Bk rfl (AG (by rw [L8 ‹_›]))),Z.rS (g:=1) s [3,2,1,0] (by rw [L8 ‹_›])⟩,Z.xt⟩
 have aq:=Bd ae
 refine .r 1<|.d<|.cf<|.sk<|.s<|.g<|RG.N0 Prt 1 Z fun ay w Z=>.r 1<|RG.Lb 2 Z<|.r 1<|RG.Sb (hlh:=(by grind [inR])) (hh:=(by grind [inR])) (hhi:=bdI at_) 1 0 (at_.toNat) s.parts Z fun az aA Z=>RG.An 0 0 ([]:List Prt) ((s.parts.take (at_.toNat)).drop 0) Z fun aB aC w Z=>.r 1<|.d<|.s<|T.GS 14 [ai,ah] Z fun _ w Z=>.r [0,1]<|GA.Lb (q:=1) 2 2 Z<|.r [3]<|gxm (h:=(by grind [inR])) s.parts (at_.toNat) fun ab E af=>GA.Jx (hz:=(by grind [inR])) 4 2 at_ E Z<|Z.el 2 E fun aD aE aF aG Z=>GA.Lg 5 0 0 Z<|.r [6]<|GA.Lb (q:=1) 7 2 Z<|.r [8]<|GA.int (i:=9) (at_+1) AA (by grind [inR])<|gxm (h:=(by grind [inR])) s.parts ((at_+1).toNat) fun ac aa ag=>GA.Jx (hz:=(by grind [inR])) 10 5 (at_+1) aa Z<|Z.el 5 aa fun aH aI aJ aK Z=>GA.Lg 11 0 0 Z<|.go 12<|GE.CS (fun w Z=>D4 ab ac (Z.a 4) (Z.a 5) (Z.a 1) (Z.a 2) (by grind) (by grind)) Z fun aL aM aN aO w Z=>.go 13<|GE.Nb 1 Z fun aP w Z=>GA.Do Z fun w Z=>RG.Ap 0 0 ([]++((s.parts.take (at_.toNat)).drop 0)) (BJ ab ac) [0,1] Z fun aQ aR w Z=>.r 1<|.d<|.s<|.g<|.r 2<|RG.Lb 2 Z<|.r 1<|RG.int (at_+2) AA (by grind [inR])<|RG.Sb (hlh:=(by grind [inR])) (hh:=(by grind [inR])) (hlo:=bdI (at_+2)) 10 ((at_+2).toNat) s.parts.length s.parts Z fun aS aT Z=>RG.An 0 0 (([]++((s.parts.take (at_.toNat)).drop 0))++[(BJ ab ac)]) ((s.parts.take s.parts.length).drop ((at_+2).toNat)) Z fun aU aV w Z=>.r 1<|RG.Ss 2 Z fun w Z=>.d<|.s<|.g<|RG.Ln 2 Z<|RG.Ss 1 Z fun w Z=>.r 1<|.d ?_
 have Z:=Z.sl 0
 exact T.r2 func95 results95 (.B 0 Z) (.t (.bool true)) ⟨⟨_,(Bk rfl (AG (by rw [L9 ‹_› ‹_› ‹_›]))),Z.rS (g:=1) (⟨(⟨s.idx.names,s.idx.AY⟩:Idx),((([]++((s.parts.take (at_.toNat)).drop 0))++[(BJ ab ac)])++((s.parts.take s.parts.length).drop ((at_+2).toNat))),s.mem⟩:Sto) [14,13,0,11] (by rw [L9 ‹_› ‹_› ‹_›])⟩,Z.xt⟩
theorem NC (s:Sto) (n:List Tag) (r:Row) (h1:RepS w F a1 n1 c1 s.idx.names) (h2:RepS w F a2 n2 c2 s.idx.AY) (h3:RepS w F a3 n3 c3 s.parts) (h4:RepS w F a4 n4 c4 s.mem) (h5:RepS w F a5 n5 c5 n) (p0:NS s) (p1:GI n):Calls Tryz.prog 91 [.agg #[.slice a1 n1 c1,.slice a2 n2 c2,.slice a3 n3 c3,.slice a4 n4 c4],.slice a5 n5 c5,.agg #[.int .i64 r.t,.int .i64 r.v]].toArray w (Al fun rv w'=>(∃ v0,rv=.tuple #[v0,.bool ((CQ s n r).2)]∧VS (fo F w.heap.size) w' ((CQ s n r).1:Sto) v0)∧Ext w w'):=by
 cases h1.len
 cases h2.len
 cases h3.len
 cases h4.len
 cases h5.len
 refine goT func91 ?_
 have Z:=(((((St.i0 F w).p h1).p h2).p h3).p h4).p h5
 have am:=h4.max
 refine .s<|.g<|RG.Np Z fun ae w Z=>RG.Np Z fun af w Z=>RG.Np Z fun ag w Z=>.r 1<|.d<|.s<|.g<|.r 1<|RG.Ln 2 Z<|.r 1<|RG.CT (us:=[vI ((BY s.idx n).2.1),.bool ((BY s.idx n).2.2)]) (NA s.idx n (Z.mg 1 4) (Z.mg 1 3) (Z.mg 1 0) p0.1 p1) Z fun ax ay az aA w Z=>.r 3 ?_
 cases aq:(BY s.idx n).2.2
 ·exact .r 1<|RG.Np Z fun aB w Z=>RG.Ss 0 Z fun w Z=>.r 2<|.d<|.s<|.s<|.g<|.r 13<|.d<|.ct<|.s<|.g<|RG.Ln 3 Z<|RG.Ss 1 Z fun w Z=>.r 1<|.d<|T.r2 func91 results91 (.B 1 Z) (.t (.bool false)) ⟨⟨_,(Bk rfl (AG (by rw [L6 ‹_›]))),Z.rS (g:=1) s [6,5,4,3] (by rw [L6 ‹_›])⟩,Z.xt⟩
 refine .r 1<|RG.Np Z fun ah w Z=>RG.Ss 0 Z fun w Z=>.r 2<|.d<|.s<|.s<|.g<|.r 3<|RG.Ln 2 Z<|RG.C0 (OS r (F:=all)) Z fun w Z=>?_
 cases ar:(Be r)
 ·exact .r 8<|.d<|.ct<|.s<|.g<|RG.Ln 3 Z<|RG.Ss 1 Z fun w Z=>.r 1<|.d<|T.r2 func91 results91 (.B 1 Z) (.t (.bool false)) ⟨⟨_,(Bk rfl (AG (by rw [L7 ‹_›]))),Z.rS (g:=1) s [6,5,4,3] (by rw [L7 ‹_›])⟩,Z.xt⟩
 refine .r 4<|RG.Lb 3 Z<|.r 1<|.bp ((s.mem.length:Int)≥20) (fun E=>.r 1<|.d<|.ct<|.s<|.g<|RG.Ln 3 Z<|RG.Ss 1 Z fun w Z=>.r 1<|.d<|T.r2 func91 results91 (.B 1 Z) (.t (.bool false)) ⟨⟨_,(Bk rfl (AG (by rw [Qg ‹_›]))),Z.rS (g:=1) s [6,5,4,3] (by rw [Qg ‹_›])⟩,Z.xt⟩) fun E=>.r 1<|.d<|.cf<|.sk<|.s<|.g<|RG.Ln 3 Z<|RG.Np Z fun ai w Z=>RG.Ss 0 Z fun w Z=>.d<|.s<|.g<|RG.Ln 1 Z<|.r 1<|RG.Ss 0 Z fun w Z=>.d<|.s<|T.GS 8 [ai,ah,ag,af,ae] Z fun _ w Z=>.r [1]<|GA.Lb (q:=4) 2 4 Z<|.r [4]<|GA.Ln (q:=3) 5 3 Z<|.r [6]<|.tw 0 7 ?_ ?_
 ·refine GE.N0 Smp 1 Z fun aC w Z=>.tw 3 7 ?_ ?_
  ·refine GE.An (hs:=by (simp only [List.nil_append,List.length_nil,List.length_append,List.length_cons] <;> exact (by have:=p0.2.2.2; omega))) 0 3 ([]:List Smp) s.mem [1,2,3,4,5] Z fun aD aE w Z=>.go 7<|GE.Nb 1 Z fun aF w Z=>GA.Do Z fun w Z=>RG.Ap (hs:=by (simp only [List.nil_append,List.length_nil,List.length_append,List.length_cons] <;> exact (by have:=p0.2.2.2; omega))) 0 0 ([]++s.mem) (⟨(BY s.idx n).2.1,(⟨r.t,r.v⟩:Row)⟩:Smp) [] Z fun aG aH w Z=>.r 1<|RG.Ss 1 Z fun w Z=>.d<|.s<|.s<|.g<|RG.Ln 1 Z<|.r 1<|RG.CL (EP (⟨(⟨(BY s.idx n).1.names,((BY s.idx n).1).AY⟩:Idx),s.parts,(([]++s.mem)++[(⟨(BY s.idx n).2.1,(⟨r.t,r.v⟩:Row)⟩:Smp)])⟩:Sto) ((BY s.idx n).2.1) (Z.a 0) (Z.a 1) (Z.a 4) (Z.oa 0) p0.2.1 p0.2.2.1 (by have:=p0.2.2.2; simp; omega)) Z fun aI aJ w Z=>.r 1<|.bp ((((rowsOf (⟨(⟨(BY s.idx n).1.names,((BY s.idx n).1).AY⟩:Idx),s.parts,(([]++s.mem)++[(⟨(BY s.idx n).2.1,(⟨r.t,r.v⟩:Row)⟩:Smp)])⟩:Sto) ((BY s.idx n).2.1)).length):Int) > 24) (fun aa=>.d<|.ct<|.s<|.g<|RG.Ln 5 Z<|RG.Ss 3 Z fun w Z=>.r 1<|.d<|T.r2 func91 results91 (.B 3 Z) (.t (.bool false)) ⟨⟨_,(Bk rfl (AG (by rw [Gz ‹_› ‹_› ‹_› ‹_›]))),Z.rS (g:=1) s [7,6,5,4] (by rw [Gz ‹_› ‹_› ‹_› ‹_›])⟩,Z.xt⟩) fun aa=>.d<|.cf<|.sk<|.s<|.g<|RG.Ln 1 Z<|RG.Ss 3 Z fun w Z=>.r 1<|.d ?_
   have Z:=Z.sl 0
   exact T.r2 func91 results91 (.B 2 Z) (.t (.bool true)) ⟨⟨_,(Bk rfl (AG (by (rw [G0 ‹_› ‹_› ‹_› ‹_›] <;> rfl)))),Z.rS (g:=1) (⟨(⟨(BY s.idx n).1.names,((BY s.idx n).1).AY⟩:Idx),s.parts,(([]++s.mem)++[(⟨(BY s.idx n).2.1,(⟨r.t,r.v⟩:Row)⟩:Smp)])⟩:Sto) [2,3,6,0] (by (rw [G0 ‹_› ‹_› ‹_› ‹_›] <;> rfl))⟩,Z.xt⟩
  refine GE.Nb 1 Z fun aK w Z=>.go 3<|GE.An (hs:=by (simp only [List.nil_append,List.length_nil,List.length_append,List.length_cons] <;> exact (by have:=p0.2.2.2; omega))) 1 3 ([]:List Smp) s.mem [2,3,4,5,6] Z fun aL aM w Z=>GA.Do Z fun w Z=>RG.Ap (hs:=by (simp only [List.nil_append,List.length_nil,List.length_append,List.length_cons] <;> exact (by have:=p0.2.2.2; omega))) 0 0 ([]++s.mem) (⟨(BY s.idx n).2.1,(⟨r.t,r.v⟩:Row)⟩:Smp) [] Z fun aN aO w Z=>.r 1<|RG.Ss 1 Z fun w Z=>.d<|.s<|.s<|.g<|RG.Ln 1 Z<|.r 1<|RG.CL (EP (⟨(⟨(BY s.idx n).1.names,((BY s.idx n).1).AY⟩:Idx),s.parts,(([]++s.mem)++[(⟨(BY s.idx n).2.1,(⟨r.t,r.v⟩:Row)⟩:Smp)])⟩:Sto) ((BY s.idx n).2.1) (Z.a 0) (Z.a 1) (Z.a 4) (Z.oa 0) p0.2.1 p0.2.2.1 (by have:=p0.2.2.2; simp; omega)) Z fun aP aQ w Z=>.r 1<|.bp ((((rowsOf (⟨(⟨(BY s.idx n).1.names,((BY s.idx n).1).AY⟩:Idx),s.parts,(([]++s.mem)++[(⟨(BY s.idx n).2.1,(⟨r.t,r.v⟩:Row)⟩:Smp)])⟩:Sto) ((BY s.idx n).2.1)).length):Int) > 24) (fun ab=>.d<|.ct<|.s<|.g<|RG.Ln 5 Z<|RG.Ss 3 Z fun w Z=>.r 1<|.d<|T.r2 func91 results91 (.B 3 Z) (.t (.bool false)) ⟨⟨_,(Bk rfl (AG (by rw [Gz ‹_› ‹_› ‹_› ‹_›]))),Z.rS (g:=1) s [7,6,5,4] (by rw [Gz ‹_› ‹_› ‹_› ‹_›])⟩,Z.xt⟩) fun ab=>.d<|.cf<|.sk<|.s<|.g<|RG.Ln 1 Z<|RG.Ss 3 Z fun w Z=>.r 1<|.d ?_
  have Z:=Z.sl 0
  exact T.r2 func91 results91 (.B 2 Z) (.t (.bool true)) ⟨⟨_,(Bk rfl (AG (by (rw [G0 ‹_› ‹_› ‹_› ‹_›] <;> rfl)))),Z.rS (g:=1) (⟨(⟨(BY s.idx n).1.names,((BY s.idx n).1).AY⟩:Idx),s.parts,(([]++s.mem)++[(⟨(BY s.idx n).2.1,(⟨r.t,r.v⟩:Row)⟩:Smp)])⟩:Sto) [2,3,6,0] (by (rw [G0 ‹_› ‹_› ‹_› ‹_›] <;> rfl))⟩,Z.xt⟩
 refine GE.Nb 1 Z fun aR w Z=>.go 0<|GE.N0 Smp 1 Z fun aS w Z=>.go 3<|GE.An (hs:=by (simp only [List.nil_append,List.length_nil,List.length_append,List.length_cons] <;> exact (by have:=p0.2.2.2; omega))) 0 3 ([]:List Smp) s.mem [2,3,4,5,6] Z fun aT aU w Z=>GA.Do Z fun w Z=>RG.Ap (hs:=by (simp only [List.nil_append,List.length_nil,List.length_append,List.length_cons] <;> exact (by have:=p0.2.2.2; omega))) 0 1 ([]++s.mem) (⟨(BY s.idx n).2.1,(⟨r.t,r.v⟩:Row)⟩:Smp) [] Z fun aV aW w Z=>.r 1<|RG.Ss 1 Z fun w Z=>.d<|.s<|.s<|.g<|RG.Ln 1 Z<|.r 1<|RG.CL (EP (⟨(⟨(BY s.idx n).1.names,((BY s.idx n).1).AY⟩:Idx),s.parts,(([]++s.mem)++[(⟨(BY s.idx n).2.1,(⟨r.t,r.v⟩:Row)⟩:Smp)])⟩:Sto) ((BY s.idx n).2.1) (Z.a 0) (Z.a 1) (Z.a 4) (Z.oa 0) p0.2.1 p0.2.2.1 (by have:=p0.2.2.2; simp; omega)) Z fun aX aY w Z=>.r 1<|.bp ((((rowsOf (⟨(⟨(BY s.idx n).1.names,((BY s.idx n).1).AY⟩:Idx),s.parts,(([]++s.mem)++[(⟨(BY s.idx n).2.1,(⟨r.t,r.v⟩:Row)⟩:Smp)])⟩:Sto) ((BY s.idx n).2.1)).length):Int) > 24) (fun ac=>.d<|.ct<|.s<|.g<|RG.Ln 5 Z<|RG.Ss 3 Z fun w Z=>.r 1<|.d<|T.r2 func91 results91 (.B 3 Z) (.t (.bool false)) ⟨⟨_,(Bk rfl (AG (by rw [Gz ‹_› ‹_› ‹_› ‹_›]))),Z.rS (g:=1) s [7,6,5,4] (by rw [Gz ‹_› ‹_› ‹_› ‹_›])⟩,Z.xt⟩) fun ac=>.d<|.cf<|.sk<|.s<|.g<|RG.Ln 1 Z<|RG.Ss 3 Z fun w Z=>.r 1<|.d ?_
 have Z:=Z.sl 0
 exact T.r2 func91 results91 (.B 2 Z) (.t (.bool true)) ⟨⟨_,(Bk rfl (AG (by (rw [G0 ‹_› ‹_› ‹_› ‹_›] <;> rfl)))),Z.rS (g:=1) (⟨(⟨(BY s.idx n).1.names,((BY s.idx n).1).AY⟩:Idx),s.parts,(([]++s.mem)++[(⟨(BY s.idx n).2.1,(⟨r.t,r.v⟩:Row)⟩:Smp)])⟩:Sto) [2,3,6,0] (by (rw [G0 ‹_› ‹_› ‹_› ‹_›] <;> rfl))⟩,Z.xt⟩
end Go.Proofs.YtckdhcbbgmiccaaGreatDoor
namespace Go.Proofs.YtckdhcbbgmiccaaGreatDoor
def Ai (s:Sto):Sto:=⟨idxOf s.idx.names,s.parts,s.mem⟩
def BR (d:Dsk):Dsk:=⟨d.files.filter (fun f=>d.list.contains f.num),d.list,d.names,d.next⟩
def BD (d:Dsk) (s:Sto):List Stp :=
 if s.mem.length=0∨d.list.length≥6∨d.next≥999∨d.files.length≥20 then []
 else [⟨1,d.next,Ak s.mem,[],[]⟩,⟨2,0,⟨[],[]⟩,d.list++[d.next],s.idx.names⟩]
theorem En {d:Dsk}{s:Sto}(h:(s.mem.length:Int)=0∨(d.list.length:Int)≥6∨d.next≥999∨(d.files.length:Int)≥20):BD d s=[]:=by unfold BD; rw [if_pos AB]
theorem Dd {d:Dsk}{s:Sto}(h1:(s.mem.length:Int)≠0) (h2:¬ (d.list.length:Int)≥6) (h3:¬ d.next≥999) (h4:¬ (d.files.length:Int)≥20) :
 BD d s=[⟨1,d.next,Ak s.mem,[],[]⟩,⟨2,0,⟨[],[]⟩,d.list++[d.next],s.idx.names⟩]:=by unfold BD; rw [if_neg AB]
theorem Rj {α:Type}{l:List (List α)}{i:Nat}{k:List (List α)}{q:List α}(h:k++l.drop i=l) (hd:l.drop i=q::l.drop (i+1)):(k++[[]++q])++l.drop (i+1)=l:=by
 rw [hd] at h
 simpa using h
theorem Tx {l:List Prt}{i:Nat}{k:List Prt}{q:Prt}{a:List Int}{b:List (List Row)}(h:k++l.drop i=l) (hd:l.drop i=q::l.drop (i+1)) (ha:a=q.ids) (hb:b=q.blocks):(k++[⟨a,b⟩])++l.drop (i+1)=l:=by
 subst ha hb
 rw [hd] at h
 simpa using h
end Go.Proofs.YtckdhcbbgmiccaaGreatDoor
namespace Go.Proofs.YtckdhcbbgmiccaaGreatDoor
set_option maxRecDepth 100000
set_option maxHeartbeats 4000000
variable {w:World} {F:Nat→Prop} {a1 a2 a3 a4 a5 a6 a7:Option Addr} {n1 c1 n2 c2 n3 c3 n4 c4 n5 c5 n6 c6 n7 c7:Nat}
theorem MA (d:Dsk) (h1:RepS w F a1 n1 c1 d.files) (h2:RepS w F a2 n2 c2 d.list) (h3:RepS w F a3 n3 c3 d.names) (p0:d.files.length≤1000):Calls Tryz.prog 98 [.agg #[.slice a1 n1 c1,.slice a2 n2 c2,.slice a3 n3 c3,.int .i64 d.next]].toArray w (Al fun rv w'=>VS (fo F w.heap.size) w' (BR d:Dsk) rv∧Ext w w'):=by
 cases h1.len
 cases h2.len
 cases h3.len
 refine goT func98 ?_
 have Z:=(((St.i0 F w).p h1).p h2).p h3
 refine .s<|.g<|RG.Np Z fun af w Z=>RG.Np Z fun ag w Z=>.d<|.s<|.g<|RG.N0 Fil 1 Z fun ah w Z=>.r 1<|.d<|.s<|.s<|.g<|.r 1<|.d<|.b 0<|T.Lp (([]:List Fil),ah,(0:Nat),(0:Nat)) (fun (files,r_files,c_files,i)=>([(1,vP af),(2,vP ag),(3,vS r_files files.length c_files),(4,vI (i:Int))],[(0,.own 1 r_files 165 c_files files)],[],d.files.length - i,(i≤d.files.length)∧(files.length≤i)∧(files++(d.files.drop i).filter (fun f=>d.list.contains f.num)=d.files.filter (fun f=>d.list.contains f.num)))) [] Z ⟨AD,AD,AD⟩ ?_
 rintro ⟨files,r_files,c_files,i⟩ az w Z ⟨ao,aq,ar⟩ E
 refine .s<|.s<|.g<|.r 2<|RG.Lb 2 Z<|.r 1<|.bp ((i:Int)< (d.files.length:Int)) (fun ac=>?_) (fun ac=>?_)
 ·refine .d<|.ct<|.sk<|.s<|.b 1<|.s<|T.Gd 7 Z fun w Z=>GA.Ln 0 2 Z<|.r [1]<|GA.Lb 2 2 Z<|.r [3]<|gxd d.files i fun ab aa ax=>GA.Ix 4 2 aa Z<|.r [5]<|Z.el 2 aa fun aA aB aC aD Z=>GA.Lh 6 0 0 Z<|GA.Dn Z fun w Z=>RG.C0 (Ga d ab.num (Z.a 5) (Z.a 4) (Z.a 3)) Z fun w Z=>?_
  cases ay:(d.list.contains ab.num)
  ·exact .d<|.cf<|.sk<|.ib 1<|.g<|.r 1<|.it ((i:Int)+1)<|.r 1<|.d<|E (files,r_files,c_files,i+1) _ _ AA (Z.to 0 [] 3) ⟨AB,AB,(by grind)⟩ (by (simp only []; omega))
  exact .d<|.ct<|.g<|.r 2<|RG.Lb 2 Z<|.r 1<|RG.Ix 5 aa Z<|RG.Lg 0 0 Z<|RG.Nb 1 Z fun aE w Z=>RG.Ap 0 0 files ab [1,2] Z fun ai aj w Z=>.r 1<|.d<|.ib 1<|.g<|.r 1<|.it ((i:Int)+1)<|.r 1<|.d<|E ((files++[ab]),ai,aj,i+1) _ _ AA (Z.to 0 [] 3) ⟨AB,(by (simp; omega)),(by grind)⟩ (by (simp only []; omega))
 refine .d<|.cf<|.x 0 rfl<|.s<|.g<|.r 2<|RG.Ss 2 Z fun w Z=>.d<|.s<|.g<|RG.Ln 2 Z<|RG.Ss 1 Z fun w Z=>.d ?_
 have Z:=Z.sl 0
 exact T.Rb 0 func98 results98 Z ⟨Z.rS (g:=1) (⟨files,d.list,d.names,d.next⟩:Dsk) [0,2,1] (by grind [BR,Ac]),Z.xt⟩
theorem LC (d:Dsk) (s:Sto) (h1:RepS w F a1 n1 c1 d.files) (h2:RepS w F a2 n2 c2 d.list) (h3:RepS w F a3 n3 c3 d.names) (h4:RepS w F a4 n4 c4 s.idx.names) (h5:RepS w F a5 n5 c5 s.idx.AY) (h6:RepS w F a6 n6 c6 s.parts) (h7:RepS w F a7 n7 c7 s.mem) (p0:s.mem.length≤1000) (p1:∀ m∈s.mem,1≤m.id∧m.id≤6) (p2:d.list.length≤1000) (p3:s.idx.names.length≤1000) (p4:∀ n∈s.idx.names,n.length≤1000):Calls Tryz.prog 94 [.agg #[.slice a1 n1 c1,.slice a2 n2 c2,.slice a3 n3 c3,.int .i64 d.next],.agg #[.slice a4 n4 c4,.slice a5 n5 c5,.slice a6 n6 c6,.slice a7 n7 c7]].toArray w (Al fun rv w'=>VL (ge w.heap.size) w' (BD d s:List Stp) rv∧Ext w w'):=by
 cases h1.len
 cases h2.len
 cases h3.len
 cases h4.len
 cases h5.len
 cases h6.len
 cases h7.len
 refine goT func94 ?_
 have Z:=(((((((St.i0 F w).p h1).p h2).p h3).p h4).p h5).p h6).p h7
 have ag:=h1.max
 refine .s<|.g<|RG.Np Z fun ae w Z=>RG.Np Z fun af w Z=>.r 1<|.d<|.s<|.s<|.g<|.r 1<|RG.Lb 0 Z<|.r 1<|.eq (s.mem.length:Int) 0 (fun E=>.r 17<|.d<|.ct<|.s<|.g<|RG.N0 Stp 0 Z fun ao w Z=>.r 1<|.d<|T.Rt func94 results94 ⟨Z.rM 0 ([]:List Stp) (by rw [En AB]),Z.xt⟩) fun E=>.r 2<|RG.Lb 1 Z<|.r 1<|.bp ((d.list.length:Int)≥6) (fun aa=>.r 12<|.d<|.ct<|.s<|.g<|RG.N0 Stp 0 Z fun aq w Z=>.r 1<|.d<|T.Rt func94 results94 ⟨Z.rM 0 ([]:List Stp) (by rw [En AB]),Z.xt⟩) fun aa=>.r 3<|RG.Lb 1 Z<|.bp (d.next≥999) (fun ab=>.r 7<|.d<|.ct<|.s<|.g<|RG.N0 Stp 0 Z fun ar w Z=>.r 1<|.d<|T.Rt func94 results94 ⟨Z.rM 0 ([]:List Stp) (by rw [En AB]),Z.xt⟩) fun ab=>.r 3<|RG.Lb 1 Z<|.r 1<|.bp ((d.files.length:Int)≥20) (fun ac=>.r 1<|.d<|.ct<|.s<|.g<|RG.N0 Stp 0 Z fun ax w Z=>.r 1<|.d<|T.Rt func94 results94 ⟨Z.rM 0 ([]:List Stp) (by rw [En AB]),Z.xt⟩) fun ac=>.r 1<|.d<|.cf<|.sk<|.s<|T.GS 7 [af,ae] Z fun _ w Z=>.r [1]<|GA.Lb (q:=1) 2 1 Z<|.r [4]<|GA.Lb (q:=1) 5 1 Z<|.tw 0 6 ?_ ?_
 ·refine GE.N0 Int 0 Z fun ay w Z=>.tw 3 6 ?_ ?_
  ·exact GE.An (hf:=.inr BB) 0 5 ([]:List Int) d.list [1,2] Z fun az aA w Z=>.go 6<|GE.Nb 1 Z fun aB w Z=>GA.Do Z fun w Z=>RG.Ap 0 0 ([]++d.list) d.next [] Z fun aC aD w Z=>.r 1<|.d<|.s<|T.Gd 11 Z fun w Z=>.r [0]<|GA.Lb 1 2 Z<|GA.Ln 2 1 Z<|.r [5,6,7]<|GA.Lb 8 1 Z<|.go 3<|GE.CS (fun w Z=>Ey s (Z.a 3) (Z.a 2) (Z.a 1) (Z.a 0) p0 p1) Z fun aE aF aG aH w Z=>.r [4]<|.go 9<|GE.CO 0 (fun w Z=>BU s.idx.names (Z.a 5) AB (by intro n hn; have:=p4 n hn; omega)) Z fun aI aJ w Z=>.r [10]<|GA.Dn Z fun w Z=>RG.Nl 0 ([(⟨1,d.next,(⟨(Ak s.mem).ids,(Ak s.mem).blocks⟩:Prt),([]:List Int),([]:List (List Tag))⟩:Stp),(⟨2,0,(⟨([]:List Int),([]:List (List Row))⟩:Prt),(([]++d.list)++[d.next]),s.idx.names⟩:Stp)]:List Stp) [[6,7,5,4],[1,0,3,2]] ((((((Z.nl Int).nl (List Tag)).sl 1).sl 0).nl Int).nl (List Row)) fun aK w Z=>.r 1<|.d<|T.Rt func94 results94 ⟨Z.rM 0 ([(⟨1,d.next,(⟨(Ak s.mem).ids,(Ak s.mem).blocks⟩:Prt),([]:List Int),([]:List (List Tag))⟩:Stp),(⟨2,0,(⟨([]:List Int),([]:List (List Row))⟩:Prt),(([]++d.list)++[d.next]),s.idx.names⟩:Stp)]:List Stp) (by (rw [Dd ‹_› ‹_› ‹_› ‹_›] <;> simp)),Z.xt⟩
  exact GE.Nb 1 Z fun aL w Z=>.go 3<|GE.An (hf:=.inr BB) 1 5 ([]:List Int) d.list [2,3] Z fun aM aN w Z=>GA.Do Z fun w Z=>RG.Ap 0 0 ([]++d.list) d.next [] Z fun aO aP w Z=>.r 1<|.d<|.s<|T.Gd 11 Z fun w Z=>.r [0]<|GA.Lb 1 2 Z<|GA.Ln 2 1 Z<|.r [5,6,7]<|GA.Lb 8 1 Z<|.go 3<|GE.CS (fun w Z=>Ey s (Z.a 3) (Z.a 2) (Z.a 1) (Z.a 0) p0 p1) Z fun aQ aR aS aT w Z=>.r [4]<|.go 9<|GE.CO 0 (fun w Z=>BU s.idx.names (Z.a 5) AB (by intro n hn; have:=p4 n hn; omega)) Z fun aU aV w Z=>.r [10]<|GA.Dn Z fun w Z=>RG.Nl 0 ([(⟨1,d.next,(⟨(Ak s.mem).ids,(Ak s.mem).blocks⟩:Prt),([]:List Int),([]:List (List Tag))⟩:Stp),(⟨2,0,(⟨([]:List Int),([]:List (List Row))⟩:Prt),(([]++d.list)++[d.next]),s.idx.names⟩:Stp)]:List Stp) [[6,7,5,4],[1,0,3,2]] ((((((Z.nl Int).nl (List Tag)).sl 1).sl 0).nl Int).nl (List Row)) fun aW w Z=>.r 1<|.d<|T.Rt func94 results94 ⟨Z.rM 0 ([(⟨1,d.next,(⟨(Ak s.mem).ids,(Ak s.mem).blocks⟩:Prt),([]:List Int),([]:List (List Tag))⟩:Stp),(⟨2,0,(⟨([]:List Int),([]:List (List Row))⟩:Prt),(([]++d.list)++[d.next]),s.idx.names⟩:Stp)]:List Stp) (by (rw [Dd ‹_› ‹_› ‹_› ‹_›] <;> simp)),Z.xt⟩
 exact GE.Nb 1 Z fun aX w Z=>.go 0<|GE.N0 Int 0 Z fun aY w Z=>.go 3<|GE.An (hf:=.inr BB) 0 5 ([]:List Int) d.list [2,3] Z fun aZ ba w Z=>GA.Do Z fun w Z=>RG.Ap 0 1 ([]++d.list) d.next [] Z fun bd bg w Z=>.r 1<|.d<|.s<|T.Gd 11 Z fun w Z=>.r [0]<|GA.Lb 1 2 Z<|GA.Ln 2 1 Z<|.r [5,6,7]<|GA.Lb 8 1 Z<|.go 3<|GE.CS (fun w Z=>Ey s (Z.a 3) (Z.a 2) (Z.a 1) (Z.a 0) p0 p1) Z fun bh bi bj bk w Z=>.r [4]<|.go 9<|GE.CO 0 (fun w Z=>BU s.idx.names (Z.a 5) AB (by intro n hn; have:=p4 n hn; omega)) Z fun bm bn w Z=>.r [10]<|GA.Dn Z fun w Z=>RG.Nl 0 ([(⟨1,d.next,(⟨(Ak s.mem).ids,(Ak s.mem).blocks⟩:Prt),([]:List Int),([]:List (List Tag))⟩:Stp),(⟨2,0,(⟨([]:List Int),([]:List (List Row))⟩:Prt),(([]++d.list)++[d.next]),s.idx.names⟩:Stp)]:List Stp) [[6,7,5,4],[1,0,3,2]] ((((((Z.nl Int).nl (List Tag)).sl 1).sl 0).nl Int).nl (List Row)) fun bo w Z=>.r 1<|.d<|T.Rt func94 results94 ⟨Z.rM 0 ([(⟨1,d.next,(⟨(Ak s.mem).ids,(Ak s.mem).blocks⟩:Prt),([]:List Int),([]:List (List Tag))⟩:Stp),(⟨2,0,(⟨([]:List Int),([]:List (List Row))⟩:Prt),(([]++d.list)++[d.next]),s.idx.names⟩:Stp)]:List Stp) (by (rw [Dd ‹_› ‹_› ‹_› ‹_›] <;> simp)),Z.xt⟩
theorem MB (s:Sto) (h1:RepS w F a1 n1 c1 s.idx.names) (h2:RepS w F a2 n2 c2 s.idx.AY) (h3:RepS w F a3 n3 c3 s.parts) (h4:RepS w F a4 n4 c4 s.mem) (p0:NS s):Calls Tryz.prog 99 [.agg #[.slice a1 n1 c1,.slice a2 n2 c2,.slice a3 n3 c3,.slice a4 n4 c4]].toArray w (Al fun rv w'=>(∃ (a0:Option Addr) (n0 c0:Nat) (a1:Option Addr) (n1 c1:Nat) (a2:Option Addr) (n2 c2:Nat) (r3 n3 c3:Nat),rv=.agg #[.slice a0 n0 c0,.slice a1 n1 c1,.slice a2 n2 c2,.slice (some ⟨r3,0,none⟩) n3 c3]∧RepS w' (nin (ge w.heap.size) [r3]) a0 n0 c0 ((((Ai s)).idx).names)∧RepS w' (nin (ge w.heap.size) [r3]) a1 n1 c1 ((((Ai s)).idx).AY)∧RepS w' (nin (ge w.heap.size) [r3]) a2 n2 c2 (((Ai s)).parts)∧Own w' r3 128 (nin (ge w.heap.size) [r3]) n3 c3 (((Ai s)).mem)∧w.heap.size≤r3)∧Ext w w'):=by
 cases h1.len
 cases h2.len
 cases h3.len
 cases h4.len
 refine goT func99 ?_
 have Z:=((((St.i0 F w).p h1).p h2).p h3).p h4
 have ba:=h3.max
 have bd:=h4.max
 refine .s<|.g<|RG.Np Z fun ax w Z=>RG.Np Z fun ay w Z=>.d<|.s<|.g<|RG.N0 Prt 0 Z fun aE w Z=>.r 1<|.d<|.s<|.s<|.g<|.r 1<|.d<|.b 0<|T.Lp (([]:List Prt),aE,(0:Nat),(0:Nat)) (fun (k,r_k,c_k,k1)=>([(1,vP ax),(2,vP ay),(3,vS r_k k.length c_k),(4,vI (k1:Int))],[(0,.own 0 r_k 124 c_k k)],[],s.parts.length - k1,(k1≤s.parts.length)∧(k.length≤k1)∧(k++s.parts.drop k1=s.parts))) [] Z ⟨AD,AD,AD⟩ ?_
 rintro ⟨k,r_k,c_k,k1⟩ bK w Z ⟨bg,bh,bi⟩ al
 have bj:=Z.mo 0 k
 refine .s<|.s<|.g<|.r 2<|RG.Lb 2 Z<|.r 1<|.bp ((k1:Int)< (s.parts.length:Int)) (fun aA=>?_) (fun aA=>?_)
 ·refine .d<|.ct<|.sk<|.s<|.b 1<|.s<|.g<|RG.N0 Int 0 Z fun bL w Z=>.r 1<|RG.Lb 3 Z<|.r 1<|gxb s.parts k1 fun aa ac bk aC=>RG.Ix 1 ac Z<|.r 1<|Z.el 1 ac fun bM bN bO bP Z=>?_
  have bn:=Z.mf 2 aa.blocks
  refine RG.Lh 0 0 Z<|RG.An (hs:=by (simp only [List.nil_append,List.length_nil,List.length_append,List.length_cons] <;> exact (by have q1:=p0.2.1; (have E:=p0.2.2.1 _ ‹_›; have q4:=E.1; have q5:=E.2.1; omega)))) (hf:=.inr BB) 0 1 ([]:List Int) aa.ids Z fun aF aG w Z=>RG.N0 (List Row) 0 Z fun aH w Z=>.r 1<|RG.Np Z fun az w Z=>RG.Ss 0 Z fun w Z=>.d<|.s<|.s<|.g<|.r 1<|.d<|.b 2<|T.Lp ((0:Nat),(([]++aa.ids):List Int),aF,aG,([]:List (List Row)),aH,(0:Nat)) (fun (k2,af,r_k_0,c_k_0,ab,r_k_1,c_k_1)=>([(1,vP ax),(2,vP ay),(3,vS r_k k.length c_k),(4,vI (k1:Int)),(5,vP az),(6,vI (k2:Int))],[(0,.box az 124 [vS r_k_0 af.length c_k_0,vS r_k_1 ab.length c_k_1]),(1,.own 0 r_k_1 76 c_k_1 ab),(2,.own 0 r_k_0 3 c_k_0 af)],[],aa.blocks.length - k2,(k2≤aa.blocks.length)∧(af=aa.ids)∧(ab.length≤k2)∧(ab++aa.blocks.drop k2=aa.blocks))) [] Z ⟨AD,AD,AD,AD⟩ ?_
  rintro ⟨k2,af,r_k_0,c_k_0,ab,r_k_1,c_k_1⟩ bQ w Z ⟨bq,br,bt,bu⟩ ar
  have bw:=Z.mo 1 ab
  refine .s<|.s<|.g<|.r 2<|RG.Lb 5 Z<|.r 1<|RG.Ix 4 ac Z<|.r 1<|RG.Lh 0 1 Z<|.r 1<|.bp ((k2:Int)< (aa.blocks.length:Int)) (fun aB=>?_) (fun aB=>?_)
  ·refine .d<|.ct<|.sk<|.s<|.b 3<|T.GS 14 [az,ay,ax] Z fun _ w Z=>.r [0]<|GA.Lb 1 0 Z<|.r [3]<|GA.Lb (q:=2) 4 5 Z<|.r [5]<|GA.Ix 6 4 ac Z<|.r [7]<|GA.Lh 8 0 1 Z<|.r [9]<|gxb aa.blocks k2 fun aj ai bz aD=>GA.Ix 10 2 ai Z<|Z.el 2 ai fun bR bS Z=>?_
   have bA:=Z.mf 1 aj
   exact GA.Lh 11 0 0 Z<|.go 2<|GE.N0 Row 0 Z fun bT w Z=>.go 12<|GE.An (hs:=by (simp only [List.nil_append,List.length_nil,List.length_append,List.length_cons] <;> exact (by have q1:=p0.2.1; (have E:=p0.2.2.1 _ ‹_›; (have q6:=E.2.2 _ ‹_›; omega))))) (hf:=.inr By) 0 1 ([]:List Row) aj [1,5,6] Z fun bU bV w Z=>.go 13<|GE.Nb 1 Z fun bW w Z=>GA.Do Z fun w Z=>RG.Ap (hs:=by exact (by have q1:=p0.2.1; (have E:=p0.2.2.1 _ ‹_›; have q5:=E.2.1; omega))) 1 0 ab ([]++aj) [0] (Z.sl 1) fun aI aJ w Z=>.r 1<|RG.Ss 0 Z fun w Z=>.d<|.ib 3<|.g<|.r 1<|.it ((k2:Int)+1)<|.r 1<|.d<|ar (k2+1,af,r_k_0,c_k_0,(ab++[([]++aj)]),aI,aJ) _ _ AA (Z.to 0 [] 3) ⟨AB,‹_›,(by simp; omega),(by exact Rj ‹_› ‹_›)⟩ (by (simp only []; omega))
  exact .d<|.cf<|.x 2 rfl<|.g<|.r 1<|RG.Ln 0 Z<|RG.Nb 1 Z fun bX w Z=>RG.Ap (hs:=by exact (by have q1:=p0.2.1; omega)) 1 0 k (⟨af,ab⟩:Prt) [1,0] ((Z.sl 3).sl 2) fun aK aL w Z=>.r 1<|.d<|.ib 1<|.g<|.r 1<|.it ((k1:Int)+1)<|.r 1<|.d<|al ((k++[(⟨af,ab⟩:Prt)]),aK,aL,k1+1) _ _ AA (Z.to 1 [] 5) ⟨AB,(by simp; omega),(by exact Tx ‹_› ‹_› ‹_› (by have q1:=Ac (xs:=aa.blocks) (k:=k2) AB; have q2:ab++aa.blocks.drop k2=aa.blocks:=‹_›; rw [q1,List.append_nil] at q2; exact q2))⟩ (by (simp only []; omega))
 refine .d<|.cf<|.x 0 rfl<|.s<|T.GS 9 [ay,ax] Z fun _ w Z=>.r [0,1]<|GA.Lb (q:=1) 2 2 Z<|.r [4,6]<|GA.Lb (q:=1) 7 2 Z<|.tw 3 5 ?_ ?_
 ·refine GE.CS (fun w Z=>FM s.idx.names (Z.a 3) p0.1.1 p0.1.2) Z fun aM aN aO aP w Z=>.go 5<|GE.N0 Smp 0 Z fun bY w Z=>.go 8<|GE.An (hs:=by (simp only [List.nil_append,List.length_nil,List.length_append,List.length_cons] <;> exact (by have q1:=p0.2.1; have q2:=p0.2.2.2; omega))) (hf:=.inr E0) 0 2 ([]:List Smp) s.mem [2,3] Z fun aQ aR w Z=>GA.Do Z fun w Z=>.r 1<|RG.Ss 2 Z fun w Z=>.d ?_
  have Z:=Z.sl 1
  exact T.Rb 1 func99 results99 Z ⟨⟨aM,((idxOf s.idx.names).names.length),aN,aO,((idxOf s.idx.names).AY.length),aP,(some ⟨r_k,0,none⟩),k.length,c_k,aQ,(([]++s.mem).length),aR,AA,Z.qr [0] 1 ((idxOf s.idx.names).names) AF,Z.qr [0] 2 ((idxOf s.idx.names).AY) AF,Z.qr [0] 0 k (by have q1:=Ac (xs:=s.parts) (k:=k1) AB; have q2:k++s.parts.drop k1=s.parts:=‹_›; rw [q1,List.append_nil] at q2; exact q2),Z.qo [0] 0 ([]++s.mem) AF,Z.qb 0⟩,Z.xt⟩
 refine GE.N0 Smp 0 Z fun bZ w Z=>.go 3<|GE.CS (fun w Z=>FM s.idx.names (Z.a 3) p0.1.1 p0.1.2) Z fun aS aT aU aV w Z=>.go 8<|GE.An (hs:=by (simp only [List.nil_append,List.length_nil,List.length_append,List.length_cons] <;> exact (by have q1:=p0.2.1; have q2:=p0.2.2.2; omega))) (hf:=.inr E0) 0 2 ([]:List Smp) s.mem [2,3] Z fun aW aX w Z=>GA.Do Z fun w Z=>.r 1<|RG.Ss 2 Z fun w Z=>.d ?_
 have Z:=Z.sl 1
 exact T.Rb 1 func99 results99 Z ⟨⟨aS,((idxOf s.idx.names).names.length),aT,aU,((idxOf s.idx.names).AY.length),aV,(some ⟨r_k,0,none⟩),k.length,c_k,aW,(([]++s.mem).length),aX,AA,Z.qr [0] 1 ((idxOf s.idx.names).names) AF,Z.qr [0] 2 ((idxOf s.idx.names).AY) AF,Z.qr [0] 0 k (by have q1:=Ac (xs:=s.parts) (k:=k1) AB; have q2:k++s.parts.drop k1=s.parts:=‹_›; rw [q1,List.append_nil] at q2; exact q2),Z.qo [0] 0 ([]++s.mem) AF,Z.qb 0⟩,Z.xt⟩
end Go.Proofs.YtckdhcbbgmiccaaGreatDoor
namespace Go.Proofs.YtckdhcbbgmiccaaGreatDoor
def BA (d:Dsk) (n:Int):Prt:=(d.files.getD (Aw d n).toNat default).part
def At (d:Dsk):Sto:=⟨idxOf d.names,d.list.map (BA d),[]⟩
def MC (f:Fil):Fil:=⟨f.num,BJ f.part ⟨[],[]⟩⟩
def BW (d:Dsk):Dsk:=⟨d.files.map MC,d.list,d.names,d.next⟩
def EH (d:Dsk) (n:Int):List Fil:=if Aw d n≥0∧d.list.contains n=false then d.files.take (Aw d n).toNat++d.files.drop ((Aw d n).toNat+1) else d.files
def doD (d:Dsk) (x:Stp):Dsk :=
 if x.kind=1 then ⟨d.files++[⟨x.num,x.part⟩],d.list,d.names,x.num+1⟩
 else if x.kind=2 then ⟨d.files,x.list,x.names,d.next⟩
 else if x.kind=3 then ⟨EH d x.num,d.list,d.names,d.next⟩
 else d
def toD (d:Dsk) (steps:List Stp) (cut:Int):Dsk:=(steps.take cut.toNat).foldl doD d
def Aq (d:Dsk) (at_:Int):List Stp :=
 if !(inR at_ 0 ((d.list.length:Int) - 2)) || decide (d.next≥999) || decide (d.files.length≥20) then []
 else
  let a:=d.list.getD at_.toNat 0
  let b:=d.list.getD (at_.toNat+1) 0
  [⟨1,d.next,BJ (BA d a) (BA d b),[],[]⟩,⟨2,0,⟨[],[]⟩,d.list.take at_.toNat++[d.next]++d.list.drop (at_.toNat+2),d.names⟩,⟨3,a,⟨[],[]⟩,[],[]⟩,⟨3,b,⟨[],[]⟩,[],[]⟩]
def BC (w:Wld):Wld:=⟨Ai (At (BW (BR w.disk))),BW (BR w.disk)⟩
def Br (w:Wld) (steps:List Stp) (cut:Int) (s:Sto):Wld :=
 if steps.length=0∨cut< 0 then w
 else if cut< steps.length then BC ⟨w.store,toD w.disk steps cut⟩ else ⟨s,toD w.disk steps cut⟩
def doW (w:Wld) (e:Evt):Wld :=
 if e.kind=1 then (if Ar e.name then ⟨(CQ w.store e.name e.row).1,w.disk⟩ else w)
 else if e.kind=2 then Br w (BD w.disk w.store) e.cut (BM w.store).1
 else if e.kind=3 then Br w (Aq w.disk e.at_) e.cut (BL w.store e.at_).1
 else if e.kind=4 then BC w
 else w
def Rk (w:Wld):Wld:=⟨Ai w.store,BW w.disk⟩
theorem LZ (n:Int):∀ (fs:List Fil) (i:Nat),DY n i fs< (i:Int)+fs.length∧(DY n i fs = -1∨(i:Int)≤DY n i fs):=by
 intro fs
 induction fs with
 | nil=>intro i; simp [DY]; omega
 | cons f fs ih =>
   intro i
   have h:=ih (i+1)
   simp only [DY,List.length_cons]
   split <;> omega
theorem Cu (d:Dsk) (n:Int):Aw d n< d.files.length:=by have:=LZ n d.files 0; unfold Aw; omega
theorem JH (d:Dsk) (n:Int):Aw d n ≥ -1:=by have:=LZ n d.files 0; unfold Aw; omega
theorem J7 {d:Dsk}{n:Int}(h:∀ n∈d.list,0≤Aw d n) (hm:n∈d.list):(Aw d n).toNat< d.files.length:=by
 have h1:=h n hm
 have h2:=Cu d n
 omega
theorem J8 {d:Dsk}{n:Int}(h:∀ n∈d.list,0≤Aw d n) (hm:n∈d.list):Aw d n=((Aw d n).toNat:Int):=by
 have h1:=h n hm
 omega
theorem FP {d:Dsk}{n:Int}{f:Fil}(h:d.files[(Aw d n).toNat]? = some f):BA d n=f.part:=by
 unfold BA; rw [List.getD_eq_getElem?_getD,h]; rfl
theorem mapStep {α β:Type}{l:List α}{f:α→β}{i:Nat}{k:List β}{q:α}{y:β}(h:k++(l.drop i).map f=l.map f) (hd:l.drop i=q::l.drop (i+1)) (hy:y=f q):(k++[y])++(l.drop (i+1)).map f=l.map f:=by
 subst hy
 rw [hd] at h
 simpa using h
theorem Ty {α β:Type}{l:List α}{f:α→β}{i:Nat}{k:List β}(h:k++(l.drop i).map f=l.map f) (hi:l.length≤i):k=l.map f:=by
 rw [Ac hi] at h
 simpa using h
theorem toStep {l:List Stp}{c:Nat}{i:Nat}{d:Dsk}{q:Stp}{Y:Dsk}(h:((l.take c).drop i).foldl doD d=Y) (hd:l.drop i=q::l.drop (i+1)) (hc:i< c):((l.take c).drop (i+1)).foldl doD (doD d q)=Y:=by
 have h1:(l.take c).drop i=q::(l.take c).drop (i+1):=by
  rw [List.drop_take,List.drop_take,hd,show c - i=(c - (i+1))+1 by omega]
  rfl
 rw [h1] at h
 exact h
theorem toEnd {l:List Stp}{c:Nat}{i:Nat}{d:Dsk}{Y:Dsk}(h:((l.take c).drop i).foldl doD d=Y) (hc:l.length≤i∨c≤i):d=Y:=by
 rw [List.drop_of_length_le (by rw [List.length_take]; omega)] at h
 exact h
theorem Fa {d:Dsk}{x:Stp}(h:x.kind=1):doD d x=⟨d.files++[⟨x.num,x.part⟩],d.list,d.names,x.num+1⟩:=by unfold doD; rw [if_pos h]
theorem HY {d:Dsk}{x:Stp}(h:x.kind=2):doD d x=⟨d.files,x.list,x.names,d.next⟩:=by unfold doD; rw [if_neg AB,if_pos h]
theorem F3 {d:Dsk}{x:Stp}(h:x.kind=3):doD d x=⟨EH d x.num,d.list,d.names,d.next⟩:=by unfold doD; rw [if_neg AB,if_neg AB,if_pos h]
theorem Xq {d:Dsk}{x:Stp}(h:x.kind≠1) (h2:x.kind≠2) (h3:x.kind≠3):doD d x=d:=by unfold doD; rw [if_neg h,if_neg h2,if_neg h3]
theorem Qh {d:Dsk}{n:Int}(h:Aw d n≥0) (h2:d.list.contains n=false):EH d n=d.files.take (Aw d n).toNat++d.files.drop ((Aw d n).toNat+1):=by unfold EH; rw [if_pos ⟨h,h2⟩]
theorem OU {d:Dsk}{n:Int}(h:¬ Aw d n≥0∨d.list.contains n=true):EH d n=d.files:=by unfold EH; rw [if_neg]; rintro ⟨h1,h2⟩; rcases h with h | h; exact h h1; rw [h2] at h; cases h
theorem JI {d:Dsk}{a:Int}(h:inR a 0 ((d.list.length:Int) - 2)=false∨d.next≥999∨(d.files.length:Int)≥20):Aq d a=[]:=by
 unfold Aq
 rw [if_pos]
 rcases h with h | h | h
 ·simp [h]
 ·simp [h]
 ·have h:d.files.length≥20:=by omega
  simp [h]
theorem Eo {d:Dsk}{at_ a b:Int}{f g:Fil}(h:inR at_ 0 ((d.list.length:Int) - 2)=true) (h2:¬ d.next≥999) (h3:¬ (d.files.length:Int)≥20) (ha:d.list[at_.toNat]? = some a) (hb:d.list[(at_+1).toNat]? = some b)
 (hf:d.files[(Aw d a).toNat]? = some f) (hg:d.files[(Aw d b).toNat]? = some g) :
 Aq d at_=[⟨1,d.next,BJ f.part g.part,[],[]⟩,⟨2,0,⟨[],[]⟩,(([]++(d.list.take at_.toNat).drop 0)++[d.next])++(d.list.take d.list.length).drop (at_+2).toNat,d.names⟩,⟨3,a,⟨[],[]⟩,[],[]⟩,⟨3,b,⟨[],[]⟩,[],[]⟩]:=by
 have h0:=Bd h
 have e1:(at_+1).toNat=at_.toNat+1:=by omega
 have e2:(at_+2).toNat=at_.toNat+2:=by omega
 rw [e1] at hb
 have h4:¬ d.files.length≥20:=by omega
 unfold Aq
 rw [if_neg (by simp [h]; omega),← FP hf,← FP hg,e2,List.getD_eq_getElem?_getD,List.getD_eq_getElem?_getD,ha,hb]
 simp
theorem Rl {d:Dsk}{x:Stp}(h:x.list.length≤1000) (hd:d.list.length≤1000):(doD d x).files.length≤d.files.length+1∧(doD d x).list.length≤1000:=by
 unfold doD EH
 split
 ·simp; exact hd
 ·split
  ·simp; exact h
  ·split
   ·simp only
    split <;> simp <;> omega
   ·omega
def Kt (x:Stp):Prop:=x.list.length≤1000∧x.names.length≤1000∧(∀ n∈x.names,n.length≤1000) ∧ -9000000≤x.num∧x.num≤9000000
end Go.Proofs.YtckdhcbbgmiccaaGreatDoor
namespace Go.Proofs.YtckdhcbbgmiccaaGreatDoor
set_option maxRecDepth 100000
set_option maxHeartbeats 4000000
variable {w:World} {F:Nat→Prop} {a1 a2 a3 a4 a5 a6 a7:Option Addr} {n1 c1 n2 c2 n3 c3 n4 c4 n5 c5 n6 c6 n7 c7:Nat}
theorem MD (d:Dsk) (h1:RepS w F a1 n1 c1 d.files) (h2:RepS w F a2 n2 c2 d.list) (h3:RepS w F a3 n3 c3 d.names) (p0:d.names.length≤1000) (p1:∀ n∈d.names,GI n) (p2:d.list.length≤1000) (p3:∀ n∈d.list,0≤Aw d n):Calls Tryz.prog 100 [.agg #[.slice a1 n1 c1,.slice a2 n2 c2,.slice a3 n3 c3,.int .i64 d.next]].toArray w (Al fun rv w'=>VS (fo F w.heap.size) w' (At d:Sto) rv∧Ext w w'):=by
 cases h1.len
 cases h2.len
 cases h3.len
 refine goT func100 ?_
 have Z:=(((St.i0 F w).p h1).p h2).p h3
 refine .s<|.g<|RG.Np Z fun aj w Z=>RG.Np Z fun ak w Z=>.d<|.s<|.g<|.r 1<|RG.Lb 1 Z<|RG.CS (FM d.names (Z.a 0) p0 p1) Z fun ar ax ay az w Z=>RG.N0 Prt 1 Z fun aA w Z=>RG.N0 Smp 1 Z fun aB w Z=>.r 1<|RG.Np Z fun ah w Z=>RG.Ss 0 Z fun w Z=>.d<|.s<|.s<|.g<|.r 1<|.d<|.b 0<|T.Lp ((0:Nat),((idxOf d.names).names:List (List Tag)),ar,ax,((idxOf d.names).AY:List Pst),ay,az,([]:List Prt),aA,(0:Nat),([]:List Smp),aB,(0:Nat)) (fun (i,ac,a_s_0,c_s_0,ae,a_s_1,c_s_1,E,r_s_2,c_s_2,af,r_s_3,c_s_3)=>([(1,vP aj),(2,vP ak),(3,vP ah),(4,vI (i:Int))],[(0,.box ah 38 [.slice a_s_0 ac.length c_s_0,.slice a_s_1 ae.length c_s_1,vS r_s_2 E.length c_s_2,vS r_s_3 af.length c_s_3]),(1,.own 1 r_s_3 128 c_s_3 af),(2,.own 1 r_s_2 124 c_s_2 E)],[⟨0,none,.rep a_s_0 c_s_0 ac⟩,⟨0,none,.rep a_s_1 c_s_1 ae⟩],d.list.length - i,(i≤d.list.length)∧(ac=d.names)∧(ae=D5 d.names)∧(af=[])∧(E.length≤i)∧(E++(d.list.drop i).map (BA d)=d.list.map (BA d)))) [0,1] Z ⟨AD,AF,AF,AF,AD,AF⟩ ?_
 rintro ⟨i,ac,a_s_0,c_s_0,ae,a_s_1,c_s_1,E,r_s_2,c_s_2,af,r_s_3,c_s_3⟩ aP w Z ⟨aH,aI,aJ,aK,aL,aM⟩ ag
 refine .s<|.s<|.g<|.r 2<|RG.Lb 4 Z<|.r 1<|.bp ((i:Int)< (d.list.length:Int)) (fun al=>?_) (fun al=>?_)
 ·exact .d<|.ct<|.sk<|.s<|.b 1<|T.GS 15 [ah,ak,aj] Z fun _ w Z=>.r [0]<|GA.Lb 1 0 Z<|.r [2]<|GA.Lb (q:=2) 3 4 Z<|GA.Ln (q:=2) 4 4 Z<|.r [5]<|GA.Lb (q:=2) 6 4 Z<|.r [7]<|gxb (h:=AB) d.list i fun ai aa aN ao=>GA.Ix 8 5 aa Z<|Z.el 5 aa fun Z=>GA.Lh 9 0 0 Z<|GA.D0 10 Z (fun w Y=>FL d ai (Y.a 7) (Y.a 6) (Y.a 5))<|gx (h:=(by exact J7 p3 ‹_›)) d.files ((Aw d ai).toNat) fun am ab=>GA.Jx (hz:=(by exact J8 p3 ‹_›)) 11 7 (Aw d ai) ab Z<|.r [12]<|Z.el 7 ab fun aQ aR aS aT Z=>GA.Lg 13 0 1 Z<|.go 14<|GE.Nb 1 Z fun aU w Z=>GA.Do Z fun w Z=>RG.Ap 2 0 E am.part [1,2] Z fun aC aD w Z=>.r 1<|RG.Ss 0 Z fun w Z=>.d<|.ib 1<|.g<|.r 1<|.it ((i:Int)+1)<|.r 1<|.d<|ag (i+1,ac,a_s_0,c_s_0,ae,a_s_1,c_s_1,(E++[am.part]),aC,aD,af,r_s_3,c_s_3) _ _ AA (Z.to 0 [4,5] 6) ⟨AB,‹_›,‹_›,‹_›,(by simp; omega),(by exact mapStep ‹_› ‹_› (FP ‹_›).symm)⟩ (by (simp only []; omega))
 refine .d<|.cf<|.x 0 rfl<|.s<|.g<|RG.Ln 0 Z<|RG.Ss 3 Z fun w Z=>.d ?_
 have Z:=(Z.sl 2).sl 1
 exact T.Rb 1 func100 results100 Z ⟨Z.rS (g:=1) (⟨(⟨ac,ae⟩:Idx),E,af⟩:Sto) [2,3,1,0] (by have q1:E=_:=Ty ‹_› AB; subst_vars; rfl),Z.xt⟩
theorem ME (d:Dsk) (h1:RepS w F a1 n1 c1 d.files) (h2:RepS w F a2 n2 c2 d.list) (h3:RepS w F a3 n3 c3 d.names) (p0:d.names.length≤1000) (p1:∀ n∈d.names,n.length≤1000) (p2:d.list.length≤1000) (p3:d.files.length≤1000) (p4:∀ f∈d.files,C9 f.part):Calls Tryz.prog 97 [.agg #[.slice a1 n1 c1,.slice a2 n2 c2,.slice a3 n3 c3,.int .i64 d.next]].toArray w (Al fun rv w'=>(∃ (r0 n0 c0:Nat) (r1 n1 c1:Nat) (r2 n2 c2:Nat),rv=.agg #[.slice (some ⟨r0,0,none⟩) n0 c0,.slice (some ⟨r1,0,none⟩) n1 c1,.slice (some ⟨r2,0,none⟩) n2 c2,.int .i64 (((BW d)).next)]∧Own w' r0 165 (nin (ge w.heap.size) [r0,r1,r2]) n0 c0 (((BW d)).files)∧w.heap.size≤r0∧Own w' r1 3 (nin (ge w.heap.size) [r0,r1,r2]) n1 c1 (((BW d)).list)∧w.heap.size≤r1∧Nb r1 r0∧Own w' r2 63 (nin (ge w.heap.size) [r0,r1,r2]) n2 c2 (((BW d)).names)∧w.heap.size≤r2∧Nb r2 r0∧Nb r2 r1)∧Ext w w'):=by
 cases h1.len
 cases h2.len
 cases h3.len
 refine goT func97 ?_
 have Z:=(((St.i0 F w).p h1).p h2).p h3
 refine .s<|.g<|RG.Np Z fun ac w Z=>RG.Np Z fun ae w Z=>.d<|.s<|.g<|RG.N0 Fil 0 Z fun ah w Z=>.r 1<|.d<|.s<|.s<|.g<|.r 1<|.d<|.b 0<|T.Lp (([]:List Fil),ah,(0:Nat),(0:Nat)) (fun (files,r_files,c_files,i)=>([(1,vP ac),(2,vP ae),(3,vS r_files files.length c_files),(4,vI (i:Int))],[(0,.own 0 r_files 165 c_files files)],[],d.files.length - i,(i≤d.files.length)∧(files.length≤i)∧(files++(d.files.drop i).map MC=d.files.map MC))) [] Z ⟨AD,AD,AD⟩ ?_
 rintro ⟨files,r_files,c_files,i⟩ aC w Z ⟨ay,az,aA⟩ ab
 refine .s<|.s<|.g<|.r 2<|RG.Lb 2 Z<|.r 1<|.bp ((i:Int)< (d.files.length:Int)) (fun af=>?_) (fun af=>.d<|.cf<|.x 0 rfl<|.s<|T.GS 10 [ae,ac] Z fun _ w Z=>.r [0,2]<|GA.Lb (q:=1) 3 2 Z<|.r [5]<|GA.Lb (q:=1) 6 2 Z<|.r [8]<|GA.Lb (q:=1) 9 2 Z<|.go 1<|GE.N0 Int 0 Z fun aD w Z=>.go 4<|GE.An (hs:=by exact (by (simp; omega))) (hf:=.inr BB) 0 1 ([]:List Int) d.list [2,3] Z fun ai aj w Z=>.go 7<|GE.CO 0 (fun w Z=>BU d.names (Z.a 0) AB (by intro n hn; have:=p1 n hn; omega)) Z fun ak al w Z=>GA.Do Z fun w Z=>.r 1<|RG.Ss 3 Z fun w Z=>.d<|T.Rb 3 func97 results97 Z ⟨⟨r_files,files.length,c_files,ai,(([]++d.list).length),aj,ak,d.names.length,al,(by rw [show (((BW d)).next)=d.next from Eq.symm AF]; kernel_rfl),Z.qo [2,1,0] 2 files (by exact Ty ‹_› AB),Z.qb 2,Z.qo [2,1,0] 1 ([]++d.list) AF,Z.qb 1,Z.qn 1 2,Z.qo [2,1,0] 0 d.names AF,Z.qb 0,Z.qn 0 2,Z.qn 0 1⟩,Z.xt⟩)
 exact .d<|.ct<|.sk<|.s<|.b 1<|T.GS 17 [ae,ac] Z fun _ w Z=>.r [0,1]<|GA.Lb (q:=1) 2 2 Z<|.r [3]<|gxb d.files i fun aa E aB ag=>GA.Ix 4 2 E Z<|.r [5]<|Z.el 2 E fun aE aF aG aH Z=>GA.Lh 6 0 0 Z<|.r [7]<|GA.Lb (q:=1) 8 2 Z<|.r [9]<|GA.Ix 10 5 E Z<|.r [11]<|GA.Lg 12 0 1 Z<|.r [13]<|.go 14<|GE.CS (fun w Z=>D4 aa.part (⟨([]:List Int),([]:List (List Row))⟩:Prt) (Z.a 1) (Z.a 2) Z.na Z.na (p4 _ ‹_›) (by simp [C9])) Z fun aI aJ aK aL w Z=>.r [15]<|.go 16<|GE.Nb 1 Z fun aM w Z=>GA.Do Z fun w Z=>RG.Ap (hs:=by exact AB) 0 0 files (⟨aa.num,(⟨(BJ aa.part (⟨([]:List Int),([]:List (List Row))⟩:Prt)).ids,(BJ aa.part (⟨([]:List Int),([]:List (List Row))⟩:Prt)).blocks⟩:Prt)⟩:Fil) [0,1] Z fun am ao w Z=>.r 1<|.d<|.ib 1<|.g<|.r 1<|.it ((i:Int)+1)<|.r 1<|.d<|ab ((files++[(⟨aa.num,(⟨(BJ aa.part (⟨([]:List Int),([]:List (List Row))⟩:Prt)).ids,(BJ aa.part (⟨([]:List Int),([]:List (List Row))⟩:Prt)).blocks⟩:Prt)⟩:Fil)]),am,ao,i+1) _ _ AA (Z.to 0 [] 5) ⟨AB,(by simp; omega),(by exact mapStep ‹_› ‹_› rfl)⟩ (by (simp only []; omega))
theorem OV (d:Dsk) (x:Stp) (h1:RepS w F a1 n1 c1 d.files) (h2:RepS w F a2 n2 c2 d.list) (h3:RepS w F a3 n3 c3 d.names) (h4:RepS w F a4 n4 c4 x.part.ids) (h5:RepS w F a5 n5 c5 x.part.blocks) (h6:RepS w F a6 n6 c6 x.list) (h7:RepS w F a7 n7 c7 x.names) (p0:d.files.length≤2000) (p1:d.list.length≤2000) (p2:Kt x):Calls Tryz.prog 207 [.agg #[.slice a1 n1 c1,.slice a2 n2 c2,.slice a3 n3 c3,.int .i64 d.next],.agg #[.int .i64 x.kind,.int .i64 x.num,.slice a4 n4 c4,.slice a5 n5 c5,.slice a6 n6 c6,.slice a7 n7 c7]].toArray w (Al fun rv w'=>VS (fo F w.heap.size) w' (doD d x:Dsk) rv∧Ext w w'):=by
 cases h1.len
 cases h2.len
 cases h3.len
 cases h4.len
 cases h5.len
 cases h6.len
 cases h7.len
 refine goT func207 ?_
 have Z:=(((((((St.i0 F w).p h1).p h2).p h3).p h4).p h5).p h6).p h7
 have ar:=h6.max
 have ax:=h7.max
 refine .s<|.g<|RG.Np Z fun ab w Z=>RG.Np Z fun ac w Z=>RG.Np Z fun ae w Z=>.d<|.s<|.s<|.g<|.r 1<|RG.Lb 1 Z<|.d<|.b 0<|.s<|.g<|.eq x.kind 1 (fun af=>?_) (fun af=>?_)
 ·refine .r 1<|.d<|.ct<|.s<|T.GS 10 [ae,ac,ab] Z fun _ w Z=>.r [1]<|GA.Lb (q:=2) 2 2 Z<|.r [4]<|GA.Lb (q:=1) 5 1 Z<|.r [6]<|GA.Ln (q:=1) 7 1 Z<|.r [8]<|.tw 0 9 ?_ ?_
  ·refine GE.N0 Fil 1 Z fun az w Z=>.tw 3 9 ?_ ?_
   ·refine GE.An (hs:=by (simp only [List.nil_append,List.length_nil,List.length_append,List.length_cons] <;> exact (by have:=p2.1; omega))) 0 6 ([]:List Fil) d.files [1,2,3] Z fun aA aB w Z=>.go 9<|GE.Nb 1 Z fun aC w Z=>GA.Do Z fun w Z=>RG.Ap (hs:=by (simp only [List.nil_append,List.length_nil,List.length_append,List.length_cons] <;> exact (by have:=p2.1; omega))) 0 0 ([]++d.files) (⟨x.num,(⟨x.part.ids,x.part.blocks⟩:Prt)⟩:Fil) [3,2] Z fun aD aE w Z=>.r 1<|RG.Ss 3 Z fun w Z=>.d<|.g<|.r 1<|RG.Lb 2 Z<|RG.int (x.num+1) AA (by have E:=Cu d x.num; have q2:=p2.2.2.2; omega)<|.r 1<|RG.Ss 3 Z fun w Z=>.d<|.ib 0<|.s<|.g<|RG.Ln 3 Z<|RG.Ss 1 Z fun w Z=>.d ?_
    have Z:=Z.sl 0
    exact T.Rb 0 func207 results207 Z ⟨Z.rS (g:=1) (⟨(([]++d.files)++[(⟨x.num,(⟨x.part.ids,x.part.blocks⟩:Prt)⟩:Fil)]),d.list,d.names,x.num+1⟩:Dsk) [0,6,5] (by (rw [Fa ‹_›]; simp; done)),Z.xt⟩
   refine GE.Nb 1 Z fun aF w Z=>.go 3<|GE.An (hs:=by (simp only [List.nil_append,List.length_nil,List.length_append,List.length_cons] <;> exact (by have:=p2.1; omega))) 1 6 ([]:List Fil) d.files [2,3,4] Z fun aG aH w Z=>GA.Do Z fun w Z=>RG.Ap (hs:=by (simp only [List.nil_append,List.length_nil,List.length_append,List.length_cons] <;> exact (by have:=p2.1; omega))) 0 0 ([]++d.files) (⟨x.num,(⟨x.part.ids,x.part.blocks⟩:Prt)⟩:Fil) [3,2] Z fun aI aJ w Z=>.r 1<|RG.Ss 3 Z fun w Z=>.d<|.g<|.r 1<|RG.Lb 2 Z<|RG.int (x.num+1) AA (by have E:=Cu d x.num; have q2:=p2.2.2.2; omega)<|.r 1<|RG.Ss 3 Z fun w Z=>.d<|.ib 0<|.s<|.g<|RG.Ln 3 Z<|RG.Ss 1 Z fun w Z=>.d ?_
   have Z:=Z.sl 0
   exact T.Rb 0 func207 results207 Z ⟨Z.rS (g:=1) (⟨(([]++d.files)++[(⟨x.num,(⟨x.part.ids,x.part.blocks⟩:Prt)⟩:Fil)]),d.list,d.names,x.num+1⟩:Dsk) [0,6,5] (by (rw [Fa ‹_›]; simp; done)),Z.xt⟩
  refine GE.Nb 1 Z fun aK w Z=>.go 0<|GE.N0 Fil 1 Z fun aL w Z=>.go 3<|GE.An (hs:=by (simp only [List.nil_append,List.length_nil,List.length_append,List.length_cons] <;> exact (by have:=p2.1; omega))) 0 6 ([]:List Fil) d.files [2,3,4] Z fun aM aN w Z=>GA.Do Z fun w Z=>RG.Ap (hs:=by (simp only [List.nil_append,List.length_nil,List.length_append,List.length_cons] <;> exact (by have:=p2.1; omega))) 0 1 ([]++d.files) (⟨x.num,(⟨x.part.ids,x.part.blocks⟩:Prt)⟩:Fil) [3,2] Z fun aO aP w Z=>.r 1<|RG.Ss 3 Z fun w Z=>.d<|.g<|.r 1<|RG.Lb 2 Z<|RG.int (x.num+1) AA (by have E:=Cu d x.num; have q2:=p2.2.2.2; omega)<|.r 1<|RG.Ss 3 Z fun w Z=>.d<|.ib 0<|.s<|.g<|RG.Ln 3 Z<|RG.Ss 1 Z fun w Z=>.d ?_
  have Z:=Z.sl 0
  exact T.Rb 0 func207 results207 Z ⟨Z.rS (g:=1) (⟨(([]++d.files)++[(⟨x.num,(⟨x.part.ids,x.part.blocks⟩:Prt)⟩:Fil)]),d.list,d.names,x.num+1⟩:Dsk) [0,6,5] (by (rw [Fa ‹_›]; simp; done)),Z.xt⟩
 refine .r 1<|.d<|.cf<|.s<|.g<|.eq x.kind 2 (fun ag=>?_) (fun ag=>?_)
 ·refine .r 1<|.d<|.ct<|.s<|.g<|RG.N0 Int 1 Z fun aQ w Z=>.r 1<|RG.Lb 2 Z<|RG.An (hs:=by (simp only [List.nil_append,List.length_nil,List.length_append,List.length_cons] <;> exact (by have:=p2.1; omega))) 0 1 ([]:List Int) x.list Z fun aR aS w Z=>.r 1<|RG.Ss 3 Z fun w Z=>.d<|.g<|.r 1<|RG.Lb 2 Z<|RG.CO 1 (BU x.names (Z.a 0) (by have:=p2.2.1; omega) (by intro n hn; have:=p2.2.2.1 n hn; omega)) Z fun aT aU w Z=>.r 1<|RG.Ss 4 Z fun w Z=>.d<|.ib 0<|.s<|.g<|RG.Ln 4 Z<|RG.Ss 2 Z fun w Z=>.d ?_
  have Z:=(Z.sl 1).sl 0
  exact T.Rb 0 func207 results207 Z ⟨Z.rS (g:=1) (⟨d.files,([]++x.list),x.names,d.next⟩:Dsk) [8,1,0] (by (rw [HY ‹_›]; simp; done)),Z.xt⟩
 refine .r 1<|.d<|.cf<|.s<|.g<|.eq x.kind 3 (fun ah=>?_) (fun ah=>.r 1<|.d<|.cf<|.sk<|.ib 0<|.s<|.g<|RG.Ln 2 Z<|RG.Ss 0 Z fun w Z=>.d<|T.Rb 0 func207 results207 Z ⟨Z.rS (g:=1) d [6,5,4] (by rw [Xq ‹_› ‹_› ‹_›]),Z.xt⟩)
 refine .r 1<|.d<|.ct<|.s<|.g<|RG.Ln 2 Z<|.r 1<|RG.Lb 1 Z<|RG.C0 (FL d x.num (Z.a 6) (Z.a 5) (Z.a 4)) Z fun w Z=>.r 1<|.d<|.s<|.g<|.r 1<|.bp (Aw d x.num≥0) (fun ai=>?_) (fun ai=>.r 7<|.d<|.cf<|.sk<|.ib 0<|.s<|.g<|RG.Ln 2 Z<|RG.Ss 0 Z fun w Z=>.d<|T.Rb 0 func207 results207 Z ⟨Z.rS (g:=1) d [6,5,4] (by (rw [F3 ‹_›,OU (.inl ‹_›)])),Z.xt⟩)
 refine .r 1<|RG.Ln 2 Z<|.r 1<|RG.Lb 1 Z<|RG.C0 (Ga d x.num (Z.a 6) (Z.a 5) (Z.a 4)) Z fun w Z=>?_
 cases ay:(d.list.contains x.num)
 ·refine .r 2<|.d<|.ct<|T.GS 11 [ae,ac,ab] Z fun _ w Z=>.r [1]<|GA.Lb (q:=2) 2 2 Z<|.r [3]<|GA.Sb (hlh:=(by have E:=Cu d x.num; omega)) (hh:=(by have E:=Cu d x.num; omega)) (hhi:=bdI (Aw d x.num)) 4 6 0 ((Aw d x.num).toNat) d.files Z fun aV aW Z=>.r [6]<|GA.Lb (q:=2) 7 2 Z<|.r [8]<|GA.int (i:=9) (Aw d x.num+1) AA (by have E:=Cu d x.num; omega)<|GA.Sb (hlh:=(by have E:=Cu d x.num; omega)) (hh:=(by have E:=Cu d x.num; omega)) (hlo:=bdI (Aw d x.num+1)) 10 7 ((Aw d x.num+1).toNat) d.files.length d.files Z fun aX aY Z=>.go 0<|GE.N0 Fil 1 Z fun aZ w Z=>.go 5<|GE.An (hs:=by (simp <;> omega)) 0 1 ([]:List Fil) ((d.files.take ((Aw d x.num).toNat)).drop 0) [1,2,3] Z fun ba bd w Z=>GA.Do Z fun w Z=>RG.An (hs:=by (simp <;> omega)) 0 0 ([]++((d.files.take ((Aw d x.num).toNat)).drop 0)) ((d.files.take d.files.length).drop ((Aw d x.num+1).toNat)) Z fun bg bh w Z=>.r 1<|RG.Ss 3 Z fun w Z=>.d<|.ib 0<|.s<|.g<|RG.Ln 3 Z<|RG.Ss 1 Z fun w Z=>.d ?_
  have Z:=Z.sl 0
  exact T.Rb 0 func207 results207 Z ⟨Z.rS (g:=1) (⟨(([]++((d.files.take ((Aw d x.num).toNat)).drop 0))++((d.files.take d.files.length).drop ((Aw d x.num+1).toNat))),d.list,d.names,d.next⟩:Dsk) [0,8,7] (by (rw [F3 ‹_›,Qh ‹_› ‹_›]; have e1:(Aw d x.num+1).toNat=(Aw d x.num).toNat+1:=AB; simp [e1]; done)),Z.xt⟩
 exact .r 2<|.d<|.cf<|.sk<|.ib 0<|.s<|.g<|RG.Ln 2 Z<|RG.Ss 0 Z fun w Z=>.d<|T.Rb 0 func207 results207 Z ⟨Z.rS (g:=1) d [6,5,4] (by (rw [F3 ‹_›,OU (.inr ‹_›)])),Z.xt⟩
theorem OW (d:Dsk) (steps:List Stp) (cut:Int) (h1:RepS w F a1 n1 c1 d.files) (h2:RepS w F a2 n2 c2 d.list) (h3:RepS w F a3 n3 c3 d.names) (h4:RepS w F a4 n4 c4 steps) (p0:d.files.length≤1000) (p1:steps.length≤1000) (p2:d.list.length≤1000) (p3:∀ x∈steps,Kt x):Calls Tryz.prog 158 [.agg #[.slice a1 n1 c1,.slice a2 n2 c2,.slice a3 n3 c3,.int .i64 d.next],.slice a4 n4 c4,.int .i64 cut].toArray w (Al fun rv w'=>VS (fo F w.heap.size) w' (toD d steps cut:Dsk) rv∧Ext w w'):=by
 cases h1.len
 cases h2.len
 cases h3.len
 cases h4.len
 refine goT func158 ?_
 have Z:=((((St.i0 F w).p h1).p h2).p h3).p h4
 refine .s<|.g<|RG.Np Z fun ah w Z=>RG.Np Z fun al w Z=>.d<|.s<|.s<|.g<|.r 1<|.d<|.b 0<|T.Lp ((0:Nat),(d.files:List Fil),a1,c1,(d.list:List Int),a2,c2,(d.names:List (List Tag)),a3,c3,d.next) (fun (i,E,a_d_0,c_d_0,aa,a_d_1,c_d_1,ab,a_d_2,c_d_2,ac)=>([(1,.slice a4 steps.length c4),(2,vI cut),(3,vP ah),(6,vP al),(7,vI (i:Int))],[(1,.box ah 42 [.slice a_d_0 E.length c_d_0,.slice a_d_1 aa.length c_d_1,.slice a_d_2 ab.length c_d_2,vI ac])],[⟨1,none,.rep a_d_0 c_d_0 E⟩,⟨1,none,.rep a_d_1 c_d_1 aa⟩,⟨1,none,.rep a_d_2 c_d_2 ab⟩],steps.length - i,(i≤steps.length)∧(E.length≤d.files.length+i)∧(aa.length≤1000)∧(((steps.take cut.toNat).drop i).foldl doD ⟨E,aa,ab,ac⟩=toD d steps cut))) [3,2,1] Z ⟨AB,AB,AB,AF⟩ ?_
 rintro ⟨i,E,a_d_0,c_d_0,aa,a_d_1,c_d_1,ab,a_d_2,c_d_2,ac⟩ aK w Z ⟨aF,aG,aH,aI⟩ af
 refine .s<|.s<|.g<|.r 3<|.bp ((i:Int)< (steps.length:Int)) (fun ai=>?_) (fun ai=>.r 5<|.d<|.cf<|.x 0 rfl<|.s<|.g<|RG.Ln 1 Z<|RG.Ss 0 Z fun w Z=>.d<|T.Rb 0 func158 results158 Z ⟨Z.rS (g:=1) (⟨E,aa,ab,ac⟩:Dsk) [0,1,2] (by exact toEnd ‹_› AB),Z.xt⟩)
 refine .r 3<|.bp ((i:Int)< cut) (fun aj=>?_) (fun aj=>.r 1<|.d<|.cf<|.x 0 rfl<|.s<|.g<|RG.Ln 1 Z<|RG.Ss 0 Z fun w Z=>.d<|T.Rb 0 func158 results158 Z ⟨Z.rS (g:=1) (⟨E,aa,ab,ac⟩:Dsk) [0,1,2] (by exact toEnd ‹_› AB),Z.xt⟩)
 exact .r 1<|.d<|.ct<|.sk<|.s<|.b 1<|T.Gd 5 Z fun w Z=>GA.Ln 0 1 Z<|.r [1,2]<|gxb steps i fun ag ae aJ ak=>GA.Ix 3 3 ae Z<|Z.el 3 ae fun aL aM aN aO aP aQ aR aS Z=>GA.Lg 4 0 0 Z<|GA.Dn Z fun w Z=>RG.CS (OV (⟨E,aa,ab,ac⟩:Dsk) ag (Z.mg 1 5) (Z.mg 1 6) (Z.mg 1 7) (Z.mg 1 1) (Z.mg 1 2) (Z.mg 1 3) (Z.mg 1 4) (by simp only; omega) (by simp only; omega) (p3 _ ‹_›)) Z fun am ao aq ar ax ay w Z=>RG.Ss 1 Z fun w Z=>.d<|.ib 1<|.g<|.r 1<|.it ((i:Int)+1)<|.r 1<|.d<|af (i+1,(doD (⟨E,aa,ab,ac⟩:Dsk) ag).files,am,ao,(doD (⟨E,aa,ab,ac⟩:Dsk) ag).list,aq,ar,(doD (⟨E,aa,ab,ac⟩:Dsk) ag).names,ax,ay,(doD (⟨E,aa,ab,ac⟩:Dsk) ag).next) _ _ AA (Z.to 0 [0,1,2] 11) ⟨AB,(by have q1:=p3 _ ‹_›; have q2:=Rl (d:=⟨E,aa,ab,ac⟩) q1.1 ‹_›; dsimp only at q2; omega),(by have q1:=p3 _ ‹_›; have q2:=Rl (d:=⟨E,aa,ab,ac⟩) q1.1 ‹_›; dsimp only at q2; omega),(by exact toStep ‹_› ‹_› AB)⟩ (by (simp only []; omega))
theorem LD (d:Dsk) (at_:Int) (h1:RepS w F a1 n1 c1 d.files) (h2:RepS w F a2 n2 c2 d.list) (h3:RepS w F a3 n3 c3 d.names) (p0:d.names.length≤1000) (p1:∀ n∈d.names,n.length≤1000) (p2:d.list.length≤1000) (p3:∀ n∈d.list,0≤Aw d n) (p4:∀ f∈d.files,C9 f.part):Calls Tryz.prog 96 [.agg #[.slice a1 n1 c1,.slice a2 n2 c2,.slice a3 n3 c3,.int .i64 d.next],.int .i64 at_].toArray w (Al fun rv w'=>VL (ge w.heap.size) w' (Aq d at_:List Stp) rv∧Ext w w'):=by
 cases h1.len
 cases h2.len
 cases h3.len
 refine goT func96 ?_
 have Z:=(((St.i0 F w).p h1).p h2).p h3
 refine .s<|.g<|RG.Np Z fun aj w Z=>.r 1<|.d<|.s<|.s<|.g<|.r 2<|RG.Lb 0 Z<|.r 1<|.it ((d.list.length:Int) - 2)<|RG.C0 (CP at_ 0 ((d.list.length:Int) - 2) (F:=all)) Z fun w Z=>?_
 cases ai:(inR at_ 0 ((d.list.length:Int) - 2))
 ·exact .r 12<|.d<|.ct<|.s<|.g<|RG.N0 Stp 0 Z fun bI w Z=>.r 1<|.d<|T.Rt func96 results96 ⟨Z.rM 0 ([]:List Stp) (by rw [JI (.inl ‹_›)]),Z.xt⟩
 have aD:=Bd ai
 refine .r 3<|RG.Lb 0 Z<|.bp (d.next≥999) (fun ak=>.r 7<|.d<|.ct<|.s<|.g<|RG.N0 Stp 0 Z fun bJ w Z=>.r 1<|.d<|T.Rt func96 results96 ⟨Z.rM 0 ([]:List Stp) (by rw [JI (.inr (.inl ‹_›))]),Z.xt⟩) fun ak=>.r 3<|RG.Lb 0 Z<|.r 1<|.bp ((d.files.length:Int)≥20) (fun al=>.r 1<|.d<|.ct<|.s<|.g<|RG.N0 Stp 0 Z fun bK w Z=>.r 1<|.d<|T.Rt func96 results96 ⟨Z.rM 0 ([]:List Stp) (by rw [JI (.inr (.inr ‹_›))]),Z.xt⟩) fun al=>.r 1<|.d<|.cf<|.sk<|.s<|.g<|.r 1<|RG.Lb 0 Z<|.r 1<|gxm (h:=AB) d.list (at_.toNat) fun ab ae ao=>RG.Jx (hz:=AB) 1 at_ ae Z<|Z.el 1 ae fun Z=>RG.Lh 0 0 Z<|.r 1<|.d<|.s<|.g<|.r 1<|RG.Lb 0 Z<|.r 1<|.it (at_+1)<|gxm (h:=AB) d.list ((at_+1).toNat) fun ac af aq=>RG.Jx (hz:=AB) 2 (at_+1) af Z<|Z.el 2 af fun Z=>RG.Lh 0 0 Z<|.r 1<|.d<|.s<|T.Gd 18 Z fun w Z=>.r [0]<|GA.Lb 1 0 Z<|GA.Ln 2 0 Z<|.r [3]<|GA.C0 4 Z (fun w Z=>FL d ab (Z.a 4) (Z.a 3) (Z.a 2))<|gxm (h:=(by exact J7 p3 ‹_›)) d.files ((Aw d ab).toNat) fun E ag ar=>GA.Jx (hz:=(by exact J8 p3 ‹_›)) 5 4 (Aw d ab) ag Z<|.r [6]<|Z.el 4 ag fun bL bM bN bO Z=>GA.Lg 7 0 1 Z<|.r [8]<|GA.Lb 9 0 Z<|GA.Ln 10 0 Z<|.r [11]<|GA.C0 12 Z (fun w Z=>FL d ac (Z.a 7) (Z.a 6) (Z.a 5))<|gxm (h:=(by exact J7 p3 ‹_›)) d.files ((Aw d ac).toNat) fun aa ah ax=>GA.Jx (hz:=(by exact J8 p3 ‹_›)) 13 7 (Aw d ac) ah Z<|.r [14]<|Z.el 7 ah fun bP bQ bR bS Z=>GA.Lg 15 0 1 Z<|.tw 16 17 ?_ ?_
 ·refine GE.CS (fun w Z=>D4 E.part aa.part (Z.a 4) (Z.a 5) (Z.a 1) (Z.a 2) (p4 _ ‹_›) (p4 _ ‹_›)) Z fun bT bU bV bW w Z=>.go 17<|GE.Np Z fun ay w Z=>GA.Dn Z fun w Z=>RG.Ss 0 Z fun w Z=>.d<|.s<|T.GS 15 [ay,aj] Z fun _ w Z=>.r [1]<|GA.Lb (q:=1) 2 1 Z<|.r [3]<|GA.Sb (hhi:=bdI at_) 4 11 0 (at_.toNat) d.list Z fun bX bY Z=>.r [6]<|GA.Lb (q:=1) 7 1 Z<|.r [10]<|GA.Lb (q:=1) 11 1 Z<|.r [12]<|GA.int (i:=13) (at_+2) AA AB<|GA.Sb (hlo:=bdI (at_+2)) 14 12 ((at_+2).toNat) d.list.length d.list Z fun bZ b0 Z=>.tw 0 8 ?_ ?_
  ·refine GE.N0 Int 0 Z fun b6 w Z=>.tw 5 8 ?_ ?_
   ·exact GE.An (hf:=.inr BB) 0 1 ([]:List Int) ((d.list.take (at_.toNat)).drop 0) [1,2] Z fun b7 b8 w Z=>.go 8<|GE.Nb 1 Z fun b9 w Z=>.go 9<|GE.Ap 0 0 ([]++((d.list.take (at_.toNat)).drop 0)) d.next [] [1,2] Z fun cd ce w Z=>GA.Do Z fun w Z=>RG.An (hf:=.inr BB) 0 0 (([]++((d.list.take (at_.toNat)).drop 0))++[d.next]) ((d.list.take d.list.length).drop ((at_+2).toNat)) Z fun cg ci w Z=>.r 1<|.d<|.s<|T.Gd 13 Z fun w Z=>.r [0]<|GA.Lb 1 2 Z<|GA.Ln 2 1 Z<|.r [3,4,5]<|GA.Lb 6 2 Z<|.r [9,10,11,12]<|.go 7<|GE.CO 0 (fun w Z=>BU d.names (Z.a 12) AB (by intro n hn; have:=p1 n hn; omega)) Z fun cj ck w Z=>.r [8]<|GA.Dn Z fun w Z=>RG.Nl 0 ([(⟨1,d.next,(⟨(BJ E.part aa.part).ids,(BJ E.part aa.part).blocks⟩:Prt),([]:List Int),([]:List (List Tag))⟩:Stp),(⟨2,0,(⟨([]:List Int),([]:List (List Row))⟩:Prt),((([]++((d.list.take (at_.toNat)).drop 0))++[d.next])++((d.list.take d.list.length).drop ((at_+2).toNat))),d.names⟩:Stp),(⟨3,ab,(⟨([]:List Int),([]:List (List Row))⟩:Prt),([]:List Int),([]:List (List Tag))⟩:Stp),(⟨3,ac,(⟨([]:List Int),([]:List (List Row))⟩:Prt),([]:List Int),([]:List (List Tag))⟩:Stp)]:List Stp) [[16,17,13,12],[9,8,11,10],[7,6,5,4],[3,2,1,0]] ((((((((((((((Z.nl Int).nl (List Tag)).sl 1).sl 0).nl Int).nl (List Row)).nl Int).nl (List Row)).nl Int).nl (List Tag)).nl Int).nl (List Row)).nl Int).nl (List Tag)) fun cm w Z=>.r 1<|.d<|T.Rt func96 results96 ⟨Z.rM 0 ([(⟨1,d.next,(⟨(BJ E.part aa.part).ids,(BJ E.part aa.part).blocks⟩:Prt),([]:List Int),([]:List (List Tag))⟩:Stp),(⟨2,0,(⟨([]:List Int),([]:List (List Row))⟩:Prt),((([]++((d.list.take (at_.toNat)).drop 0))++[d.next])++((d.list.take d.list.length).drop ((at_+2).toNat))),d.names⟩:Stp),(⟨3,ab,(⟨([]:List Int),([]:List (List Row))⟩:Prt),([]:List Int),([]:List (List Tag))⟩:Stp),(⟨3,ac,(⟨([]:List Int),([]:List (List Row))⟩:Prt),([]:List Int),([]:List (List Tag))⟩:Stp)]:List Stp) (by rw [Eo ‹_› ‹_› ‹_› ‹_› ‹_› ‹_› ‹_›]),Z.xt⟩
   exact GE.Nb 1 Z fun co w Z=>.go 5<|GE.An (hf:=.inr BB) 1 1 ([]:List Int) ((d.list.take (at_.toNat)).drop 0) [2,3] Z fun cp cq w Z=>.go 9<|GE.Ap 0 0 ([]++((d.list.take (at_.toNat)).drop 0)) d.next [] [1,2] Z fun cr cu w Z=>GA.Do Z fun w Z=>RG.An (hf:=.inr BB) 0 0 (([]++((d.list.take (at_.toNat)).drop 0))++[d.next]) ((d.list.take d.list.length).drop ((at_+2).toNat)) Z fun cw cx w Z=>.r 1<|.d<|.s<|T.Gd 13 Z fun w Z=>.r [0]<|GA.Lb 1 2 Z<|GA.Ln 2 1 Z<|.r [3,4,5]<|GA.Lb 6 2 Z<|.r [9,10,11,12]<|.go 7<|GE.CO 0 (fun w Z=>BU d.names (Z.a 12) AB (by intro n hn; have:=p1 n hn; omega)) Z fun cy cz w Z=>.r [8]<|GA.Dn Z fun w Z=>RG.Nl 0 ([(⟨1,d.next,(⟨(BJ E.part aa.part).ids,(BJ E.part aa.part).blocks⟩:Prt),([]:List Int),([]:List (List Tag))⟩:Stp),(⟨2,0,(⟨([]:List Int),([]:List (List Row))⟩:Prt),((([]++((d.list.take (at_.toNat)).drop 0))++[d.next])++((d.list.take d.list.length).drop ((at_+2).toNat))),d.names⟩:Stp),(⟨3,ab,(⟨([]:List Int),([]:List (List Row))⟩:Prt),([]:List Int),([]:List (List Tag))⟩:Stp),(⟨3,ac,(⟨([]:List Int),([]:List (List Row))⟩:Prt),([]:List Int),([]:List (List Tag))⟩:Stp)]:List Stp) [[16,17,13,12],[9,8,11,10],[7,6,5,4],[3,2,1,0]] ((((((((((((((Z.nl Int).nl (List Tag)).sl 1).sl 0).nl Int).nl (List Row)).nl Int).nl (List Row)).nl Int).nl (List Tag)).nl Int).nl (List Row)).nl Int).nl (List Tag)) fun cA w Z=>.r 1<|.d<|T.Rt func96 results96 ⟨Z.rM 0 ([(⟨1,d.next,(⟨(BJ E.part aa.part).ids,(BJ E.part aa.part).blocks⟩:Prt),([]:List Int),([]:List (List Tag))⟩:Stp),(⟨2,0,(⟨([]:List Int),([]:List (List Row))⟩:Prt),((([]++((d.list.take (at_.toNat)).drop 0))++[d.next])++((d.list.take d.list.length).drop ((at_+2).toNat))),d.names⟩:Stp),(⟨3,ab,(⟨([]:List Int),([]:List (List Row))⟩:Prt),([]:List Int),([]:List (List Tag))⟩:Stp),(⟨3,ac,(⟨([]:List Int),([]:List (List Row))⟩:Prt),([]:List Int),([]:List (List Tag))⟩:Stp)]:List Stp) (by rw [Eo ‹_› ‹_› ‹_› ‹_› ‹_› ‹_› ‹_›]),Z.xt⟩
  exact GE.Nb 1 Z fun cB w Z=>.go 0<|GE.N0 Int 0 Z fun cC w Z=>.go 5<|GE.An (hf:=.inr BB) 0 1 ([]:List Int) ((d.list.take (at_.toNat)).drop 0) [2,3] Z fun cD cE w Z=>.go 9<|GE.Ap 0 1 ([]++((d.list.take (at_.toNat)).drop 0)) d.next [] [1,2] Z fun cF cG w Z=>GA.Do Z fun w Z=>RG.An (hf:=.inr BB) 0 0 (([]++((d.list.take (at_.toNat)).drop 0))++[d.next]) ((d.list.take d.list.length).drop ((at_+2).toNat)) Z fun cH cI w Z=>.r 1<|.d<|.s<|T.Gd 13 Z fun w Z=>.r [0]<|GA.Lb 1 2 Z<|GA.Ln 2 1 Z<|.r [3,4,5]<|GA.Lb 6 2 Z<|.r [9,10,11,12]<|.go 7<|GE.CO 0 (fun w Z=>BU d.names (Z.a 12) AB (by intro n hn; have:=p1 n hn; omega)) Z fun aI aJ w Z=>.r [8]<|GA.Dn Z fun w Z=>RG.Nl 0 ([(⟨1,d.next,(⟨(BJ E.part aa.part).ids,(BJ E.part aa.part).blocks⟩:Prt),([]:List Int),([]:List (List Tag))⟩:Stp),(⟨2,0,(⟨([]:List Int),([]:List (List Row))⟩:Prt),((([]++((d.list.take (at_.toNat)).drop 0))++[d.next])++((d.list.take d.list.length).drop ((at_+2).toNat))),d.names⟩:Stp),(⟨3,ab,(⟨([]:List Int),([]:List (List Row))⟩:Prt),([]:List Int),([]:List (List Tag))⟩:Stp),(⟨3,ac,(⟨([]:List Int),([]:List (List Row))⟩:Prt),([]:List Int),([]:List (List Tag))⟩:Stp)]:List Stp) [[16,17,13,12],[9,8,11,10],[7,6,5,4],[3,2,1,0]] ((((((((((((((Z.nl Int).nl (List Tag)).sl 1).sl 0).nl Int).nl (List Row)).nl Int).nl (List Row)).nl Int).nl (List Tag)).nl Int).nl (List Row)).nl Int).nl (List Tag)) fun aK w Z=>.r 1<|.d<|T.Rt func96 results96 ⟨Z.rM 0 ([(⟨1,d.next,(⟨(BJ E.part aa.part).ids,(BJ E.part aa.part).blocks⟩:Prt),([]:List Int),([]:List (List Tag))⟩:Stp),(⟨2,0,(⟨([]:List Int),([]:List (List Row))⟩:Prt),((([]++((d.list.take (at_.toNat)).drop 0))++[d.next])++((d.list.take d.list.length).drop ((at_+2).toNat))),d.names⟩:Stp),(⟨3,ab,(⟨([]:List Int),([]:List (List Row))⟩:Prt),([]:List Int),([]:List (List Tag))⟩:Stp),(⟨3,ac,(⟨([]:List Int),([]:List (List Row))⟩:Prt),([]:List Int),([]:List (List Tag))⟩:Stp)]:List Stp) (by rw [Eo ‹_› ‹_› ‹_› ‹_› ‹_› ‹_› ‹_›]),Z.xt⟩
 refine GE.Np Z fun am w Z=>.go 16<|GE.CS (fun w Z=>D4 E.part aa.part (Z.a 4) (Z.a 5) (Z.a 1) (Z.a 2) (p4 _ ‹_›) (p4 _ ‹_›)) Z fun aL aM aN aO w Z=>GA.Dn Z fun w Z=>RG.Ss 0 Z fun w Z=>.d<|.s<|T.GS 15 [am,aj] Z fun _ w Z=>.r [1]<|GA.Lb (q:=1) 2 1 Z<|.r [3]<|GA.Sb (hhi:=bdI at_) 4 11 0 (at_.toNat) d.list Z fun aP aQ Z=>.r [6]<|GA.Lb (q:=1) 7 1 Z<|.r [10]<|GA.Lb (q:=1) 11 1 Z<|.r [12]<|GA.int (i:=13) (at_+2) AA AB<|GA.Sb (hlo:=bdI (at_+2)) 14 12 ((at_+2).toNat) d.list.length d.list Z fun aR aS Z=>.tw 0 8 ?_ ?_
 ·refine GE.N0 Int 0 Z fun aT w Z=>.tw 5 8 ?_ ?_
  ·exact GE.An (hf:=.inr BB) 0 1 ([]:List Int) ((d.list.take (at_.toNat)).drop 0) [1,2] Z fun aU aV w Z=>.go 8<|GE.Nb 1 Z fun aW w Z=>.go 9<|GE.Ap 0 0 ([]++((d.list.take (at_.toNat)).drop 0)) d.next [] [1,2] Z fun aX aY w Z=>GA.Do Z fun w Z=>RG.An (hf:=.inr BB) 0 0 (([]++((d.list.take (at_.toNat)).drop 0))++[d.next]) ((d.list.take d.list.length).drop ((at_+2).toNat)) Z fun aZ ba w Z=>.r 1<|.d<|.s<|T.Gd 13 Z fun w Z=>.r [0]<|GA.Lb 1 2 Z<|GA.Ln 2 1 Z<|.r [3,4,5]<|GA.Lb 6 2 Z<|.r [9,10,11,12]<|.go 7<|GE.CO 0 (fun w Z=>BU d.names (Z.a 12) AB (by intro n hn; have:=p1 n hn; omega)) Z fun bd bg w Z=>.r [8]<|GA.Dn Z fun w Z=>RG.Nl 0 ([(⟨1,d.next,(⟨(BJ E.part aa.part).ids,(BJ E.part aa.part).blocks⟩:Prt),([]:List Int),([]:List (List Tag))⟩:Stp),(⟨2,0,(⟨([]:List Int),([]:List (List Row))⟩:Prt),((([]++((d.list.take (at_.toNat)).drop 0))++[d.next])++((d.list.take d.list.length).drop ((at_+2).toNat))),d.names⟩:Stp),(⟨3,ab,(⟨([]:List Int),([]:List (List Row))⟩:Prt),([]:List Int),([]:List (List Tag))⟩:Stp),(⟨3,ac,(⟨([]:List Int),([]:List (List Row))⟩:Prt),([]:List Int),([]:List (List Tag))⟩:Stp)]:List Stp) [[16,17,13,12],[9,8,11,10],[7,6,5,4],[3,2,1,0]] ((((((((((((((Z.nl Int).nl (List Tag)).sl 1).sl 0).nl Int).nl (List Row)).nl Int).nl (List Row)).nl Int).nl (List Tag)).nl Int).nl (List Row)).nl Int).nl (List Tag)) fun bh w Z=>.r 1<|.d<|T.Rt func96 results96 ⟨Z.rM 0 ([(⟨1,d.next,(⟨(BJ E.part aa.part).ids,(BJ E.part aa.part).blocks⟩:Prt),([]:List Int),([]:List (List Tag))⟩:Stp),(⟨2,0,(⟨([]:List Int),([]:List (List Row))⟩:Prt),((([]++((d.list.take (at_.toNat)).drop 0))++[d.next])++((d.list.take d.list.length).drop ((at_+2).toNat))),d.names⟩:Stp),(⟨3,ab,(⟨([]:List Int),([]:List (List Row))⟩:Prt),([]:List Int),([]:List (List Tag))⟩:Stp),(⟨3,ac,(⟨([]:List Int),([]:List (List Row))⟩:Prt),([]:List Int),([]:List (List Tag))⟩:Stp)]:List Stp) (by rw [Eo ‹_› ‹_› ‹_› ‹_› ‹_› ‹_› ‹_›]),Z.xt⟩
  exact GE.Nb 1 Z fun bi w Z=>.go 5<|GE.An (hf:=.inr BB) 1 1 ([]:List Int) ((d.list.take (at_.toNat)).drop 0) [2,3] Z fun bj bk w Z=>.go 9<|GE.Ap 0 0 ([]++((d.list.take (at_.toNat)).drop 0)) d.next [] [1,2] Z fun bm bn w Z=>GA.Do Z fun w Z=>RG.An (hf:=.inr BB) 0 0 (([]++((d.list.take (at_.toNat)).drop 0))++[d.next]) ((d.list.take d.list.length).drop ((at_+2).toNat)) Z fun bo bq w Z=>.r 1<|.d<|.s<|T.Gd 13 Z fun w Z=>.r [0]<|GA.Lb 1 2 Z<|GA.Ln 2 1 Z<|.r [3,4,5]<|GA.Lb 6 2 Z<|.r [9,10,11,12]<|.go 7<|GE.CO 0 (fun w Z=>BU d.names (Z.a 12) AB (by intro n hn; have:=p1 n hn; omega)) Z fun br bt w Z=>.r [8]<|GA.Dn Z fun w Z=>RG.Nl 0 ([(⟨1,d.next,(⟨(BJ E.part aa.part).ids,(BJ E.part aa.part).blocks⟩:Prt),([]:List Int),([]:List (List Tag))⟩:Stp),(⟨2,0,(⟨([]:List Int),([]:List (List Row))⟩:Prt),((([]++((d.list.take (at_.toNat)).drop 0))++[d.next])++((d.list.take d.list.length).drop ((at_+2).toNat))),d.names⟩:Stp),(⟨3,ab,(⟨([]:List Int),([]:List (List Row))⟩:Prt),([]:List Int),([]:List (List Tag))⟩:Stp),(⟨3,ac,(⟨([]:List Int),([]:List (List Row))⟩:Prt),([]:List Int),([]:List (List Tag))⟩:Stp)]:List Stp) [[16,17,13,12],[9,8,11,10],[7,6,5,4],[3,2,1,0]] ((((((((((((((Z.nl Int).nl (List Tag)).sl 1).sl 0).nl Int).nl (List Row)).nl Int).nl (List Row)).nl Int).nl (List Tag)).nl Int).nl (List Row)).nl Int).nl (List Tag)) fun bu w Z=>.r 1<|.d<|T.Rt func96 results96 ⟨Z.rM 0 ([(⟨1,d.next,(⟨(BJ E.part aa.part).ids,(BJ E.part aa.part).blocks⟩:Prt),([]:List Int),([]:List (List Tag))⟩:Stp),(⟨2,0,(⟨([]:List Int),([]:List (List Row))⟩:Prt),((([]++((d.list.take (at_.toNat)).drop 0))++[d.next])++((d.list.take d.list.length).drop ((at_+2).toNat))),d.names⟩:Stp),(⟨3,ab,(⟨([]:List Int),([]:List (List Row))⟩:Prt),([]:List Int),([]:List (List Tag))⟩:Stp),(⟨3,ac,(⟨([]:List Int),([]:List (List Row))⟩:Prt),([]:List Int),([]:List (List Tag))⟩:Stp)]:List Stp) (by rw [Eo ‹_› ‹_› ‹_› ‹_› ‹_› ‹_› ‹_›]),Z.xt⟩
 exact GE.Nb 1 Z fun bv w Z=>.go 0<|GE.N0 Int 0 Z fun bw w Z=>.go 5<|GE.An (hf:=.inr BB) 0 1 ([]:List Int) ((d.list.take (at_.toNat)).drop 0) [2,3] Z fun bz bA w Z=>.go 9<|GE.Ap 0 1 ([]++((d.list.take (at_.toNat)).drop 0)) d.next [] [1,2] Z fun bB bC w Z=>GA.Do Z fun w Z=>RG.An (hf:=.inr BB) 0 0 (([]++((d.list.take (at_.toNat)).drop 0))++[d.next]) ((d.list.take d.list.length).drop ((at_+2).toNat)) Z fun bD bE w Z=>.r 1<|.d<|.s<|T.Gd 13 Z fun w Z=>.r [0]<|GA.Lb 1 2 Z<|GA.Ln 2 1 Z<|.r [3,4,5]<|GA.Lb 6 2 Z<|.r [9,10,11,12]<|.go 7<|GE.CO 0 (fun w Z=>BU d.names (Z.a 12) AB (by intro n hn; have:=p1 n hn; omega)) Z fun bF bG w Z=>.r [8]<|GA.Dn Z fun w Z=>RG.Nl 0 ([(⟨1,d.next,(⟨(BJ E.part aa.part).ids,(BJ E.part aa.part).blocks⟩:Prt),([]:List Int),([]:List (List Tag))⟩:Stp),(⟨2,0,(⟨([]:List Int),([]:List (List Row))⟩:Prt),((([]++((d.list.take (at_.toNat)).drop 0))++[d.next])++((d.list.take d.list.length).drop ((at_+2).toNat))),d.names⟩:Stp),(⟨3,ab,(⟨([]:List Int),([]:List (List Row))⟩:Prt),([]:List Int),([]:List (List Tag))⟩:Stp),(⟨3,ac,(⟨([]:List Int),([]:List (List Row))⟩:Prt),([]:List Int),([]:List (List Tag))⟩:Stp)]:List Stp) [[16,17,13,12],[9,8,11,10],[7,6,5,4],[3,2,1,0]] ((((((((((((((Z.nl Int).nl (List Tag)).sl 1).sl 0).nl Int).nl (List Row)).nl Int).nl (List Row)).nl Int).nl (List Tag)).nl Int).nl (List Row)).nl Int).nl (List Tag)) fun bH w Z=>.r 1<|.d<|T.Rt func96 results96 ⟨Z.rM 0 ([(⟨1,d.next,(⟨(BJ E.part aa.part).ids,(BJ E.part aa.part).blocks⟩:Prt),([]:List Int),([]:List (List Tag))⟩:Stp),(⟨2,0,(⟨([]:List Int),([]:List (List Row))⟩:Prt),((([]++((d.list.take (at_.toNat)).drop 0))++[d.next])++((d.list.take d.list.length).drop ((at_+2).toNat))),d.names⟩:Stp),(⟨3,ab,(⟨([]:List Int),([]:List (List Row))⟩:Prt),([]:List Int),([]:List (List Tag))⟩:Stp),(⟨3,ac,(⟨([]:List Int),([]:List (List Row))⟩:Prt),([]:List Int),([]:List (List Tag))⟩:Stp)]:List Stp) (by rw [Eo ‹_› ‹_› ‹_› ‹_› ‹_› ‹_› ‹_›]),Z.xt⟩
end Go.Proofs.YtckdhcbbgmiccaaGreatDoor
namespace Go.Proofs.YtckdhcbbgmiccaaGreatDoor
def Blk (b:List Row):Prop:=Cp none b=true
theorem Bg {o:Option Row}{r:Row}{rs:List Row}:Cp o (r::rs)=true↔Be r=true∧(∀ q,o=some q→q.t< r.t)∧Cp (some r) rs=true:=by
 simp only [Cp,AW]
 cases o <;> simp [and_assoc]
theorem PQ {o:Option Row}{b:List Row}(h:Cp o b=true):Blk b:=by
 cases b with
 | nil=>rfl
 | cons r rs=>exact Bg.2 ⟨(Bg.1 h).1,by simp,(Bg.1 h).2.2⟩
theorem La {r:Row}(h:Be r=true):0≤r.t∧r.t≤99:=by
 simp only [Be,AW] at h
 exact Bd h.1
theorem Rm {r:Row}(h:Be r=true):-99≤r.v∧r.v≤99:=by
 simp only [Be,AW] at h
 exact Bd h.2
theorem Qi:∀ (b:List Row) (q:Row),Cp (some q) b=true→q.t≤99→(b.length:Int)≤99 - q.t:=by
 intro b
 induction b with
 | nil=>intro q _ h; simp; omega
 | cons r rs ih =>
   intro q h hq
   obtain ⟨h1,h2,h3⟩:=Bg.1 h
   have h4:=h2 q rfl
   have h5:=La h1
   have h6:=ih r h3 AB
   simp only [List.length_cons]
   omega
theorem Blk.len {b:List Row}(h:Blk b):b.length≤100:=by
 cases b with
 | nil=>simp
 | cons r rs =>
   obtain ⟨h1,_,h3⟩:=Bg.1 h
   have h5:=La h1
   have h6:=Qi rs r h3 AB
   simp only [List.length_cons]
   omega
theorem PR:∀ (b:List Row) (o:Option Row),Cp o b=true→∀ r∈b,Be r=true:=by
 intro b
 induction b with
 | nil=>intro o _ r hr; cases hr
 | cons x xs ih =>
   intro o h r hr
   obtain ⟨h1,_,h3⟩:=Bg.1 h
   rcases List.mem_cons.1 hr with rfl | hr
   ·exact h1
   ·exact ih _ h3 r hr
theorem Blk.rows {b:List Row}(h:Blk b):∀ r∈b,Be r=true:=PR b none h
theorem NT:∀ (b:List Row) (q:Row),Cp (some q) b=true→∀ r∈b,q.t< r.t:=by
 intro b
 induction b with
 | nil=>intro q _ r hr; cases hr
 | cons x xs ih =>
   intro q h r hr
   obtain ⟨_,h2,h3⟩:=Bg.1 h
   have h4:=h2 q rfl
   rcases List.mem_cons.1 hr with rfl | hr
   ·exact h4
   ·have:=ih x h3 r hr; omega
def De (r:Row):List Row→List Row
 | []=>[r]
 | x::xs=>if r.t< x.t then r::x::xs else if r.t=x.t then r::xs else x::De r xs
theorem NU (r:Row):∀ (b out:List Row),(∀ x∈b,r.t< x.t)→Cz out r true b=out++b:=by
 intro b
 induction b with
 | nil=>intro out _; simp [Cz]
 | cons x xs ih =>
   intro out h
   have h1:=h x AD
   have h2:(x.t != r.t)=true:=by simp; omega
   unfold Cz
   simp only [Bool.not_true,Bool.false_and,if_neg,h2,if_true]
   rw [if_neg AD,ih _ (fun y hy=>h y (by simp [hy]))]
   simp
theorem Tz (r:Row):∀ (b out:List Row) (o:Option Row),Cp o b=true→Cz out r false b=out++De r b:=by
 intro b
 induction b with
 | nil=>intro out o _; simp [Cz,De]
 | cons x xs ih =>
   intro out o h
   obtain ⟨_,_,h3⟩:=Bg.1 h
   have hg:=NT xs x h3
   unfold Cz De
   by_cases h1:r.t< x.t
   ·have e1:(x.t != r.t)=true:=by simp; omega
    have e2:(!false&&decide (x.t≥r.t))=true:=by simp; omega
    rw [if_pos e2,if_pos e1,if_pos h1,NU r xs _ (fun y hy=>by have:=hg y hy; omega)]
    simp
   ·by_cases h2:r.t=x.t
    ·have e1:¬ (x.t != r.t)=true:=by simp; omega
     have e2:(!false&&decide (x.t≥r.t))=true:=by simp; omega
     rw [if_pos e2,if_neg e1,if_neg h1,if_pos h2,NU r xs _ (fun y hy=>by have:=hg y hy; omega)]
     simp
    ·have e1:(x.t != r.t)=true:=by simp; omega
     have e2:¬ (!false&&decide (x.t≥r.t))=true:=by simp; omega
     rw [if_neg e2,if_pos e1,if_neg h1,if_neg h2,ih _ _ h3]
     simp
theorem Ge {b:List Row}(h:Blk b) (r:Row):Eg b r=De r b:=by
 unfold Eg
 rw [Tz r b [] none h]
 rfl
theorem WR {r:Row}(hr:Be r=true):∀ (b:List Row) (o:Option Row),Cp o b=true→(∀ q,o=some q→q.t< r.t)→Cp o (De r b)=true:=by
 intro b
 induction b with
 | nil=>intro o _ ho; exact Bg.2 ⟨hr,ho,rfl⟩
 | cons x xs ih =>
   intro o h ho
   obtain ⟨h1,h2,h3⟩:=Bg.1 h
   unfold De
   split
   ·exact Bg.2 ⟨hr,ho,Bg.2 ⟨h1,fun q hq=>by cases hq; assumption,h3⟩⟩
   ·split
    ·rename_i _ he
     refine Bg.2 ⟨hr,ho,?_⟩
     cases xs with
     | nil=>rfl
     | cons y ys =>
       obtain ⟨g1,g2,g3⟩:=Bg.1 h3
       exact Bg.2 ⟨g1,fun q hq=>by cases hq; have:=g2 x rfl; omega,g3⟩
    ·exact Bg.2 ⟨h1,h2,ih _ h3 (fun q hq=>by cases hq; omega)⟩
theorem Blk.put {b:List Row}(h:Blk b){r:Row}(hr:Be r=true):Blk (Eg b r):=by
 rw [Ge h]
 exact WR hr b none h AD
theorem Blk.nil:Blk []:=rfl
theorem Blk.foldl {b:List Row}:∀ {a:List Row},Blk a→(∀ r∈b,Be r=true)→Blk (b.foldl Eg a):=by
 induction b with
 | nil=>intro a h _; exact h
 | cons x xs ih=>intro a h hr; exact ih (h.put (hr x AD)) (fun r hr'=>hr r (by simp [hr']))
theorem Blk.merge {a b:List Row}(ha:Blk a) (hb:Blk b):Blk (Bl a b):=Blk.foldl ha hb.rows
structure PrtI (p:Prt):Prop where
 len:p.ids.length=p.blocks.length
 le:p.blocks.length≤6
 blk:∀ b∈p.blocks,Blk b
theorem PrtI.sz {p:Prt}(h:PrtI p):C9 p:=⟨h.len,by have:=h.le; omega,fun b hb=>by have:=(h.blk b hb).len; omega⟩
theorem PrtI.nil:PrtI ⟨[],[]⟩:=⟨rfl,by simp,by simp⟩
theorem PrtI.of {p:Prt}(h:PrtI p) (id:Int):Blk (partOf p id):=by
 rcases J3 id p.ids p.blocks with h1 | h1
 ·unfold partOf; rw [h1]; exact Blk.nil
 ·exact h.blk _ h1
theorem NW:∀ (bs:List (List Row)) (i:Nat),(BQ i bs).1.length=(BQ i bs).2.length∧(BQ i bs).2.length≤bs.length∧∀ b∈(BQ i bs).2,b∈bs:=by
 intro bs
 induction bs with
 | nil=>intro i; simp [BQ]
 | cons b bs ih =>
   intro i
   obtain ⟨h1,h2,h3⟩:=ih (i+1)
   unfold BQ
   split
   ·refine ⟨by simp [h1],by simp; omega,fun x hx=>?_⟩
    rcases List.mem_cons.1 hx with rfl | hx
    ·simp
    ·exact List.mem_cons_of_mem _ (h3 x hx)
   ·exact ⟨h1,by simp; omega,fun x hx=>List.mem_cons_of_mem _ (h3 x hx)⟩
theorem PrtI.make {bs:List (List Row)}(hl:bs.length≤6) (h:∀ b∈bs,Blk b):PrtI (EM bs):=by
 obtain ⟨h1,h2,h3⟩:=NW bs 0
 exact ⟨h1,by unfold EM; dsimp only; omega,fun b hb=>h b (h3 b hb)⟩
theorem PrtI.merge {p q:Prt}(hp:PrtI p) (hq:PrtI q):PrtI (BJ p q):=by
 refine PrtI.make (by rw [EG]; omega) (fun b hb=>?_)
 simp only [Bc,List.mem_map] at hb
 obtain ⟨i,_,rfl⟩:=hb
 exact (hp.of _).merge (hq.of _)
theorem T0:∀ (mem:List Smp) (bl:List (List Row)),bl.length=6→(∀ b∈bl,Blk b)→(∀ m∈mem,Be m.row=true)→(mem.foldl HM bl).length=6∧∀ b∈mem.foldl HM bl,Blk b:=by
 intro mem
 induction mem with
 | nil=>intro bl h1 h2 _; exact ⟨h1,h2⟩
 | cons m ms ih =>
   intro bl h1 h2 h3
   refine ih (HM bl m) (by rw [Tv,h1]) (fun b hb=>?_) (fun x hx=>h3 x (by simp [hx]))
   unfold HM at hb
   rcases List.mem_or_eq_of_mem_set hb with hb | rfl
   ·exact h2 b hb
   ·refine Blk.put ?_ (h3 m AD)
    rw [List.getD_eq_getElem?_getD]
    cases hx:bl[(m.id - 1).toNat]? with
    | none=>exact Blk.nil
    | some y=>exact h2 y (AV hx)
theorem PrtI.mem {mem:List Smp}(h:∀ m∈mem,Be m.row=true):PrtI (Ak mem):=by
 obtain ⟨h1,h2⟩:=T0 mem [[],[],[],[],[],[]] rfl (by simp [Blk.nil]) h
 exact PrtI.make AB h2
structure NmI (names:List (List Tag)):Prop where
 len:names.length≤6
 ok:∀ n∈names,Ar n=true
 nodup:(names.map text).Nodup
theorem EQ {lo hi:Int}{s:Str}(h:L2 lo hi s=true):s.length=1:=by
 match s,h with
 | [x],_=>rfl
 | [],h=>simp [L2] at h
 | x::y::r,h=>simp [L2] at h
theorem Fb:∀ (n:List Tag) (o:Option Tag),ED o n=true→∀ t∈n,CD t=true:=by
 intro n
 induction n with
 | nil=>intro o _ t ht; cases ht
 | cons x xs ih =>
   intro o h t ht
   simp only [ED,AW] at h
   rcases List.mem_cons.1 ht with rfl | ht
   ·exact h.1.1
   ·exact ih _ h.2 t ht
theorem Sm {n:List Tag}(h:Ar n=true):n.length≤3∧GI n:=by
 simp only [Ar,AW] at h
 have h1:=Bd h.2
 refine ⟨by omega,by omega,fun t ht=>?_⟩
 have h2:=Fb n none h.1 t ht
 simp only [CD,AW] at h2
 have h3:=EQ h2.1
 have h4:=EQ h2.2
 omega
theorem NmI.sz {names:List (List Tag)}(h:NmI names):∀ n∈names,GI n:=fun n hn=>(Sm (h.ok n hn)).2
theorem PS (t:Str):∀ (ns:List (List Tag)) (i:Nat),(nmF t i ns=0∧t∉ns.map text)∨((i:Int)< nmF t i ns∧nmF t i ns≤i+ns.length∧t∈ns.map text):=by
 intro ns
 induction ns with
 | nil=>intro i; simp [nmF]
 | cons x xs ih =>
   intro i
   unfold nmF
   by_cases h:text x=t
   ·right
    simp [h]
    omega
   ·have h1:¬ (text x==t)=true:=by simpa using h
    rw [if_neg h1]
    rcases ih (i+1) with ⟨h2,h3⟩ | ⟨h2,h3,h4⟩
    ·left
     refine ⟨h2,?_⟩
     simp only [List.map_cons,List.mem_cons,not_or]
     exact ⟨fun e=>h e.symm,h3⟩
    ·right
     refine ⟨by omega,by simp only [List.length_cons]; omega,?_⟩
     simp only [List.map_cons,List.mem_cons]
     exact .inr h4
theorem NmI.add {names:List (List Tag)}{ps:List Pst}(h:NmI names){n:List Tag}(hn:Ar n=true) (h0:¬ HL ⟨names,ps⟩ n > 0) (hl:names.length< 6):NmI (names++[n]):=by
 refine ⟨by simp; omega,fun m hm=>?_,?_⟩
 ·rcases List.mem_append.1 hm with hm | hm
  ·exact h.ok m hm
  ·simp at hm; rw [hm]; exact hn
 ·rw [List.map_append]
  refine List.nodup_append.2 ⟨h.nodup,by simp,fun a ha b hb=>?_⟩
  simp at hb
  subst hb
  rintro rfl
  rcases PS (text n) names 0 with ⟨h2,h3⟩ | ⟨h2,_,_⟩
  ·exact h3 ha
  ·exact h0 (by unfold HL; simpa using h2)
structure StoI (s:Sto):Prop where
 idx:s.idx=idxOf s.idx.names
 nm:NmI s.idx.names
 np:s.parts.length≤6
 part:∀ p∈s.parts,PrtI p
 nm2:s.mem.length≤20
 mem:∀ m∈s.mem,1≤m.id∧m.id≤s.idx.names.length∧Be m.row=true
theorem StoI.sz {s:Sto}(h:StoI s):NS s:=⟨⟨by have:=h.nm.len; omega,h.nm.sz⟩,by have:=h.np; omega,fun p hp=>(h.part p hp).sz,by have:=h.nm2; omega⟩
theorem StoI.copy {s:Sto}(h:StoI s):Ai s=s:=by
 have:=h.idx
 unfold Ai
 rw [← this]
theorem StoI.J9 {s:Sto}(h:StoI s):∀ m∈s.mem,1≤m.id∧m.id≤6:=fun m hm=>by
 have h1:=h.mem m hm
 have h2:=h.nm.len
 omega
theorem StoI.new:StoI ⟨⟨[],[]⟩,[],[]⟩:=⟨by rfl,⟨by simp,by simp,by simp⟩,by simp,by simp,by simp,by simp⟩
theorem Qj {ix:Idx}(h:ix=idxOf ix.names) (hn:NmI ix.names) (n:List Tag) :
 (BY ix n).1=idxOf (BY ix n).1.names∧NmI (BY ix n).1.names∧ix.names.length≤(BY ix n).1.names.length∧((BY ix n).2.2=true→1≤(BY ix n).2.1∧(BY ix n).2.1≤(BY ix n).1.names.length):=by
 by_cases h1:HL ix n > 0
 ·rw [HW h1]
  refine ⟨h,hn,Nat.le_refl _,fun _=>?_⟩
  rcases PS (text n) ix.names 0 with ⟨h2,_⟩ | ⟨h2,h3,_⟩
  ·unfold HL at h1; omega
  ·unfold HL at h1 ⊢; simp only; omega
 ·by_cases h2:Ar n=false∨(ix.names.length:Int)≥6
  ·rw [F1 h1 h2]
   exact ⟨h,hn,Nat.le_refl _,by simp⟩
  ·have h3:Ar n=true:=by
    cases h4:Ar n
    ·exact absurd (.inl h4) h2
    ·rfl
   have h4:¬ (ix.names.length:Int)≥6:=fun h=>h2 (.inr h)
   rw [HX h1 h3 h4]
   refine ⟨rfl,?_,by simp [idxOf],fun _=>by simp [idxOf]; omega⟩
   exact NmI.add (ps:=ix.AY) hn h3 h1 AB
theorem StoI.add {s:Sto}(h:StoI s) (n:List Tag) (r:Row):StoI (CQ s n r).1:=by
 unfold CQ
 split
 ·exact h
 ·rename_i h1
  split
  ·exact h
  ·simp only [Bool.or_eq_true,not_or] at h1
   obtain ⟨⟨h1,h2⟩,h3⟩:=h1
   obtain ⟨g1,g2,g3,g4⟩:=Qj h.idx h.nm n
   have h5:=g4 (by simpa using h1)
   refine ⟨g1,g2,h.np,h.part,?_,fun m hm=>?_⟩
   ·have:¬ s.mem.length≥20:=by simpa using h3
    simp only [GL,List.length_append,List.length_cons,List.length_nil]; omega
   ·rcases List.mem_append.1 hm with hm | hm
    ·have:=h.mem m hm
     refine ⟨this.1,?_,this.2.2⟩
     have h6:=this.2.1
     show m.id≤((BY s.idx n).1.names.length:Int)
     omega
    ·simp at hm
     subst hm
     exact ⟨h5.1,h5.2,by simpa using h2⟩
theorem StoI.flush {s:Sto}(h:StoI s):StoI (BM s).1:=by
 unfold BM
 split
 ·exact h
 ·rename_i h1
  refine ⟨h.idx,h.nm,by simp; omega,fun p hp=>?_,by simp,by simp⟩
  rcases List.mem_append.1 hp with hp | hp
  ·exact h.part p hp
  ·simp at hp; subst hp; exact PrtI.mem (fun m hm=>(h.mem m hm).2.2)
theorem StoI.merge {s:Sto}(h:StoI s) (a:Int):StoI (BL s a).1:=by
 unfold BL
 split
 ·rename_i h1
  have h2:=Bd h1
  have h3:a.toNat+1< s.parts.length:=by omega
  refine ⟨h.idx,h.nm,?_,fun p hp=>?_,h.nm2,h.mem⟩
  ·show (Gy s.parts a.toNat).length≤6
   rw [H4 (AU AB) (AU h3)]
   have:=h.np
   simp only [List.length_append,List.length_take,List.length_drop,List.length_cons,List.length_nil]
   omega
  ·change p∈Gy s.parts a.toNat at hp
   rw [H4 (AU AB) (AU h3)] at hp
   rcases List.mem_append.1 hp with hp | hp
   ·rcases List.mem_append.1 hp with hp | hp
    ·exact h.part p (List.mem_of_mem_take hp)
    ·simp at hp; subst hp
     exact (h.part _ (List.getElem_mem _)).merge (h.part _ (List.getElem_mem _))
   ·exact h.part p (List.mem_of_mem_drop hp)
 ·exact h
structure DskI (d:Dsk):Prop where
 nm:NmI d.names
 nf:d.files.length≤20
 file:∀ f∈d.files,PrtI f.part
 nl:d.list.length≤6
 there:∀ n∈d.list,∃ f∈d.files,f.num=n
 num:∀ n∈d.list,0≤n∧n≤999
 next:1≤d.next∧d.next≤999
theorem Sn (n:Int):∀ (fs:List Fil) (i:Nat),0≤DY n i fs↔∃ f∈fs,f.num=n:=by
 intro fs
 induction fs with
 | nil=>intro i; simp [DY]
 | cons f fs ih =>
   intro i
   unfold DY
   by_cases h:f.num=n
   ·simp [h]
   ·have h1:¬ (f.num==n)=true:=by simpa using h
    rw [if_neg h1,ih]
    simp [h]
theorem Fc (d:Dsk) (n:Int):0≤Aw d n↔∃ f∈d.files,f.num=n:=Sn n d.files 0
theorem DskI.at {d:Dsk}(h:DskI d):∀ n∈d.list,0≤Aw d n:=fun n hn=>(Fc d n).2 (h.there n hn)
theorem DskI.new:DskI ⟨[],[],[],1⟩:=⟨⟨by simp,by simp,by simp⟩,by simp,by simp,by simp,by simp,by simp,by simp⟩
theorem DskI.part {d:Dsk}(h:DskI d) (n:Int):PrtI (BA d n):=by
 unfold BA
 rw [List.getD_eq_getElem?_getD]
 cases hx:d.files[(Aw d n).toNat]? with
 | none=>exact PrtI.nil
 | some f=>exact h.file f (AV hx)
theorem DskI.copy {d:Dsk}(h:DskI d):DskI (BW d):=by
 refine ⟨h.nm,by simp [BW]; exact h.nf,fun f hf=>?_,h.nl,fun n hn=>?_,h.num,h.next⟩
 ·simp only [BW,List.mem_map] at hf
  obtain ⟨g,hg,rfl⟩:=hf
  exact (h.file g hg).merge PrtI.nil
 ·obtain ⟨f,hf,he⟩:=h.there n hn
  exact ⟨MC f,by simp only [BW,List.mem_map]; exact ⟨f,hf,rfl⟩,he⟩
theorem DskI.tidy {d:Dsk}(h:DskI d):DskI (BR d):=by
 refine ⟨h.nm,Nat.le_trans (List.length_filter_le _ _) h.nf,fun f hf=>h.file f (List.mem_filter.1 hf).1,h.nl,fun n hn=>?_,h.num,h.next⟩
 obtain ⟨f,hf,he⟩:=h.there n hn
 exact ⟨f,List.mem_filter.2 ⟨hf,by rw [he]; have h1:n∈d.list:=hn; simpa using h1⟩,he⟩
theorem DskI.open {d:Dsk}(h:DskI d):StoI (At d):=by
 refine ⟨rfl,h.nm,by simp [At]; exact h.nl,fun p hp=>?_,by simp [At],by simp [At]⟩
 simp only [At,List.mem_map] at hp
 obtain ⟨n,_,rfl⟩:=hp
 exact h.part n
theorem DskI.gone {d:Dsk}(h:DskI d) (n:Int):DskI ⟨EH d n,d.list,d.names,d.next⟩:=by
 unfold EH
 split
 ·rename_i h1
  refine ⟨h.nm,?_,fun f hf=>?_,h.nl,fun k hk=>?_,h.num,h.next⟩
  ·have:=h.nf
   simp only [List.length_append,List.length_take,List.length_drop]; omega
  ·rcases List.mem_append.1 hf with hf | hf
   ·exact h.file f (List.mem_of_mem_take hf)
   ·exact h.file f (List.mem_of_mem_drop hf)
  ·obtain ⟨f,hf,he⟩:=h.there k hk
   obtain ⟨i,hi,hif⟩:=List.mem_iff_getElem.1 hf
   have hne:k≠n:=by rintro rfl; have:=h1.2; simp at this; exact this hk
   have hat:∀ (fs:List Fil) (j:Nat) (g:Fil),0≤DY n j fs→fs[(DY n j fs).toNat - j]? = some g→g.num=n:=by
    intro fs
    induction fs with
    | nil=>intro j g hj; simp [DY] at hj
    | cons y ys ih =>
      intro j g hj hg
      unfold DY at hj hg
      by_cases hy:(y.num==n)=true
      ·rw [if_pos hy] at hg
       simp at hg
       subst hg
       simpa using hy
      ·rw [if_neg hy] at hj hg
       have h3:=LZ n ys (j+1)
       have h4:(DY n (j+1) ys).toNat - j=((DY n (j+1) ys).toNat - (j+1))+1:=by omega
       rw [h4,List.getElem?_cons_succ] at hg
       exact ih _ _ hj hg
   have hin:i≠(Aw d n).toNat:=by
    rintro rfl
    have:=hat d.files 0 f h1.1 (by show d.files[(Aw d n).toNat - 0]? = _; rw [Nat.sub_zero,AU hi,hif])
    exact hne (he▸this)
   refine ⟨f,?_,he⟩
   rcases Nat.lt_or_gt_of_ne hin with hlt | hgt
   ·refine List.mem_append.2 (.inl (List.mem_iff_getElem.2 ⟨i,by simp; omega,?_⟩))
    rw [List.getElem_take]; exact hif
   ·refine List.mem_append.2 (.inr (List.mem_iff_getElem.2 ⟨i - ((Aw d n).toNat+1),by simp; omega,?_⟩))
    rw [List.getElem_drop]
    simp only [show (Aw d n).toNat+1+(i - ((Aw d n).toNat+1))=i by omega]
    exact hif
 ·exact h
theorem DskI.Xr {d:Dsk}(h:DskI d){p:Prt}(hp:PrtI p) (hf:d.files.length< 20) (hn:d.next< 999):DskI ⟨d.files++[⟨d.next,p⟩],d.list,d.names,d.next+1⟩:=by
 refine ⟨h.nm,by simp; omega,fun f hf=>?_,h.nl,fun n hn=>?_,h.num,by have:=h.next; simp only; omega⟩
 ·rcases List.mem_append.1 hf with hf | hf
  ·exact h.file f hf
  ·simp at hf; subst hf; exact hp
 ·obtain ⟨f,hf,he⟩:=h.there n hn
  exact ⟨f,List.mem_append.2 (.inl hf),he⟩
structure WI (w:Wld):Prop where
 sto:StoI w.store
 dsk:DskI w.disk
theorem WI.new:WI ⟨⟨⟨[],[]⟩,[],[]⟩,⟨[],[],[],1⟩⟩:=⟨StoI.new,DskI.new⟩
theorem WI.V7 {w:Wld}(h:DskI w.disk):WI (BC w):=by
 have h1:=h.tidy.copy
 refine ⟨?_,h1⟩
 show StoI (Ai (At (BW (BR w.disk))))
 rw [h1.open.copy]
 exact h1.open
theorem WI.copy {w:Wld}(h:WI w):WI (Rk w):=⟨by show StoI (Ai w.store); rw [h.sto.copy]; exact h.sto,h.dsk.copy⟩
structure StI (d:Dsk) (st:List Stp):Prop where
 len:st.length≤4
 sz:∀ x∈st,Kt x
 ok:∀ k:Nat,DskI ((st.take k).foldl doD d)
theorem StI.nil {d:Dsk}(h:DskI d):StI d []:=⟨by simp,by simp,by simpa using h⟩
theorem KA {d:Dsk}{x:Stp}{xs:List Stp}(h0:DskI d) (h:∀ k:Nat,DskI ((xs.take k).foldl doD (doD d x))):∀ k:Nat,DskI (((x::xs).take k).foldl doD d):=by
 intro k
 cases k with
 | zero=>exact h0
 | succ k=>exact h k
theorem Rn {d:Dsk}(h0:DskI d):∀ k:Nat,DskI ((([]:List Stp).take k).foldl doD d):=by intro k; simpa using h0
theorem StI.flush {w:Wld}(h:WI w):StI w.disk (BD w.disk w.store):=by
 unfold BD
 split
 ·exact StI.nil h.dsk
 ·rename_i h1
  have hd:=h.dsk
  have hs:=h.sto
  have hp:PrtI (Ak w.store.mem):=PrtI.mem (fun m hm=>(hs.mem m hm).2.2)
  have h2:=hd.Xr hp AB AB
  have hn:=hd.next
  refine ⟨by simp,fun x hx=>?_,?_⟩
  ·simp only [List.mem_cons,List.not_mem_nil,or_false] at hx
   rcases hx with rfl | rfl
   ·exact ⟨by simp,by simp,by simp,by simp only; omega,by simp only; omega⟩
   ·refine ⟨?_,?_,fun n hn=>?_,by simp,by simp⟩
    ·have:=hd.nl; simp; omega
    ·have:=hs.nm.len; simp only; omega
    ·have:=(hs.nm.sz n hn).1; omega
  ·refine KA hd (KA ?_ (Rn ?_))
   ·rw [Fa rfl]; exact h2
   ·rw [HY rfl,Fa rfl]
    refine ⟨hs.nm,h2.nf,h2.file,by simp only [List.length_append,List.length_cons,List.length_nil]; omega,fun n hn'=>?_,fun n hn'=>?_,h2.next⟩
    ·rcases List.mem_append.1 hn' with hn' | hn'
     ·exact h2.there n hn'
     ·simp at hn'; subst hn'
      exact ⟨⟨w.disk.next,Ak w.store.mem⟩,by simp,rfl⟩
    ·rcases List.mem_append.1 hn' with hn' | hn'
     ·exact h2.num n hn'
     ·simp at hn'; omega
theorem StI.merge {d:Dsk}(hd:DskI d) (at_:Int):StI d (Aq d at_):=by
 unfold Aq
 split
 ·exact StI.nil hd
 ·rename_i h1
  simp only [Bool.or_eq_true,not_or,Bool.not_eq_true,Bool.not_eq_false',decide_eq_true_eq] at h1
  obtain ⟨⟨h1,h3⟩,h4⟩:=h1
  have h0:=Bd (by simpa using h1)
  have hl:at_.toNat+1< d.list.length:=by omega
  have ha:d.list.getD at_.toNat 0∈d.list:=by rw [List.getD_eq_getElem?_getD,AU AB]; exact List.getElem_mem _
  have hb:d.list.getD (at_.toNat+1) 0∈d.list:=by rw [List.getD_eq_getElem?_getD,AU hl]; exact List.getElem_mem _
  have na:=hd.num _ ha
  have nb:=hd.num _ hb
  generalize d.list.getD at_.toNat 0=a at *
  generalize d.list.getD (at_.toNat+1) 0=b at *
  have hp:PrtI (BJ (BA d a) (BA d b)):=(hd.part a).merge (hd.part b)
  have h2:=hd.Xr hp AB AB
  have hn:=hd.next
  have hlen:(d.list.take at_.toNat++[d.next]++d.list.drop (at_.toNat+2)).length≤6:=by
   have:=hd.nl
   simp only [List.length_append,List.length_take,List.length_drop,List.length_cons,List.length_nil]; omega
  have hm:∀ n∈d.list.take at_.toNat++[d.next]++d.list.drop (at_.toNat+2),n∈d.list∨n=d.next:=by
   intro n hn
   rcases List.mem_append.1 hn with hn | hn
   ·rcases List.mem_append.1 hn with hn | hn
    ·exact .inl (List.mem_of_mem_take hn)
    ·simp at hn; exact .inr hn
   ·exact .inl (List.mem_of_mem_drop hn)
  have h5:DskI ⟨d.files++[⟨d.next,BJ (BA d a) (BA d b)⟩],d.list.take at_.toNat++[d.next]++d.list.drop (at_.toNat+2),d.names,d.next+1⟩:=by
   refine ⟨h2.nm,h2.nf,h2.file,hlen,fun n hn'=>?_,fun n hn'=>?_,h2.next⟩
   ·rcases hm n hn' with hn' | rfl
    ·exact h2.there n hn'
    ·exact ⟨⟨d.next,BJ (BA d a) (BA d b)⟩,by simp,rfl⟩
   ·rcases hm n hn' with hn' | rfl
    ·exact h2.num n hn'
    ·omega
  refine ⟨by simp,fun x hx=>?_,?_⟩
  ·simp only [List.mem_cons,List.not_mem_nil,or_false] at hx
   rcases hx with rfl | rfl | rfl | rfl
   ·exact ⟨by simp,by simp,by simp,by simp only; omega,by simp only; omega⟩
   ·refine ⟨by simp only; omega,by have:=hd.nm.len; simp only; omega,fun n hn=>?_,by simp,by simp⟩
    have:=(hd.nm.sz n hn).1; omega
   ·exact ⟨by simp,by simp,by simp,by simp only; omega,by simp only; omega⟩
   ·exact ⟨by simp,by simp,by simp,by simp only; omega,by simp only; omega⟩
  ·refine KA hd (KA ?_ (KA ?_ (KA ?_ (Rn ?_))))
   ·rw [Fa rfl]; exact h2
   ·rw [HY rfl,Fa rfl]; exact h5
   ·rw [F3 rfl,HY rfl,Fa rfl]; exact h5.gone a
   ·rw [F3 rfl,F3 rfl,HY rfl,Fa rfl]; exact (h5.gone a).gone b
theorem WI.steps {w:Wld}(h:WI w){st:List Stp}(hs:StI w.disk st) (cut:Int){s:Sto}(h2:StoI s):WI (Br w st cut s):=by
 unfold Br
 split
 ·exact h
 ·split
  ·exact WI.V7 (hs.ok _)
  ·exact ⟨h2,hs.ok _⟩
theorem WI.do {w:Wld}(h:WI w) (e:Evt):WI (doW w e):=by
 unfold doW
 split
 ·split
  ·exact ⟨h.sto.add _ _,h.dsk⟩
  ·exact h
 ·split
  ·exact h.steps (StI.flush h) _ h.sto.flush
  ·split
   ·exact h.steps (StI.merge h.dsk _) _ (h.sto.merge _)
   ·split
    ·exact WI.V7 h.dsk
    ·exact h
theorem C2 {w:Wld}{st:List Stp}{c:Int}{s:Sto}(h:(st.length:Int)=0∨c< 0):Br w st c s=w:=by unfold Br; rw [if_pos AB]
theorem E2 {w:Wld}{st:List Stp}{c:Int}{s:Sto}(h:(st.length:Int)≠0) (h2:¬ c< 0) (h3:c< st.length):Br w st c s=BC ⟨w.store,toD w.disk st c⟩:=by unfold Br; rw [if_neg AB,if_pos h3]
theorem Df {w:Wld}{st:List Stp}{c:Int}{s:Sto}(h:(st.length:Int)≠0) (h2:¬ c< 0) (h3:¬ c< st.length):Br w st c s=⟨s,toD w.disk st c⟩:=by unfold Br; rw [if_neg AB,if_neg h3]
theorem JJ {w:Wld}{e:Evt}(h:e.kind=1) (h2:Ar e.name=true):doW w e=⟨(CQ w.store e.name e.row).1,w.disk⟩:=by unfold doW; rw [if_pos h,if_pos h2]
theorem HZ {w:Wld}{e:Evt}(h:e.kind=1) (h2:Ar e.name=false):doW w e=w:=by unfold doW; rw [if_pos h,if_neg (by simp [h2])]
theorem IU {w:Wld}{e:Evt}(h:e.kind=2):doW w e=Br w (BD w.disk w.store) e.cut (BM w.store).1:=by unfold doW; rw [if_neg AB,if_pos h]
theorem HA {w:Wld}{e:Evt}(h:e.kind=3):doW w e=Br w (Aq w.disk e.at_) e.cut (BL w.store e.at_).1:=by unfold doW; rw [if_neg AB,if_neg AB,if_pos h]
theorem NX {w:Wld}{e:Evt}(h:e.kind=4):doW w e=BC w:=by unfold doW; rw [if_neg AB,if_neg AB,if_neg AB,if_pos h]
theorem NY {w:Wld}{e:Evt}(h:e.kind≠1) (h2:e.kind≠2) (h3:e.kind≠3) (h4:e.kind≠4):doW w e=w:=by unfold doW; rw [if_neg h,if_neg h2,if_neg h3,if_neg h4]
end Go.Proofs.YtckdhcbbgmiccaaGreatDoor
namespace Go.Proofs.YtckdhcbbgmiccaaGreatDoor
set_option maxRecDepth 100000
set_option maxHeartbeats 4000000
variable {w:World} {F:Nat→Prop} {a1 a2 a3 a4 a5 a6 a7 a8 a9 a10 a11 a12:Option Addr} {n1 c1 n2 c2 n3 c3 n4 c4 n5 c5 n6 c6 n7 c7 n8 c8 n9 c9 n10 c10 n11 c11 n12 c12:Nat}
theorem Fe (w_:Wld) (h1:RepS w F a1 n1 c1 w_.store.idx.names) (h2:RepS w F a2 n2 c2 w_.store.idx.AY) (h3:RepS w F a3 n3 c3 w_.store.parts) (h4:RepS w F a4 n4 c4 w_.store.mem) (h5:RepS w F a5 n5 c5 w_.disk.files) (h6:RepS w F a6 n6 c6 w_.disk.list) (h7:RepS w F a7 n7 c7 w_.disk.names) (p0:DskI w_.disk):Calls Tryz.prog 50 [.agg #[.slice a1 n1 c1,.slice a2 n2 c2,.slice a3 n3 c3,.slice a4 n4 c4,.slice a5 n5 c5,.slice a6 n6 c6,.slice a7 n7 c7,.int .i64 w_.disk.next]].toArray w (Al fun rv w'=>VS (ge w.heap.size) w' (BC w_:Wld) rv∧Ext w w'):=by
 cases h1.len
 cases h2.len
 cases h3.len
 cases h4.len
 cases h5.len
 cases h6.len
 cases h7.len
 refine goT func50 ?_
 have Z:=(((((((St.i0 F w).p h1).p h2).p h3).p h4).p h5).p h6).p h7
 have aP:=h5.max
 refine .s<|.g<|RG.Np Z fun aS w Z=>RG.Np Z fun aT w Z=>.d<|.s<|.g<|.r 1<|RG.Ln 1 Z<|RG.CS (MA w_.disk (Z.mg 1 2) (Z.mg 1 1) (Z.mg 1 0) (by have:=p0.nf; omega)) Z fun aU aV aW aX aY aZ w Z=>RG.cl (ME (BR w_.disk) (Z.a 0) (Z.a 1) (Z.a 2) (by have:=p0.tidy.nm.len; omega) (fun n hn=>by have:=(p0.tidy.nm.sz n hn).1; omega) (by have:=p0.tidy.nl; omega) (by have:=p0.tidy.nf; omega) (fun f hf=>(p0.tidy.file f hf).sz)) ?_
 rintro _ w ⟨⟨ax,ba,ay,az,bd,aA,aB,bg,aC,rfl,E,ae,aa,af,ag,ab,ah,ai,aj⟩,ak⟩
 cases E.len
 cases aa.len
 cases ab.len
 have Z:=Z.so ak [.own 0 ax 165 ay (((BW (BR w_.disk))).files),.own 0 az 3 aA (((BW (BR w_.disk))).list),.own 0 aB 63 aC (((BW (BR w_.disk))).names)] [] (nd3 ag ai aj) (oN E ae (oN aa af (oN ab ah o0))) fn_
 refine .r 1<|RG.Ss 4 Z fun w Z=>.d<|.s<|.g<|.r 1<|RG.Ln 4 Z ?_
 have Z:=((Z.sl 0).sl 0).sl 0
 refine RG.CS (MD ((BW (BR w_.disk))) (Z.mg 1 2) (Z.mg 1 1) (Z.mg 1 0) (by have:=p0.tidy.copy.nm.len; omega) p0.tidy.copy.nm.sz (by have:=p0.tidy.copy.nl; omega) p0.tidy.copy.at) Z fun bh bi bj bk bm bn bo bq w Z=>RG.cl (MB (⟨(⟨((At ((BW (BR w_.disk)))).idx).names,((At ((BW (BR w_.disk)))).idx).AY⟩:Idx),(At ((BW (BR w_.disk)))).parts,(At ((BW (BR w_.disk)))).mem⟩:Sto) (Z.a 0) (Z.a 1) (Z.a 2) (Z.a 3) p0.tidy.copy.open.sz) ?_
 rintro _ w ⟨⟨aD,br,aE,aF,bt,aG,aH,bu,aI,aJ,bv,aK,rfl,al,am,ao,ac,aq⟩,ar⟩
 cases al.len
 cases am.len
 cases ao.len
 cases ac.len
 have Z:=Z.so ar [.own 0 aJ 128 aK (((Ai (⟨(⟨((At ((BW (BR w_.disk)))).idx).names,((At ((BW (BR w_.disk)))).idx).AY⟩:Idx),(At ((BW (BR w_.disk)))).parts,(At ((BW (BR w_.disk)))).mem⟩:Sto))).mem)] [.rep aD aE ((((Ai (⟨(⟨((At ((BW (BR w_.disk)))).idx).names,((At ((BW (BR w_.disk)))).idx).AY⟩:Idx),(At ((BW (BR w_.disk)))).parts,(At ((BW (BR w_.disk)))).mem⟩:Sto))).idx).names),.rep aF aG ((((Ai (⟨(⟨((At ((BW (BR w_.disk)))).idx).names,((At ((BW (BR w_.disk)))).idx).AY⟩:Idx),(At ((BW (BR w_.disk)))).parts,(At ((BW (BR w_.disk)))).mem⟩:Sto))).idx).AY),.rep aH aI (((Ai (⟨(⟨((At ((BW (BR w_.disk)))).idx).names,((At ((BW (BR w_.disk)))).idx).AY⟩:Idx),(At ((BW (BR w_.disk)))).parts,(At ((BW (BR w_.disk)))).mem⟩:Sto))).parts)] nd1 (oN ac aq o0) (fc al (fc am (fc ao fn_)))
 refine .r 1<|RG.Ss 2 Z fun w Z=>.d<|.s<|.g<|RG.Ln 2 Z<|RG.Ss 1 Z fun w Z=>.d ?_
 have Z:=Z.sl 0
 exact T.Rb 0 func50 results50 Z ⟨Z.rS (⟨(⟨(⟨(((Ai (⟨(⟨((At ((BW (BR w_.disk)))).idx).names,((At ((BW (BR w_.disk)))).idx).AY⟩:Idx),(At ((BW (BR w_.disk)))).parts,(At ((BW (BR w_.disk)))).mem⟩:Sto))).idx).names,(((Ai (⟨(⟨((At ((BW (BR w_.disk)))).idx).names,((At ((BW (BR w_.disk)))).idx).AY⟩:Idx),(At ((BW (BR w_.disk)))).parts,(At ((BW (BR w_.disk)))).mem⟩:Sto))).idx).AY⟩:Idx),((Ai (⟨(⟨((At ((BW (BR w_.disk)))).idx).names,((At ((BW (BR w_.disk)))).idx).AY⟩:Idx),(At ((BW (BR w_.disk)))).parts,(At ((BW (BR w_.disk)))).mem⟩:Sto))).parts,((Ai (⟨(⟨((At ((BW (BR w_.disk)))).idx).names,((At ((BW (BR w_.disk)))).idx).AY⟩:Idx),(At ((BW (BR w_.disk)))).parts,(At ((BW (BR w_.disk)))).mem⟩:Sto))).mem⟩:Sto),(⟨((BW (BR w_.disk))).files,((BW (BR w_.disk))).list,((BW (BR w_.disk))).names,((BW (BR w_.disk))).next⟩:Dsk)⟩:Wld) [1,2,3,0,10,9,8] AF,Z.xt⟩
theorem HB (w_:Wld) (steps:List Stp) (cut:Int) (s:Sto) (h1:RepS w F a1 n1 c1 w_.store.idx.names) (h2:RepS w F a2 n2 c2 w_.store.idx.AY) (h3:RepS w F a3 n3 c3 w_.store.parts) (h4:RepS w F a4 n4 c4 w_.store.mem) (h5:RepS w F a5 n5 c5 w_.disk.files) (h6:RepS w F a6 n6 c6 w_.disk.list) (h7:RepS w F a7 n7 c7 w_.disk.names) (h8:RepS w F a8 n8 c8 steps) (h9:RepS w F a9 n9 c9 s.idx.names) (h10:RepS w F a10 n10 c10 s.idx.AY) (h11:RepS w F a11 n11 c11 s.parts) (h12:RepS w F a12 n12 c12 s.mem) (p0:WI w_) (p1:StI w_.disk steps) (p2:StoI s):Calls Tryz.prog 93 [.agg #[.slice a1 n1 c1,.slice a2 n2 c2,.slice a3 n3 c3,.slice a4 n4 c4,.slice a5 n5 c5,.slice a6 n6 c6,.slice a7 n7 c7,.int .i64 w_.disk.next],.slice a8 n8 c8,.int .i64 cut,.agg #[.slice a9 n9 c9,.slice a10 n10 c10,.slice a11 n11 c11,.slice a12 n12 c12]].toArray w (Al fun rv w'=>VS (fo F w.heap.size) w' (Br w_ steps cut s:Wld) rv∧Ext w w'):=by
 cases h1.len
 cases h2.len
 cases h3.len
 cases h4.len
 cases h5.len
 cases h6.len
 cases h7.len
 cases h8.len
 cases h9.len
 cases h10.len
 cases h11.len
 cases h12.len
 refine goT func93 ?_
 have Z:=((((((((((((St.i0 F w).p h1).p h2).p h3).p h4).p h5).p h6).p h7).p h8).p h9).p h10).p h11).p h12
 have ah:=h5.max
 have ai:=h6.max
 have ak:=h8.max
 exact .s<|.g<|RG.Np Z fun ar w Z=>RG.Np Z fun ax w Z=>RG.Np Z fun ay w Z=>.d<|.s<|.s<|.g<|.r 2<|.eq (steps.length:Int) 0 (fun E=>.r 4<|.d<|.ct<|.s<|.g<|RG.Ln 2 Z<|RG.Ss 0 Z fun w Z=>.d<|T.Rb 0 func93 results93 Z ⟨Z.rS (g:=1) w_ [11,10,9,8,7,6,5] (by rw [C2 AB]),Z.xt⟩) fun E=>.r 2<|.bp (cut< 0) (fun aa=>.r 1<|.d<|.ct<|.s<|.g<|RG.Ln 2 Z<|RG.Ss 0 Z fun w Z=>.d<|T.Rb 0 func93 results93 Z ⟨Z.rS (g:=1) w_ [11,10,9,8,7,6,5] (by rw [C2 AB]),Z.xt⟩) fun aa=>.r 1<|.d<|.cf<|.sk<|.s<|.g<|.r 1<|RG.Ln 2 Z<|.r 2<|RG.CS (OW w_.disk steps cut (Z.mg 1 7) (Z.mg 1 6) (Z.mg 1 5) (Z.mg 1 4) (by have:=p0.dsk.nf; omega) (by have:=p1.len; omega) (by have:=p0.dsk.nl; omega) p1.sz) Z fun az aA aB aC aD aE w Z=>.r 1<|RG.Ss 2 Z fun w Z=>.d<|.s<|.s<|.g<|.r 3<|.bp (cut< (steps.length:Int)) (fun ab=>.d<|.ct<|.s<|.g<|RG.Ln 2 Z<|RG.CS (Fe (⟨(⟨(⟨w_.store.idx.names,w_.store.idx.AY⟩:Idx),w_.store.parts,w_.store.mem⟩:Sto),(⟨(toD w_.disk steps cut).files,(toD w_.disk steps cut).list,(toD w_.disk steps cut).names,(toD w_.disk steps cut).next⟩:Dsk)⟩:Wld) (Z.a 14) (Z.a 13) (Z.a 12) (Z.a 11) (Z.a 0) (Z.a 1) (Z.a 2) (p1.ok _)) Z fun aF aG aH aI aJ aK aL aM aN aO aP aQ aR aS w Z=>RG.Ss 0 Z fun w Z=>.d<|T.Rb 0 func93 results93 Z ⟨Z.rS (g:=1) (⟨(⟨(⟨(((BC (⟨(⟨(⟨w_.store.idx.names,w_.store.idx.AY⟩:Idx),w_.store.parts,w_.store.mem⟩:Sto),(⟨(toD w_.disk steps cut).files,(toD w_.disk steps cut).list,(toD w_.disk steps cut).names,(toD w_.disk steps cut).next⟩:Dsk)⟩:Wld)).store).idx).names,(((BC (⟨(⟨(⟨w_.store.idx.names,w_.store.idx.AY⟩:Idx),w_.store.parts,w_.store.mem⟩:Sto),(⟨(toD w_.disk steps cut).files,(toD w_.disk steps cut).list,(toD w_.disk steps cut).names,(toD w_.disk steps cut).next⟩:Dsk)⟩:Wld)).store).idx).AY⟩:Idx),((BC (⟨(⟨(⟨w_.store.idx.names,w_.store.idx.AY⟩:Idx),w_.store.parts,w_.store.mem⟩:Sto),(⟨(toD w_.disk steps cut).files,(toD w_.disk steps cut).list,(toD w_.disk steps cut).names,(toD w_.disk steps cut).next⟩:Dsk)⟩:Wld)).store).parts,((BC (⟨(⟨(⟨w_.store.idx.names,w_.store.idx.AY⟩:Idx),w_.store.parts,w_.store.mem⟩:Sto),(⟨(toD w_.disk steps cut).files,(toD w_.disk steps cut).list,(toD w_.disk steps cut).names,(toD w_.disk steps cut).next⟩:Dsk)⟩:Wld)).store).mem⟩:Sto),(⟨((BC (⟨(⟨(⟨w_.store.idx.names,w_.store.idx.AY⟩:Idx),w_.store.parts,w_.store.mem⟩:Sto),(⟨(toD w_.disk steps cut).files,(toD w_.disk steps cut).list,(toD w_.disk steps cut).names,(toD w_.disk steps cut).next⟩:Dsk)⟩:Wld)).disk).files,((BC (⟨(⟨(⟨w_.store.idx.names,w_.store.idx.AY⟩:Idx),w_.store.parts,w_.store.mem⟩:Sto),(⟨(toD w_.disk steps cut).files,(toD w_.disk steps cut).list,(toD w_.disk steps cut).names,(toD w_.disk steps cut).next⟩:Dsk)⟩:Wld)).disk).list,((BC (⟨(⟨(⟨w_.store.idx.names,w_.store.idx.AY⟩:Idx),w_.store.parts,w_.store.mem⟩:Sto),(⟨(toD w_.disk steps cut).files,(toD w_.disk steps cut).list,(toD w_.disk steps cut).names,(toD w_.disk steps cut).next⟩:Dsk)⟩:Wld)).disk).names,((BC (⟨(⟨(⟨w_.store.idx.names,w_.store.idx.AY⟩:Idx),w_.store.parts,w_.store.mem⟩:Sto),(⟨(toD w_.disk steps cut).files,(toD w_.disk steps cut).list,(toD w_.disk steps cut).names,(toD w_.disk steps cut).next⟩:Dsk)⟩:Wld)).disk).next⟩:Dsk)⟩:Wld) [0,1,2,3,4,5,6] (by rw [E2 AB AB AB]),Z.xt⟩) fun ab=>.d<|.cf<|.sk<|.s<|.g<|RG.Ln 1 Z<|.r 1<|RG.Ss 2 Z fun w Z=>.d<|.s<|.g<|RG.Ln 2 Z<|RG.Ss 0 Z fun w Z=>.d<|T.Rb 0 func93 results93 Z ⟨Z.rS (g:=1) (⟨(⟨(⟨s.idx.names,s.idx.AY⟩:Idx),s.parts,s.mem⟩:Sto),(⟨(toD w_.disk steps cut).files,(toD w_.disk steps cut).list,(toD w_.disk steps cut).names,(toD w_.disk steps cut).next⟩:Dsk)⟩:Wld) [6,5,4,3,0,1,2] (by rw [Df AB AB AB]),Z.xt⟩
theorem ER (w_:Wld) (e:Evt) (h1:RepS w F a1 n1 c1 w_.store.idx.names) (h2:RepS w F a2 n2 c2 w_.store.idx.AY) (h3:RepS w F a3 n3 c3 w_.store.parts) (h4:RepS w F a4 n4 c4 w_.store.mem) (h5:RepS w F a5 n5 c5 w_.disk.files) (h6:RepS w F a6 n6 c6 w_.disk.list) (h7:RepS w F a7 n7 c7 w_.disk.names) (h8:RepS w F a8 n8 c8 e.name) (p0:WI w_) (p1:GI e.name):Calls Tryz.prog 49 [.agg #[.slice a1 n1 c1,.slice a2 n2 c2,.slice a3 n3 c3,.slice a4 n4 c4,.slice a5 n5 c5,.slice a6 n6 c6,.slice a7 n7 c7,.int .i64 w_.disk.next],.agg #[.int .i64 e.kind,.int .i64 e.at_,.int .i64 e.cut,.slice a8 n8 c8,.int .i64 e.row.t,.int .i64 e.row.v]].toArray w (Al fun rv w'=>VS (fo F w.heap.size) w' (doW w_ e:Wld) rv∧Ext w w'):=by
 cases h1.len
 cases h2.len
 cases h3.len
 cases h4.len
 cases h5.len
 cases h6.len
 cases h7.len
 cases h8.len
 refine goT func49 ?_
 have Z:=((((((((St.i0 F w).p h1).p h2).p h3).p h4).p h5).p h6).p h7).p h8
 have ae:=h1.max
 have ag:=h3.max
 have ah:=h4.max
 have aj:=h6.max
 have ak:=h7.max
 refine .s<|.g<|RG.Np Z fun aG w Z=>RG.Np Z fun aH w Z=>RG.Np Z fun aI w Z=>.d<|.s<|.s<|.g<|.r 1<|RG.Lb 1 Z<|.d<|.b 0<|.s<|.g<|.eq e.kind 1 (fun E=>?_) (fun E=>.r 1<|.d<|.cf<|.s<|.g<|.eq e.kind 2 (fun aa=>.r 1<|.d<|.ct<|.s<|.g<|.r 1<|RG.Ln 2 Z<|RG.CT (us:=[.bool ((BM w_.store).2)]) (LA w_.store (Z.mg 1 7) (Z.mg 1 6) (Z.mg 1 5) (Z.mg 1 4) (by have:=p0.sto.nm2; omega) p0.sto.J9) Z fun aJ aK aL aM aN aO aP aQ w Z=>.r 3<|RG.Np Z fun aR w Z=>RG.Ss 0 Z fun w Z=>.r 1<|.d<|.s<|T.Gd 9 Z fun w Z=>GA.Ln 0 3 Z<|.r [1]<|GA.Ln 2 3 Z<|.r [3]<|GA.Ln 4 3 Z<|.r [6]<|GA.Lb 7 2 Z<|GA.Ln 8 0 Z<|.go 5<|GE.CL (fun w Z=>LC w_.disk w_.store (Z.a 7) (Z.a 6) (Z.a 5) (Z.a 11) (Z.a 10) (Z.a 9) (Z.a 8) (by have:=p0.sto.nm2; omega) p0.sto.J9 (by have:=p0.dsk.nl; omega) (by have:=p0.sto.nm.len; omega) (fun n hn=>(p0.sto.nm.sz n hn).1)) Z fun aS aT w Z=>GA.Dn Z fun w Z=>RG.CS (HB w_ (BD w_.disk w_.store) e.cut (⟨(⟨(BM w_.store).1.idx.names,((BM w_.store).1.idx).AY⟩:Idx),(BM w_.store).1.parts,(BM w_.store).1.mem⟩:Sto) (Z.mg 1 12) (Z.mg 1 11) (Z.mg 1 10) (Z.mg 1 9) (Z.mg 1 8) (Z.mg 1 7) (Z.mg 1 6) (Z.mg 1 0) (Z.mg 1 1) (Z.mg 1 2) (Z.mg 1 3) (Z.mg 1 4) p0 (by exact StI.flush p0) (by exact p0.sto.flush)) Z fun aU aV aW aX aY aZ ba bd bg bh bi bj bk bm w Z=>RG.Ss 1 Z fun w Z=>.d<|T.Rb 1 func49 results49 Z ⟨Z.rS (g:=1) (⟨(⟨(⟨(((Br w_ (BD w_.disk w_.store) e.cut (⟨(⟨(BM w_.store).1.idx.names,((BM w_.store).1.idx).AY⟩:Idx),(BM w_.store).1.parts,(BM w_.store).1.mem⟩:Sto)).store).idx).names,(((Br w_ (BD w_.disk w_.store) e.cut (⟨(⟨(BM w_.store).1.idx.names,((BM w_.store).1.idx).AY⟩:Idx),(BM w_.store).1.parts,(BM w_.store).1.mem⟩:Sto)).store).idx).AY⟩:Idx),((Br w_ (BD w_.disk w_.store) e.cut (⟨(⟨(BM w_.store).1.idx.names,((BM w_.store).1.idx).AY⟩:Idx),(BM w_.store).1.parts,(BM w_.store).1.mem⟩:Sto)).store).parts,((Br w_ (BD w_.disk w_.store) e.cut (⟨(⟨(BM w_.store).1.idx.names,((BM w_.store).1.idx).AY⟩:Idx),(BM w_.store).1.parts,(BM w_.store).1.mem⟩:Sto)).store).mem⟩:Sto),(⟨((Br w_ (BD w_.disk w_.store) e.cut (⟨(⟨(BM w_.store).1.idx.names,((BM w_.store).1.idx).AY⟩:Idx),(BM w_.store).1.parts,(BM w_.store).1.mem⟩:Sto)).disk).files,((Br w_ (BD w_.disk w_.store) e.cut (⟨(⟨(BM w_.store).1.idx.names,((BM w_.store).1.idx).AY⟩:Idx),(BM w_.store).1.parts,(BM w_.store).1.mem⟩:Sto)).disk).list,((Br w_ (BD w_.disk w_.store) e.cut (⟨(⟨(BM w_.store).1.idx.names,((BM w_.store).1.idx).AY⟩:Idx),(BM w_.store).1.parts,(BM w_.store).1.mem⟩:Sto)).disk).names,((Br w_ (BD w_.disk w_.store) e.cut (⟨(⟨(BM w_.store).1.idx.names,((BM w_.store).1.idx).AY⟩:Idx),(BM w_.store).1.parts,(BM w_.store).1.mem⟩:Sto)).disk).next⟩:Dsk)⟩:Wld) [0,1,2,3,4,5,6] (by (rw [IU ‹_›])),Z.xt⟩) fun aa=>.r 1<|.d<|.cf<|.s<|.g<|.eq e.kind 3 (fun ab=>.r 1<|.d<|.ct<|.s<|.g<|.r 1<|RG.Ln 2 Z<|.r 1<|RG.Lb 1 Z<|RG.CT (us:=[.bool ((BL w_.store e.at_).2)]) (LB w_.store e.at_ (Z.mg 1 7) (Z.mg 1 6) (Z.mg 1 5) (Z.mg 1 4) (by have:=p0.sto.np; omega) (fun p hp=>(p0.sto.part p hp).sz)) Z fun bn bo bq br bt bu bv bw w Z=>.r 3<|RG.Np Z fun bz w Z=>RG.Ss 0 Z fun w Z=>.r 1<|.d<|.s<|T.Gd 9 Z fun w Z=>GA.Ln 0 3 Z<|.r [1]<|GA.Ln 2 3 Z<|.r [3]<|GA.Lb 4 2 Z<|.r [6]<|GA.Lb 7 2 Z<|GA.Ln 8 0 Z<|.go 5<|GE.CL (fun w Z=>LD w_.disk e.at_ (Z.a 7) (Z.a 6) (Z.a 5) (by have:=p0.dsk.nm.len; omega) (fun n hn=>(p0.dsk.nm.sz n hn).1) (by have:=p0.dsk.nl; omega) p0.dsk.at (fun f hf=>(p0.dsk.file f hf).sz)) Z fun bA bB w Z=>GA.Dn Z fun w Z=>RG.CS (HB w_ (Aq w_.disk e.at_) e.cut (⟨(⟨(BL w_.store e.at_).1.idx.names,((BL w_.store e.at_).1.idx).AY⟩:Idx),(BL w_.store e.at_).1.parts,(BL w_.store e.at_).1.mem⟩:Sto) (Z.mg 1 12) (Z.mg 1 11) (Z.mg 1 10) (Z.mg 1 9) (Z.mg 1 8) (Z.mg 1 7) (Z.mg 1 6) (Z.mg 1 0) (Z.mg 1 1) (Z.mg 1 2) (Z.mg 1 3) (Z.mg 1 4) p0 (by exact StI.merge p0.dsk _) (by exact p0.sto.merge _)) Z fun bC bD bE bF bG bH bI bJ bK bL bM bN bO bP w Z=>RG.Ss 1 Z fun w Z=>.d<|T.Rb 1 func49 results49 Z ⟨Z.rS (g:=1) (⟨(⟨(⟨(((Br w_ (Aq w_.disk e.at_) e.cut (⟨(⟨(BL w_.store e.at_).1.idx.names,((BL w_.store e.at_).1.idx).AY⟩:Idx),(BL w_.store e.at_).1.parts,(BL w_.store e.at_).1.mem⟩:Sto)).store).idx).names,(((Br w_ (Aq w_.disk e.at_) e.cut (⟨(⟨(BL w_.store e.at_).1.idx.names,((BL w_.store e.at_).1.idx).AY⟩:Idx),(BL w_.store e.at_).1.parts,(BL w_.store e.at_).1.mem⟩:Sto)).store).idx).AY⟩:Idx),((Br w_ (Aq w_.disk e.at_) e.cut (⟨(⟨(BL w_.store e.at_).1.idx.names,((BL w_.store e.at_).1.idx).AY⟩:Idx),(BL w_.store e.at_).1.parts,(BL w_.store e.at_).1.mem⟩:Sto)).store).parts,((Br w_ (Aq w_.disk e.at_) e.cut (⟨(⟨(BL w_.store e.at_).1.idx.names,((BL w_.store e.at_).1.idx).AY⟩:Idx),(BL w_.store e.at_).1.parts,(BL w_.store e.at_).1.mem⟩:Sto)).store).mem⟩:Sto),(⟨((Br w_ (Aq w_.disk e.at_) e.cut (⟨(⟨(BL w_.store e.at_).1.idx.names,((BL w_.store e.at_).1.idx).AY⟩:Idx),(BL w_.store e.at_).1.parts,(BL w_.store e.at_).1.mem⟩:Sto)).disk).files,((Br w_ (Aq w_.disk e.at_) e.cut (⟨(⟨(BL w_.store e.at_).1.idx.names,((BL w_.store e.at_).1.idx).AY⟩:Idx),(BL w_.store e.at_).1.parts,(BL w_.store e.at_).1.mem⟩:Sto)).disk).list,((Br w_ (Aq w_.disk e.at_) e.cut (⟨(⟨(BL w_.store e.at_).1.idx.names,((BL w_.store e.at_).1.idx).AY⟩:Idx),(BL w_.store e.at_).1.parts,(BL w_.store e.at_).1.mem⟩:Sto)).disk).names,((Br w_ (Aq w_.disk e.at_) e.cut (⟨(⟨(BL w_.store e.at_).1.idx.names,((BL w_.store e.at_).1.idx).AY⟩:Idx),(BL w_.store e.at_).1.parts,(BL w_.store e.at_).1.mem⟩:Sto)).disk).next⟩:Dsk)⟩:Wld) [0,1,2,3,4,5,6] (by (rw [HA ‹_›])),Z.xt⟩) fun ab=>.r 1<|.d<|.cf<|.s<|.g<|.eq e.kind 4 (fun ac=>.r 1<|.d<|.ct<|.s<|.g<|RG.Ln 2 Z<|RG.CS (Fe w_ (Z.a 7) (Z.a 6) (Z.a 5) (Z.a 4) (Z.a 3) (Z.a 2) (Z.a 1) p0.dsk) Z fun bQ bR am ao aq ar ax ay az aA aB aC aD aE w Z=>RG.Ss 0 Z fun w Z=>.d<|T.Rb 0 func49 results49 Z ⟨Z.rS (g:=1) (⟨(⟨(⟨(BC w_).store.idx.names,((BC w_).store.idx).AY⟩:Idx),(BC w_).store.parts,(BC w_).store.mem⟩:Sto),(⟨(BC w_).disk.files,(BC w_).disk.list,(BC w_).disk.names,(BC w_).disk.next⟩:Dsk)⟩:Wld) [0,1,2,3,4,5,6] (by (rw [NX ‹_›])),Z.xt⟩) fun ac=>.r 1<|.d<|.cf<|.sk<|.ib 0<|.s<|.g<|RG.Ln 2 Z<|RG.Ss 0 Z fun w Z=>.d<|T.Rb 0 func49 results49 Z ⟨Z.rS (g:=1) w_ [7,6,5,4,3,2,1] (by (rw [NY ‹_› ‹_› ‹_› ‹_›])),Z.xt⟩)
 refine .r 1<|.d<|.ct<|.s<|.g<|.r 1<|RG.Lb 1 Z<|RG.C0 (GJ e.name (Z.a 0)) Z fun w Z=>?_
 cases aF:(Ar e.name)
 ·exact .d<|.cf<|.sk<|.ib 0<|.s<|.g<|RG.Ln 2 Z<|RG.Ss 0 Z fun w Z=>.d<|T.Rb 0 func49 results49 Z ⟨Z.rS (g:=1) w_ [7,6,5,4,3,2,1] (by (rw [HZ ‹_› ‹_›])),Z.xt⟩
 exact .d<|.ct<|.s<|.g<|.r 1<|RG.Ln 2 Z<|.r 1<|RG.Lb 1 Z<|.r 1<|RG.Ln 1 Z<|RG.CT (us:=[.bool ((CQ w_.store e.name e.row).2)]) (NC w_.store e.name e.row (Z.mg 1 7) (Z.mg 1 6) (Z.mg 1 5) (Z.mg 1 4) (Z.mg 1 0) p0.sto.sz p1) Z fun bS bT bU bV bW bX bY bZ w Z=>.r 3<|RG.Np Z fun b0 w Z=>RG.Ss 0 Z fun w Z=>.r 1<|.d<|.g<|RG.Ln 0 Z<|.r 1<|RG.Ss 3 Z fun w Z=>.d<|.ib 0<|.s<|.g<|RG.Ln 3 Z<|RG.Ss 1 Z fun w Z=>.d<|T.Rb 1 func49 results49 Z ⟨Z.rS (g:=1) (⟨(⟨(⟨(CQ w_.store e.name e.row).1.idx.names,((CQ w_.store e.name e.row).1.idx).AY⟩:Idx),(CQ w_.store e.name e.row).1.parts,(CQ w_.store e.name e.row).1.mem⟩:Sto),(⟨w_.disk.files,w_.disk.list,w_.disk.names,w_.disk.next⟩:Dsk)⟩:Wld) [0,1,2,3,7,6,5] (by (rw [JJ ‹_› ‹_›])),Z.xt⟩
end Go.Proofs.YtckdhcbbgmiccaaGreatDoor
namespace Go.Proofs.YtckdhcbbgmiccaaGreatDoor
def Xs (n m:Nat) (ops:Array Oper) (l is:List Nat) (e:Env):Bool :=
 is.all (fun i=>Dt n m ops l i&&Cj n ops i e)&&decide (Lu ops l=is) && !is.isEmpty
section
variable {P:Program} {S:Nat→Prop} {n m:Nat} {L:Env→World→Prop} {ops:Array Oper} {l:List Nat} {e:Env} {w:World}
theorem GE.many (is:List Nat) (h:Xs n m ops l is e=true) (H:∀ i∈is,GE P S n m L ops l i e w):GA P S n m L ops l e w:=by
 intro hB f a hf ha inv
 simp only [Xs,AW,decide_eq_true_eq,List.all_eq_true] at h
 obtain ⟨⟨h1,hready⟩,hne⟩:=h
 rw [J1] at hready
 have hne:is≠[]:=by rintro rfl; simp at hne
 obtain ⟨i0,hi0⟩:=List.exists_mem_of_ne_nil is hne
 have hlm:=(Ek (h1 i0 hi0).1).1
 obtain ⟨f,rfl⟩:∃ g,f=g+1:=⟨f - 1,by omega⟩
 have key:∀ k,Dt n m ops l k=true→Cj n ops k e=true→GE P S n m L ops l k e w→∀ w1,Ext w w1→k< m∧gOp P S ops k (K2 P S ops m (fun listed a' w'=>listed=fin ops m∧∃ e',Sees n a' e'∧L e' w') f ((lst ops.size l).setIfInBounds k true)) a w1:=by
  intro k hk1 hk2 HK w1 hx
  obtain ⟨_,him,hd,hi,hr⟩:=Ek hk1
  refine ⟨him,?_⟩
  simp only [Cj,AW] at hk2
  unfold gOp
  simp only [hi]
  rw [ha.want,hk2.2,if_pos rfl,ha.eval]
  refine Ej (fun v w2 _ hq=>?_) (HK w1 hx)
  have:=hq hB f (a.put (Ae ops k).dst v) (by simp only [List.length_cons]; omega) (ha.OB hd v) (by rw [Du]; exact inv.set hr him)
  rwa [Du] at this
 refine ⟨by rw [hready]; exact hne,fun w1 hx k hk=>?_⟩
 rw [hready] at hk
 exact key k (h1 k hk).1 (h1 k hk).2 (H k hk) w1 hx
end
theorem Ro {a b:Int}(ha:0≤a∧a< 4611686018427387904) (hb:0≤b∧b< 4611686018427387904) :
 IntKind.i64.wrap ((BitVec.ofInt 64 a ^^^ BitVec.ofInt 64 b).toNat:Int)=((a.toNat ^^^ b.toNat:Nat):Int)∧a.toNat ^^^ b.toNat< 4611686018427387904:=by
 have h1:(BitVec.ofInt 64 a).toNat=a.toNat:=by rw [BitVec.toNat_ofInt]; omega
 have h2:(BitVec.ofInt 64 b).toNat=b.toNat:=by rw [BitVec.toNat_ofInt]; omega
 have h3:a.toNat ^^^ b.toNat< 2 ^ 62:=Nat.xor_lt_two_pow AB AB
 rw [BitVec.toNat_xor,h1,h2]
 exact ⟨IntWalk.i64_in _ AB,by omega⟩
theorem WS {P:Program}{t:TypeId}{x y:Operand}{a b:Int}(ha:0≤a∧a< 4611686018427387904) (hb:0≤b∧b< 4611686018427387904) (w:World) :
 (do eqGuard .xor t x y (.int .i64 a) (.int .i64 b); binOp .xor t (.int .i64 a) (.int .i64 b)).run P w=.ok (.int .i64 ((a.toNat ^^^ b.toNat:Nat):Int)) w:=by
 have h1:(eqGuard .xor t x y (.int .i64 a) (.int .i64 b)).run P w=.ok () w:=rfl
 rw [AX h1,← (Ro ha hb).1]
 rfl
section
variable {P:Program} {n:Nat} {K:Env→World→Prop} {ops:Array Oper} {j:Nat} {e:Env} {w:World}
theorem RG.xor {t:TypeId}{a b:Int}(h:F0 n ops j e=some (.xor,t,.int .i64 a,.int .i64 b)) (ha:0≤a∧a< 4611686018427387904) (hb:0≤b∧b< 4611686018427387904)
 (H:RG P n K ops (j+1) (Am e (Ae ops j).dst (.int .i64 ((a.toNat ^^^ b.toNat:Nat):Int))) w):RG P n K ops j e w :=
 have h1:=Dk (P:=P) (w:=w) h (fun _ _=>WS ha hb w)
 RG.val h1.1 h1.2 H
end
theorem GA.quo {P:Program}{S:Nat→Prop}{n m:Nat}{L:Env→World→Prop}{ops:Array Oper}{l:List Nat}{e:Env}{w:World}{i:Nat}{t:TypeId}{a b:Int}(hb:gB n m ops l i=true) (h:F0 n ops i e=some (.quo,t,.int .i64 a,.int .i64 b)) (hb0:b≠0) (hr:-9223372036854775808≤a.tdiv b∧a.tdiv b≤9223372036854775807)
 (H:GA P S n m L ops (i::l) (Am e (Ae ops i).dst (.int .i64 (a.tdiv b))) w):GA P S n m L ops l e w :=
 GA.L1 hb (fun w=>Dk h (fun _ _=>Rc hb0 hr w)) H
section
variable {α:Type} [Rep α] {w:World} {G F:Nat→Prop} {M:List Nat} {o:Option Addr} {n c r b s:Nat} {t:TypeId} {xs:List α}
theorem RepS.MF (h:RepS w (nin G M) o n c xs) (hb:b∈M):RepS w (nin all [b]) o n c xs:=h.Bx fun k _ hk=>⟨trivial,fun e=>hk.2 (by simp at e; exact e▸hb)⟩
theorem Own.MF (h:Own w r t (nin G M) n c xs) (hb:b∈M) (hr:Nb r b):RepS w (nin all [b]) (some ⟨r,0,none⟩) n c xs :=
 h.PD (fun k _ hk=>⟨trivial,fun e=>hk.2 (by simp at e; exact e▸hb)⟩) ⟨trivial,fun e=>hr.ne (by simpa using e)⟩
theorem RepS.Zj (h:RepS w (nin G M) o n c xs) (hb:b∈M):RepS w (nin G [b]) o n c xs:=h.Bx fun k _ hk=>⟨hk.1,fun e=>hk.2 (by simp at e; exact e▸hb)⟩
end
theorem Cov.mk1 (w:World) (b:Nat):Cov (Go.Proofs.YtckdhcbbgmiccaaGreatDoor.one b) w b:=⟨.inl rfl⟩
instance {w:World}{b:Nat}:Cov (Go.Proofs.YtckdhcbbgmiccaaGreatDoor.one b) w b:=⟨.inl rfl⟩
variable {w:World} {F:Nat→Prop}
theorem RepS.YN {α:Type}[Rep α] {M:List Nat}{b s s' n c:Nat}{o:Option Addr}{xs:List α}(h:RepS w (nin (fo (nin (fo F s') M) s) [b]) o n c xs) (hM:∀ k∈M,k< s) (hs:s'≤s):RepS w (nin (fo F s') (b::M)) o n c xs :=
 h.Bx fun k _ hF=>by
  have hb:k≠b:=fun e=>hF.2 (by simp [e])
  rcases hF.1 with h1 | h1
  ·exact ⟨h1.1,by simp [hb]; exact h1.2⟩
  ·exact ⟨.inr AB,by
    intro hm
    rcases List.mem_cons.1 hm with hm | hm
    ·exact hb hm
    ·have:=hM k hm; omega⟩
theorem T1 {a:Int}{n:Nat}(ha:0≤a) (hn:(n:Int)≠0):(Int.tmod a n).toNat< n:=by
 have h1:=Int.tmod_nonneg (n:Int) ha
 have h2:=Int.tmod_lt_of_pos a (show (0:Int)< n by omega)
 omega
theorem T3 {a:Int}{n:Nat}(ha:0≤a):Int.tmod a n=((Int.tmod a n).toNat:Int):=by
 have h1:=Int.tmod_nonneg (n:Int) ha
 omega
theorem Xt {a n:Int}(ha:0≤a) (hn:¬ n< 1):0≤Int.tmod a n∧(Int.tmod a n< n∨Int.tmod a n=0):=by
 have h1:=Int.tmod_nonneg n ha
 have h2:=Int.tmod_lt_of_pos a (show (0:Int)< n by omega)
 omega
theorem Xu {a n:Int}(ha:0≤a) (hn:0≤n):0≤Int.tdiv a n∧Int.tdiv a n≤a:=by
 refine ⟨Int.tdiv_nonneg ha hn,?_⟩
 rw [Int.tdiv_eq_ediv_of_nonneg ha]
 exact Int.ediv_le_self n ha
def YO (t:Tag):Prop:=t.key∈[[97],[98],[99]]∧t.val∈[[112],[113],[122],[],[111],[112,112]]
def NmD (n:List Tag):Prop:=n.length≤5∧∀ t∈n,YO t
def PT (r:Row):Prop:=-1≤r.t∧r.t≤100 ∧ -100≤r.v∧r.v≤100
end Go.Proofs.YtckdhcbbgmiccaaGreatDoor
namespace Go.Proofs.YtckdhcbbgmiccaaGreatDoor
set_option maxRecDepth 100000
set_option maxHeartbeats 4000000
variable {w:World} {F:Nat→Prop} {a1:Option Addr} {n1 c1:Nat}
theorem ND (code:List UInt8) (h1:RepS w F a1 n1 c1 code)  : Calls Tryz.prog 13 [.slice a1 n1 c1].toArray w (Al fun rv w'=>(∃ (D:List UInt8) (b:Nat) (a:Option Addr) (c:Nat),rv=.pointer (some ⟨b,0,none⟩)∧w.heap.size≤b∧Box w' b 56 [.slice a D.length c,.int .i64 ((0:Nat):Int)]∧RepS w' (nin (fo F w.heap.size) [b]) a D.length c D)∧Ext w w'):=by
 refine goT func13 ?_
 obtain ⟨rfl,aA,h1⟩:=h1.tp
 refine .s<|.g<|.r 1<|.d<|.s<|.s<|.g<|.r 2<|.bp ((code.length:Int) > 2000) (fun ag=>?_) (fun ag=>?_)
 ·refine .d<|.ct<|.g<|.r 1<|RG.sub (t:=22) (lo:=none) (hi:=some (vI 2000)) h1 0 2000 AA AA (.inl ⟨rfl,rfl⟩) (.inr ⟨_,_,rfl,by omega⟩) AB AB fun ar ax E=>?_
  refine .r 1<|.d<|.s<|.g<|.r 2<|.np 56 [.slice ar (2000 - 0) ax,vI 0] fun ay aD aa ab af ah=>?_
  have ai:=Bq aa (Nat.le_refl _)
  replace ⟨h1,E⟩:=(sn [] ab aa).g2 h1 E
  have aj:=ab
  refine .r 1<|.d ?_
  have ak:=E.len; rw [ak] at E af
  exact .rt func13 results13 (.pointer (some ⟨ay,0,none⟩)) ⟨⟨_,_,_,_,rfl,ai,af,(RepS.Zj E AI)⟩,aj⟩
 refine .d<|.cf<|.sk<|.s<|.g<|.r 2<|.np 56 [.slice a1 code.length c1,vI 0] fun az aE ac ae al am=>?_
 have ao:=Bq ac (Nat.le_refl _)
 replace h1:=(sn [] ae ac).g1 h1
 have aq:=ae
 exact .r 1<|.d<|.rt func13 results13 (.pointer (some ⟨az,0,none⟩)) ⟨⟨_,_,_,_,rfl,ao,al,(RepS.Zj h1 AI)⟩,aq⟩
theorem BV (n:Int){F:Nat→Prop}{b:Nat}{ad:Option Addr}{cd p:Nat}{D:List UInt8}(hr:Box w b 56 [.slice ad D.length cd,.int .i64 (p:Int)]) (hD:RepS w (nin all [b]) ad D.length cd D) (hp:p+1≤1000000000)  : Calls Tryz.prog 14 [.pointer (some ⟨b,0,none⟩),.int .i64 n].toArray w (Al fun rv w'=>(∃ (y:Int),rv=.int .i64 (y)∧(0≤y∧(y< n∨y=0)))∧∃ p':Nat,p'≤p+1∧Box w' b 56 [.slice ad D.length cd,.int .i64 (p':Int)]∧Chg (one b) w w'):=by
 refine goT func14 ?_
 have Z:=St.i1 F hr hD
 have ao:=hD.max
 refine .s<|.g<|.r 1<|.d<|.s<|.g<|.r 4<|RG.Lb 0 Z<|.it ((p:Int)+1)<|.r 2<|RG.Ss 0 Z fun w Z=>.d<|.s<|.s<|.g<|.r 1<|.bp (n< 1) (fun ah=>.r 8<|.d<|.ct<|.s<|.g<|.r 1<|.d<|T.rt func14 results14 (vI 0) ⟨⟨(0:Int),(congrArg (Value.int .i64) AF),AB⟩,p+1,by omega,Z.bc 0,Z.xr⟩) fun ah=>.r 4<|RG.Lb 0 Z<|.r 1<|.eq (D.length:Int) 0 (fun ai=>.r 1<|.d<|.ct<|.s<|.g<|.r 1<|.d<|T.rt func14 results14 (vI 0) ⟨⟨(0:Int),(congrArg (Value.int .i64) AF),AB⟩,p+1,by omega,Z.bc 0,Z.xr⟩) fun ai=>.r 1<|.d<|.cf<|.sk<|.s<|.g<|.r 3<|RG.Lb 0 Z<|.it (((p:Int)+1) - 1)<|.r 1<|.d<|.s<|.s<|.g<|.r 4<|RG.Lb 0 Z<|.r 1<|.bp (((p:Int)+1) - 1< (D.length:Int)) (fun aj=>?_) (fun aj=>?_)
 ·refine .d<|.ct<|.s<|.g<|.r 3<|RG.Lb 0 Z<|.r 1<|gx (h:=AB) D ((((p:Int)+1) - 1).toNat) fun af ab=>?_
  have ar:=UInt8.toNat_lt af
  exact RG.Jx (hz:=AB) 0 (((p:Int)+1) - 1) ab Z<|Z.el 0 ab fun Z=>RG.Lh 0 0 Z<|.it ((af.toNat:Int))<|.r 1<|RG.rem (t:=3) (k:=.i64) (a:=(af.toNat:Int)) (b:=n) AA AB<|.r 1<|.d<|T.rt func14 results14 (vI (Int.tmod (af.toNat:Int) n)) ⟨⟨((Int.tmod (af.toNat:Int) n):Int),(congrArg (Value.int .i64) AF),(by exact Xt AB ‹_›)⟩,p+1,by omega,Z.bc 0,Z.xr⟩
 refine .d<|.cf<|.sk<|.s<|T.Gd 44 Z fun w Z=>.r [0,1,2]<|GA.Lb 3 0 Z<|.r [4,5,6,7]<|GA.Lb 8 0 Z<|.r [9]<|GA.rem (i:=10) (t:=3) (k:=.i64) (a:=((p:Int)+1) - 1) (b:=(D.length:Int)) AA AA AB<|gx (h:=(by exact T1 AB AB)) D (((Int.tmod (((p:Int)+1) - 1) (D.length:Int))).toNat) fun E ac=>?_
 have ay:=UInt8.toNat_lt E
 refine GA.Jx (hz:=(by exact T3 AB)) 11 0 (Int.tmod (((p:Int)+1) - 1) (D.length:Int)) ac Z<|Z.el 0 ac fun Z=>GA.Lh 12 0 0 Z<|GA.int (i:=13) ((E.toNat:Int)) AA AB<|GA.int (i:=14) ((E.toNat:Int) * 131) AA AB<|.r [15,16,17]<|GA.Lb 18 0 Z<|.r [19]<|GA.int (i:=20) ((((p:Int)+1) - 1) * 7) AA AB<|GA.int (i:=21) ((((p:Int)+1) - 1) * 7+3) AA AB<|.r [22,23,24]<|GA.Lb 25 0 Z<|.r [26]<|GA.rem (i:=27) (t:=3) (k:=.i64) (a:=(((p:Int)+1) - 1) * 7+3) (b:=(D.length:Int)) AA AA AB<|gx (h:=(by exact T1 AB AB)) D (((Int.tmod ((((p:Int)+1) - 1) * 7+3) (D.length:Int))).toNat) fun aa ae=>?_
 have aA:=UInt8.toNat_lt aa
 refine GA.Jx (hz:=(by exact T3 AB)) 28 1 (Int.tmod ((((p:Int)+1) - 1) * 7+3) (D.length:Int)) ae Z<|Z.el 1 ae fun Z=>GA.Lh 29 0 0 Z<|GA.int (i:=30) ((aa.toNat:Int)) AA AB<|GA.int (i:=31) ((aa.toNat:Int) * 1117) AA AB<|GA.int (i:=32) ((E.toNat:Int) * 131+((aa.toNat:Int) * 1117)) AA AB<|.r [33]<|GA.int (i:=34) ((((p:Int)+1) - 1) * 29) AA AB<|GA.int (i:=35) ((E.toNat:Int) * 131+((aa.toNat:Int) * 1117)+((((p:Int)+1) - 1) * 29)) AA AB<|.r [36,37,38,39]<|GA.Lb 40 0 Z<|.r [41] ?_
 have aB:=Xu (a:=((p:Int)+1) - 1) (n:=(D.length:Int)) AB AB
 refine GA.quo (i:=42) (t:=3) (a:=((p:Int)+1) - 1) (b:=(D.length:Int)) AA AA AB AB<|GA.int (i:=43) ((Int.tdiv (((p:Int)+1) - 1) (D.length:Int)) * 53) AA AB<|GA.Dn Z fun w Z=>.it ((E.toNat:Int) * 131+((aa.toNat:Int) * 1117)+((((p:Int)+1) - 1) * 29)+((Int.tdiv (((p:Int)+1) - 1) (D.length:Int)) * 53))<|.r 1<|.d<|.s<|.g<|.r 2 ?_
 have aC:=Xu (a:=(E.toNat:Int) * 131+((aa.toNat:Int) * 1117)+((((p:Int)+1) - 1) * 29)+((Int.tdiv (((p:Int)+1) - 1) (D.length:Int)) * 53)) (n:=64) AB AB
 refine RG.quo (t:=3) (a:=(E.toNat:Int) * 131+((aa.toNat:Int) * 1117)+((((p:Int)+1) - 1) * 29)+((Int.tdiv (((p:Int)+1) - 1) (D.length:Int)) * 53)) (b:=64) AA AB AB<|RG.xor (t:=3) (a:=(E.toNat:Int) * 131+((aa.toNat:Int) * 1117)+((((p:Int)+1) - 1) * 29)+((Int.tdiv (((p:Int)+1) - 1) (D.length:Int)) * 53)) (b:=(Int.tdiv ((E.toNat:Int) * 131+((aa.toNat:Int) * 1117)+((((p:Int)+1) - 1) * 29)+((Int.tdiv (((p:Int)+1) - 1) (D.length:Int)) * 53)) 64)) AA AB AB ?_
 obtain ⟨ag,aD,hz35e⟩:∃ z:Nat,z< 4611686018427387904∧((((E.toNat:Int) * 131+((aa.toNat:Int) * 1117)+((((p:Int)+1) - 1) * 29)+((Int.tdiv (((p:Int)+1) - 1) (D.length:Int)) * 53)).toNat ^^^ ((Int.tdiv ((E.toNat:Int) * 131+((aa.toNat:Int) * 1117)+((((p:Int)+1) - 1) * 29)+((Int.tdiv (((p:Int)+1) - 1) (D.length:Int)) * 53)) 64)).toNat:Nat):Int)=(z:Int):=⟨_,(Ro AB AB).2,rfl⟩
 rw [hz35e]
 exact .r 1<|.d<|.s<|.g<|.r 2<|RG.rem (t:=3) (k:=.i64) (a:=(ag:Int)) (b:=n) AA AB<|.r 1<|.d<|T.rt func14 results14 (vI (Int.tmod (ag:Int) n)) ⟨⟨((Int.tmod (ag:Int) n):Int),(congrArg (Value.int .i64) AF),(by exact Xt AB ‹_›)⟩,p+1,by omega,Z.bc 0,Z.xr⟩
theorem Bo (list:List Txt){b:Nat}{ad:Option Addr}{cd p:Nat}{D:List UInt8}(hr:Box w b 56 [.slice ad D.length cd,.int .i64 (p:Int)]) (hD:RepS w (nin all [b]) ad D.length cd D) (hp:p+1≤1000000000) (h1:RepS w (nin F [b]) a1 n1 c1 list) (p0:0< list.length):Calls Tryz.prog 28 [.pointer (some ⟨b,0,none⟩),.slice a1 n1 c1].toArray w (Al fun rv w'=>(∃ (y:Str),rv=.string (bs (y))∧((⟨y⟩:Txt)∈list))∧∃ p':Nat,p'≤p+1∧Box w' b 56 [.slice ad D.length cd,.int .i64 (p':Int)]∧Chg (one b) w w'):=by
 cases h1.len
 refine goT func28 ?_
 have Z:=(St.i1 F hr hD).p1 h1
 have ai:=h1.max
 refine .s<|.g<|.r 1<|.d<|.s<|.g<|.r 4<|RG.cl (BV (list.length:Int) (Z.bc 0) (Z.rd 0 1) AB (D:=D) (p:=p) (F:=all)) ?_
 rintro _ w ⟨⟨aa,rfl,aj⟩,ag,ak,ab,ac⟩
 have Z:=Z.rx 0 ac ab
 exact gxm list (aa.toNat) fun ae E af=>RG.Jx 0 aa E Z<|Z.el 0 E fun Z=>RG.Lh 0 0 Z<|.r 1<|.d<|T.rt func28 results28 (vT ae.s) ⟨⟨(ae.s:Str),(congrArg (fun s=>Value.string (bs s)) AF),‹_›⟩,ag,by omega,Z.bc 0,Z.xr⟩
end Go.Proofs.YtckdhcbbgmiccaaGreatDoor
namespace Go.Proofs.YtckdhcbbgmiccaaGreatDoor
def WT (P:Program) (s d:TypeId):Bool :=
 match P.underlying s,P.underlying d with
 | some (.slice e),some .string=>(match P.underlying e with | some (.int .u8)=>true | _=>false)
 | _,_=>false
theorem MG {P:Program}{w:World}{r:Nat}{src dst:TypeId}{y:UInt8}{c:Nat}(h:Has w ⟨r,0,none⟩ [.int .u8 (y.toNat:Int)]) (hb:WT P src dst=true) :
 (convert src dst (.slice (some ⟨r,0,none⟩) 1 c)).run P w=.ok (.string (bs [y])) w:=by
 unfold WT at hb
 split at hb
 ·rename_i e h1 h2
  split at hb
  ·rename_i h3
   have h4:=run_loadCellsFrom (P:=P) ⟨r,0,none⟩ [.int .u8 (y.toNat:Int)] 0 #[] _ rfl h
   have h5:(loadCells ⟨r,0,none⟩ 1).run P w=.ok #[.int .u8 (y.toNat:Int)] w:=h4
   have h6:(Conv.bytesToString (.slice (some ⟨r,0,none⟩) 1 c)).run P w=.ok (.string (bs [y])) w:=by
    unfold Conv.bytesToString
    simp only []
    rw [AX h5]
    simp [go_sem]
    rfl
   unfold convert
   rw [AX (run_underlying h1 w),AX (run_underlying h2 w)]
   simp only []
   rw [AX (run_underlying h3 w)]
   exact h6
  ·cases hb
 ·cases hb
def T4 (n:Nat) (ops:Array Oper) (j:Nat) (e:Env):Option (TypeId × TypeId × Value) :=
 bif Cj n ops j e then
  match (Ae ops j).op with
  | .convert s d x=>some (s,d,ev e x)
  | _=>none
 else none
theorem KB {P:Program}{n:Nat}{ops:Array Oper}{j:Nat}{e:Env}{s d:TypeId}{a v:Value}{w:World}(h:T4 n ops j e=some (s,d,a))
 (hr:(convert s d a).run P w=.ok v w):Cj n ops j e=true∧(execOp (ev e) (Ae ops j)).run P w=.ok (.value v) w:=by
 obtain ⟨hg,h⟩:=Ci h
 refine ⟨hg,?_⟩
 split at h
 ·rename_i s' d' x hop
  simp only [Option.some.injEq,Prod.mk.injEq] at h
  obtain ⟨rfl,rfl,rfl⟩:=h
  simp only [execOp,hop]
  exact AX hr
 ·cases h
theorem GA.b2s {P:Program}{n m:Nat}{L:Env→World→Prop}{ops:Array Oper}{l:List Nat}{e:Env}{w:World}{i:Nat}{s d:TypeId}{r c:Nat}{y:UInt8}{t:TypeId}{F:Nat→Prop}
 (hb:gB n m ops l i=true) (ho:Own w r t F 1 c [y]) (h:T4 n ops i e=some (s,d,.slice (some ⟨r,0,none⟩) 1 c)) (ht:WT P s d=true)
 (H:GA P nil n m L ops (i::l) (Am e (Ae ops i).dst (.string (bs [y]))) w):GA P nil n m L ops l e w:=by
 obtain ⟨cs,h1,h2⟩:=ho.elem 0 y rfl
 cases h1
 have h3:Has w ⟨r,0,none⟩ [.int .u8 (y.toNat:Int)]:=by simpa using h2
 have h4:=KB (P:=P) (w:=w) h (MG h3 ht)
 refine GA.det (by unfold gB at hb; rw [hb,h4.1]; rfl) (fun w1 hx=>?_) H
 exact (KB (P:=P) (w:=w1) h (MG (h3.ext hx) ht)).2
def HN (at_:UInt8) (out:List Txt):List UInt8→List Txt
 | []=>out
 | x::xs=>if x=at_ then HN at_ (out++[⟨[]⟩]) xs else HN at_ (out.set (out.length - 1) ⟨(out.getD (out.length - 1) ⟨[]⟩).s++[x]⟩) xs
def AZ (s:List UInt8) (at_:UInt8):List Txt:=HN at_ [⟨[]⟩] s
theorem T5 {at_:UInt8}{s:List UInt8}{i:Nat}{out:List Txt}{x:UInt8}{Y:List Txt}(h:HN at_ out (s.drop i)=Y) (hd:s.drop i=x::s.drop (i+1)) (he:(x.toNat:Int)=(at_.toNat:Int)):HN at_ (out++[⟨[]⟩]) (s.drop (i+1))=Y:=by
 have:x=at_:=UInt8.toNat_inj.1 AB
 rw [hd] at h
 unfold HN at h
 rw [if_pos this] at h
 exact h
theorem T6 {at_:UInt8}{s:List UInt8}{i:Nat}{out:List Txt}{x:UInt8}{Y:List Txt}{t:Txt}{k:Nat}(h:HN at_ out (s.drop i)=Y) (hd:s.drop i=x::s.drop (i+1)) (he:(x.toNat:Int)≠(at_.toNat:Int)) (hk:k=out.length - 1) (ht:out[k]? = some t):HN at_ (out.set k ⟨t.s++[x]⟩) (s.drop (i+1))=Y:=by
 have:x≠at_:=fun e=>he (by rw [e])
 rw [hd] at h
 unfold HN at h
 rw [if_neg this,List.getD_eq_getElem?_getD,← hk,ht] at h
 exact h
theorem YP {at_:UInt8}{s:List UInt8}{i:Nat}{out:List Txt}{Y:List Txt}(h:HN at_ out (s.drop i)=Y) (hi:s.length≤i):out=Y:=by
 rw [Ac hi] at h
 exact h
def JK (s:Str):Bool:=decide (s.length=4)&&decide (s[1]? = some 33)
def F4 (s:Str):Str:=if JK s then s.take 1++s.drop 2 else s
def ES (s:Str):Cnd × Bool :=
 if (F4 s).length=3∧(F4 s)[1]? = some 61 then (⟨⟨(F4 s).take 1,(F4 s).drop 2⟩,JK s⟩,CD ⟨(F4 s).take 1,(F4 s).drop 2⟩) else (⟨⟨[],[]⟩,JK s⟩,false)
def HC:List Cnd→List Txt→List Cnd × Bool
 | out,[]=>(out,true)
 | out,t::ts=>if (ES t.s).2=false∨out.length≥3 then ([],false) else HC (out++[(ES t.s).1]) ts
def BI (s:Str):List Cnd × Bool:=if s=[42] then ([],true) else HC [] (AZ s 44)
def Cn:List Tag→List Cnd→Option (List Tag)
 | out,[]=>some out
 | out,c::cs=>if c.no then none else Cn (out++[c.tag]) cs
def EI (s:Str):List Tag:=match Cn [] (BI s).1 with
 | some out=>if (BI s).2=true∧Ar out=true then out else []
 | none=>[]
theorem KC {w:Str}(h:(w.length:Int)≠4):JK w=false∧F4 w=w:=by
 have:JK w=false:=by unfold JK; rw [decide_eq_false AB]; rfl
 exact ⟨this,by unfold F4; rw [this]; rfl⟩
theorem KD {w:Str}{y:UInt8}(h:(w.length:Int)=4) (hy:w[1]? = some y) (h2:(y.toNat:Int)≠33):JK w=false∧F4 w=w:=by
 have:JK w=false:=by
  unfold JK
  rw [hy,decide_eq_false (p:=some y=some 33),Bool.and_false]
  intro e
  cases e
  exact h2 rfl
 exact ⟨this,by unfold F4; rw [this]; rfl⟩
theorem KE {w:Str}{y:UInt8}(h:(w.length:Int)=4) (hy:w[1]? = some y) (h2:(y.toNat:Int)=33):JK w=true∧F4 w=((w.take 1).drop 0)++((w.take w.length).drop 2):=by
 have hy2:y=33:=UInt8.toNat_inj.1 (by show y.toNat=33; omega)
 have:JK w=true:=by
  unfold JK
  rw [hy,hy2,decide_eq_true AB]
  rfl
 exact ⟨this,by unfold F4; rw [this]; simp⟩
theorem DI {w u:Str}{b:Bool}(h:JK w=b∧F4 w=u) (h2:(u.length:Int)≠3∨(∃ z,u[1]? = some z∧(z.toNat:Int)≠61)):ES w=(⟨⟨[],[]⟩,b⟩,false):=by
 obtain ⟨rfl,rfl⟩:=h
 unfold ES
 rw [if_neg]
 rintro ⟨h3,h4⟩
 rcases h2 with h2 | ⟨z,h2,h5⟩
 ·omega
 ·rw [h2] at h4
  cases h4
  exact h5 rfl
theorem FQ {w u:Str}{b:Bool}{z:UInt8}(h:JK w=b∧F4 w=u) (h1:(u.length:Int)=3) (h2:u[1]? = some z) (h3:(z.toNat:Int)=61) :
 ES w=(⟨⟨(u.take 1).drop 0,(u.take u.length).drop 2⟩,b⟩,CD ⟨(u.take 1).drop 0,(u.take u.length).drop 2⟩):=by
 obtain ⟨rfl,rfl⟩:=h
 have hz:z=61:=UInt8.toNat_inj.1 (by show z.toNat=61; omega)
 unfold ES
 rw [if_pos ⟨by omega,by rw [h2,hz]⟩]
 simp
theorem YQ {out:List Txt}{i k:Nat}{t:Txt}{y:UInt8}(h:∀ t∈out,t.s.length≤i) (ht:out[k]? = some t):∀ t'∈out.set k ⟨t.s++[y]⟩,t'.s.length≤i+1:=by
 intro t' ht'
 rcases List.mem_or_eq_of_mem_set ht' with ht' | rfl
 ·have:=h t' ht'; omega
 ·have:=h t (AV ht)
  simp only [List.length_append,List.length_cons,List.length_nil]; omega
theorem Rp {out:List Txt}{i:Nat}(h:∀ t∈out,t.s.length≤i):∀ t'∈out++[⟨[]⟩],t'.s.length≤i+1:=by
 intro t' ht'
 rcases List.mem_append.1 ht' with ht' | ht'
 ·have:=h t' ht'; omega
 ·simp at ht'; subst ht'; simp
theorem T7 (a:UInt8):∀ (s:List UInt8) (out:List Txt) (i:Nat),(∀ t∈out,t.s.length≤i)→(∀ t∈HN a out s,t.s.length≤i+s.length)∧(HN a out s).length≤out.length+s.length:=by
 intro s
 induction s with
 | nil=>intro out i h; exact ⟨fun t ht=>by have:=h t ht; simpa using this,by unfold HN; simp⟩
 | cons x xs ih =>
   intro out i h
   unfold HN
   split
   ·obtain ⟨h1,h2⟩:=ih (out++[⟨[]⟩]) (i+1) (Rp h)
    refine ⟨fun t ht=>?_,?_⟩
    ·have:=h1 t ht; simp only [List.length_cons]; omega
    ·simp only [List.length_append,List.length_cons,List.length_nil] at h2 ⊢; omega
   ·have h3:∀ t∈out.set (out.length - 1) ⟨(out.getD (out.length - 1) ⟨[]⟩).s++[x]⟩,t.s.length≤i+1:=by
     intro t ht
     rcases List.mem_or_eq_of_mem_set ht with ht | rfl
     ·have:=h t ht; omega
     ·rw [List.getD_eq_getElem?_getD]
      cases hq:out[out.length - 1]? with
      | none=>simp
      | some q=>have:=h q (AV hq); simp; omega
    obtain ⟨h1,h2⟩:=ih _ (i+1) h3
    refine ⟨fun t ht=>?_,?_⟩
    ·have:=h1 t ht; simp only [List.length_cons]; omega
    ·simp only [List.length_set,List.length_cons] at h2 ⊢; omega
theorem BO (s:List UInt8) (a:UInt8):(∀ t∈AZ s a,t.s.length≤s.length)∧(AZ s a).length≤s.length+1:=by
 obtain ⟨h1,h2⟩:=T7 a s [⟨[]⟩] 0 AD
 refine ⟨fun t ht=>by have:=h1 t ht; omega,?_⟩
 unfold AZ
 simp only [List.length_cons,List.length_nil] at h2; omega
theorem Lc {out:List Cnd}{ts:List Txt}{i:Nat}{t:Txt}{Y:List Cnd × Bool}(h:HC out (ts.drop i)=Y) (hd:ts.drop i=t::ts.drop (i+1)) (h2:(ES t.s).2=false∨(out.length:Int)≥3):Y=([],false):=by
 rw [hd] at h
 unfold HC at h
 rw [if_pos (by rcases h2 with h2 | h2; exact .inl h2; exact .inr AB)] at h
 exact h.symm
theorem T8 {out:List Cnd}{ts:List Txt}{i:Nat}{t:Txt}{Y:List Cnd × Bool}(h:HC out (ts.drop i)=Y) (hd:ts.drop i=t::ts.drop (i+1)) (h2:(ES t.s).2=true) (h3:¬ (out.length:Int)≥3):HC (out++[(ES t.s).1]) (ts.drop (i+1))=Y:=by
 rw [hd] at h
 unfold HC at h
 rw [if_neg (by rw [h2]; simp; omega)] at h
 exact h
theorem Rq {out:List Cnd}{ts:List Txt}{i:Nat}{Y:List Cnd × Bool}(h:HC out (ts.drop i)=Y) (hi:ts.length≤i):Y=(out,true):=by
 rw [Ac hi] at h
 exact h.symm
theorem So:∀ (ts:List Txt) (out:List Cnd),out.length≤3→(HC out ts).1.length≤3:=by
 intro ts
 induction ts with
 | nil=>intro out h; exact h
 | cons t ts ih =>
   intro out h
   unfold HC
   split
   ·simp
   ·rename_i h2
    refine ih _ ?_
    simp only [not_or] at h2
    simp only [List.length_append,List.length_cons,List.length_nil]; omega
theorem H5 (s:Str):(BI s).1.length≤3:=by
 unfold BI
 split
 ·simp
 ·exact So _ _ AD
theorem MH {s:Str}(h:(s==[42])=true):BI s=([],true):=by unfold BI; rw [if_pos (by simpa using h)]
theorem Qk {s:Str}(h:(s==[42])=false):HC [] (AZ s 44)=BI s:=by unfold BI; rw [if_neg (by simpa using h)]
theorem JL {out:List Tag}{cs:List Cnd}{i:Nat}{c:Cnd}{Y:Option (List Tag)}(h:Cn out (cs.drop i)=Y) (hd:cs.drop i=c::cs.drop (i+1)) (h2:c.no=true):Y=none:=by
 rw [hd] at h
 unfold Cn at h
 rw [if_pos h2] at h
 exact h.symm
theorem PU {out:List Tag}{cs:List Cnd}{i:Nat}{c:Cnd}{Y:Option (List Tag)}(h:Cn out (cs.drop i)=Y) (hd:cs.drop i=c::cs.drop (i+1)) (h2:c.no=false):Cn (out++[c.tag]) (cs.drop (i+1))=Y:=by
 rw [hd] at h
 unfold Cn at h
 rw [if_neg (by rw [h2]; simp)] at h
 exact h
theorem PV {s:Str}(h:Cn [] (BI s).1=none):EI s=[]:=by unfold EI; rw [h]
theorem NZ {s:Str}{out:List Tag}{i:Nat}(h:Cn out ((BI s).1.drop i)=Cn [] (BI s).1) (hi:(BI s).1.length≤i):EI s=if (BI s).2=true∧Ar out=true then out else []:=by
 rw [Ac hi] at h
 unfold EI
 rw [← h]
 rfl
theorem PW {s:Str}{out:List Tag}{i:Nat}(h:Cn out ((BI s).1.drop i)=Cn [] (BI s).1) (hi:(BI s).1.length≤i) (h2:(BI s).2=false∨Ar out=false):EI s=[]:=by
 rw [NZ h hi,if_neg]
 rintro ⟨h3,h4⟩
 rcases h2 with h2 | h2
 ·rw [h2] at h3; cases h3
 ·rw [h2] at h4; cases h4
theorem T9 {s:Str}{out:List Tag}{i:Nat}(h:Cn out ((BI s).1.drop i)=Cn [] (BI s).1) (hi:(BI s).1.length≤i) (h2:(BI s).2=true) (h3:Ar out=true):EI s=out:=by
 rw [NZ h hi,if_pos ⟨h2,h3⟩]
end Go.Proofs.YtckdhcbbgmiccaaGreatDoor
namespace Go.Proofs.YtckdhcbbgmiccaaGreatDoor
set_option maxRecDepth 100000
set_option maxHeartbeats 4000000
variable {w:World} {F:Nat→Prop}
theorem G1 (text_:Str) (by_:UInt8){F:Nat→Prop}  (p0:text_.length≤1000):Calls Tryz.prog 23 [.string (bs text_),.int .u8 (by_.toNat:Int)].toArray w (Al fun rv w'=>VL (ge w.heap.size) w' (AZ text_ by_:List Txt) rv∧Ext w w'):=by
 refine goT func23 ?_
 have Z:=St.i0 F w
 refine .s<|.g<|.r 1<|.d<|.s<|.g<|RG.Nl 0 ([(⟨[]⟩:Txt)]:List Txt) [] Z fun ai w Z=>.r 1<|.d<|.s<|.s<|.g<|.r 1<|.d<|.b 0<|T.Lp (([(⟨[]⟩:Txt)]:List Txt),ai,(1:Nat),(0:Nat)) (fun (out,r_out,c_out,i)=>([(0,vT text_),(1,.int .u8 (by_.toNat:Int)),(5,vS r_out out.length c_out),(6,vI (i:Int))],[(0,.own 0 r_out 9 c_out out)],[],text_.length - i,(i≤text_.length)∧(0< out.length)∧(out.length≤i+1)∧(∀ t∈out,t.s.length≤i)∧(HN by_ out (text_.drop i)=AZ text_ by_))) [] Z ⟨AD,AD,AD,AD,AF⟩ ?_
 rintro ⟨out,r_out,c_out,i⟩ aA w Z ⟨al,am,ao,aq,ar⟩ aa
 refine .s<|.s<|.g<|.r 2<|RG.eqv (v:=vI (text_.length:Int)) AA (CA text_)<|.bp ((i:Int)< (text_.length:Int)) (fun af=>?_) (fun af=>.d<|.cf<|.x 0 rfl<|.s<|.g<|.r 2<|.d<|T.Rt func23 results23 ⟨Z.rM 0 out (by exact YP ‹_› AB),Z.xt⟩)
 refine .d<|.ct<|.sk<|.s<|.b 1<|.s<|.g<|.r 2 ?_
 obtain ⟨ab,ac⟩:∃ y,text_[i]? = some y:=⟨_,AU AB⟩
 have ay:=drop_at ac
 exact RG.GX (t:=9) (s:=text_) (k:=.i64) (i:=(i:Int)) i AA AA AB ac<|.r 1<|.eq (ab.toNat:Int) (by_.toNat:Int) (fun ag=>.d<|.ct<|.g<|.r 1<|RG.Nb 1 Z fun aB w Z=>RG.Ap 0 0 out (⟨[]⟩:Txt) [] Z fun aj ak w Z=>.r 1<|.d<|.ib 1<|.g<|.r 1<|.it ((i:Int)+1)<|.r 1<|.d<|aa ((out++[(⟨[]⟩:Txt)]),aj,ak,i+1) _ _ AA (Z.to 0 [] 0) ⟨AB,(by simp <;> omega),(by (simp <;> omega)),(by exact Rp ‹_›),(by exact T5 ‹_› ‹_› ‹_›)⟩ (by (simp only []; omega))) fun ag=>.d<|.cf<|T.Gd 16 Z fun w Z=>.r [0,1,2]<|GA.int (i:=3) ((out.length:Int) - 1) AA AB<|.r [4,5,6]<|GA.int (i:=7) ((out.length:Int) - 1) AA AB<|gxm out (out.length - 1) fun ae E ah=>GA.Jo 8 0 ((out.length:Int) - 1) E Z<|Z.eo 0 E fun Z=>GA.Lt 9 0 0 Z<|.r [10,11]<|GA.GX (i:=12) (t:=9) (s:=text_) (k:=.i64) (z:=(i:Int)) AA i AA AA AB ac<|.go 13<|GE.Nl 0 ([ab]:List UInt8) [] Z fun aC w Z=>GA.b2s (i:=14) (s:=22) (d:=9) (y:=ab) AA (Z.ow 0 ([ab]:List UInt8) AA).1 AA AA<|GA.cat (i:=15) (t:=9) (s:=ae.s) (u:=[ab]) AA AA (by have q1:∀ t∈out,t.s.length≤i:=‹_›; have q2:=q1 _ ‹_›; simp only [List.length_cons,List.length_nil]; omega)<|GA.Dn Z fun w Z=>RG.Jo 1 ((out.length:Int) - 1) E Z<|RG.Se 1 0 0 E (⟨(ae.s++[ab])⟩:Txt) [] Z fun w Z=>.d<|.ib 1<|.g<|.r 1<|.it ((i:Int)+1)<|.r 1<|.d<|aa ((out.set (out.length - 1) (⟨(ae.s++[ab])⟩:Txt)),r_out,c_out,i+1) _ _ (by simp only [List.length_set]; kernel_rfl) (Z.to 1 [] 0) ⟨AB,(by simp <;> omega),(by (simp <;> omega)),(by exact YQ ‹_› ‹_›),(by exact T6 ‹_› ‹_› ‹_› AB ‹_›)⟩ (by (simp only []; omega))
theorem NE (w_:Str){F:Nat→Prop}  (p0:w_.length≤1000):Calls Tryz.prog 101 [.string (bs w_)].toArray w (Al fun rv w'=>(∃ v0,rv=.tuple #[v0,.bool ((ES w_).2)]∧VS (ge w.heap.size) w' ((ES w_).1:Cnd) v0)∧Ext w w'):=by
 refine goT func101 ?_
 have Z:=St.i0 F w
 refine .s<|.g<|RG.Np Z fun aB w Z=>.r 1<|.d<|.s<|.g<|.r 1<|RG.Np Z fun aC w Z=>RG.Ss 0 Z fun w Z=>.d<|.s<|.s<|.g<|.r 1<|RG.eqv (v:=vI (w_.length:Int)) AA (CA w_)<|.eq (w_.length:Int) 4 (fun ae=>?_) (fun ae=>?_)
 ·refine .r 2 ?_
  obtain ⟨ac,E⟩:∃ y,w_[1]? = some y:=⟨_,AU AB⟩
  refine RG.GX (t:=9) (s:=w_) (k:=.i64) (i:=1) 1 AA AA AB E<|.eq (ac.toNat:Int) 33 (fun af=>?_) (fun af=>.r 1<|.d<|.cf<|.sk<|.s<|.s<|.g<|.r 1<|RG.eqv (v:=vI (w_.length:Int)) AA (CA w_)<|.ne (w_.length:Int) 3 (fun ag=>.r 5<|.d<|.ct<|.s<|.g<|RG.Ln 0 Z<|RG.Ss 1 Z fun w Z=>.r 1<|.d<|T.r2 func101 results101 (.B 1 Z) (.t (.bool false)) ⟨⟨_,(Bk rfl (AG (by rw [DI (KD ‹_› ‹_› ‹_›) (.inl ‹_›)]))),Z.rS (⟨(⟨[],[]⟩:Tag),false⟩:Cnd) [] (by rw [DI (KD ‹_› ‹_› ‹_›) (.inl ‹_›)])⟩,Z.xt⟩) fun ag=>.r 2<|RG.GX (t:=9) (s:=w_) (k:=.i64) (i:=1) 1 AA AA AB E<|.ne (ac.toNat:Int) 61 (fun ah=>.r 1<|.d<|.ct<|.s<|.g<|RG.Ln 0 Z<|RG.Ss 1 Z fun w Z=>.r 1<|.d<|T.r2 func101 results101 (.B 1 Z) (.t (.bool false)) ⟨⟨_,(Bk rfl (AG (by rw [DI (KD ‹_› ‹_› ‹_›) (.inr ⟨_,by assumption,by assumption⟩)]))),Z.rS (⟨(⟨[],[]⟩:Tag),false⟩:Cnd) [] (by rw [DI (KD ‹_› ‹_› ‹_›) (.inr ⟨_,by assumption,by assumption⟩)])⟩,Z.xt⟩) fun ah=>.r 1<|.d<|.cf<|.sk<|.s<|T.Gd 4 Z fun w Z=>.r [0]<|GA.IF (i:=1) (t:=9) (lo:=none) (hi:=some (vI 1)) (s:=w_) AA 0 1 AA AA (.inl ⟨rfl,rfl⟩) (.inr ⟨_,_,rfl,by omega⟩) AB AB<|.r [2]<|GA.IF (i:=3) (t:=9) (lo:=some (vI 2)) (hi:=none) (s:=w_) AA 2 w_.length AA AA (.inr ⟨_,_,rfl,by omega⟩) (.inl ⟨rfl,rfl⟩) AB AB<|GA.Dn Z fun w Z=>.r 2<|RG.Ss 0 Z fun w Z=>.d<|.s<|T.Gd 4 Z fun w Z=>GA.Ln 0 0 Z<|.r [1]<|GA.Ln 2 0 Z<|GA.C0 3 Z (fun w Z=>FK (⟨((w_.take 1).drop 0),((w_.take w_.length).drop 2)⟩:Tag) (F:=all))<|GA.Dn Z fun w Z=>RG.Ss 1 Z fun w Z=>.r 1<|.d<|T.r2 func101 results101 (.B 1 Z) (.t (.bool (CD (⟨((w_.take 1).drop 0),((w_.take w_.length).drop 2)⟩:Tag)))) ⟨⟨_,(Bk rfl (AG (by rw [FQ (KD ‹_› ‹_› ‹_›) ‹_› ‹_› ‹_›]))),Z.rS (⟨(⟨((w_.take 1).drop 0),((w_.take w_.length).drop 2)⟩:Tag),false⟩:Cnd) [] (by rw [FQ (KD ‹_› ‹_› ‹_›) ‹_› ‹_› ‹_›])⟩,Z.xt⟩)
  refine .r 1<|.d<|.ct<|.s<|.g<|.r 1<|RG.Ss 0 Z fun w Z=>.d<|T.Gd 4 Z fun w Z=>.r [0]<|GA.IF (i:=1) (t:=9) (lo:=none) (hi:=some (vI 1)) (s:=w_) AA 0 1 AA AA (.inl ⟨rfl,rfl⟩) (.inr ⟨_,_,rfl,by omega⟩) AB AB<|.r [2]<|GA.IF (i:=3) (t:=9) (lo:=some (vI 2)) (hi:=none) (s:=w_) AA 2 w_.length AA AA (.inr ⟨_,_,rfl,by omega⟩) (.inl ⟨rfl,rfl⟩) AB AB<|GA.Dn Z fun w Z=>RG.cat (t:=9) (s:=((w_.take 1).drop 0)) (u:=((w_.take w_.length).drop 2)) AA (by simp; omega)<|.r 1<|.d<|.s<|.s<|.g<|.r 1<|RG.eqv (v:=vI ((((w_.take 1).drop 0)++((w_.take w_.length).drop 2)).length:Int)) AA (CA (((w_.take 1).drop 0)++((w_.take w_.length).drop 2)))<|.ne ((((w_.take 1).drop 0)++((w_.take w_.length).drop 2)).length:Int) 3 (fun ai=>.r 5<|.d<|.ct<|.s<|.g<|RG.Ln 0 Z<|RG.Ss 1 Z fun w Z=>.r 1<|.d<|T.r2 func101 results101 (.B 1 Z) (.t (.bool false)) ⟨⟨_,(Bk rfl (AG (by rw [DI (KE ‹_› ‹_› ‹_›) (.inl ‹_›)]))),Z.rS (⟨(⟨[],[]⟩:Tag),true⟩:Cnd) [] (by rw [DI (KE ‹_› ‹_› ‹_›) (.inl ‹_›)])⟩,Z.xt⟩) fun ai=>.r 2 ?_
  obtain ⟨aj,aa⟩:∃ y,(((w_.take 1).drop 0)++((w_.take w_.length).drop 2))[1]? = some y:=⟨_,AU AB⟩
  exact RG.GX (t:=9) (s:=(((w_.take 1).drop 0)++((w_.take w_.length).drop 2))) (k:=.i64) (i:=1) 1 AA AA AB aa<|.ne (aj.toNat:Int) 61 (fun ak=>.r 1<|.d<|.ct<|.s<|.g<|RG.Ln 0 Z<|RG.Ss 1 Z fun w Z=>.r 1<|.d<|T.r2 func101 results101 (.B 1 Z) (.t (.bool false)) ⟨⟨_,(Bk rfl (AG (by rw [DI (KE ‹_› ‹_› ‹_›) (.inr ⟨_,by assumption,by assumption⟩)]))),Z.rS (⟨(⟨[],[]⟩:Tag),true⟩:Cnd) [] (by rw [DI (KE ‹_› ‹_› ‹_›) (.inr ⟨_,by assumption,by assumption⟩)])⟩,Z.xt⟩) fun ak=>.r 1<|.d<|.cf<|.sk<|.s<|T.Gd 4 Z fun w Z=>.r [0]<|GA.IF (i:=1) (t:=9) (lo:=none) (hi:=some (vI 1)) (s:=(((w_.take 1).drop 0)++((w_.take w_.length).drop 2))) AA 0 1 AA AA (.inl ⟨rfl,rfl⟩) (.inr ⟨_,_,rfl,by omega⟩) AB AB<|.r [2]<|GA.IF (i:=3) (t:=9) (lo:=some (vI 2)) (hi:=none) (s:=(((w_.take 1).drop 0)++((w_.take w_.length).drop 2))) AA 2 ((((w_.take 1).drop 0)++((w_.take w_.length).drop 2)).length) AA AA (.inr ⟨_,_,rfl,by omega⟩) (.inl ⟨rfl,rfl⟩) AB AB<|GA.Dn Z fun w Z=>.r 2<|RG.Ss 0 Z fun w Z=>.d<|.s<|T.Gd 4 Z fun w Z=>GA.Ln 0 0 Z<|.r [1]<|GA.Ln 2 0 Z<|GA.C0 3 Z (fun w Z=>FK (⟨(((((w_.take 1).drop 0)++((w_.take w_.length).drop 2)).take 1).drop 0),(((((w_.take 1).drop 0)++((w_.take w_.length).drop 2)).take ((((w_.take 1).drop 0)++((w_.take w_.length).drop 2)).length)).drop 2)⟩:Tag) (F:=all))<|GA.Dn Z fun w Z=>RG.Ss 1 Z fun w Z=>.r 1<|.d<|T.r2 func101 results101 (.B 1 Z) (.t (.bool (CD (⟨(((((w_.take 1).drop 0)++((w_.take w_.length).drop 2)).take 1).drop 0),(((((w_.take 1).drop 0)++((w_.take w_.length).drop 2)).take ((((w_.take 1).drop 0)++((w_.take w_.length).drop 2)).length)).drop 2)⟩:Tag)))) ⟨⟨_,(Bk rfl (AG (by rw [FQ (KE ‹_› ‹_› ‹_›) ‹_› ‹_› ‹_›]))),Z.rS (⟨(⟨(((((w_.take 1).drop 0)++((w_.take w_.length).drop 2)).take 1).drop 0),(((((w_.take 1).drop 0)++((w_.take w_.length).drop 2)).take ((((w_.take 1).drop 0)++((w_.take w_.length).drop 2)).length)).drop 2)⟩:Tag),true⟩:Cnd) [] (by rw [FQ (KE ‹_› ‹_› ‹_›) ‹_› ‹_› ‹_›])⟩,Z.xt⟩
 refine .r 5<|.d<|.cf<|.sk<|.s<|.s<|.g<|.r 1<|RG.eqv (v:=vI (w_.length:Int)) AA (CA w_)<|.ne (w_.length:Int) 3 (fun al=>.r 5<|.d<|.ct<|.s<|.g<|RG.Ln 0 Z<|RG.Ss 1 Z fun w Z=>.r 1<|.d<|T.r2 func101 results101 (.B 1 Z) (.t (.bool false)) ⟨⟨_,(Bk rfl (AG (by rw [DI (KC ‹_›) (.inl ‹_›)]))),Z.rS (⟨(⟨[],[]⟩:Tag),false⟩:Cnd) [] (by rw [DI (KC ‹_›) (.inl ‹_›)])⟩,Z.xt⟩) fun al=>.r 2 ?_
 obtain ⟨am,ab⟩:∃ y,w_[1]? = some y:=⟨_,AU AB⟩
 exact RG.GX (t:=9) (s:=w_) (k:=.i64) (i:=1) 1 AA AA AB ab<|.ne (am.toNat:Int) 61 (fun ao=>.r 1<|.d<|.ct<|.s<|.g<|RG.Ln 0 Z<|RG.Ss 1 Z fun w Z=>.r 1<|.d<|T.r2 func101 results101 (.B 1 Z) (.t (.bool false)) ⟨⟨_,(Bk rfl (AG (by rw [DI (KC ‹_›) (.inr ⟨_,by assumption,by assumption⟩)]))),Z.rS (⟨(⟨[],[]⟩:Tag),false⟩:Cnd) [] (by rw [DI (KC ‹_›) (.inr ⟨_,by assumption,by assumption⟩)])⟩,Z.xt⟩) fun ao=>.r 1<|.d<|.cf<|.sk<|.s<|T.Gd 4 Z fun w Z=>.r [0]<|GA.IF (i:=1) (t:=9) (lo:=none) (hi:=some (vI 1)) (s:=w_) AA 0 1 AA AA (.inl ⟨rfl,rfl⟩) (.inr ⟨_,_,rfl,by omega⟩) AB AB<|.r [2]<|GA.IF (i:=3) (t:=9) (lo:=some (vI 2)) (hi:=none) (s:=w_) AA 2 w_.length AA AA (.inr ⟨_,_,rfl,by omega⟩) (.inl ⟨rfl,rfl⟩) AB AB<|GA.Dn Z fun w Z=>.r 2<|RG.Ss 0 Z fun w Z=>.d<|.s<|T.Gd 4 Z fun w Z=>GA.Ln 0 0 Z<|.r [1]<|GA.Ln 2 0 Z<|GA.C0 3 Z (fun w Z=>FK (⟨((w_.take 1).drop 0),((w_.take w_.length).drop 2)⟩:Tag) (F:=all))<|GA.Dn Z fun w Z=>RG.Ss 1 Z fun w Z=>.r 1<|.d<|T.r2 func101 results101 (.B 1 Z) (.t (.bool (CD (⟨((w_.take 1).drop 0),((w_.take w_.length).drop 2)⟩:Tag)))) ⟨⟨_,(Bk rfl (AG (by rw [FQ (KC ‹_›) ‹_› ‹_› ‹_›]))),Z.rS (⟨(⟨((w_.take 1).drop 0),((w_.take w_.length).drop 2)⟩:Tag),false⟩:Cnd) [] (by rw [FQ (KC ‹_›) ‹_› ‹_› ‹_›])⟩,Z.xt⟩
theorem F5 (text_:Str){F:Nat→Prop}  (p0:text_.length≤1000):Calls Tryz.prog 51 [.string (bs text_)].toArray w (Al fun rv w'=>(∃ v0,rv=.tuple #[v0,.bool ((BI text_).2)]∧VL (ge w.heap.size) w' ((BI text_).1:List Cnd) v0)∧Ext w w'):=by
 refine goT func51 ?_
 have Z:=St.i0 F w
 refine .s<|.g<|.r 2<|.d<|.s<|.g<|RG.N0 Cnd 0 Z fun ag w Z=>.r 1<|.d<|.s<|.s<|.g<|.r 1<|RG.eqv (v:=.bool ((text_==[42]))) AA (Cv text_ [42]) ?_
 cases al:(text_==[42])
 ·refine .d<|.cf<|.sk<|.s<|.g<|.r 1<|RG.CL (G1 text_ (44:UInt8) AB (F:=all)) Z fun ah ai w Z=>?_
  have am:=Z.mf 0 (AZ text_ (44:UInt8))
  refine .r 1<|.d<|.s<|.s<|.g<|.r 1<|.d<|.b 0<|T.Lp (([]:List Cnd),ag,(0:Nat),(0:Nat)) (fun (out,r_out,c_out,i)=>([(4,vS r_out out.length c_out),(5,.slice ah ((AZ text_ (44:UInt8)).length) ai),(6,vI (i:Int))],[(0,.own 0 r_out 114 c_out out)],[],(AZ text_ 44).length - i,(i≤(AZ text_ 44).length)∧(out.length≤i)∧(HC out ((AZ text_ 44).drop i)=BI text_))) [] Z ⟨(by (simp; done)),(by (simp; done)),(by exact Qk ‹_›)⟩ ?_
  rintro ⟨out,r_out,c_out,i⟩ aC w Z ⟨ao,aq,ar⟩ ab
  have ax:=Z.mo 0 out
  refine .s<|.s<|.g<|.r 3<|.bp ((i:Int)< (((AZ text_ (44:UInt8)).length):Int)) (fun ac=>?_) (fun ac=>.d<|.cf<|.x 0 rfl<|.s<|.g<|.r 3<|.d<|T.r2 func51 results51 (.T _) (.t (.bool true)) ⟨⟨_,(Bk rfl (AG (by rw [Rq (Y:=BI text_) ‹_› AB]))),Z.rM 0 out (by rw [Rq (Y:=BI text_) ‹_› AB])⟩,Z.xt⟩)
  refine .d<|.ct<|.sk<|.s<|.b 1<|.s<|.g<|.r 2<|gxb (AZ text_ (44:UInt8)) i fun E aa ay af=>RG.Ix 0 aa Z<|Z.el 0 aa fun Z=>RG.Lh 0 0 Z<|RG.CT (us:=[.bool ((ES E.s).2)]) (NE E.s (by have q1:=(BO text_ 44).1 _ ‹_›; omega) (F:=all)) Z fun  w Z=>.r 2 ?_
  cases aA:(ES E.s).2
  ·exact .r 1<|RG.Np Z fun aD w Z=>RG.Ss 0 Z fun w Z=>.r 1<|.d<|.s<|.s<|.g<|.r 7<|.d<|.ct<|.s<|.g<|RG.N0 Cnd 0 Z fun aE w Z=>.r 2<|.d<|T.r2 func51 results51 (.T _) (.t (.bool false)) ⟨⟨_,(Bk rfl (AG (by rw [Lc (Y:=BI text_) ‹_› ‹_› (.inl ‹_›)]))),Z.rM 0 ([]:List Cnd) (by rw [Lc (Y:=BI text_) ‹_› ‹_› (.inl ‹_›)])⟩,Z.xt⟩
  exact .r 1<|RG.Np Z fun aF w Z=>RG.Ss 0 Z fun w Z=>.r 1<|.d<|.s<|.s<|.g<|.r 5<|.bp ((out.length:Int)≥3) (fun ae=>.r 1<|.d<|.ct<|.s<|.g<|RG.N0 Cnd 0 Z fun aG w Z=>.r 2<|.d<|T.r2 func51 results51 (.T _) (.t (.bool false)) ⟨⟨_,(Bk rfl (AG (by rw [Lc (Y:=BI text_) ‹_› ‹_› (.inr AB)]))),Z.rM 0 ([]:List Cnd) (by rw [Lc (Y:=BI text_) ‹_› ‹_› (.inr AB)])⟩,Z.xt⟩) fun ae=>.r 1<|.d<|.cf<|.sk<|.g<|.r 1<|RG.Ln 0 Z<|RG.Nb 1 Z fun aH w Z=>RG.Ap (hs:=by exact (by have q1:=(BO text_ 44).2; omega)) 1 0 out (⟨(⟨(ES E.s).1.tag.key,(ES E.s).1.tag.val⟩:Tag),(ES E.s).1.no⟩:Cnd) [] Z fun aj ak w Z=>.r 1<|.d<|.ib 1<|.g<|.r 1<|.it ((i:Int)+1)<|.r 1<|.d<|ab ((out++[(⟨(⟨(ES E.s).1.tag.key,(ES E.s).1.tag.val⟩:Tag),(ES E.s).1.no⟩:Cnd)]),aj,ak,i+1) _ _ AA (Z.to 1 [] 1) ⟨AB,(by simp; omega),(by exact T8 ‹_› ‹_› ‹_› AB)⟩ (by (simp only []; omega))
 exact .d<|.ct<|.s<|.g<|.r 3<|.d<|T.r2 func51 results51 (.T _) (.t (.bool true)) ⟨⟨_,(Bk rfl (AG (by rw [MH ‹_›]))),Z.rM 0 ([]:List Cnd) (by rw [MH ‹_›])⟩,Z.xt⟩
end Go.Proofs.YtckdhcbbgmiccaaGreatDoor
namespace Go.Proofs.YtckdhcbbgmiccaaGreatDoor
theorem NmD.sz {n:List Tag}(h:NmD n):GI n:=⟨by have:=h.1; omega,fun t ht=>by
 obtain ⟨h1,h2⟩:=h.2 t ht
 simp only [List.mem_cons,List.not_mem_nil,or_false] at h1 h2
 constructor
 ·rcases h1 with h1 | h1 | h1 <;> rw [h1] <;> simp
 ·rcases h2 with h2 | h2 | h2 | h2 | h2 | h2 <;> rw [h2] <;> simp⟩
theorem NmD.nil:NmD []:=⟨by simp,by simp⟩
def NsD (ns:List (List Tag)):Prop:=∀ n∈ns,NmD n
structure WD (w:Wld):Prop where
 wi:WI w
 sn:NsD w.store.idx.names
 dn:NsD w.disk.names
theorem NsD.nil:NsD []:=by intro n hn; cases hn
theorem WD.new:WD ⟨⟨⟨[],[]⟩,[],[]⟩,⟨[],[],[],1⟩⟩:=⟨WI.new,NsD.nil,NsD.nil⟩
theorem Sq (Q:List (List Tag)→Prop):∀ (st:List Stp) (d:Dsk),Q d.names→(∀ x∈st,x.kind=2→Q x.names)→Q (st.foldl doD d).names:=by
 intro st
 induction st with
 | nil=>intro d h _; exact h
 | cons x xs ih =>
   intro d h hs
   refine ih (doD d x) ?_ (fun y hy=>hs y (by simp [hy]))
   unfold doD
   split
   ·exact h
   ·split
    ·exact hs x AD ‹_›
    ·split
     ·exact h
     ·exact h
theorem WD.steps {w:Wld}(h:WD w){st:List Stp}(hs:∀ x∈st,x.kind=2→NsD x.names) (cut:Int){s:Sto}(h2:NsD s.idx.names):NsD (Br w st cut s).store.idx.names∧NsD (Br w st cut s).disk.names:=by
 have h3:NsD (toD w.disk st cut).names:=Sq NsD _ _ h.dn (fun x hx hk=>hs x (List.mem_of_mem_take hx) hk)
 unfold Br
 split
 ·exact ⟨h.sn,h.dn⟩
 ·split
  ·exact ⟨h3,h3⟩
  ·exact ⟨h2,h3⟩
theorem Ql {s:Sto}{n:List Tag}{r:Row}(h:NsD s.idx.names) (hn:NmD n):NsD (CQ s n r).1.idx.names:=by
 have h1:NsD (BY s.idx n).1.names:=by
  unfold BY
  split
  ·exact h
  ·split
   ·exact h
   ·intro m hm
    rcases List.mem_append.1 hm with hm | hm
    ·exact h m hm
    ·simp at hm; rw [hm]; exact hn
 unfold CQ
 split
 ·exact h
 ·split
  ·exact h
  ·exact h1
theorem Qm (s:Sto):(BM s).1.idx=s.idx:=by unfold BM; split <;> rfl
theorem Qn (s:Sto) (a:Int):(BL s a).1.idx=s.idx:=by unfold BL; split <;> rfl
theorem Sr {w:Wld}(h:WD w):∀ x∈BD w.disk w.store,x.kind=2→NsD x.names:=by
 unfold BD
 split
 ·intro x hx; cases hx
 ·intro x hx _
  simp only [List.mem_cons,List.not_mem_nil,or_false] at hx
  rcases hx with rfl | rfl
  ·exact NsD.nil
  ·exact h.sn
theorem Su {d:Dsk}(h:NsD d.names) (a:Int):∀ x∈Aq d a,x.kind=2→NsD x.names:=by
 unfold Aq
 split
 ·intro x hx; cases hx
 ·intro x hx _
  simp only [List.mem_cons,List.not_mem_nil,or_false] at hx
  rcases hx with rfl | rfl | rfl | rfl
  ·exact NsD.nil
  ·exact h
  ·exact NsD.nil
  ·exact NsD.nil
theorem WD.do {w:Wld}(h:WD w){e:Evt}(he:NmD e.name):WD (doW w e):=by
 have key:NsD (doW w e).store.idx.names∧NsD (doW w e).disk.names:=by
  unfold doW
  split
  ·split
   ·exact ⟨Ql h.sn he,h.dn⟩
   ·exact ⟨h.sn,h.dn⟩
  ·split
   ·exact h.steps (Sr h) _ (by rw [Qm]; exact h.sn)
   ·split
    ·exact h.steps (Su h.dn _) _ (by rw [Qn]; exact h.sn)
    ·split
     ·exact ⟨h.dn,h.dn⟩
     ·exact ⟨h.sn,h.dn⟩
 exact ⟨h.wi.do e,key.1,key.2⟩
theorem WD.copy {w:Wld}(h:WD w):WD (Rk w):=⟨h.wi.copy,h.sn,h.dn⟩
def EvD (e:Evt):Prop:=NmD e.name∧PT e.row
structure SD (s:Sto):Prop where
 idx:s.idx=idxOf s.idx.names
 nm:NmI s.idx.names
 nd:NsD s.idx.names
 np:s.parts.length≤6
 part:∀ p∈s.parts,PrtI p
 nm2:s.mem.length≤21
 mem:∀ m∈s.mem,0≤m.id∧m.id≤7∧PT m.row
theorem UA {r:Row}(h:Be r=true):PT r:=by
 have h1:=La h
 have h2:=Rm h
 unfold PT
 omega
theorem WD.sd {w:Wld}(h:WD w):SD w.store:=⟨h.wi.sto.idx,h.wi.sto.nm,h.sn,h.wi.sto.np,h.wi.sto.part,by have:=h.wi.sto.nm2; omega,fun m hm=>by
 have h1:=h.wi.sto.J9 m hm
 exact ⟨by omega,by omega,UA (h.wi.sto.mem m hm).2.2⟩⟩
end Go.Proofs.YtckdhcbbgmiccaaGreatDoor
namespace Go.Proofs.YtckdhcbbgmiccaaGreatDoor
def MJ:List Tag:=(List.range' 97 4).flatMap (fun k=>(List.range' 112 11).map (JG k))
theorem Sv (names:List (List Tag)) (k:Nat):∀ f v,Gw names k f v=((List.range' v f).map (JG k)).flatMap (Gc names):=by
 intro f
 induction f with
 | zero=>intro v; rfl
 | succ f ih=>intro v; rw [Gw,ih,List.range'_succ]; rfl
theorem Sw (names:List (List Tag)):∀ f k,Gx names f k=((List.range' k f).flatMap (fun k=>(List.range' 112 11).map (JG k))).flatMap (Gc names):=by
 intro f
 induction f with
 | zero=>intro k; rfl
 | succ f ih=>intro k; rw [Gx,ih,Sv,show List.range' k (f+1)=k::List.range' (k+1) f from rfl,List.flatMap_cons,List.flatMap_append]
theorem Ij (names:List (List Tag)):D5 names=MJ.flatMap (Gc names):=Sw names 4 97
theorem OX:MJ.Pairwise (fun a b=>E1 a b=true):=by decide +kernel
theorem Sx {t:Tag}(h:CD t=true):t∈MJ:=by
 simp only [CD,AW] at h
 obtain ⟨h1,h2⟩:=h
 obtain ⟨x,hx⟩:∃ x,t.key=[x]:=by
  have:=EQ h1
  match t.key,this with
  | [x],_=>exact ⟨x,rfl⟩
 obtain ⟨y,hy⟩:∃ y,t.val=[y]:=by
  have:=EQ h2
  match t.val,this with
  | [y],_=>exact ⟨y,rfl⟩
 rw [hx] at h1
 rw [hy] at h2
 have g1:=Bd h1
 have g2:=Bd h2
 unfold MJ
 refine List.mem_flatMap.2 ⟨x.toNat,?_,List.mem_map.2 ⟨y.toNat,?_,?_⟩⟩
 ·rw [List.mem_range'_1]; omega
 ·rw [List.mem_range'_1]; omega
 ·cases t
  simp only at hx hy
  subst hx hy
  simp [JG]
theorem Sy {names:List (List Tag)}{p:Pst}(h:p∈D5 names):p.ids=ids names p.tag∧0< p.ids.length∧p.tag∈MJ:=by
 rw [Ij] at h
 obtain ⟨t,ht,hp⟩:=List.mem_flatMap.1 h
 unfold Gc at hp
 split at hp
 ·simp at hp
  subst hp
  exact ⟨rfl,by assumption,ht⟩
 ·cases hp
theorem UB {names:List (List Tag)}{t:Tag}(h:t∈MJ) (h2:0< (ids names t).length):⟨t,ids names t⟩∈D5 names:=by
 rw [Ij]
 refine List.mem_flatMap.2 ⟨t,h,?_⟩
 unfold Gc
 rw [if_pos h2]
 simp
theorem OY (names:List (List Tag)):(D5 names).Pairwise (fun a b=>E1 a.tag b.tag=true):=by
 rw [Ij,List.pairwise_flatMap]
 refine ⟨fun t _=>?_,OX.imp ?_⟩
 ·unfold Gc
  split <;> simp
 ·intro a b hab x hx y hy
  have h1:x.tag=a:=by
   unfold Gc at hx
   split at hx
   ·simp at hx; rw [hx]
   ·cases hx
  have h2:y.tag=b:=by
   unfold Gc at hy
   split at hy
   ·simp at hy; rw [hy]
   ·cases hy
  rw [h1,h2]
  exact hab
theorem KF:∀ (s:Str),Bz s s=false:=by
 intro s
 induction s with
 | nil=>rfl
 | cons x xs ih =>
   have ih':Op.bytesLess xs xs=false:=ih
   show (decide (x< x) || x==x&&Op.bytesLess xs xs)=false
   simp [ih']
theorem Na {a b:Tag}(ha:CD a=true) (hb:CD b=true) (h:Bz a.key b.key=true):∃ x y,a.key=[x]∧b.key=[y]∧x.toNat< y.toNat:=by
 simp only [CD,AW] at ha hb
 have h1:=EQ ha.1
 have h2:=EQ hb.1
 match ha':a.key,h1,hb':b.key,h2 with
 | [x], _, [y], _ =>
   rw [ha',hb',L3] at h
   exact ⟨x,y,rfl,rfl,by simpa using h⟩
theorem Qo:∀ (n:List Tag) (o:Option Tag),ED o n=true→(∀ q,o=some q→CD q=true)→(∀ q,o=some q→∀ t∈n,Bz q.key t.key=true)∧n.Nodup:=by
 intro n
 induction n with
 | nil=>intro o _ _; exact ⟨fun _ _ t ht=>(by cases ht),by simp⟩
 | cons t ts ih =>
   intro o h ho
   simp only [ED,AW] at h
   obtain ⟨⟨h1,h2⟩,h3⟩:=h
   obtain ⟨g1,g2⟩:=ih (some t) h3 (fun q hq=>by cases hq; exact h1)
   refine ⟨fun q hq u hu=>?_,List.nodup_cons.2 ⟨fun hm=>?_,g2⟩⟩
   ·subst hq
    have h4:Bz q.key t.key=true:=h2
    rcases List.mem_cons.1 hu with rfl | hu
    ·exact h4
    ·have h5:=g1 t rfl u hu
     obtain ⟨x,y,e1,e2,l1⟩:=Na (ho q rfl) h1 h4
     obtain ⟨y',z,e3,e4,l2⟩:=Na h1 (Fb ts (some t) h3 u hu) h5
     rw [e2] at e3
     cases e3
     rw [e1,e4,L3]
     simp; omega
   ·have h5:=g1 t rfl t hm
    rw [KF] at h5
    cases h5
theorem JM {n:List Tag}(h:Ar n=true):n.Nodup∧∀ t∈n,t∈MJ:=by
 simp only [Ar,AW] at h
 exact ⟨(Qo n none h.1 AD).2,fun t ht=>Sx (Fb n none h.1 t ht)⟩
end Go.Proofs.YtckdhcbbgmiccaaGreatDoor
namespace Go.Proofs.YtckdhcbbgmiccaaGreatDoor
structure IxI (x:Idx):Prop where
 eq:x=idxOf x.names
 nm:NmI x.names
theorem IxI.AY {x:Idx}(h:IxI x):x.AY=D5 x.names:=by have:=h.eq; rw [this]; rfl
theorem IxI.sz {x:Idx}(h:IxI x):Tw x:=⟨by have:=h.nm.len; omega,h.nm.sz⟩
theorem SD.ix {s:Sto}(h:SD s):IxI s.idx:=⟨h.idx,h.nm⟩
theorem SD.sz {s:Sto}(h:SD s):NS s:=⟨h.ix.sz,by have:=h.np; omega,fun p hp=>(h.part p hp).sz,by have:=h.nm2; omega⟩
theorem H6 {α:Type}{f:α→Bool}{l:List α}{i:Nat}{x:α}{b:Bool}(h:(l.drop i).all f=b) (hd:l.drop i=x::l.drop (i+1)) (hx:f x=true):(l.drop (i+1)).all f=b:=by
 rw [hd,List.all_cons,hx,Bool.true_and] at h
 exact h
theorem JN {α:Type}{f:α→Bool}{l:List α}{i:Nat}{x:α}{b:Bool}(h:(l.drop i).all f=b) (hd:l.drop i=x::l.drop (i+1)) (hx:f x=false):b=false:=by
 rw [hd,List.all_cons,hx,Bool.false_and] at h
 exact h.symm
theorem KG {α:Type}{f:α→Bool}{l:List α}{i:Nat}{b:Bool}(h:(l.drop i).all f=b) (hi:l.length≤i):b=true:=by
 rw [Ac hi] at h
 exact h.symm
def FE (n:Nat) (m:Smp):Bool:=inR m.id 1 n&&Be m.row
def FF (s:Sto) (i:Nat):Bool:=decide ((rowsOf s ((i:Int)+1)).length≤24)
def Ab (s:Sto):Bool :=
 decide (s.parts.length≤6)&&decide (s.mem.length≤20)&&s.parts.all (fun p=>Bv p s.idx.names.length)&&s.mem.all (FE s.idx.names.length)&&(List.range s.idx.names.length).all (FF s)
theorem Nc {s:Sto}(h:(s.parts.length:Int) > 6∨(s.mem.length:Int) > 20):Ab s=false:=by
 unfold Ab
 rcases h with h | h
 ·rw [decide_eq_false AB]; simp
 ·rw [decide_eq_false (p:=s.mem.length≤20) AB]; simp
theorem KH {s:Sto}(h:s.parts.all (fun p=>Bv p s.idx.names.length)=false):Ab s=false:=by unfold Ab; rw [h]; simp
theorem Nd {s:Sto}(h:s.mem.all (FE s.idx.names.length)=false):Ab s=false:=by unfold Ab; rw [h]; simp
theorem Sz {s:Sto}(h:(List.range s.idx.names.length).all (FF s)=false):Ab s=false:=by unfold Ab; rw [h]; simp
theorem S0 {s:Sto}(h1:¬ (s.parts.length:Int) > 6) (h2:¬ (s.mem.length:Int) > 20) (h3:s.parts.all (fun p=>Bv p s.idx.names.length)=true) (h4:s.mem.all (FE s.idx.names.length)=true) (h5:(List.range s.idx.names.length).all (FF s)=true):Ab s=true:=by
 unfold Ab
 rw [h3,h4,h5,decide_eq_true AB,decide_eq_true AB]
 rfl
theorem PX {n i:Nat}(h:i< n):(List.range n).drop i=i::(List.range n).drop (i+1):=by
 rw [List.drop_eq_getElem_cons (by simpa using h)]
 simp
def Bb (s:Sto) (n:List Tag) (r:Row):Sto × Bool:=if Ab s=true∧Ar n=true then CQ (Ai s) n r else (⟨⟨[],[]⟩,[],[]⟩,false)
theorem Ld {s:Sto}{n:List Tag}{r:Row}(h:Ab s=false∨Ar n=false):Bb s n r=(⟨⟨[],[]⟩,[],[]⟩,false):=by
 unfold Bb
 rw [if_neg]
 rintro ⟨h1,h2⟩
 rcases h with h | h
 ·rw [h] at h1; cases h1
 ·rw [h] at h2; cases h2
theorem Ha {s:Sto}{n:List Tag}{r:Row}(h:Ab s=true) (h2:Ar n=true):Bb s n r=CQ (Ai s) n r:=by unfold Bb; rw [if_pos ⟨h,h2⟩]
theorem SD.copy {s:Sto}(h:SD s):Ai s=s:=by
 have:=h.idx
 unfold Ai
 rw [← this]
theorem WU {s:Sto}{n k:Nat}{b:Bool}(h:((List.range n).drop (k - 1)).all (FF s)=b) (h1:1≤k) (h2:k≤n) (h3:((rowsOf s (k:Int)).length:Int)≤24):((List.range n).drop (k+1 - 1)).all (FF s)=b:=by
 have hd:=PX (n:=n) (i:=k - 1) AB
 have:=H6 h hd (by unfold FF; rw [show ((k - 1:Nat):Int)+1=(k:Int) by omega]; simp; omega)
 rw [show k+1 - 1=k - 1+1 by omega]
 exact this
theorem Zk {s:Sto}{n k:Nat}{b:Bool}(h:((List.range n).drop (k - 1)).all (FF s)=b) (h1:1≤k) (h2:k≤n) (h3:((rowsOf s (k:Int)).length:Int) > 24):b=false:=by
 have hd:=PX (n:=n) (i:=k - 1) AB
 exact JN h hd (by unfold FF; rw [show ((k - 1:Nat):Int)+1=(k:Int) by omega]; simp; omega)
theorem YR {s:Sto}{n k:Nat}{b:Bool}(h:((List.range n).drop (k - 1)).all (FF s)=b) (h1:n+1≤k):b=true:=KG h (by simp; omega)
end Go.Proofs.YtckdhcbbgmiccaaGreatDoor
