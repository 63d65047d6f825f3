/- walks; pruned haves; hints pruned; squeezed -/
import Derived.Test.YtfninflnngpchaaGreatDoorLxzMem
open Go.Proofs.Tryz
set_option linter.unusedVariables false
set_option linter.unusedSimpArgs false
namespace Go.Proofs.YtfninflnngpchaaGreatDoor
set_option maxRecDepth 100000
set_option maxHeartbeats 4000000
variable {w:World} {F:Nat→Prop} {a1 a2:Option Addr} {n1 c1 n2 c2:Nat}
theorem Fx (n:List Tag) (h1:RepS w F a1 n1 c1 n)  : Calls Tryz.prog 46 [.slice a1 n1 c1].toArray w (Am fun rv w'=>rv=.bool (Ao n)∧Ext w w'):=by
 cases h1.len
 refine goT func46 ?_
 have Z:=(St.i0 F w).p h1
 have aj:=h1.max
 refine .s<|.g<|.r 1<|.d<|.s<|.s<|.g<|.r 1<|.d<|.b 0<|T.Lp (0:Nat) (fun i=>([(0,.slice a1 n.length c1),(3,vI (i:Int))],[],[],n.length - i,(i≤n.length)∧(D3 (prev n i) (n.drop i)=D3 none n))) [] Z ⟨(by simp [prev]),(by simp [prev])⟩ ?_
 rintro i ay w Z ⟨ak,am⟩ E
 refine .s<|.s<|.g<|.r 3<|.bp ((i:Int)< (n.length:Int)) (fun af=>?_) (fun af=>.d<|.cf<|.x 0 rfl<|.s<|.g<|.r 2<|RG.C0 (CF (n.length:Int) 1 3 (F:=all)) Z fun w Z=>.r 1<|.d<|T.rt func46 results46 (.bool (inR (n.length:Int) 1 3)) ⟨(AG (by grind [D3,Ao,prev,Ac])),Z.xt⟩)
 refine .d<|.ct<|.sk<|.s<|.b 1<|.s<|T.Gd 21 Z fun w Z=>.r [0,1]<|gx n i fun ac aa=>?_
 have ao:=drop_at aa; have ah:=AV aa
 refine GA.Ix 2 0 aa Z<|Z.el 0 aa fun Z=>GA.Lg 3 0 0 Z<|GA.C0 4 Z (fun w Z=>FE ac (F:=all)) ?_
 cases aq:(Bj ac)
 ·exact .r [5,6]<|GA.Sk Z fun w Z=>.r 3<|.d<|.ct<|.s<|.g<|.r 1<|.d<|T.rt func46 results46 (.bool false) ⟨(AG (by grind [D3,Ao,prev,Ac])),Z.xt⟩
 refine .r [5,6,7]<|GA.HB (i:=8) ((i:Int) > 0) AA (fun ag=>?_) (fun ag=>.r [9]<|GA.Sk Z fun w Z=>.r 3<|.d<|.cf<|.sk<|.ib 1<|.g<|.r 1<|.it ((i:Int)+1)<|.r 1<|.d<|E (i+1) _ _ AA (Z.to 0 [] 1) ⟨AB,(by grind [D3,prev])⟩ (by (simp only []; omega)))
 refine .r [9,10,11]<|GA.int (i:=12) ((i:Int) - 1) AA AB<|gx n (i - 1) fun ae ab=>?_
 refine GA.Jx 13 1 ((i:Int) - 1) ab Z<|.r [14]<|Z.el 1 ab fun Z=>GA.Lh 15 0 0 Z<|.r [16,17]<|GA.Ix 18 2 aa Z<|.r [19]<|GA.Lh 20 1 0 Z<|GA.Dn Z fun w Z=>RG.eqv (v:=.bool (!(Bo ae.key ac.key))) AA (Vf ae.key ac.key) ?_
 cases ax:(Bo ae.key ac.key)
 ·exact .r 2<|.d<|.ct<|.s<|.g<|.r 1<|.d<|T.rt func46 results46 (.bool false) ⟨(AG (by grind [D3,Ao,prev,Ac])),Z.xt⟩
 exact .r 2<|.d<|.cf<|.sk<|.ib 1<|.g<|.r 1<|.it ((i:Int)+1)<|.r 1<|.d<|E (i+1) _ _ AA (Z.to 0 [] 2) ⟨AB,(by grind [D3,prev])⟩ (by (simp only []; omega))
theorem De (n:List Tag) (h1:RepS w F a1 n1 c1 n)  : Calls Tryz.prog 93 [.slice a1 n1 c1].toArray w (Am fun rv w'=>rv=.bool (Ao n)∧Ext w w'):=by
 cases h1.len
 refine goT func93 ?_
 have Z:=(St.i0 F w).p h1
 have aj:=h1.max
 refine .s<|.g<|.r 1<|.d<|.s<|.s<|.g<|.r 3<|.d<|.b 0<|T.Lp (0:Nat) (fun k=>([(0,.slice a1 n.length c1),(5,.slice a1 n.length c1),(6,vI (n.length:Int)),(7,vI (k:Int))],[],[],n.length - k,(k≤n.length)∧(D3 (prev n k) (n.drop k)=D3 none n))) [] Z ⟨(by simp [prev]),(by simp [prev])⟩ ?_
 rintro k ay w Z ⟨ak,am⟩ E
 refine .s<|.g<|.bp ((k:Int)< (n.length:Int)) (fun af=>?_) (fun af=>.d<|.s<|.cf<|.x 0 rfl<|.s<|.g<|.r 2<|RG.C0 (Bk (n.length:Int) 1 3 (F:=all)) Z fun w Z=>.r 1<|.d<|T.rt func93 results93 (.bool (inR (n.length:Int) 1 3)) ⟨(AG (by grind [D3,Ao,prev,Ac])),Z.xt⟩)
 refine .d<|.s<|.ct<|.sk<|.s<|.b 1<|.s<|.g<|.r 1<|gx n k fun ac aa=>?_
 have ao:=drop_at aa; have ah:=AV aa
 refine RG.Ix 0 aa Z<|Z.el 0 aa fun Z=>RG.Lg 0 0 Z<|RG.Np Z fun az w Z=>.r 1<|RG.Ss 0 Z fun w Z=>.d<|.s<|T.Gd 15 Z fun w Z=>GA.Ln 0 0 Z<|GA.C0 1 Z (fun w Z=>Iz ac (F:=all)) ?_
 cases aq:(Bj ac)
 ·exact .r [2,3]<|GA.Sk Z fun w Z=>.r 3<|.d<|.ct<|.s<|.g<|.r 1<|.d<|T.rt func93 results93 (.bool false) ⟨(AG (by grind [D3,Ao,prev,Ac])),Z.xt⟩
 refine .r [2,3,4]<|GA.HB (i:=5) ((k:Int) > 0) AA (fun ag=>?_) (fun ag=>.r [6]<|GA.Sk Z fun w Z=>.r 3<|.d<|.cf<|.sk<|.ib 1<|.g<|.it ((k:Int)+1)<|.r 1<|.d<|E (k+1) _ _ AA (Z.to 1 [] 1) ⟨AB,(by grind [D3,prev])⟩ (by (simp only []; omega)))
 refine .r [6,7,8]<|GA.int (i:=9) ((k:Int) - 1) AA AB<|gx n (k - 1) fun ae ab=>?_
 refine GA.Jx 10 1 ((k:Int) - 1) ab Z<|.r [11]<|Z.el 1 ab fun Z=>GA.Lh 12 0 0 Z<|.r [13]<|GA.Lb 14 0 Z<|GA.Dn Z fun w Z=>RG.eqv (v:=.bool (!(Bo ae.key ac.key))) AA (Vf ae.key ac.key) ?_
 cases ax:(Bo ae.key ac.key)
 ·exact .r 2<|.d<|.ct<|.s<|.g<|.r 1<|.d<|T.rt func93 results93 (.bool false) ⟨(AG (by grind [D3,Ao,prev,Ac])),Z.xt⟩
 exact .r 2<|.d<|.cf<|.sk<|.ib 1<|.g<|.it ((k:Int)+1)<|.r 1<|.d<|E (k+1) _ _ AA (Z.to 1 [] 2) ⟨AB,(by grind [D3,prev])⟩ (by (simp only []; omega))
theorem DS (b:List Row) (h1:RepS w F a1 n1 c1 b)  : Calls Tryz.prog 90 [.slice a1 n1 c1].toArray w (Am fun rv w'=>rv=.bool (Bi b)∧Ext w w'):=by
 cases h1.len
 refine goT func90 ?_
 have Z:=(St.i0 F w).p h1
 have ak:=h1.max
 refine .s<|.g<|.r 1<|.d<|.s<|.s<|.g<|.r 3<|.d<|.b 0<|T.Lp (0:Nat) (fun k=>([(0,.slice a1 b.length c1),(5,.slice a1 b.length c1),(6,vI (b.length:Int)),(7,vI (k:Int))],[],[],b.length - k,(k≤b.length)∧(Ce (prev b k) (b.drop k)=Ce none b))) [] Z ⟨(by simp [prev]),(by simp [prev])⟩ ?_
 rintro k ay w Z ⟨am,ao⟩ E
 refine .s<|.g<|.bp ((k:Int)< (b.length:Int)) (fun ae=>?_) (fun ae=>.d<|.s<|.cf<|.x 0 rfl<|.s<|.g<|.r 4<|.d<|T.rt func90 results90 (.bool (decide ((b.length:Int)≤24))) ⟨(AG (by grind [Ce,Bi,prev,Ac])),Z.xt⟩)
 refine .d<|.s<|.ct<|.sk<|.s<|.b 1<|.s<|.g<|.r 1<|gx b k fun ac aa=>?_
 have aq:=drop_at aa; have ah:=AV aa
 refine RG.Ix 0 aa Z<|Z.el 0 aa fun Z=>RG.Lg 0 0 Z<|RG.Np Z fun az w Z=>.r 1<|RG.Ss 0 Z fun w Z=>.d<|.s<|T.Gd 15 Z fun w Z=>GA.Ln 0 0 Z<|GA.C0 1 Z (fun w Z=>Gc ac (F:=all)) ?_
 cases ar:(BZ ac)
 ·exact .r [2,3]<|GA.Sk Z fun w Z=>.r 3<|.d<|.ct<|.s<|.g<|.r 1<|.d<|T.rt func90 results90 (.bool false) ⟨(AG (by grind [Ce,Bi,prev,Ac])),Z.xt⟩
 refine .r [2,3,4]<|GA.HB (i:=5) ((k:Int) > 0) AA (fun af=>?_) (fun af=>.r [6]<|GA.Sk Z fun w Z=>.r 3<|.d<|.cf<|.sk<|.ib 1<|.g<|.it ((k:Int)+1)<|.r 1<|.d<|E (k+1) _ _ AA (Z.to 1 [] 1) ⟨AB,(by grind [Ce,prev])⟩ (by (simp only []; omega)))
 refine .r [6,7,8]<|GA.int (i:=9) ((k:Int) - 1) AA AB<|gx b (k - 1) fun aj ab=>?_
 exact GA.Jx 10 1 ((k:Int) - 1) ab Z<|.r [11]<|Z.el 1 ab fun Z=>GA.Lh 12 0 0 Z<|.r [13]<|GA.Lb 14 0 Z<|GA.Dn Z fun w Z=>.bp (aj.t≥ac.t) (fun ag=>.r 2<|.d<|.ct<|.s<|.g<|.r 1<|.d<|T.rt func90 results90 (.bool false) ⟨(AG (by grind [Ce,Bi,prev,Ac])),Z.xt⟩) fun ag=>.r 2<|.d<|.cf<|.sk<|.ib 1<|.g<|.it ((k:Int)+1)<|.r 1<|.d<|E (k+1) _ _ AA (Z.to 1 [] 2) ⟨AB,(by grind [Ce,prev])⟩ (by (simp only []; omega))
theorem DB (p:Prt) (h1:RepS w F a1 n1 c1 p.ids) (h2:RepS w F a2 n2 c2 p.blocks)  : Calls Tryz.prog 86 [.agg #[.slice a1 n1 c1,.slice a2 n2 c2]].toArray w (Am fun rv w'=>rv=.bool (Av p)∧Ext w w'):=by
 cases h1.len
 cases h2.len
 refine goT func86 ?_
 have Z:=((St.i0 F w).p h1).p h2
 have aD:=h1.max
 refine .s<|.g<|RG.Np Z fun aB w Z=>.r 1<|.d<|.s<|.s<|.g<|.r 1<|RG.Lb 0 Z<|.r 2<|RG.Lb 0 Z<|.r 1<|.ne (p.ids.length:Int) (p.blocks.length:Int) (fun aj=>.d<|.ct<|.s<|.g<|.r 1<|.d<|T.rt func86 results86 (.bool false) ⟨(AG (by grind [Br,Av,prev,Ac])),Z.xt⟩) fun aj=>.d<|.cf<|.sk<|.s<|.s<|.g<|.r 1<|RG.Lb 0 Z<|.r 2<|.d<|.b 0<|T.Lp (0:Nat) (fun k=>([(1,vP aB),(13,.slice a1 p.ids.length c1),(14,vI (p.ids.length:Int)),(15,vI (k:Int))],[],[],p.ids.length - k,(k≤p.ids.length)∧(Br (prev p.ids k) (p.ids.drop k) (p.blocks.drop k)=Br none p.ids p.blocks))) [] Z ⟨(by simp [prev]),(by simp [prev])⟩ ?_
 rintro k aP w Z ⟨aF,aG⟩ E
 refine .s<|.g<|.bp ((k:Int)< (p.ids.length:Int)) (fun ak=>?_) (fun ak=>.d<|.s<|.cf<|.x 0 rfl<|.s<|.g<|.r 1<|.d<|T.rt func86 results86 (.bool true) ⟨(AG (by grind [Br,Av,prev,Ac])),Z.xt⟩)
 refine .d<|.s<|.ct<|.sk<|.s<|.b 1<|.s<|.g<|.r 1<|gx p.ids k fun ag ac=>?_
 have aH:=drop_at ac; have ax:=AV ac
 refine RG.Ix 1 ac Z<|Z.el 1 ac fun Z=>RG.Lh 0 0 Z<|.r 2<|.d<|.s<|.g<|.r 1<|RG.C0 (Bk ag 1 6 (F:=all)) Z fun w Z=>?_
 cases af:(inR ag 1 6)
 ·exact .r 33<|.d<|.ct<|.s<|.g<|.r 1<|.d<|T.rt func86 results86 (.bool false) ⟨(AG (by (have hdd:=List.drop_eq_getElem_cons (l:=p.blocks) (i:=k) AB; grind [Br,Av,prev,Ac]))),Z.xt⟩
 refine .r 3<|.bp ((k:Int) > 0) (fun am=>?_) (fun am=>?_)
 ·refine .r 2<|RG.Lb 0 Z<|.r 1<|.it ((k:Int) - 1)<|gx p.ids (k - 1) fun aC ae=>?_
  refine RG.Jx 2 ((k:Int) - 1) ae Z<|Z.el 2 ae fun Z=>RG.Lh 0 0 Z<|.r 1<|.bp (aC≥ag) (fun ao=>.r 20<|.d<|.ct<|.s<|.g<|.r 1<|.d<|T.rt func86 results86 (.bool false) ⟨(AG (by (have hdd:=List.drop_eq_getElem_cons (l:=p.blocks) (i:=k) AB; grind [Br,Av,prev,Ac]))),Z.xt⟩) fun ao=>.r 4<|RG.Lb 0 Z<|.r 1<|gx p.blocks k fun ah aa=>?_
  have aL:=drop_at aa
  refine RG.Ix 2 aa Z<|Z.el 2 aa fun aQ aR Z=>RG.Lh 0 0 Z<|RG.C0 (DS ah (Z.a 1)) Z fun w Z=>?_
  cases aM:(Bi ah)
  ·exact .r 11<|.d<|.ct<|.s<|.g<|.r 1<|.d<|T.rt func86 results86 (.bool false) ⟨(AG (by grind [Br,Av,prev,Ac])),Z.xt⟩
  exact .r 4<|RG.Lb 0 Z<|.r 1<|RG.Ix 4 aa Z<|RG.Lh 0 0 Z<|.r 1<|.eq (ah.length:Int) 0 (fun aq=>.r 1<|.d<|.ct<|.s<|.g<|.r 1<|.d<|T.rt func86 results86 (.bool false) ⟨(AG (by grind [Br,Av,prev,Ac])),Z.xt⟩) fun aq=>.r 1<|.d<|.cf<|.sk<|.ib 1<|.g<|.it ((k:Int)+1)<|.r 1<|.d<|E (k+1) _ _ AA (Z.to 0 [] 4) ⟨AB,(by grind [Br,prev])⟩ (by (simp only []; omega))
 refine .r 13<|RG.Lb 0 Z<|.r 1<|gx p.blocks k fun ai ab=>?_
 have aN:=drop_at ab
 refine RG.Ix 1 ab Z<|Z.el 1 ab fun aS aT Z=>RG.Lh 0 0 Z<|RG.C0 (DS ai (Z.a 1)) Z fun w Z=>?_
 cases aO:(Bi ai)
 ·exact .r 11<|.d<|.ct<|.s<|.g<|.r 1<|.d<|T.rt func86 results86 (.bool false) ⟨(AG (by grind [Br,Av,prev,Ac])),Z.xt⟩
 exact .r 4<|RG.Lb 0 Z<|.r 1<|RG.Ix 3 ab Z<|RG.Lh 0 0 Z<|.r 1<|.eq (ai.length:Int) 0 (fun ar=>.r 1<|.d<|.ct<|.s<|.g<|.r 1<|.d<|T.rt func86 results86 (.bool false) ⟨(AG (by grind [Br,Av,prev,Ac])),Z.xt⟩) fun ar=>.r 1<|.d<|.cf<|.sk<|.ib 1<|.g<|.it ((k:Int)+1)<|.r 1<|.d<|E (k+1) _ _ AA (Z.to 0 [] 3) ⟨AB,(by grind [Br,prev])⟩ (by (simp only []; omega))
theorem EH (s:List Int) (v:Int) (h1:RepS w F a1 n1 c1 s)  : Calls Tryz.prog 150 [.slice a1 n1 c1,.int .i64 v].toArray w (Am fun rv w'=>rv=.int .i64 (Eh v 0 s)∧Ext w w'):=by
 cases h1.len
 refine goT func150 ?_
 have Z:=(St.i0 F w).p h1
 have ag:=h1.max
 refine .s<|.g<|.r 1<|.d<|.s<|.s<|.g<|.r 3<|.d<|.b 0<|T.Lp (0:Nat) (fun k=>([(0,.slice a1 s.length c1),(1,vI v),(7,vI (s.length:Int)),(8,vI (k:Int))],[],[],s.length - k,(k≤s.length)∧(Eh v k (s.drop k)=Eh v 0 s))) [] Z ⟨AD,AD⟩ ?_
 rintro k ak w Z ⟨ah,ai⟩ aa
 refine .s<|.g<|.bp ((k:Int)< (s.length:Int)) (fun ab=>?_) (fun ab=>.d<|.s<|.cf<|.x 0 rfl<|.s<|.g<|.r 1<|.d<|T.rt func150 results150 (vI (-1)) ⟨(congrArg (Value.int .i64) (by grind [Eh,Ac])),Z.xt⟩)
 refine .d<|.s<|.ct<|.sk<|.s<|.b 1<|.s<|.g<|.r 2<|.d<|.s<|.g<|.r 3<|gx s k fun af E=>?_
 have aj:=drop_at E
 exact RG.Ix 0 E Z<|Z.el 0 E fun Z=>RG.Lh 0 0 Z<|.eq v af (fun ac=>.d<|.ct<|.s<|.g<|.r 2<|.d<|T.rt func150 results150 (vI (k:Int)) ⟨(congrArg (Value.int .i64) (by grind [Eh,Ac])),Z.xt⟩) fun ac=>.d<|.cf<|.sk<|.ib 1<|.g<|.it ((k:Int)+1)<|.r 1<|.d<|aa (k+1) _ _ AA (Z.to 0 [] 1) ⟨AB,(by grind [Eh])⟩ (by (simp only []; omega))
theorem HJ (x:List Int) (h1:RepS w F a1 n1 c1 x) (p0:0< x.length):Calls Tryz.prog 87 [.slice a1 n1 c1].toArray w (Am fun rv w'=>rv=.int .i64 (maxOf x)∧Ext w w'):=by
 cases h1.len
 refine goT func87 ?_
 have Z:=(St.i0 F w).p h1
 have aj:=h1.max
 refine .s<|.g<|.r 1<|.d<|.s<|.s<|.g<|.r 2<|.bp ((x.length:Int)< 1) (fun ac=>.d<|.ct<|.g<|absurd (show False by omega) id) fun ac=>.d<|.cf<|.sk<|.s<|.g<|.r 1<|gx x 0 fun ai E=>?_
 have ak:=drop_at E
 refine RG.Ix 0 E Z<|Z.el 0 E fun Z=>RG.Lh 0 0 Z<|.r 1<|.d<|.s<|.s<|.g<|.r 1<|.d<|.b 0<|T.Lp (ai,(1:Nat)) (fun (m,i)=>([(0,.slice a1 x.length c1),(3,vI m),(4,vI (i:Int))],[],[],x.length - i,(i≤x.length)∧(Mb m (x.drop i)=maxOf x))) [] Z ⟨AB,(by grind [maxOf])⟩ ?_
 rintro ⟨m,i⟩ ar w Z ⟨am,ao⟩ ab
 refine .s<|.s<|.g<|.r 3<|.bp ((i:Int)< (x.length:Int)) (fun ae=>?_) (fun ae=>.d<|.cf<|.x 0 rfl<|.s<|.g<|.r 2<|.d<|T.rt func87 results87 (vI m) ⟨(congrArg (Value.int .i64) (by grind [Mb,Ac])),Z.xt⟩)
 refine .d<|.ct<|.sk<|.s<|.b 1<|.g<|.r 3<|gx x i fun af aa=>?_
 have aq:=drop_at aa
 exact RG.Ix 1 aa Z<|Z.el 1 aa fun Z=>RG.Lh 0 0 Z<|.r 2<|.d<|.ib 1<|.g<|.r 1<|.it ((i:Int)+1)<|.r 1<|.d<|ab ((if af > m then af else m),i+1) _ _ AA (Z.to 0 [] 1) ⟨AB,(by grind [Mb])⟩ (by (simp only []; omega))
theorem Fy (n:List Tag) (h1:RepS w F a1 n1 c1 n) (p0:n.length≤1000000) (p1:∀ t∈n,t.key.length≤1000000∧t.val.length≤1000000):Calls Tryz.prog 28 [.slice a1 n1 c1].toArray w (Am fun rv w'=>rv=.string (bs (text n))∧Ext w w'):=by
 cases h1.len
 refine goT func28 ?_
 have Z:=(St.i0 F w).p h1
 refine .s<|.g<|.r 1<|.d<|.s<|.g<|.r 1<|.d<|.s<|.s<|.g<|.r 1<|.d<|.b 0<|T.Lp ([],(0:Nat)) (fun (out,i)=>([(0,.slice a1 n.length c1),(3,vT out),(4,vI (i:Int))],[],[],n.length - i,(i≤n.length)∧(out.length≤3000000 * i)∧(out++D5 i (n.drop i)=text n))) [] Z ⟨(by simp [text]),(by simp [text]),(by simp [text])⟩ ?_
 rintro ⟨out,i⟩ ax w Z ⟨ak,am,ao⟩ E
 refine .s<|.s<|.g<|.r 3<|.bp ((i:Int)< (n.length:Int)) (fun af=>?_) (fun af=>.d<|.cf<|.x 0 rfl<|.s<|.g<|.r 2<|.d<|T.rt func28 results28 (vT out) ⟨(congrArg (fun s=>Value.string (bs s)) (by grind [D5,Ac])),Z.xt⟩)
 refine .d<|.ct<|.sk<|.s<|.b 1<|.s<|.s<|.g<|.r 1<|.bp ((i:Int) > 0) (fun ag=>?_) (fun ag=>?_)
 ·refine .d<|.ct<|.g<|.r 1<|RG.cat (t:=9) (s:=out) (u:=[44]) AA (by grind)<|.r 1<|.d<|T.Gd 13 Z fun w Z=>.r [0,1,2]<|gx n i fun ac aa=>?_
  have aq:=drop_at aa; have ah:=AV aa
  exact GA.Ix 3 0 aa Z<|.r [4]<|Z.el 0 aa fun Z=>GA.Lh 5 0 0 Z<|GA.cat (i:=6) (t:=9) (s:=(out++[44])) (u:=ac.key) AA AA (by grind)<|GA.cat (i:=7) (t:=9) (s:=((out++[44])++ac.key)) (u:=[61]) AA AA (by grind)<|.r [8,9]<|GA.Ix 10 1 aa Z<|.r [11]<|GA.Lh 12 0 1 Z<|GA.Dn Z fun w Z=>RG.cat (t:=9) (s:=(((out++[44])++ac.key)++[61])) (u:=ac.val) AA (by grind)<|.r 1<|.d<|.ib 1<|.g<|.r 1<|.it ((i:Int)+1)<|.r 1<|.d<|E (((((out++[44])++ac.key)++[61])++ac.val),i+1) _ _ AA (Z.to 0 [] 1) ⟨AB,(by grind),(by grind [D5,Gw])⟩ (by (simp only []; omega))
 refine .d<|.cf<|.sk<|T.Gd 13 Z fun w Z=>.r [0,1,2]<|gx n i fun ae ab=>?_
 have ar:=drop_at ab; have ai:=AV ab
 exact GA.Ix 3 0 ab Z<|.r [4]<|Z.el 0 ab fun Z=>GA.Lh 5 0 0 Z<|GA.cat (i:=6) (t:=9) (s:=out) (u:=ae.key) AA AA (by grind)<|GA.cat (i:=7) (t:=9) (s:=(out++ae.key)) (u:=[61]) AA AA (by grind)<|.r [8,9]<|GA.Ix 10 1 ab Z<|.r [11]<|GA.Lh 12 0 1 Z<|GA.Dn Z fun w Z=>RG.cat (t:=9) (s:=((out++ae.key)++[61])) (u:=ae.val) AA (by grind)<|.r 1<|.d<|.ib 1<|.g<|.r 1<|.it ((i:Int)+1)<|.r 1<|.d<|E ((((out++ae.key)++[61])++ae.val),i+1) _ _ AA (Z.to 0 [] 1) ⟨AB,(by grind),(by grind [D5,Gw])⟩ (by (simp only []; omega))
end Go.Proofs.YtfninflnngpchaaGreatDoor
namespace Go.Proofs.YtfninflnngpchaaGreatDoor
set_option maxRecDepth 100000
set_option maxHeartbeats 4000000
variable {w:World} {F:Nat→Prop} {a1 a2 a3 a4:Option Addr} {n1 c1 n2 c2 n3 c3 n4 c4:Nat}
theorem Md  {F:Nat→Prop}   : Calls Tryz.prog 44 [].toArray w (Am fun rv w'=>VS (ge w.heap.size) w' ((⟨[],[]⟩:Idx):Idx) rv∧Ext w w'):=by
 refine goT func44 ?_
 have Z:=St.i0 F w
 refine .s<|.g<|RG.Np Z fun E w Z=>.d<|.s<|.g<|RG.N0 (List Tag) 0 Z fun aa w Z=>RG.N0 Pst 0 Z fun ab w Z=>.r 1<|RG.Ss 2 Z fun w Z=>.d ?_
 have Z:=(Z.sl 1).sl 0
 exact T.Rb 0 func44 results44 Z ⟨Z.rS (⟨([]:List (List Tag)),([]:List Pst)⟩:Idx) [1,0] AF,Z.xt⟩
theorem Me  {F:Nat→Prop}   : Calls Tryz.prog 16 [].toArray w (Am fun rv w'=>VS (ge w.heap.size) w' ((⟨⟨[],[]⟩,[],[]⟩:Sto):Sto) rv∧Ext w w'):=by
 refine goT func16 ?_
 have Z:=St.i0 F w
 refine .s<|.g<|RG.Np Z fun E w Z=>.d<|.s<|.g<|RG.CS (Md (F:=all)) Z fun aa ab ac ae w Z=>RG.N0 Prt 0 Z fun af w Z=>RG.N0 Smp 0 Z fun ag w Z=>.r 1<|RG.Ss 2 Z fun w Z=>.d ?_
 have Z:=(Z.sl 1).sl 0
 exact T.Rb 0 func16 results16 Z ⟨Z.rS (⟨(⟨((⟨[],[]⟩:Idx)).names,((⟨[],[]⟩:Idx)).AY⟩:Idx),([]:List Prt),([]:List Smp)⟩:Sto) [2,3,1,0] AF,Z.xt⟩
theorem LX  {F:Nat→Prop}   : Calls Tryz.prog 17 [].toArray w (Am fun rv w'=>VS (ge w.heap.size) w' ((⟨[],[],[],1⟩:Dsk):Dsk) rv∧Ext w w'):=by
 refine goT func17 ?_
 have Z:=St.i0 F w
 refine .s<|.g<|RG.Np Z fun E w Z=>.d<|.s<|.g<|RG.N0 Fil 0 Z fun aa w Z=>RG.N0 Int 0 Z fun ab w Z=>RG.N0 (List Tag) 0 Z fun ac w Z=>.r 1<|RG.Ss 3 Z fun w Z=>.d ?_
 have Z:=((Z.sl 2).sl 1).sl 0
 exact T.Rb 0 func17 results17 Z ⟨Z.rS (⟨([]:List Fil),([]:List Int),([]:List (List Tag)),1⟩:Dsk) [2,1,0] AF,Z.xt⟩
theorem Km  {F:Nat→Prop}   : Calls Tryz.prog 6 [].toArray w (Am fun rv w'=>VS (ge w.heap.size) w' ((⟨⟨⟨[],[]⟩,[],[]⟩,⟨[],[],[],1⟩⟩:Wld):Wld) rv∧Ext w w'):=by
 refine goT func6 ?_
 have Z:=St.i0 F w
 exact .s<|.g<|RG.Np Z fun E w Z=>.d<|.s<|.g<|RG.CS (Me (F:=all)) Z fun aa ab ac ae af ag ah ai w Z=>RG.CS (LX (F:=all)) Z fun aj ak am ao aq ar w Z=>.r 1<|RG.Ss 0 Z fun w Z=>.d<|T.Rb 0 func6 results6 Z ⟨Z.rS (⟨(⟨(⟨(((⟨⟨[],[]⟩,[],[]⟩:Sto)).idx).names,(((⟨⟨[],[]⟩,[],[]⟩:Sto)).idx).AY⟩:Idx),((⟨⟨[],[]⟩,[],[]⟩:Sto)).parts,((⟨⟨[],[]⟩,[],[]⟩:Sto)).mem⟩:Sto),(⟨((⟨[],[],[],1⟩:Dsk)).files,((⟨[],[],[],1⟩:Dsk)).list,((⟨[],[],[],1⟩:Dsk)).names,((⟨[],[],[],1⟩:Dsk)).next⟩:Dsk)⟩:Wld) [3,4,5,6,0,1,2] AF,Z.xt⟩
theorem Dp (a:Prt) (b:Prt) (h1:RepS w F a1 n1 c1 a.ids) (h2:RepS w F a2 n2 c2 a.blocks) (h3:RepS w F a3 n3 c3 b.ids) (h4:RepS w F a4 n4 c4 b.blocks) (p0:Cw a) (p1:Cw b):Calls Tryz.prog 100 [.agg #[.slice a1 n1 c1,.slice a2 n2 c2],.agg #[.slice a3 n3 c3,.slice a4 n4 c4]].toArray w (Am fun rv w'=>VS (ge w.heap.size) w' (BF a b:Prt) rv∧Ext w w'):=by
 cases h1.len
 cases h2.len
 cases h3.len
 cases h4.len
 refine goT func100 ?_
 have Z:=((((St.i0 F w).p h1).p h2).p h3).p h4
 refine .s<|.g<|RG.Np Z fun aa w Z=>RG.Np Z fun ab w Z=>RG.Np Z fun ac w Z=>.d<|.s<|.g<|RG.N0 (List Row) 0 Z fun af w Z=>.r 1<|.d<|.s<|.s<|.g<|.r 1<|.d<|.b 0<|T.Lp (([]:List (List Row)),af,(0:Nat),(1:Nat)) (fun (blocks,r_blocks,c_blocks,id)=>([(2,vP aa),(3,vP ab),(4,vP ac),(5,vS r_blocks blocks.length c_blocks),(6,vI (id:Int))],[(0,.own 0 r_blocks 65 c_blocks blocks)],[],7 - id,(1≤id)∧(id≤7)∧(blocks=BY a b (id - 1)))) [] Z ⟨(by simp [BY]),(by simp [BY]),(by simp [BY])⟩ ?_
 rintro ⟨blocks,r_blocks,c_blocks,id⟩ ax w Z ⟨ao,aq,ar⟩ E
 exact .s<|.s<|.g<|.r 1<|.bp ((id:Int)≤6) (fun ae=>.d<|.ct<|.sk<|.s<|.b 1<|T.GS 9 [ac,ab,aa] Z fun _ w Z=>.r [0]<|GA.Ln (q:=2) 1 3 Z<|.r [2]<|GA.Ln (q:=1) 4 2 Z<|.r [5]<|.go 3<|GE.CL (fun w Z=>Gf a (id:Int) (Z.mg 1 3) (Z.mg 1 2) (by grind [Cw])) Z fun ay az w Z=>.go 6<|GE.CL (fun w Z=>Gf b (id:Int) (Z.mg 1 2) (Z.mg 1 1) (by grind [Cw])) Z fun aA aB w Z=>.go 7<|GE.CL (fun w Z=>HH (partOf a (id:Int)) (partOf b (id:Int)) (Z.a 1) (Z.a 0) (by have q1:=DR p0 id; have q2:=DR p1 id; omega)) Z fun aC aD w Z=>.go 8<|GE.Nb 1 Z fun aE w Z=>GA.Do Z fun w Z=>RG.Ap (hs:=by exact (by grind [D7])) 0 0 blocks (Bf (partOf a (id:Int)) (partOf b (id:Int))) [0] Z fun ag ah w Z=>.r 1<|.d<|.ib 1<|.g<|.r 1<|.it ((id:Int)+1)<|.r 1<|.d<|E ((blocks++[Bf (partOf a (id:Int)) (partOf b (id:Int))]),ag,ah,id+1) _ _ AA (Z.to 0 [] 3) ⟨AB,AB,(by obtain ⟨q,rfl⟩:∃ q,id=q+1:=⟨id - 1,by omega⟩; have:=Iv a b q; grind)⟩ (by (simp only []; omega))) fun ae=>.d<|.cf<|.x 0 rfl<|.s<|.g<|.r 1<|RG.CS (HI blocks (Z.oa 0) (by grind [D7]) (by have q:=Oq p0 p1 6; grind)) Z fun aF aG aH aI w Z=>RG.Ss 1 Z fun w Z=>.d<|T.Rb 1 func100 results100 Z ⟨Z.rS (EF blocks) [0,1] (by grind [BF]),Z.xt⟩
theorem EI (s:Sto) (id:Int) (h1:RepS w F a1 n1 c1 s.idx.names) (h2:RepS w F a2 n2 c2 s.idx.AY) (h3:RepS w F a3 n3 c3 s.parts) (h4:RepS w F a4 n4 c4 s.mem) (p0:s.parts.length≤100) (p1:∀ p∈s.parts,Cw p) (p2:s.mem.length≤1000):Calls Tryz.prog 27 [.agg #[.slice a1 n1 c1,.slice a2 n2 c2,.slice a3 n3 c3,.slice a4 n4 c4],.int .i64 id].toArray w (Am fun rv w'=>VL (ge w.heap.size) w' (rowsOf s id:List Row) rv∧Ext w w'):=by
 cases h1.len
 cases h2.len
 cases h3.len
 cases h4.len
 refine goT func27 ?_
 have Z:=((((St.i0 F w).p h1).p h2).p h3).p h4
 refine .s<|.g<|RG.Np Z fun ag w Z=>.r 1<|.d<|.s<|.g<|RG.N0 Row 0 Z fun ao w Z=>.r 1<|.d<|.s<|.s<|.g<|.r 1<|.d<|.b 0 ?_
 have Z:=Z.sl 0
 refine T.Lp (([]:List Row),sA ao,(0:Nat),(0:Nat)) (fun (out,a_out,c_out,i)=>([(1,vI id),(2,vP ag),(5,.slice a_out out.length c_out),(6,vI (i:Int))],[],[⟨0,none,.rep a_out c_out out⟩],s.parts.length - i,(i≤s.parts.length)∧(out.length≤1000 * i)∧((s.parts.drop i).foldl (Bv id) out=s.parts.foldl (Bv id) []))) [0] Z ⟨AD,AD,AD⟩ ?_
 rintro ⟨out,a_out,c_out,i⟩ aL w Z ⟨aD,aE,aF⟩ ac
 refine .s<|.s<|.g<|.r 2<|RG.Lb 0 Z<|.r 1<|.bp ((i:Int)< (s.parts.length:Int)) (fun ah=>?_) (fun ah=>?_)
 ·refine .d<|.ct<|.sk<|.s<|.b 1<|.g<|.r 2<|RG.Lb 0 Z<|.r 1<|gx s.parts i fun ae ab=>?_
  have aG:=drop_at ab; have ak:=AV ab
  exact RG.Ix 3 ab Z<|Z.el 3 ab fun aM aN aO aP Z=>RG.Lg 0 0 Z<|.r 1<|RG.CL (Gf ae id (Z.mg 1 1) (Z.mg 1 2) (by grind [Cw])) Z fun aQ aR w Z=>RG.CL (HH out (partOf ae id) (Z.a 4) (Z.a 0) (by grind [DR])) Z fun aq ar w Z=>.r 1<|.d<|.ib 1<|.g<|.r 1<|.it ((i:Int)+1)<|.r 1<|.d<|ac (Bf out (partOf ae id),aq,ar,i+1) _ _ AA (Z.to 0 [0] 6) ⟨AB,(by grind [IV,DR]),(by grind [Bv,IV,DR])⟩ (by (simp only []; omega))
 refine .d<|.cf<|.x 0 rfl<|.s<|.s<|.g<|.r 1<|.d<|.b 2<|T.Lp ((out:List Row),a_out,c_out,(0:Nat)) (fun (out,a_out,c_out,i)=>([(1,vI id),(2,vP ag),(5,.slice a_out out.length c_out),(7,vI (i:Int))],[],[⟨0,none,.rep a_out c_out out⟩],s.mem.length - i,(i≤s.mem.length)∧(out.length≤100000+i)∧((s.mem.drop i).foldl (Cb id) out=rowsOf s id))) [0] Z ⟨(by grind [rowsOf,Ac]),(by grind [rowsOf,Ac]),(by grind [rowsOf,Ac])⟩ ?_
 rintro ⟨out,a_out,c_out,i⟩ aS w Z ⟨aH,aI,aJ⟩ E
 refine .s<|.s<|.g<|.r 2<|RG.Lb 0 Z<|.r 1<|.bp ((i:Int)< (s.mem.length:Int)) (fun ai=>?_) (fun ai=>.d<|.cf<|.x 2 rfl<|.s<|.g<|.r 2<|.d<|T.Rt func27 results27 ⟨Z.rL 0 out (by grind [Ac]),Z.xt⟩)
 refine .d<|.ct<|.sk<|.s<|.b 3<|.s<|.g<|.r 1<|RG.Lb 0 Z<|.r 1<|gx s.mem i fun af aa=>?_
 have aK:=drop_at aa
 exact RG.Ix 3 aa Z<|.r 1<|Z.el 3 aa fun Z=>RG.Lh 0 0 Z<|.r 1<|.eq af.id id (fun aj=>.d<|.ct<|.g<|.r 2<|RG.Lb 0 Z<|.r 1<|RG.Ix 4 aa Z<|.r 1<|RG.Lg 0 1 Z<|RG.CL (Ge out af.row (Z.a 1) AB) Z fun ax ay w Z=>.r 1<|.d<|.ib 3<|.g<|.r 1<|.it ((i:Int)+1)<|.r 1<|.d<|E (Eb out af.row,ax,ay,i+1) _ _ AA (Z.to 0 [0] 3) ⟨(by grind [Cb,DQ]),(by grind [Cb,DQ]),(by grind [Cb,DQ])⟩ (by (simp only []; omega))) fun aj=>.d<|.cf<|.sk<|.ib 3<|.g<|.r 1<|.it ((i:Int)+1)<|.r 1<|.d<|E (out,a_out,c_out,i+1) _ _ AA (Z.to 0 [1] 2) ⟨(by grind [Cb,DQ]),(by grind [Cb,DQ]),(by grind [Cb,DQ])⟩ (by (simp only []; omega))
theorem FF (d:Dsk) (num:Int) (h1:RepS w F a1 n1 c1 d.files) (h2:RepS w F a2 n2 c2 d.list) (h3:RepS w F a3 n3 c3 d.names)  : Calls Tryz.prog 101 [.agg #[.slice a1 n1 c1,.slice a2 n2 c2,.slice a3 n3 c3,.int .i64 d.next],.int .i64 num].toArray w (Am fun rv w'=>rv=.int .i64 (At d num)∧Ext w w'):=by
 cases h1.len
 cases h2.len
 cases h3.len
 refine goT func101 ?_
 have Z:=(((St.i0 F w).p h1).p h2).p h3
 have ah:=h1.max
 refine .s<|.g<|RG.Np Z fun af w Z=>.r 1<|.d<|.s<|.s<|.g<|.r 1<|.d<|.b 0<|T.Lp (0:Nat) (fun i=>([(1,vI num),(2,vP af),(5,vI (i:Int))],[],[],d.files.length - i,(i≤d.files.length)∧(DN num i (d.files.drop i)=At d num))) [] Z ⟨(by simp [At]),(by simp [At])⟩ ?_
 rintro i aq w Z ⟨ak,am⟩ aa
 refine .s<|.s<|.g<|.r 2<|RG.Lb 0 Z<|.r 1<|.bp ((i:Int)< (d.files.length:Int)) (fun ab=>?_) (fun ab=>.d<|.cf<|.x 0 rfl<|.s<|.g<|.r 1<|.d<|T.rt func101 results101 (vI (-1)) ⟨(congrArg (Value.int .i64) (by grind [DN,Ac])),Z.xt⟩)
 refine .d<|.ct<|.sk<|.s<|.b 1<|.s<|.g<|.r 1<|RG.Lb 0 Z<|.r 1<|gx d.files i fun ag E=>?_
 have ao:=drop_at E
 exact RG.Ix 2 E Z<|.r 1<|Z.el 2 E fun ar ax ay az Z=>RG.Lh 0 0 Z<|.r 1<|.eq ag.num num (fun ac=>.d<|.ct<|.s<|.g<|.r 2<|.d<|T.rt func101 results101 (vI (i:Int)) ⟨(congrArg (Value.int .i64) (by grind [DN,Ac])),Z.xt⟩) fun ac=>.d<|.cf<|.sk<|.ib 1<|.g<|.r 1<|.it ((i:Int)+1)<|.r 1<|.d<|aa (i+1) _ _ AA (Z.to 0 [] 3) ⟨AB,(by grind [DN])⟩ (by (simp only []; omega))
theorem N4 (ix:Idx) (n:List Tag) (h1:RepS w F a1 n1 c1 ix.names) (h2:RepS w F a2 n2 c2 ix.AY) (h3:RepS w F a3 n3 c3 n) (p0:ix.names.length≤1000) (p1:∀ n∈ix.names,Fw n) (p2:Fw n):Calls Tryz.prog 153 [.agg #[.slice a1 n1 c1,.slice a2 n2 c2],.slice a3 n3 c3].toArray w (Am fun rv w'=>rv=.int .i64 (G5 ix n)∧Ext w w'):=by
 cases h1.len
 cases h2.len
 cases h3.len
 refine goT func153 ?_
 have Z:=(((St.i0 F w).p h1).p h2).p h3
 refine .s<|.g<|RG.Np Z fun af w Z=>.r 1<|.d<|.s<|.s<|.g<|.r 1<|.d<|.b 0<|T.Lp (0:Nat) (fun i=>([(1,.slice a3 n.length c3),(2,vP af),(5,vI (i:Int))],[],[],ix.names.length - i,(i≤ix.names.length)∧(nmF (text n) i (ix.names.drop i)=G5 ix n))) [] Z ⟨(by simp [G5]),(by simp [G5])⟩ ?_
 rintro i aq w Z ⟨aj,ak⟩ aa
 refine .s<|.s<|.g<|.r 2<|RG.Lb 0 Z<|.r 1<|.bp ((i:Int)< (ix.names.length:Int)) (fun ac=>?_) (fun ac=>.d<|.cf<|.x 0 rfl<|.s<|.g<|.r 1<|.d<|T.rt func153 results153 (vI 0) ⟨(congrArg (Value.int .i64) (by grind [nmF,Ac])),Z.xt⟩)
 refine .d<|.ct<|.sk<|.s<|.b 1<|.s<|.g<|.r 1<|RG.Lb 0 Z<|.r 1<|gx ix.names i fun ab E=>?_
 have am:=drop_at E; have ae:=AV E
 refine RG.Ix 2 E Z<|Z.el 2 E fun ar ax Z=>RG.Lh 0 0 Z<|RG.C0 (Fy ab (Z.a 1) (by grind [Fw]) (by grind [Fw])) Z fun w Z=>.r 1<|RG.C0 (Fy n (Z.a 2) (by grind [Fw]) (by grind [Fw])) Z fun w Z=>RG.eqv (v:=.bool ((text ab==text n))) AA (GX (text ab) (text n)) ?_
 cases ao:(text ab==text n)
 ·exact .d<|.cf<|.sk<|.ib 1<|.g<|.r 1<|.it ((i:Int)+1)<|.r 1<|.d<|aa (i+1) _ _ AA (Z.to 0 [] 2) ⟨AB,(by grind [nmF])⟩ (by (simp only []; omega))
 exact .d<|.ct<|.s<|.g<|.r 1<|.it ((i:Int)+1)<|.r 1<|.d<|T.rt func153 results153 (vI ((i:Int)+1)) ⟨(congrArg (Value.int .i64) (by grind [nmF,Ac])),Z.xt⟩
theorem GC (d:Dsk) (num:Int) (h1:RepS w F a1 n1 c1 d.files) (h2:RepS w F a2 n2 c2 d.list) (h3:RepS w F a3 n3 c3 d.names)  : Calls Tryz.prog 102 [.agg #[.slice a1 n1 c1,.slice a2 n2 c2,.slice a3 n3 c3,.int .i64 d.next],.int .i64 num].toArray w (Am fun rv w'=>rv=.bool ((d.list.contains num))∧Ext w w'):=by
 cases h1.len
 cases h2.len
 cases h3.len
 refine goT func102 ?_
 have Z:=(((St.i0 F w).p h1).p h2).p h3
 have ai:=h2.max
 refine .s<|.g<|RG.Np Z fun af w Z=>.r 1<|.d<|.s<|.s<|.g<|.r 1<|.d<|.b 0<|T.Lp (0:Nat) (fun i=>([(1,vI num),(2,vP af),(5,vI (i:Int))],[],[],d.list.length - i,(i≤d.list.length)∧((d.list.drop i).contains num=d.list.contains num))) [] Z ⟨AD,AD⟩ ?_
 rintro i aq w Z ⟨ak,am⟩ aa
 refine .s<|.s<|.g<|.r 2<|RG.Lb 0 Z<|.r 1<|.bp ((i:Int)< (d.list.length:Int)) (fun ab=>?_) (fun ab=>.d<|.cf<|.x 0 rfl<|.s<|.g<|.r 1<|.d<|T.rt func102 results102 (.bool false) ⟨(AG (by grind [Ac])),Z.xt⟩)
 refine .d<|.ct<|.sk<|.s<|.b 1<|.s<|.g<|.r 1<|RG.Lb 0 Z<|.r 1<|gx d.list i fun ag E=>?_
 have ao:=drop_at E
 exact RG.Ix 1 E Z<|Z.el 1 E fun Z=>RG.Lh 0 0 Z<|.r 1<|.eq ag num (fun ac=>.d<|.ct<|.s<|.g<|.r 1<|.d<|T.rt func102 results102 (.bool true) ⟨(AG (by grind [Ac])),Z.xt⟩) fun ac=>.d<|.cf<|.sk<|.ib 1<|.g<|.r 1<|.it ((i:Int)+1)<|.r 1<|.d<|aa (i+1) _ _ AA (Z.to 0 [] 1) ⟨AB,(by grind)⟩ (by (simp only []; omega))
end Go.Proofs.YtfninflnngpchaaGreatDoor
namespace Go.Proofs.YtfninflnngpchaaGreatDoor
def I1 (k v:Nat):Tag:=⟨[UInt8.ofNat k],[UInt8.ofNat v]⟩
def GF (names:List (List Tag)) (t:Tag):List Pst:=if (ids names t).length > 0 then [⟨t,ids names t⟩] else []
def Gg (names:List (List Tag)) (k:Nat):Nat→Nat→List Pst
 | 0,_=>[]
 | f+1,v=>GF names (I1 k v)++Gg names k f (v+1)
def Gh (names:List (List Tag)):Nat→Nat→List Pst
 | 0,_=>[]
 | f+1,k=>Gg names k 11 112++Gh names f (k+1)
def Dq (names:List (List Tag)):List Pst:=Gh names 4 97
def idxOf (names:List (List Tag)):Idx:=⟨names,Dq names⟩
def BV (ix:Idx) (n:List Tag):Idx × Int × Bool :=
 if G5 ix n > 0 then (ix,G5 ix n,true)
 else if !Ao n || decide (ix.names.length≥6) then (ix,0,false)
 else (idxOf (ix.names++[n]),(ix.names.length:Int)+1,true)
def G6 (bl:List (List Row)) (m:Smp):List (List Row):=bl.set (m.id - 1).toNat (Eb (bl.getD (m.id - 1).toNat []) m.row)
def Ai (mem:List Smp):Prt:=EF (mem.foldl G6 [[],[],[],[],[],[]])
theorem TM (bl:List (List Row)) (m:Smp):(G6 bl m).length=bl.length:=by simp [G6]
theorem Vj {l:List Smp}{i:Nat}{xs:List (List Row)}{m:Smp}{x:List Row}{Y:List (List Row)}(hi:(l.drop i).foldl G6 xs=Y) (hd:l.drop i=m::l.drop (i+1)) (hx:xs[(m.id - 1).toNat]? = some x) :
 (l.drop (i+1)).foldl G6 (xs.set (m.id - 1).toNat (Eb x m.row))=Y:=by
 rw [hd,List.foldl_cons] at hi
 have:G6 xs m=xs.set (m.id - 1).toNat (Eb x m.row):=by unfold G6; rw [List.getD_eq_getElem?_getD,hx]; rfl
 rw [this] at hi
 exact hi
theorem Xi {xs:List (List Row)}{j i:Nat}{x:List Row}{r:Row}(h:∀ b∈xs,b.length≤i) (hx:xs[j]? = some x):∀ b∈xs.set j (Eb x r),b.length≤i+1:=by
 intro b hb
 rcases List.mem_or_eq_of_mem_set hb with hb | rfl
 ·have:=h b hb; omega
 ·have h1:=h x (AV hx)
  have h2:=DQ x r
  omega
theorem Jh (names:List (List Tag)) (k v:Nat) (h:v≤122):Gg names k (123 - v) v=GF names (I1 k v)++Gg names k (123 - (v+1)) (v+1):=by
 rw [show 123 - v=(123 - (v+1))+1 by omega]
 rfl
theorem R4 (names:List (List Tag)) (k:Nat) (h:k≤100):Gh names (101 - k) k=Gg names k 11 112++Gh names (101 - (k+1)) (k+1):=by
 rw [show 101 - k=(101 - (k+1))+1 by omega]
 rfl
theorem P8 (names:List (List Tag)) (k v:Nat) (h:123≤v):Gg names k (123 - v) v=[]:=by
 rw [show 123 - v=0 by omega]; rfl
theorem P9 (names:List (List Tag)) (k:Nat) (h:101≤k):Gh names (101 - k) k=[]:=by
 rw [show 101 - k=0 by omega]; rfl
end Go.Proofs.YtfninflnngpchaaGreatDoor
namespace Go.Proofs.YtfninflnngpchaaGreatDoor
set_option maxRecDepth 100000
set_option maxHeartbeats 4000000
variable {w:World} {F:Nat→Prop} {a1 a2 a3 a4:Option Addr} {n1 c1 n2 c2 n3 c3 n4 c4:Nat}
theorem FG (names:List (List Tag)) (h1:RepS w F a1 n1 c1 names) (p0:names.length≤1000) (p1:∀ n∈names,Fw n):Calls Tryz.prog 103 [.slice a1 n1 c1].toArray w (Am fun rv w'=>VS (ge w.heap.size) w' (idxOf names:Idx) rv∧Ext w w'):=by
 cases h1.len
 refine goT func103 ?_
 have Z:=(St.i0 F w).p h1
 refine .s<|.g<|RG.Np Z fun ac w Z=>.d<|.s<|.g<|RG.N0 Pst 0 Z fun ah w Z=>.r 1<|.d<|.s<|.s<|.g<|.r 1<|.d<|.b 0<|T.Lp (([]:List Pst),ah,(0:Nat),(97:Nat)) (fun (AY,r_posts,c_posts,k)=>([(0,.slice a1 names.length c1),(2,vP ac),(3,vS r_posts AY.length c_posts),(4,.int .i32 (k:Int))],[(0,.own 0 r_posts 148 c_posts AY)],[],101 - k,(97≤k)∧(k≤101)∧(AY.length≤11 * (k - 97))∧(AY++Gh names (101 - k) k=Dq names))) [] Z ⟨AB,AB,(by simp [Dq]),(by simp [Dq])⟩ ?_
 rintro ⟨AY,r_posts,c_posts,k⟩ aD w Z ⟨am,ao,aq,ar⟩ ab
 refine .s<|.s<|.g<|.r 1<|.bp ((k:Int)≤100) (fun ae=>?_) (fun ae=>?_)
 ·refine .d<|.ct<|.sk<|.s<|.b 1<|.s<|.g<|.r 1<|.d<|.b 2<|T.Lp ((AY:List Pst),r_posts,c_posts,(112:Nat)) (fun (E,r_posts1,c_posts1,v)=>([(0,.slice a1 names.length c1),(2,vP ac),(3,vS r_posts1 E.length c_posts1),(4,.int .i32 (k:Int)),(5,.int .i32 (v:Int))],[(0,.own 0 r_posts1 148 c_posts1 E)],[],123 - v,(112≤v)∧(v≤123)∧(97≤k)∧(k≤100)∧(E.length≤11 * (k - 97)+(v - 112))∧(E++Gg names k (123 - v) v++Gh names (101 - (k+1)) (k+1)=Dq names))) [] Z ⟨AB,AB,AB,AB,AB,(by grind [R4])⟩ ?_
  rintro ⟨E,r_posts1,c_posts1,v⟩ aE w Z ⟨ax,ay,az,aA,aB,aC⟩ aa
  exact .s<|.s<|.g<|.r 1<|.bp ((v:Int)≤122) (fun af=>.d<|.ct<|.sk<|.s<|.b 3<|.s<|.g<|.r 1<|RG.eqv (v:=.string (bs [UInt8.ofNat k])) AA (XB k AB)<|.r 1<|RG.eqv (v:=.string (bs [UInt8.ofNat v])) AA (XB v AB)<|.r 1<|RG.Np Z fun aF w Z=>RG.Ss 0 Z fun w Z=>.d<|.s<|.g<|.r 1<|RG.Ln 0 Z<|RG.CL (Mc names (⟨[UInt8.ofNat k],[UInt8.ofNat v]⟩:Tag) (Z.a 0) AB) Z fun aG aH w Z=>.r 1<|.d<|.s<|.g<|.r 2<|.bp ((((ids names (⟨[UInt8.ofNat k],[UInt8.ofNat v]⟩:Tag)).length):Int) > 0) (fun ag=>.d<|.ct<|.g<|.r 1<|RG.Ln 0 Z<|.r 2<|RG.Nb 1 Z fun aI w Z=>RG.Ap 1 0 E (⟨(⟨[UInt8.ofNat k],[UInt8.ofNat v]⟩:Tag),ids names (⟨[UInt8.ofNat k],[UInt8.ofNat v]⟩:Tag)⟩:Pst) [0] Z fun ai aj w Z=>.r 1<|.d<|.ib 3<|.g<|.r 1<|RG.int32 ((v:Int)+1) AA AB<|.r 1<|.d<|aa ((E++[(⟨(⟨[UInt8.ofNat k],[UInt8.ofNat v]⟩:Tag),ids names (⟨[UInt8.ofNat k],[UInt8.ofNat v]⟩:Tag)⟩:Pst)]),ai,aj,v+1) _ _ AA (Z.to 1 [] 1) ⟨AB,AB,AB,AB,(by grind [Jh,GF,I1]),(by grind [Jh,GF,I1])⟩ (by (simp only []; omega))) fun ag=>.d<|.cf<|.sk<|.ib 3<|.g<|.r 1<|RG.int32 ((v:Int)+1) AA AB<|.r 1<|.d<|aa (E,r_posts1,c_posts1,v+1) _ _ AA (Z.to 1 [] 1) ⟨AB,AB,AB,AB,AB,(by grind [Jh,GF,I1])⟩ (by (simp only []; omega))) fun af=>.d<|.cf<|.x 2 rfl<|.ib 1<|.g<|.r 1<|RG.int32 ((k:Int)+1) AA AB<|.r 1<|.d<|ab (E,r_posts1,c_posts1,k+1) _ _ AA (Z.to 0 [] 0) ⟨AB,AB,AB,(by grind [P8])⟩ (by (simp only []; omega))
 refine .d<|.cf<|.x 0 rfl<|.s<|.g<|.r 1<|RG.CO 0 (BT names (Z.a 0) (by grind [Fw]) (by grind [Fw])) Z fun aJ aK w Z=>.r 2<|RG.Ss 2 Z fun w Z=>.d ?_
 have Z:=(Z.sl 0).sl 0
 exact T.Rb 0 func103 results103 Z ⟨Z.rS (⟨names,AY⟩:Idx) [1,0] (by grind [idxOf,P9]),Z.xt⟩
theorem Et (s:Sto) (h1:RepS w F a1 n1 c1 s.idx.names) (h2:RepS w F a2 n2 c2 s.idx.AY) (h3:RepS w F a3 n3 c3 s.parts) (h4:RepS w F a4 n4 c4 s.mem) (p0:s.mem.length≤1000) (p1:∀ m∈s.mem,1≤m.id∧m.id≤6):Calls Tryz.prog 97 [.agg #[.slice a1 n1 c1,.slice a2 n2 c2,.slice a3 n3 c3,.slice a4 n4 c4]].toArray w (Am fun rv w'=>VS (ge w.heap.size) w' (Ai s.mem:Prt) rv∧Ext w w'):=by
 cases h1.len
 cases h2.len
 cases h3.len
 cases h4.len
 refine goT func97 ?_
 have Z:=((((St.i0 F w).p h1).p h2).p h3).p h4
 refine .s<|.g<|RG.Np Z fun am w Z=>RG.Np Z fun ao w Z=>.d<|.s<|.g<|RG.Nl 0 ([([]:List Row),([]:List Row),([]:List Row),([]:List Row),([]:List Row),([]:List Row)]:List (List Row)) [[5],[4],[3],[2],[1],[0]] ((((((Z.nl Row).nl Row).nl Row).nl Row).nl Row).nl Row) fun ag w Z=>.r 1<|.d<|.s<|.s<|.g<|.r 1<|.d<|.b 0<|T.Lp ((0:Nat),([([]:List Row),([]:List Row),([]:List Row),([]:List Row),([]:List Row),([]:List Row)]:List (List Row))) (fun (i,xs)=>([(1,vP am),(2,vP ao),(3,vS ag 6 6),(4,vI (i:Int))],[(0,.own 0 ag 65 6 xs)],[],s.mem.length - i,(i≤s.mem.length)∧(xs.length=6)∧(∀ b∈xs,b.length≤i)∧((s.mem.drop i).foldl G6 xs=s.mem.foldl G6 [[],[],[],[],[],[]]))) [] Z ⟨AD,AD,AD,AD⟩ ?_
 rintro ⟨i,xs⟩ aF w Z ⟨az,aA,aB,aC⟩ ac
 refine .s<|.s<|.g<|.r 2<|RG.Lb 2 Z<|.r 1<|.bp ((i:Int)< (s.mem.length:Int)) (fun ah=>?_) (fun ah=>.d<|.cf<|.x 0 rfl<|.s<|.g<|.r 1<|RG.CS (HI xs (Z.ob' 0 6) AB (by intro b hb; have ae:=‹∀ b∈xs,b.length≤i› _ hb; omega)) Z fun aG aH aI aJ w Z=>RG.Ss 1 Z fun w Z=>.d<|T.Rb 1 func97 results97 Z ⟨Z.rS (EF xs) [0,1] (by have ae:=Ac (xs:=s.mem) (k:=i) AB; have ai:List.foldl G6 xs (s.mem.drop i)=_:=‹_›; rw [ae] at ai; unfold Ai; rw [← ai]; rfl),Z.xt⟩)
 refine .d<|.ct<|.sk<|.s<|.b 1<|.s<|.g<|.r 1<|RG.Lb 2 Z<|.r 1<|gx (h:=AB) s.mem i fun aa ab=>?_
 have aD:=drop_at ab; have aj:=AV ab
 refine RG.Ix 6 ab Z<|.r 1<|Z.el 6 ab fun Z=>RG.Lh 0 0 Z<|.r 1<|.d<|T.Gd 15 Z fun w Z=>.r [0,1]<|GA.int (i:=2) (aa.id - 1) AA (by (have:=p1 _ ‹_›; omega))<|.r [3,4]<|GA.int (i:=5) (aa.id - 1) AA (by (have:=p1 _ ‹_›; omega))<|gx (h:=(by (have:=p1 _ ‹_›; omega))) xs ((aa.id - 1).toNat) fun af E=>?_
 have ak:=AV E
 exact GA.Ko (hz:=(by (have:=p1 _ ‹_›; omega))) (hn:=(by (have:=p1 _ ‹_›; omega))) 6 0 6 (aa.id - 1) E Z<|Z.eo 0 E fun aK aL Z=>GA.Lt 7 0 0 Z<|.r [8]<|GA.Lb 9 2 Z<|.r [10]<|GA.Ix 11 8 ab Z<|.r [12]<|GA.Lg 13 1 1 Z<|.go 14<|GE.CL (fun w Z=>Ge af aa.row (Z.a 0) (by have ae:=‹∀ b∈xs,b.length≤i› _ ‹_›; omega)) Z fun aM aN w Z=>GA.Dn Z fun w Z=>RG.Ko (hz:=(by (have:=p1 _ ‹_›; omega))) (hn:=(by (have:=p1 _ ‹_›; omega))) 0 6 (aa.id - 1) E Z<|RG.Se 0 0 0 E (Eb af aa.row) [0] Z fun w Z=>.d<|.ib 1<|.g<|.r 1<|RG.int ((i:Int)+1) AA AB<|.r 1<|.d<|ac (i+1,(xs.set ((aa.id - 1).toNat) (Eb af aa.row))) _ _ AA (Z.to 0 [] 3) ⟨AB,(by simp; omega),(by exact Xi ‹_› ‹_›),(by exact Vj ‹_› ‹_› ‹_›)⟩ (by (simp only []; omega))
end Go.Proofs.YtfninflnngpchaaGreatDoor
namespace Go.Proofs.YtfninflnngpchaaGreatDoor
def TN (x:Idx):Prop:=x.names.length≤1000∧∀ n∈x.names,Fw n
def My (s:Sto):Prop:=TN s.idx∧s.parts.length≤100∧(∀ p∈s.parts,Cw p)∧s.mem.length≤900
def BI (s:Sto):Sto × Bool :=
 if s.mem.length=0∨s.parts.length≥6 then (s,false) else (⟨s.idx,s.parts++[Ai s.mem],[]⟩,true)
def Gi (ps:List Prt) (at_:Nat):List Prt:=match ps[at_]?,ps[at_+1]? with
 | some x,some y=>ps.take at_++[BF x y]++ps.drop (at_+2)
 | _,_=>ps
def BH (s:Sto) (at_:Int):Sto × Bool :=
 if inR at_ 0 ((s.parts.length:Int) - 2) then (⟨s.idx,Gi s.parts at_.toNat,s.mem⟩,true) else (s,false)
def GG (s:Sto) (n:List Tag) (r:Row):Sto:=⟨(BV s.idx n).1,s.parts,s.mem++[⟨(BV s.idx n).2.1,r⟩]⟩
def CI (s:Sto) (n:List Tag) (r:Row):Sto × Bool :=
 if !(BV s.idx n).2.2 || !BZ r || decide (s.mem.length≥20) then (s,false)
 else if (rowsOf (GG s n r) (BV s.idx n).2.1).length > 24 then (s,false) else (GG s n r,true)
theorem HL {ix:Idx}{n:List Tag}(h:G5 ix n > 0):BV ix n=(ix,G5 ix n,true):=by unfold BV; rw [if_pos h]
theorem Fl {ix:Idx}{n:List Tag}(h:¬ G5 ix n > 0) (h2:Ao n=false∨(ix.names.length:Int)≥6):BV ix n=(ix,0,false):=by
 unfold BV
 rw [if_neg h,if_pos]
 rcases h2 with h2 | h2
 ·simp [h2]
 ·simp; omega
theorem HM {ix:Idx}{n:List Tag}(h:¬ G5 ix n > 0) (h2:Ao n=true) (h3:¬ (ix.names.length:Int)≥6):BV ix n=(idxOf (ix.names++[n]),(ix.names.length:Int)+1,true):=by
 unfold BV
 rw [if_neg h,if_neg]
 simp [h2]
 omega
theorem Hs {ps:List Prt}{i:Nat}{x y:Prt}(hx:ps[i]? = some x) (hy:ps[i+1]? = some y):Gi ps i=ps.take i++[BF x y]++ps.drop (i+2):=by
 simp [Gi,hx,hy]
theorem LY {s:Sto}{n:List Tag}{r:Row}(h:(BV s.idx n).2.2=false):CI s n r=(s,false):=by unfold CI; rw [if_pos (by simp [h])]
theorem LZ {s:Sto}{n:List Tag}{r:Row}(h:BZ r=false):CI s n r=(s,false):=by unfold CI; rw [if_pos (by simp [h])]
theorem QA {s:Sto}{n:List Tag}{r:Row}(h:(s.mem.length:Int)≥20):CI s n r=(s,false):=by unfold CI; rw [if_pos (by simp; omega)]
theorem Gj {s:Sto}{n:List Tag}{r:Row}(h1:(BV s.idx n).2.2=true) (h2:BZ r=true) (h3:¬ (s.mem.length:Int)≥20) (h:((rowsOf (GG s n r) (BV s.idx n).2.1).length:Int) > 24):CI s n r=(s,false):=by
 unfold CI; rw [if_neg (by simp [h1,h2]; omega),if_pos AB]
theorem Gk {s:Sto}{n:List Tag}{r:Row}(h1:(BV s.idx n).2.2=true) (h2:BZ r=true) (h3:¬ (s.mem.length:Int)≥20) (h:¬ ((rowsOf (GG s n r) (BV s.idx n).2.1).length:Int) > 24):CI s n r=(GG s n r,true):=by
 unfold CI; rw [if_neg (by simp [h1,h2]; omega),if_neg AB]
theorem La {s:Sto}{a:Int}(h:inR a 0 ((s.parts.length:Int) - 2)=false):BH s a=(s,false):=by unfold BH; rw [if_neg (by simp [h])]
theorem Lc {s:Sto}{a:Int}{x y:Prt}(h:inR a 0 ((s.parts.length:Int) - 2)=true) (hx:s.parts[a.toNat]? = some x) (hy:s.parts[(a+1).toNat]? = some y) :
 BH s a=(⟨s.idx,(([]++(s.parts.take a.toNat).drop 0)++[BF x y])++((s.parts.take s.parts.length).drop (a+2).toNat),s.mem⟩,true):=by
 have h1:=BW h
 have e1:(a+1).toNat=a.toNat+1:=by omega
 have e2:(a+2).toNat=a.toNat+2:=by omega
 rw [e1] at hy
 unfold BH
 rw [if_pos h,Hs hx hy,e2]
 simp
end Go.Proofs.YtfninflnngpchaaGreatDoor
namespace Go.Proofs.YtfninflnngpchaaGreatDoor
set_option maxRecDepth 100000
set_option maxHeartbeats 4000000
variable {w:World} {F:Nat→Prop} {a1 a2 a3 a4 a5:Option Addr} {n1 c1 n2 c2 n3 c3 n4 c4 n5 c5:Nat}
theorem Mf (ix:Idx) (n:List Tag) (h1:RepS w F a1 n1 c1 ix.names) (h2:RepS w F a2 n2 c2 ix.AY) (h3:RepS w F a3 n3 c3 n) (p0:TN ix) (p1:Fw n):Calls Tryz.prog 95 [.agg #[.slice a1 n1 c1,.slice a2 n2 c2],.slice a3 n3 c3].toArray w (Am fun rv w'=>(∃ v0,rv=.tuple #[v0,.int .i64 ((BV ix n).2.1),.bool ((BV ix n).2.2)]∧VS (fo F w.heap.size) w' ((BV ix n).1:Idx) v0)∧Ext w w'):=by
 cases h1.len
 cases h2.len
 cases h3.len
 refine goT func95 ?_
 have Z:=(((St.i0 F w).p h1).p h2).p h3
 have ae:=h1.max
 have ag:=h3.max
 refine .s<|.g<|RG.Np Z fun ab w Z=>RG.Np Z fun ai w Z=>.r 2<|.d<|.s<|.g<|RG.Ln 1 Z<|.r 1<|RG.C0 (N4 ix n (Z.a 2) (Z.a 1) (Z.a 0) p0.1 p0.2 p1) Z fun w Z=>.r 1<|.d<|.s<|.s<|.g<|.r 1<|.bp (G5 ix n > 0) (fun E=>.d<|.ct<|.s<|.g<|RG.Ln 1 Z<|.r 1<|RG.Ss 0 Z fun w Z=>.r 2<|.d<|T.r3 func95 results95 (.B 0 Z) (.t (vI (G5 ix n))) (.t (.bool true)) ⟨⟨_,(Kk rfl (congrArg (Value.int .i64) (by (rw [HL ‹_›]))) (AG (by (rw [HL ‹_›])))),Z.rS (g:=1) ix [2,1] (by (rw [HL ‹_›]))⟩,Z.xt⟩) fun E=>.d<|.cf<|.sk<|.s<|.s<|.g<|.r 1<|RG.C0 (Fx n (Z.a 0)) Z fun w Z=>?_
 cases ah:(Ao n)
 ·exact .r 7<|.d<|.ct<|.s<|.g<|RG.Ln 1 Z<|RG.Ss 0 Z fun w Z=>.r 2<|.d<|T.r3 func95 results95 (.B 0 Z) (.t (vI 0)) (.t (.bool false)) ⟨⟨_,(Kk rfl (congrArg (Value.int .i64) (by (rw [Fl ‹_› (.inl ‹_›)]))) (AG (by (rw [Fl ‹_› (.inl ‹_›)])))),Z.rS (g:=1) ix [2,1] (by (rw [Fl ‹_› (.inl ‹_›)]))⟩,Z.xt⟩
 exact .r 3<|RG.Lb 1 Z<|.r 1<|.bp ((ix.names.length:Int)≥6) (fun aa=>.r 1<|.d<|.ct<|.s<|.g<|RG.Ln 1 Z<|RG.Ss 0 Z fun w Z=>.r 2<|.d<|T.r3 func95 results95 (.B 0 Z) (.t (vI 0)) (.t (.bool false)) ⟨⟨_,(Kk rfl (congrArg (Value.int .i64) (by (rw [Fl ‹_› (.inr ‹_›)]))) (AG (by (rw [Fl ‹_› (.inr ‹_›)])))),Z.rS (g:=1) ix [2,1] (by (rw [Fl ‹_› (.inr ‹_›)]))⟩,Z.xt⟩) fun aa=>.r 1<|.d<|.cf<|.sk<|.s<|.g<|.r 1<|RG.Lb 1 Z<|RG.CO 1 (BT ix.names (Z.a 2) (by have:=p0.1; omega) (by intro n hn; have:=(p0.2 n hn).1; omega)) Z fun aj ak w Z=>RG.N0 Tag 1 Z fun am w Z=>.r 1<|RG.An (hs:=by (simp only [List.nil_append,List.length_nil,List.length_append,List.length_cons] <;> exact (by have:=p0.1; have:=p1.1; omega))) 0 0 ([]:List Tag) n Z fun ao aq w Z=>RG.Nb 1 Z fun ar w Z=>RG.Ap (hs:=by exact (by have:=p0.1; have:=p1.1; omega)) 0 0 ix.names ([]++n) [0] (Z.sl 1) fun ax ay w Z=>RG.CS (FG (ix.names++[([]++n)]) (Z.oa 0) (by have:=p0.1; simp; omega) (by intro m hm; simp at hm; rcases hm with hm | rfl; exact p0.2 m hm; exact p1)) Z fun az aA aB aC w Z=>RG.Np Z fun ac w Z=>RG.Ss 0 Z fun w Z=>.d<|.s<|T.GS 5 [ac,ab] Z fun _ w Z=>GA.Ln 0 0 Z<|.r [1]<|GA.Lb 2 0 Z<|.r [3]<|.go 4<|GE.Ss 2 [0,3] Z fun w Z=>GA.Do Z fun w Z=>.r 2<|.d<|T.r3 func95 results95 (.B 2 Z) (.t (vI ((((idxOf (ix.names++[([]++n)])).names).length):Int))) (.t (.bool true)) ⟨⟨_,(Kk rfl (congrArg (Value.int .i64) (by (rw [HM ‹_› ‹_› ‹_›] <;> simp [idxOf]))) (AG (by (rw [HM ‹_› ‹_› ‹_›] <;> simp [idxOf])))),Z.rS (g:=1) (idxOf (ix.names++[([]++n)])) [0,1] (by (rw [HM ‹_› ‹_› ‹_›] <;> simp [idxOf]))⟩,Z.xt⟩
theorem Kn (s:Sto) (h1:RepS w F a1 n1 c1 s.idx.names) (h2:RepS w F a2 n2 c2 s.idx.AY) (h3:RepS w F a3 n3 c3 s.parts) (h4:RepS w F a4 n4 c4 s.mem) (p0:s.mem.length≤1000) (p1:∀ m∈s.mem,1≤m.id∧m.id≤6):Calls Tryz.prog 48 [.agg #[.slice a1 n1 c1,.slice a2 n2 c2,.slice a3 n3 c3,.slice a4 n4 c4]].toArray w (Am fun rv w'=>(∃ v0,rv=.tuple #[v0,.bool ((BI s).2)]∧VS (fo F w.heap.size) w' ((BI s).1:Sto) v0)∧Ext w w'):=by
 cases h1.len
 cases h2.len
 cases h3.len
 cases h4.len
 refine goT func48 ?_
 have Z:=((((St.i0 F w).p h1).p h2).p h3).p h4
 have ag:=h3.max
 refine .s<|.g<|RG.Np Z fun ab w Z=>RG.Np Z fun ac w Z=>.r 1<|.d<|.s<|.s<|.g<|.r 1<|RG.Lb 1 Z<|.r 1<|.eq (s.mem.length:Int) 0 (fun E=>.r 6<|.d<|.ct<|.s<|.g<|RG.Ln 1 Z<|RG.Ss 0 Z fun w Z=>.r 1<|.d<|T.r2 func48 results48 (.B 0 Z) (.t (.bool false)) ⟨⟨_,(Be rfl (AG (by (unfold BI; (rw [if_pos AB]))))),Z.rS (g:=1) s [3,2,1,0] (by (unfold BI; (rw [if_pos AB])))⟩,Z.xt⟩) fun E=>.r 2<|RG.Lb 1 Z<|.r 1<|.bp ((s.parts.length:Int)≥6) (fun aa=>.r 1<|.d<|.ct<|.s<|.g<|RG.Ln 1 Z<|RG.Ss 0 Z fun w Z=>.r 1<|.d<|T.r2 func48 results48 (.B 0 Z) (.t (.bool false)) ⟨⟨_,(Be rfl (AG (by (unfold BI; (rw [if_pos AB]))))),Z.rS (g:=1) s [3,2,1,0] (by (unfold BI; (rw [if_pos AB])))⟩,Z.xt⟩) fun aa=>.r 1<|.d<|.cf<|.sk<|.s<|T.GS 5 [ac,ab] Z fun _ w Z=>.r [1]<|GA.Lb (q:=1) 2 1 Z<|GA.Ln (q:=1) 4 1 Z<|.go 0<|GE.N0 Prt 1 Z fun ai w Z=>.go 3<|GE.An 0 1 ([]:List Prt) s.parts [1,2] Z fun aj ak w Z=>GA.Do Z fun w Z=>RG.CS (Et s (Z.a 3) (Z.a 2) (Z.a 1) (Z.a 0) p0 p1) Z fun am ao aq ar w Z=>RG.Nb 1 Z fun ax w Z=>RG.Ap 0 0 ([]++s.parts) (Ai s.mem) [0,1] Z fun ay az w Z=>.r 1<|RG.Ss 2 Z fun w Z=>.d<|.s<|.g<|RG.N0 Smp 1 Z fun aA w Z=>.r 1<|RG.Ss 3 Z fun w Z=>.d<|.s<|.g<|RG.Ln 3 Z<|RG.Ss 2 Z fun w Z=>.r 1<|.d ?_
 have Z:=(Z.sl 1).sl 0
 exact T.r2 func48 results48 (.B 0 Z) (.t (.bool true)) ⟨⟨_,(Be rfl (AG (by (unfold BI; (rw [if_neg AB] <;> simp))))),Z.rS (g:=1) (⟨(⟨s.idx.names,s.idx.AY⟩:Idx),(([]++s.parts)++[(Ai s.mem)]),([]:List Smp)⟩:Sto) [7,6,1,0] (by (unfold BI; (rw [if_neg AB] <;> simp)))⟩,Z.xt⟩
theorem Kp (s:Sto) (at_:Int) (h1:RepS w F a1 n1 c1 s.idx.names) (h2:RepS w F a2 n2 c2 s.idx.AY) (h3:RepS w F a3 n3 c3 s.parts) (h4:RepS w F a4 n4 c4 s.mem) (p0:s.parts.length≤100) (p1:∀ p∈s.parts,Cw p):Calls Tryz.prog 51 [.agg #[.slice a1 n1 c1,.slice a2 n2 c2,.slice a3 n3 c3,.slice a4 n4 c4],.int .i64 at_].toArray w (Am fun rv w'=>(∃ v0,rv=.tuple #[v0,.bool ((BH s at_).2)]∧VS (fo F w.heap.size) w' ((BH s at_).1:Sto) v0)∧Ext w w'):=by
 cases h1.len
 cases h2.len
 cases h3.len
 cases h4.len
 refine goT func51 ?_
 have Z:=((((St.i0 F w).p h1).p h2).p h3).p h4
 refine .s<|.g<|RG.Np Z fun ah w Z=>RG.Np Z fun ai w Z=>.r 1<|.d<|.s<|.s<|.g<|.r 2<|RG.Lb 1 Z<|.r 1<|RG.int ((s.parts.length:Int) - 2) AA (by grind [inR])<|RG.C0 (CF at_ 0 ((s.parts.length:Int) - 2) (F:=all)) Z fun w Z=>?_
 cases ae:(inR at_ 0 ((s.parts.length:Int) - 2))
 ·exact .r 1<|.d<|.ct<|.s<|.g<|RG.Ln 1 Z<|RG.Ss 0 Z fun w Z=>.r 1<|.d<|T.r2 func51 results51 (.B 0 Z) (.t (.bool false)) ⟨⟨_,(Be rfl (AG (by rw [La ‹_›]))),Z.rS (g:=1) s [3,2,1,0] (by rw [La ‹_›])⟩,Z.xt⟩
 have ar:=BW ae
 refine .r 1<|.d<|.cf<|.sk<|.s<|.g<|RG.N0 Prt 1 Z fun az w Z=>.r 1<|RG.Lb 2 Z<|.r 1<|RG.Sb (hlh:=(by grind [inR])) (hh:=(by grind [inR])) (hhi:=bdI at_) 1 0 (at_.toNat) s.parts Z fun aA aB Z=>RG.An 0 0 ([]:List Prt) ((s.parts.take (at_.toNat)).drop 0) Z fun aC aD w Z=>.r 1<|.d<|.s<|T.GS 14 [ai,ah] Z fun _ w Z=>.r [0,1]<|GA.Lb (q:=1) 2 2 Z<|.r [3]<|gx (h:=(by grind [inR])) s.parts (at_.toNat) fun ab E=>?_
 have af:=AV E
 refine GA.Jx (hz:=(by grind [inR])) 4 2 at_ E Z<|Z.el 2 E fun aE aF aG aH Z=>GA.Lg 5 0 0 Z<|.r [6]<|GA.Lb (q:=1) 7 2 Z<|.r [8]<|GA.int (i:=9) (at_+1) AA (by grind [inR])<|gx (h:=(by grind [inR])) s.parts ((at_+1).toNat) fun ac aa=>?_
 have ag:=AV aa
 refine GA.Jx (hz:=(by grind [inR])) 10 5 (at_+1) aa Z<|Z.el 5 aa fun aI aJ aK aL Z=>GA.Lg 11 0 0 Z<|.go 12<|GE.CS (fun w Z=>Dp ab ac (Z.a 4) (Z.a 5) (Z.a 1) (Z.a 2) (by grind) (by grind)) Z fun aM aN aO aP w Z=>.go 13<|GE.Nb 1 Z fun aQ w Z=>GA.Do Z fun w Z=>RG.Ap 0 0 ([]++((s.parts.take (at_.toNat)).drop 0)) (BF ab ac) [0,1] Z fun aR aS w Z=>.r 1<|.d<|.s<|.g<|.r 2<|RG.Lb 2 Z<|.r 1<|RG.int (at_+2) AA (by grind [inR])<|RG.Sb (hlh:=(by grind [inR])) (hh:=(by grind [inR])) (hlo:=bdI (at_+2)) 10 ((at_+2).toNat) s.parts.length s.parts Z fun aT aU Z=>RG.An 0 0 (([]++((s.parts.take (at_.toNat)).drop 0))++[(BF ab ac)]) ((s.parts.take s.parts.length).drop ((at_+2).toNat)) Z fun aV aW w Z=>.r 1<|RG.Ss 2 Z fun w Z=>.d<|.s<|.g<|RG.Ln 2 Z<|RG.Ss 1 Z fun w Z=>.r 1<|.d ?_
 have Z:=Z.sl 0
 exact T.r2 func51 results51 (.B 0 Z) (.t (.bool true)) ⟨⟨_,(Be rfl (AG (by rw [Lc ‹_› ‹_› ‹_›]))),Z.rS (g:=1) (⟨(⟨s.idx.names,s.idx.AY⟩:Idx),((([]++((s.parts.take (at_.toNat)).drop 0))++[(BF ab ac)])++((s.parts.take s.parts.length).drop ((at_+2).toNat))),s.mem⟩:Sto) [14,13,0,11] (by rw [Lc ‹_› ‹_› ‹_›])⟩,Z.xt⟩
theorem Mg (s:Sto) (n:List Tag) (r:Row) (h1:RepS w F a1 n1 c1 s.idx.names) (h2:RepS w F a2 n2 c2 s.idx.AY) (h3:RepS w F a3 n3 c3 s.parts) (h4:RepS w F a4 n4 c4 s.mem) (h5:RepS w F a5 n5 c5 n) (p0:My s) (p1:Fw n):Calls Tryz.prog 47 [.agg #[.slice a1 n1 c1,.slice a2 n2 c2,.slice a3 n3 c3,.slice a4 n4 c4],.slice a5 n5 c5,.agg #[.int .i64 r.t,.int .i64 r.v]].toArray w (Am fun rv w'=>(∃ v0,rv=.tuple #[v0,.bool ((CI s n r).2)]∧VS (fo F w.heap.size) w' ((CI s n r).1:Sto) v0)∧Ext w w'):=by
 cases h1.len
 cases h2.len
 cases h3.len
 cases h4.len
 cases h5.len
 refine goT func47 ?_
 have Z:=(((((St.i0 F w).p h1).p h2).p h3).p h4).p h5
 have ao:=h4.max
 refine .s<|.g<|RG.Np Z fun ae w Z=>RG.Np Z fun af w Z=>RG.Np Z fun ag w Z=>.r 1<|.d<|.s<|.g<|.r 1<|RG.Ln 2 Z<|.r 1<|RG.CT (us:=[vI ((BV s.idx n).2.1),.bool ((BV s.idx n).2.2)]) (Mf s.idx n (Z.mg 1 4) (Z.mg 1 3) (Z.mg 1 0) p0.1 p1) Z fun ay az aA aB w Z=>.r 3 ?_
 cases ar:(BV s.idx n).2.2
 ·exact .r 1<|RG.Np Z fun aC w Z=>RG.Ss 0 Z fun w Z=>.r 2<|.d<|.s<|.s<|.g<|.r 13<|.d<|.ct<|.s<|.g<|RG.Ln 3 Z<|RG.Ss 1 Z fun w Z=>.r 1<|.d<|T.r2 func47 results47 (.B 1 Z) (.t (.bool false)) ⟨⟨_,(Be rfl (AG (by rw [LY ‹_›]))),Z.rS (g:=1) s [6,5,4,3] (by rw [LY ‹_›])⟩,Z.xt⟩
 refine .r 1<|RG.Np Z fun ah w Z=>RG.Ss 0 Z fun w Z=>.r 2<|.d<|.s<|.s<|.g<|.r 3<|RG.Ln 2 Z<|RG.C0 (N3 r (F:=all)) Z fun w Z=>?_
 cases ax:(BZ r)
 ·exact .r 8<|.d<|.ct<|.s<|.g<|RG.Ln 3 Z<|RG.Ss 1 Z fun w Z=>.r 1<|.d<|T.r2 func47 results47 (.B 1 Z) (.t (.bool false)) ⟨⟨_,(Be rfl (AG (by rw [LZ ‹_›]))),Z.rS (g:=1) s [6,5,4,3] (by rw [LZ ‹_›])⟩,Z.xt⟩
 refine .r 4<|RG.Lb 3 Z<|.r 1<|.bp ((s.mem.length:Int)≥20) (fun E=>.r 1<|.d<|.ct<|.s<|.g<|RG.Ln 3 Z<|RG.Ss 1 Z fun w Z=>.r 1<|.d<|T.r2 func47 results47 (.B 1 Z) (.t (.bool false)) ⟨⟨_,(Be rfl (AG (by rw [QA ‹_›]))),Z.rS (g:=1) s [6,5,4,3] (by rw [QA ‹_›])⟩,Z.xt⟩) fun E=>.r 1<|.d<|.cf<|.sk<|.s<|.g<|RG.Ln 3 Z<|RG.Np Z fun ai w Z=>RG.Ss 0 Z fun w Z=>.d<|.s<|.g<|RG.Ln 1 Z<|.r 1<|RG.Ss 0 Z fun w Z=>.d<|.s<|T.GS 8 [ai,ah,ag,af,ae] Z fun _ w Z=>.r [1]<|GA.Lb (q:=4) 2 4 Z<|.r [4]<|GA.Ln (q:=3) 5 3 Z<|.r [6]<|.tw 0 7 ?_ ?_
 ·refine GE.N0 Smp 1 Z fun aD w Z=>.tw 3 7 ?_ ?_
  ·refine GE.An (hs:=by (simp only [List.nil_append,List.length_nil,List.length_append,List.length_cons] <;> exact (by have:=p0.2.2.2; omega))) 0 3 ([]:List Smp) s.mem [1,2,3,4,5] Z fun aE aF w Z=>.go 7<|GE.Nb 1 Z fun aG w Z=>GA.Do Z fun w Z=>RG.Ap (hs:=by (simp only [List.nil_append,List.length_nil,List.length_append,List.length_cons] <;> exact (by have:=p0.2.2.2; omega))) 0 0 ([]++s.mem) (⟨(BV s.idx n).2.1,(⟨r.t,r.v⟩:Row)⟩:Smp) [] Z fun aH aI w Z=>.r 1<|RG.Ss 1 Z fun w Z=>.d<|.s<|.s<|.g<|RG.Ln 1 Z<|.r 1<|RG.CL (EI (⟨(⟨(BV s.idx n).1.names,((BV s.idx n).1).AY⟩:Idx),s.parts,(([]++s.mem)++[(⟨(BV s.idx n).2.1,(⟨r.t,r.v⟩:Row)⟩:Smp)])⟩:Sto) ((BV s.idx n).2.1) (Z.a 0) (Z.a 1) (Z.a 4) (Z.oa 0) p0.2.1 p0.2.2.1 (by have:=p0.2.2.2; simp; omega)) Z fun aJ aK w Z=>.r 1<|.bp ((((rowsOf (⟨(⟨(BV s.idx n).1.names,((BV s.idx n).1).AY⟩:Idx),s.parts,(([]++s.mem)++[(⟨(BV s.idx n).2.1,(⟨r.t,r.v⟩:Row)⟩:Smp)])⟩:Sto) ((BV s.idx n).2.1)).length):Int) > 24) (fun aa=>.d<|.ct<|.s<|.g<|RG.Ln 5 Z<|RG.Ss 3 Z fun w Z=>.r 1<|.d<|T.r2 func47 results47 (.B 3 Z) (.t (.bool false)) ⟨⟨_,(Be rfl (AG (by rw [Gj ‹_› ‹_› ‹_› ‹_›]))),Z.rS (g:=1) s [7,6,5,4] (by rw [Gj ‹_› ‹_› ‹_› ‹_›])⟩,Z.xt⟩) fun aa=>.d<|.cf<|.sk<|.s<|.g<|RG.Ln 1 Z<|RG.Ss 3 Z fun w Z=>.r 1<|.d ?_
   have Z:=Z.sl 0
   exact T.r2 func47 results47 (.B 2 Z) (.t (.bool true)) ⟨⟨_,(Be rfl (AG (by (rw [Gk ‹_› ‹_› ‹_› ‹_›] <;> rfl)))),Z.rS (g:=1) (⟨(⟨(BV s.idx n).1.names,((BV s.idx n).1).AY⟩:Idx),s.parts,(([]++s.mem)++[(⟨(BV s.idx n).2.1,(⟨r.t,r.v⟩:Row)⟩:Smp)])⟩:Sto) [2,3,6,0] (by (rw [Gk ‹_› ‹_› ‹_› ‹_›] <;> rfl))⟩,Z.xt⟩
  refine GE.Nb 1 Z fun aL w Z=>.go 3<|GE.An (hs:=by (simp only [List.nil_append,List.length_nil,List.length_append,List.length_cons] <;> exact (by have:=p0.2.2.2; omega))) 1 3 ([]:List Smp) s.mem [2,3,4,5,6] Z fun aM aN w Z=>GA.Do Z fun w Z=>RG.Ap (hs:=by (simp only [List.nil_append,List.length_nil,List.length_append,List.length_cons] <;> exact (by have:=p0.2.2.2; omega))) 0 0 ([]++s.mem) (⟨(BV s.idx n).2.1,(⟨r.t,r.v⟩:Row)⟩:Smp) [] Z fun aO aP w Z=>.r 1<|RG.Ss 1 Z fun w Z=>.d<|.s<|.s<|.g<|RG.Ln 1 Z<|.r 1<|RG.CL (EI (⟨(⟨(BV s.idx n).1.names,((BV s.idx n).1).AY⟩:Idx),s.parts,(([]++s.mem)++[(⟨(BV s.idx n).2.1,(⟨r.t,r.v⟩:Row)⟩:Smp)])⟩:Sto) ((BV s.idx n).2.1) (Z.a 0) (Z.a 1) (Z.a 4) (Z.oa 0) p0.2.1 p0.2.2.1 (by have:=p0.2.2.2; simp; omega)) Z fun aQ aR w Z=>.r 1<|.bp ((((rowsOf (⟨(⟨(BV s.idx n).1.names,((BV s.idx n).1).AY⟩:Idx),s.parts,(([]++s.mem)++[(⟨(BV s.idx n).2.1,(⟨r.t,r.v⟩:Row)⟩:Smp)])⟩:Sto) ((BV s.idx n).2.1)).length):Int) > 24) (fun ab=>.d<|.ct<|.s<|.g<|RG.Ln 5 Z<|RG.Ss 3 Z fun w Z=>.r 1<|.d<|T.r2 func47 results47 (.B 3 Z) (.t (.bool false)) ⟨⟨_,(Be rfl (AG (by rw [Gj ‹_› ‹_› ‹_› ‹_›]))),Z.rS (g:=1) s [7,6,5,4] (by rw [Gj ‹_› ‹_› ‹_› ‹_›])⟩,Z.xt⟩) fun ab=>.d<|.cf<|.sk<|.s<|.g<|RG.Ln 1 Z<|RG.Ss 3 Z fun w Z=>.r 1<|.d ?_
  have Z:=Z.sl 0
  exact T.r2 func47 results47 (.B 2 Z) (.t (.bool true)) ⟨⟨_,(Be rfl (AG (by (rw [Gk ‹_› ‹_› ‹_› ‹_›] <;> rfl)))),Z.rS (g:=1) (⟨(⟨(BV s.idx n).1.names,((BV s.idx n).1).AY⟩:Idx),s.parts,(([]++s.mem)++[(⟨(BV s.idx n).2.1,(⟨r.t,r.v⟩:Row)⟩:Smp)])⟩:Sto) [2,3,6,0] (by (rw [Gk ‹_› ‹_› ‹_› ‹_›] <;> rfl))⟩,Z.xt⟩
 refine GE.Nb 1 Z fun aS w Z=>.go 0<|GE.N0 Smp 1 Z fun aT w Z=>.go 3<|GE.An (hs:=by (simp only [List.nil_append,List.length_nil,List.length_append,List.length_cons] <;> exact (by have:=p0.2.2.2; omega))) 0 3 ([]:List Smp) s.mem [2,3,4,5,6] Z fun aU aV w Z=>GA.Do Z fun w Z=>RG.Ap (hs:=by (simp only [List.nil_append,List.length_nil,List.length_append,List.length_cons] <;> exact (by have:=p0.2.2.2; omega))) 0 1 ([]++s.mem) (⟨(BV s.idx n).2.1,(⟨r.t,r.v⟩:Row)⟩:Smp) [] Z fun aW aX w Z=>.r 1<|RG.Ss 1 Z fun w Z=>.d<|.s<|.s<|.g<|RG.Ln 1 Z<|.r 1<|RG.CL (EI (⟨(⟨(BV s.idx n).1.names,((BV s.idx n).1).AY⟩:Idx),s.parts,(([]++s.mem)++[(⟨(BV s.idx n).2.1,(⟨r.t,r.v⟩:Row)⟩:Smp)])⟩:Sto) ((BV s.idx n).2.1) (Z.a 0) (Z.a 1) (Z.a 4) (Z.oa 0) p0.2.1 p0.2.2.1 (by have:=p0.2.2.2; simp; omega)) Z fun aY aZ w Z=>.r 1<|.bp ((((rowsOf (⟨(⟨(BV s.idx n).1.names,((BV s.idx n).1).AY⟩:Idx),s.parts,(([]++s.mem)++[(⟨(BV s.idx n).2.1,(⟨r.t,r.v⟩:Row)⟩:Smp)])⟩:Sto) ((BV s.idx n).2.1)).length):Int) > 24) (fun ac=>.d<|.ct<|.s<|.g<|RG.Ln 5 Z<|RG.Ss 3 Z fun w Z=>.r 1<|.d<|T.r2 func47 results47 (.B 3 Z) (.t (.bool false)) ⟨⟨_,(Be rfl (AG (by rw [Gj ‹_› ‹_› ‹_› ‹_›]))),Z.rS (g:=1) s [7,6,5,4] (by rw [Gj ‹_› ‹_› ‹_› ‹_›])⟩,Z.xt⟩) fun ac=>.d<|.cf<|.sk<|.s<|.g<|RG.Ln 1 Z<|RG.Ss 3 Z fun w Z=>.r 1<|.d ?_
 have Z:=Z.sl 0
 exact T.r2 func47 results47 (.B 2 Z) (.t (.bool true)) ⟨⟨_,(Be rfl (AG (by (rw [Gk ‹_› ‹_› ‹_› ‹_›] <;> rfl)))),Z.rS (g:=1) (⟨(⟨(BV s.idx n).1.names,((BV s.idx n).1).AY⟩:Idx),s.parts,(([]++s.mem)++[(⟨(BV s.idx n).2.1,(⟨r.t,r.v⟩:Row)⟩:Smp)])⟩:Sto) [2,3,6,0] (by (rw [Gk ‹_› ‹_› ‹_› ‹_›] <;> rfl))⟩,Z.xt⟩
end Go.Proofs.YtfninflnngpchaaGreatDoor
namespace Go.Proofs.YtfninflnngpchaaGreatDoor
def Ah (s:Sto):Sto:=⟨idxOf s.idx.names,s.parts,s.mem⟩
def BN (d:Dsk):Dsk:=⟨d.files.filter (fun f=>d.list.contains f.num),d.list,d.names,d.next⟩
def BB (d:Dsk) (s:Sto):List Stp :=
 if s.mem.length=0∨d.list.length≥6∨d.next≥999∨d.files.length≥20 then []
 else [⟨1,d.next,Ai s.mem,[],[]⟩,⟨2,0,⟨[],[]⟩,d.list++[d.next],s.idx.names⟩]
theorem Ei {d:Dsk}{s:Sto}(h:(s.mem.length:Int)=0∨(d.list.length:Int)≥6∨d.next≥999∨(d.files.length:Int)≥20):BB d s=[]:=by unfold BB; rw [if_pos AB]
theorem DT {d:Dsk}{s:Sto}(h1:(s.mem.length:Int)≠0) (h2:¬ (d.list.length:Int)≥6) (h3:¬ d.next≥999) (h4:¬ (d.files.length:Int)≥20) :
 BB d s=[⟨1,d.next,Ai s.mem,[],[]⟩,⟨2,0,⟨[],[]⟩,d.list++[d.next],s.idx.names⟩]:=by unfold BB; rw [if_neg AB]
theorem Q4 {α:Type}{l:List (List α)}{i:Nat}{k:List (List α)}{q:List α}(h:k++l.drop i=l) (hd:l.drop i=q::l.drop (i+1)):(k++[[]++q])++l.drop (i+1)=l:=by
 rw [hd] at h
 simpa using h
theorem TO {l:List Prt}{i:Nat}{k:List Prt}{q:Prt}{a:List Int}{b:List (List Row)}(h:k++l.drop i=l) (hd:l.drop i=q::l.drop (i+1)) (ha:a=q.ids) (hb:b=q.blocks):(k++[⟨a,b⟩])++l.drop (i+1)=l:=by
 subst ha hb
 rw [hd] at h
 simpa using h
end Go.Proofs.YtfninflnngpchaaGreatDoor
namespace Go.Proofs.YtfninflnngpchaaGreatDoor
set_option maxRecDepth 100000
set_option maxHeartbeats 4000000
variable {w:World} {F:Nat→Prop} {a1 a2 a3 a4 a5 a6 a7:Option Addr} {n1 c1 n2 c2 n3 c3 n4 c4 n5 c5 n6 c6 n7 c7:Nat}
theorem Ld (d:Dsk) (h1:RepS w F a1 n1 c1 d.files) (h2:RepS w F a2 n2 c2 d.list) (h3:RepS w F a3 n3 c3 d.names) (p0:d.files.length≤1000):Calls Tryz.prog 54 [.agg #[.slice a1 n1 c1,.slice a2 n2 c2,.slice a3 n3 c3,.int .i64 d.next]].toArray w (Am fun rv w'=>VS (fo F w.heap.size) w' (BN d:Dsk) rv∧Ext w w'):=by
 cases h1.len
 cases h2.len
 cases h3.len
 refine goT func54 ?_
 have Z:=(((St.i0 F w).p h1).p h2).p h3
 refine .s<|.g<|RG.Np Z fun af w Z=>RG.Np Z fun ag w Z=>.d<|.s<|.g<|RG.N0 Fil 1 Z fun ah w Z=>.r 1<|.d<|.s<|.s<|.g<|.r 1<|.d<|.b 0<|T.Lp (([]:List Fil),ah,(0:Nat),(0:Nat)) (fun (files,r_files,c_files,i)=>([(1,vP af),(2,vP ag),(3,vS r_files files.length c_files),(4,vI (i:Int))],[(0,.own 1 r_files 142 c_files files)],[],d.files.length - i,(i≤d.files.length)∧(files.length≤i)∧(files++(d.files.drop i).filter (fun f=>d.list.contains f.num)=d.files.filter (fun f=>d.list.contains f.num)))) [] Z ⟨AD,AD,AD⟩ ?_
 rintro ⟨files,r_files,c_files,i⟩ aA w Z ⟨aq,ar,ax⟩ E
 refine .s<|.s<|.g<|.r 2<|RG.Lb 2 Z<|.r 1<|.bp ((i:Int)< (d.files.length:Int)) (fun ac=>?_) (fun ac=>?_)
 ·refine .d<|.ct<|.sk<|.s<|.b 1<|.s<|T.Gd 7 Z fun w Z=>GA.Ln 0 2 Z<|.r [1]<|GA.Lb 2 2 Z<|.r [3]<|gx d.files i fun ab aa=>?_
  have ay:=drop_at aa
  refine GA.Ix 4 2 aa Z<|.r [5]<|Z.el 2 aa fun aB aC aD aE Z=>GA.Lh 6 0 0 Z<|GA.Dn Z fun w Z=>RG.C0 (GC d ab.num (Z.a 5) (Z.a 4) (Z.a 3)) Z fun w Z=>?_
  cases az:(d.list.contains ab.num)
  ·exact .d<|.cf<|.sk<|.ib 1<|.g<|.r 1<|.it ((i:Int)+1)<|.r 1<|.d<|E (files,r_files,c_files,i+1) _ _ AA (Z.to 0 [] 3) ⟨AB,AB,(by grind)⟩ (by (simp only []; omega))
  exact .d<|.ct<|.g<|.r 2<|RG.Lb 2 Z<|.r 1<|RG.Ix 5 aa Z<|RG.Lg 0 0 Z<|RG.Nb 1 Z fun aF w Z=>RG.Ap 0 0 files ab [1,2] Z fun ai aj w Z=>.r 1<|.d<|.ib 1<|.g<|.r 1<|.it ((i:Int)+1)<|.r 1<|.d<|E ((files++[ab]),ai,aj,i+1) _ _ AA (Z.to 0 [] 3) ⟨AB,(by (simp; omega)),(by grind)⟩ (by (simp only []; omega))
 refine .d<|.cf<|.x 0 rfl<|.s<|.g<|.r 2<|RG.Ss 2 Z fun w Z=>.d<|.s<|.g<|RG.Ln 2 Z<|RG.Ss 1 Z fun w Z=>.d ?_
 have Z:=Z.sl 0
 exact T.Rb 0 func54 results54 Z ⟨Z.rS (g:=1) (⟨files,d.list,d.names,d.next⟩:Dsk) [0,2,1] (by grind [BN,Ac]),Z.xt⟩
theorem Kq (d:Dsk) (s:Sto) (h1:RepS w F a1 n1 c1 d.files) (h2:RepS w F a2 n2 c2 d.list) (h3:RepS w F a3 n3 c3 d.names) (h4:RepS w F a4 n4 c4 s.idx.names) (h5:RepS w F a5 n5 c5 s.idx.AY) (h6:RepS w F a6 n6 c6 s.parts) (h7:RepS w F a7 n7 c7 s.mem) (p0:s.mem.length≤1000) (p1:∀ m∈s.mem,1≤m.id∧m.id≤6) (p2:d.list.length≤1000) (p3:s.idx.names.length≤1000) (p4:∀ n∈s.idx.names,n.length≤1000):Calls Tryz.prog 50 [.agg #[.slice a1 n1 c1,.slice a2 n2 c2,.slice a3 n3 c3,.int .i64 d.next],.agg #[.slice a4 n4 c4,.slice a5 n5 c5,.slice a6 n6 c6,.slice a7 n7 c7]].toArray w (Am fun rv w'=>VL (ge w.heap.size) w' (BB d s:List Stp) rv∧Ext w w'):=by
 cases h1.len
 cases h2.len
 cases h3.len
 cases h4.len
 cases h5.len
 cases h6.len
 cases h7.len
 refine goT func50 ?_
 have Z:=(((((((St.i0 F w).p h1).p h2).p h3).p h4).p h5).p h6).p h7
 have ag:=h1.max
 refine .s<|.g<|RG.Np Z fun ae w Z=>RG.Np Z fun af w Z=>.r 1<|.d<|.s<|.s<|.g<|.r 1<|RG.Lb 0 Z<|.r 1<|.eq (s.mem.length:Int) 0 (fun E=>.r 17<|.d<|.ct<|.s<|.g<|RG.N0 Stp 0 Z fun aq w Z=>.r 1<|.d<|T.Rt func50 results50 ⟨Z.rM 0 ([]:List Stp) (by rw [Ei AB]),Z.xt⟩) fun E=>.r 2<|RG.Lb 1 Z<|.r 1<|.bp ((d.list.length:Int)≥6) (fun aa=>.r 12<|.d<|.ct<|.s<|.g<|RG.N0 Stp 0 Z fun ar w Z=>.r 1<|.d<|T.Rt func50 results50 ⟨Z.rM 0 ([]:List Stp) (by rw [Ei AB]),Z.xt⟩) fun aa=>.r 3<|RG.Lb 1 Z<|.bp (d.next≥999) (fun ab=>.r 7<|.d<|.ct<|.s<|.g<|RG.N0 Stp 0 Z fun ax w Z=>.r 1<|.d<|T.Rt func50 results50 ⟨Z.rM 0 ([]:List Stp) (by rw [Ei AB]),Z.xt⟩) fun ab=>.r 3<|RG.Lb 1 Z<|.r 1<|.bp ((d.files.length:Int)≥20) (fun ac=>.r 1<|.d<|.ct<|.s<|.g<|RG.N0 Stp 0 Z fun ay w Z=>.r 1<|.d<|T.Rt func50 results50 ⟨Z.rM 0 ([]:List Stp) (by rw [Ei AB]),Z.xt⟩) fun ac=>.r 1<|.d<|.cf<|.sk<|.s<|T.GS 7 [af,ae] Z fun _ w Z=>.r [1]<|GA.Lb (q:=1) 2 1 Z<|.r [4]<|GA.Lb (q:=1) 5 1 Z<|.tw 0 6 ?_ ?_
 ·refine GE.N0 Int 0 Z fun az w Z=>.tw 3 6 ?_ ?_
  ·exact GE.An (hf:=.inr Az) 0 5 ([]:List Int) d.list [1,2] Z fun aA aB w Z=>.go 6<|GE.Nb 1 Z fun aC w Z=>GA.Do Z fun w Z=>RG.Ap 0 0 ([]++d.list) d.next [] Z fun aD aE w Z=>.r 1<|.d<|.s<|T.Gd 11 Z fun w Z=>.r [0]<|GA.Lb 1 2 Z<|GA.Ln 2 1 Z<|.r [5,6,7]<|GA.Lb 8 1 Z<|.go 3<|GE.CS (fun w Z=>Et s (Z.a 3) (Z.a 2) (Z.a 1) (Z.a 0) p0 p1) Z fun aF aG aH aI w Z=>.r [4]<|.go 9<|GE.CO 0 (fun w Z=>BT s.idx.names (Z.a 5) AB (by intro n hn; have:=p4 n hn; omega)) Z fun aJ aK w Z=>.r [10]<|GA.Dn Z fun w Z=>RG.Nl 0 ([(⟨1,d.next,(⟨(Ai s.mem).ids,(Ai s.mem).blocks⟩:Prt),([]:List Int),([]:List (List Tag))⟩:Stp),(⟨2,0,(⟨([]:List Int),([]:List (List Row))⟩:Prt),(([]++d.list)++[d.next]),s.idx.names⟩:Stp)]:List Stp) [[6,7,5,4],[1,0,3,2]] ((((((Z.nl Int).nl (List Tag)).sl 1).sl 0).nl Int).nl (List Row)) fun aL w Z=>.r 1<|.d<|T.Rt func50 results50 ⟨Z.rM 0 ([(⟨1,d.next,(⟨(Ai s.mem).ids,(Ai s.mem).blocks⟩:Prt),([]:List Int),([]:List (List Tag))⟩:Stp),(⟨2,0,(⟨([]:List Int),([]:List (List Row))⟩:Prt),(([]++d.list)++[d.next]),s.idx.names⟩:Stp)]:List Stp) (by (rw [DT ‹_› ‹_› ‹_› ‹_›] <;> simp)),Z.xt⟩
  exact GE.Nb 1 Z fun aM w Z=>.go 3<|GE.An (hf:=.inr Az) 1 5 ([]:List Int) d.list [2,3] Z fun aN aO w Z=>GA.Do Z fun w Z=>RG.Ap 0 0 ([]++d.list) d.next [] Z fun aP aQ w Z=>.r 1<|.d<|.s<|T.Gd 11 Z fun w Z=>.r [0]<|GA.Lb 1 2 Z<|GA.Ln 2 1 Z<|.r [5,6,7]<|GA.Lb 8 1 Z<|.go 3<|GE.CS (fun w Z=>Et s (Z.a 3) (Z.a 2) (Z.a 1) (Z.a 0) p0 p1) Z fun aR aS aT aU w Z=>.r [4]<|.go 9<|GE.CO 0 (fun w Z=>BT s.idx.names (Z.a 5) AB (by intro n hn; have:=p4 n hn; omega)) Z fun aV aW w Z=>.r [10]<|GA.Dn Z fun w Z=>RG.Nl 0 ([(⟨1,d.next,(⟨(Ai s.mem).ids,(Ai s.mem).blocks⟩:Prt),([]:List Int),([]:List (List Tag))⟩:Stp),(⟨2,0,(⟨([]:List Int),([]:List (List Row))⟩:Prt),(([]++d.list)++[d.next]),s.idx.names⟩:Stp)]:List Stp) [[6,7,5,4],[1,0,3,2]] ((((((Z.nl Int).nl (List Tag)).sl 1).sl 0).nl Int).nl (List Row)) fun aX w Z=>.r 1<|.d<|T.Rt func50 results50 ⟨Z.rM 0 ([(⟨1,d.next,(⟨(Ai s.mem).ids,(Ai s.mem).blocks⟩:Prt),([]:List Int),([]:List (List Tag))⟩:Stp),(⟨2,0,(⟨([]:List Int),([]:List (List Row))⟩:Prt),(([]++d.list)++[d.next]),s.idx.names⟩:Stp)]:List Stp) (by (rw [DT ‹_› ‹_› ‹_› ‹_›] <;> simp)),Z.xt⟩
 exact GE.Nb 1 Z fun aY w Z=>.go 0<|GE.N0 Int 0 Z fun aZ w Z=>.go 3<|GE.An (hf:=.inr Az) 0 5 ([]:List Int) d.list [2,3] Z fun ba bd w Z=>GA.Do Z fun w Z=>RG.Ap 0 1 ([]++d.list) d.next [] Z fun bg bh w Z=>.r 1<|.d<|.s<|T.Gd 11 Z fun w Z=>.r [0]<|GA.Lb 1 2 Z<|GA.Ln 2 1 Z<|.r [5,6,7]<|GA.Lb 8 1 Z<|.go 3<|GE.CS (fun w Z=>Et s (Z.a 3) (Z.a 2) (Z.a 1) (Z.a 0) p0 p1) Z fun bi bj bk bm w Z=>.r [4]<|.go 9<|GE.CO 0 (fun w Z=>BT s.idx.names (Z.a 5) AB (by intro n hn; have:=p4 n hn; omega)) Z fun bn bo w Z=>.r [10]<|GA.Dn Z fun w Z=>RG.Nl 0 ([(⟨1,d.next,(⟨(Ai s.mem).ids,(Ai s.mem).blocks⟩:Prt),([]:List Int),([]:List (List Tag))⟩:Stp),(⟨2,0,(⟨([]:List Int),([]:List (List Row))⟩:Prt),(([]++d.list)++[d.next]),s.idx.names⟩:Stp)]:List Stp) [[6,7,5,4],[1,0,3,2]] ((((((Z.nl Int).nl (List Tag)).sl 1).sl 0).nl Int).nl (List Row)) fun bq w Z=>.r 1<|.d<|T.Rt func50 results50 ⟨Z.rM 0 ([(⟨1,d.next,(⟨(Ai s.mem).ids,(Ai s.mem).blocks⟩:Prt),([]:List Int),([]:List (List Tag))⟩:Stp),(⟨2,0,(⟨([]:List Int),([]:List (List Row))⟩:Prt),(([]++d.list)++[d.next]),s.idx.names⟩:Stp)]:List Stp) (by (rw [DT ‹_› ‹_› ‹_› ‹_›] <;> simp)),Z.xt⟩
theorem Lf (s:Sto) (h1:RepS w F a1 n1 c1 s.idx.names) (h2:RepS w F a2 n2 c2 s.idx.AY) (h3:RepS w F a3 n3 c3 s.parts) (h4:RepS w F a4 n4 c4 s.mem) (p0:My s):Calls Tryz.prog 55 [.agg #[.slice a1 n1 c1,.slice a2 n2 c2,.slice a3 n3 c3,.slice a4 n4 c4]].toArray w (Am fun rv w'=>(∃ (a0:Option Addr) (n0 c0:Nat) (a1:Option Addr) (n1 c1:Nat) (a2:Option Addr) (n2 c2:Nat) (r3 n3 c3:Nat),rv=.agg #[.slice a0 n0 c0,.slice a1 n1 c1,.slice a2 n2 c2,.slice (some ⟨r3,0,none⟩) n3 c3]∧RepS w' (nin (ge w.heap.size) [r3]) a0 n0 c0 ((((Ah s)).idx).names)∧RepS w' (nin (ge w.heap.size) [r3]) a1 n1 c1 ((((Ah s)).idx).AY)∧RepS w' (nin (ge w.heap.size) [r3]) a2 n2 c2 (((Ah s)).parts)∧Own w' r3 106 (nin (ge w.heap.size) [r3]) n3 c3 (((Ah s)).mem)∧w.heap.size≤r3)∧Ext w w'):=by
 cases h1.len
 cases h2.len
 cases h3.len
 cases h4.len
 refine goT func55 ?_
 have Z:=((((St.i0 F w).p h1).p h2).p h3).p h4
 have bd:=h3.max
 have bg:=h4.max
 refine .s<|.g<|RG.Np Z fun ay w Z=>RG.Np Z fun az w Z=>.d<|.s<|.g<|RG.N0 Prt 0 Z fun aF w Z=>.r 1<|.d<|.s<|.s<|.g<|.r 1<|.d<|.b 0<|T.Lp (([]:List Prt),aF,(0:Nat),(0:Nat)) (fun (k,r_k,c_k,k1)=>([(1,vP ay),(2,vP az),(3,vS r_k k.length c_k),(4,vI (k1:Int))],[(0,.own 0 r_k 104 c_k k)],[],s.parts.length - k1,(k1≤s.parts.length)∧(k.length≤k1)∧(k++s.parts.drop k1=s.parts))) [] Z ⟨AD,AD,AD⟩ ?_
 rintro ⟨k,r_k,c_k,k1⟩ bM w Z ⟨bh,bi,bj⟩ am
 have bk:=Z.mo 0 k
 refine .s<|.s<|.g<|.r 2<|RG.Lb 2 Z<|.r 1<|.bp ((k1:Int)< (s.parts.length:Int)) (fun aB=>?_) (fun aB=>?_)
 ·refine .d<|.ct<|.sk<|.s<|.b 1<|.s<|.g<|RG.N0 Int 0 Z fun bN w Z=>.r 1<|RG.Lb 3 Z<|.r 1<|gx s.parts k1 fun aa ac=>?_
  have bm:=drop_at ac; have aD:=AV ac
  refine RG.Ix 1 ac Z<|.r 1<|Z.el 1 ac fun bO bP bQ bR Z=>?_
  have bo:=Z.mf 2 aa.blocks
  refine RG.Lh 0 0 Z<|RG.An (hs:=by (simp only [List.nil_append,List.length_nil,List.length_append,List.length_cons] <;> exact (by have q1:=p0.2.1; (have E:=p0.2.2.1 _ ‹_›; have q4:=E.1; have q5:=E.2.1; omega)))) (hf:=.inr Az) 0 1 ([]:List Int) aa.ids Z fun aG aH w Z=>?_
  refine RG.N0 (List Row) 0 Z fun aI w Z=>.r 1<|RG.Np Z fun aA w Z=>RG.Ss 0 Z fun w Z=>.d<|.s<|.s<|.g<|.r 1<|.d<|.b 2<|T.Lp ((0:Nat),(([]++aa.ids):List Int),aG,aH,([]:List (List Row)),aI,(0:Nat)) (fun (k2,af,r_k_0,c_k_0,ab,r_k_1,c_k_1)=>([(1,vP ay),(2,vP az),(3,vS r_k k.length c_k),(4,vI (k1:Int)),(5,vP aA),(6,vI (k2:Int))],[(0,.box aA 104 [vS r_k_0 af.length c_k_0,vS r_k_1 ab.length c_k_1]),(1,.own 0 r_k_1 65 c_k_1 ab),(2,.own 0 r_k_0 3 c_k_0 af)],[],aa.blocks.length - k2,(k2≤aa.blocks.length)∧(af=aa.ids)∧(ab.length≤k2)∧(ab++aa.blocks.drop k2=aa.blocks))) [] Z ⟨AD,AD,AD,AD⟩ ?_
  rintro ⟨k2,af,r_k_0,c_k_0,ab,r_k_1,c_k_1⟩ bS w Z ⟨br,bu,bv,bw⟩ ax
  have bA:=Z.mo 1 ab
  refine .s<|.s<|.g<|.r 2<|RG.Lb 5 Z<|.r 1<|RG.Ix 4 ac Z<|.r 1<|RG.Lh 0 1 Z<|.r 1<|.bp ((k2:Int)< (aa.blocks.length:Int)) (fun aC=>?_) (fun aC=>?_)
  ·refine .d<|.ct<|.sk<|.s<|.b 3<|T.GS 14 [aA,az,ay] Z fun _ w Z=>.r [0]<|GA.Lb 1 0 Z<|.r [3]<|GA.Lb (q:=2) 4 5 Z<|.r [5]<|GA.Ix 6 4 ac Z<|.r [7]<|GA.Lh 8 0 1 Z<|.r [9]<|gx aa.blocks k2 fun aj ai=>?_
   have bB:=drop_at ai; have aE:=AV ai
   refine GA.Ix 10 2 ai Z<|Z.el 2 ai fun bT bU Z=>?_
   have bC:=Z.mf 1 aj
   refine GA.Lh 11 0 0 Z<|.go 2<|GE.N0 Row 0 Z fun bV w Z=>.go 12<|GE.An (hs:=by (simp only [List.nil_append,List.length_nil,List.length_append,List.length_cons] <;> exact (by have q1:=p0.2.1; (have E:=p0.2.2.1 _ ‹_›; (have q6:=E.2.2 _ ‹_›; omega))))) (hf:=.inr Bp) 0 1 ([]:List Row) aj [1,5,6] Z fun bW bX w Z=>?_
   refine .go 13<|GE.Nb 1 Z fun bY w Z=>GA.Do Z fun w Z=>RG.Ap (hs:=by exact (by have q1:=p0.2.1; (have E:=p0.2.2.1 _ ‹_›; have q5:=E.2.1; omega))) 1 0 ab ([]++aj) [0] (Z.sl 1) fun aJ aK w Z=>?_
   exact .r 1<|RG.Ss 0 Z fun w Z=>.d<|.ib 3<|.g<|.r 1<|.it ((k2:Int)+1)<|.r 1<|.d<|ax (k2+1,af,r_k_0,c_k_0,(ab++[([]++aj)]),aJ,aK) _ _ AA (Z.to 0 [] 3) ⟨AB,‹_›,(by simp; omega),(by exact Q4 ‹_› ‹_›)⟩ (by (simp only []; omega))
  refine .d<|.cf<|.x 2 rfl<|.g<|.r 1<|RG.Ln 0 Z<|RG.Nb 1 Z fun bZ w Z=>RG.Ap (hs:=by exact (by have q1:=p0.2.1; omega)) 1 0 k (⟨af,ab⟩:Prt) [1,0] ((Z.sl 3).sl 2) fun aL aM w Z=>?_
  exact .r 1<|.d<|.ib 1<|.g<|.r 1<|.it ((k1:Int)+1)<|.r 1<|.d<|am ((k++[(⟨af,ab⟩:Prt)]),aL,aM,k1+1) _ _ AA (Z.to 1 [] 5) ⟨AB,(by simp; omega),(by exact TO ‹_› ‹_› ‹_› (by have q1:=Ac (xs:=aa.blocks) (k:=k2) AB; have q2:ab++aa.blocks.drop k2=aa.blocks:=‹_›; rw [q1,List.append_nil] at q2; exact q2))⟩ (by (simp only []; omega))
 refine .d<|.cf<|.x 0 rfl<|.s<|T.GS 9 [az,ay] Z fun _ w Z=>.r [0,1]<|GA.Lb (q:=1) 2 2 Z<|.r [4,6]<|GA.Lb (q:=1) 7 2 Z<|.tw 3 5 ?_ ?_
 ·refine GE.CS (fun w Z=>FG s.idx.names (Z.a 3) p0.1.1 p0.1.2) Z fun aN aO aP aQ w Z=>?_
  refine .go 5<|GE.N0 Smp 0 Z fun b0 w Z=>.go 8<|GE.An (hs:=by (simp only [List.nil_append,List.length_nil,List.length_append,List.length_cons] <;> exact (by have q1:=p0.2.1; have q2:=p0.2.2.2; omega))) (hf:=.inr Ev) 0 2 ([]:List Smp) s.mem [2,3] Z fun aR aS w Z=>?_
  refine GA.Do Z fun w Z=>.r 1<|RG.Ss 2 Z fun w Z=>.d ?_
  have Z:=Z.sl 1
  exact T.Rb 1 func55 results55 Z ⟨⟨aN,((idxOf s.idx.names).names.length),aO,aP,((idxOf s.idx.names).AY.length),aQ,(some ⟨r_k,0,none⟩),k.length,c_k,aR,(([]++s.mem).length),aS,AA,Z.qr [0] 1 ((idxOf s.idx.names).names) AF,Z.qr [0] 2 ((idxOf s.idx.names).AY) AF,Z.qr [0] 0 k (by have q1:=Ac (xs:=s.parts) (k:=k1) AB; have q2:k++s.parts.drop k1=s.parts:=‹_›; rw [q1,List.append_nil] at q2; exact q2),Z.qo [0] 0 ([]++s.mem) AF,Z.qb 0⟩,Z.xt⟩
 refine GE.N0 Smp 0 Z fun b6 w Z=>.go 3<|GE.CS (fun w Z=>FG s.idx.names (Z.a 3) p0.1.1 p0.1.2) Z fun aT aU aV aW w Z=>?_
 refine .go 8<|GE.An (hs:=by (simp only [List.nil_append,List.length_nil,List.length_append,List.length_cons] <;> exact (by have q1:=p0.2.1; have q2:=p0.2.2.2; omega))) (hf:=.inr Ev) 0 2 ([]:List Smp) s.mem [2,3] Z fun aX aY w Z=>?_
 refine GA.Do Z fun w Z=>.r 1<|RG.Ss 2 Z fun w Z=>.d ?_
 have Z:=Z.sl 1
 exact T.Rb 1 func55 results55 Z ⟨⟨aT,((idxOf s.idx.names).names.length),aU,aV,((idxOf s.idx.names).AY.length),aW,(some ⟨r_k,0,none⟩),k.length,c_k,aX,(([]++s.mem).length),aY,AA,Z.qr [0] 1 ((idxOf s.idx.names).names) AF,Z.qr [0] 2 ((idxOf s.idx.names).AY) AF,Z.qr [0] 0 k (by have q1:=Ac (xs:=s.parts) (k:=k1) AB; have q2:k++s.parts.drop k1=s.parts:=‹_›; rw [q1,List.append_nil] at q2; exact q2),Z.qo [0] 0 ([]++s.mem) AF,Z.qb 0⟩,Z.xt⟩
end Go.Proofs.YtfninflnngpchaaGreatDoor
namespace Go.Proofs.YtfninflnngpchaaGreatDoor
def Ay (d:Dsk) (n:Int):Prt:=(d.files.getD (At d n).toNat default).part
def Ar (d:Dsk):Sto:=⟨idxOf d.names,d.list.map (Ay d),[]⟩
def Li (f:Fil):Fil:=⟨f.num,BF f.part ⟨[],[]⟩⟩
def BU (d:Dsk):Dsk:=⟨d.files.map Li,d.list,d.names,d.next⟩
def D8 (d:Dsk) (n:Int):List Fil:=if At d n≥0∧d.list.contains n=false then d.files.take (At d n).toNat++d.files.drop ((At d n).toNat+1) else d.files
def doD (d:Dsk) (x:Stp):Dsk :=
 if x.kind=1 then ⟨d.files++[⟨x.num,x.part⟩],d.list,d.names,x.num+1⟩
 else if x.kind=2 then ⟨d.files,x.list,x.names,d.next⟩
 else if x.kind=3 then ⟨D8 d x.num,d.list,d.names,d.next⟩
 else d
def toD (d:Dsk) (steps:List Stp) (cut:Int):Dsk:=(steps.take cut.toNat).foldl doD d
def Al (d:Dsk) (at_:Int):List Stp :=
 if !(inR at_ 0 ((d.list.length:Int) - 2)) || decide (d.next≥999) || decide (d.files.length≥20) then []
 else
  let a:=d.list.getD at_.toNat 0
  let b:=d.list.getD (at_.toNat+1) 0
  [⟨1,d.next,BF (Ay d a) (Ay d b),[],[]⟩,⟨2,0,⟨[],[]⟩,d.list.take at_.toNat++[d.next]++d.list.drop (at_.toNat+2),d.names⟩,⟨3,a,⟨[],[]⟩,[],[]⟩,⟨3,b,⟨[],[]⟩,[],[]⟩]
def BA (w:Wld):Wld:=⟨Ah (Ar (BU (BN w.disk))),BU (BN w.disk)⟩
def Bl (w:Wld) (steps:List Stp) (cut:Int) (s:Sto):Wld :=
 if steps.length=0∨cut< 0 then w
 else if cut< steps.length then BA ⟨w.store,toD w.disk steps cut⟩ else ⟨s,toD w.disk steps cut⟩
def doW (w:Wld) (e:Evt):Wld :=
 if e.kind=1 then (if Ao e.name then ⟨(CI w.store e.name e.row).1,w.disk⟩ else w)
 else if e.kind=2 then Bl w (BB w.disk w.store) e.cut (BI w.store).1
 else if e.kind=3 then Bl w (Al w.disk e.at_) e.cut (BH w.store e.at_).1
 else if e.kind=4 then BA w
 else w
def Q5 (w:Wld):Wld:=⟨Ah w.store,BU w.disk⟩
theorem K9 (n:Int):∀ (fs:List Fil) (i:Nat),DN n i fs< (i:Int)+fs.length∧(DN n i fs = -1∨(i:Int)≤DN n i fs):=by
 intro fs
 induction fs with
 | nil=>intro i; simp [DN]; omega
 | cons f fs ih =>
   intro i
   have h:=ih (i+1)
   simp only [DN,List.length_cons]
   split <;> omega
theorem Ci (d:Dsk) (n:Int):At d n< d.files.length:=by have:=K9 n d.files 0; unfold At; omega
theorem I2 (d:Dsk) (n:Int):At d n ≥ -1:=by have:=K9 n d.files 0; unfold At; omega
theorem Ji {d:Dsk}{n:Int}(h:∀ n∈d.list,0≤At d n) (hm:n∈d.list):(At d n).toNat< d.files.length:=by
 have h1:=h n hm
 have h2:=Ci d n
 omega
theorem Jj {d:Dsk}{n:Int}(h:∀ n∈d.list,0≤At d n) (hm:n∈d.list):At d n=((At d n).toNat:Int):=by
 have h1:=h n hm
 omega
theorem FI {d:Dsk}{n:Int}{f:Fil}(h:d.files[(At d n).toNat]? = some f):Ay d n=f.part:=by
 unfold Ay; rw [List.getD_eq_getElem?_getD,h]; rfl
theorem mapStep {α β:Type}{l:List α}{f:α→β}{i:Nat}{k:List β}{q:α}{y:β}(h:k++(l.drop i).map f=l.map f) (hd:l.drop i=q::l.drop (i+1)) (hy:y=f q):(k++[y])++(l.drop (i+1)).map f=l.map f:=by
 subst hy
 rw [hd] at h
 simpa using h
theorem TP {α β:Type}{l:List α}{f:α→β}{i:Nat}{k:List β}(h:k++(l.drop i).map f=l.map f) (hi:l.length≤i):k=l.map f:=by
 rw [Ac hi] at h
 simpa using h
theorem toStep {l:List Stp}{c:Nat}{i:Nat}{d:Dsk}{q:Stp}{Y:Dsk}(h:((l.take c).drop i).foldl doD d=Y) (hd:l.drop i=q::l.drop (i+1)) (hc:i< c):((l.take c).drop (i+1)).foldl doD (doD d q)=Y:=by
 have h1:(l.take c).drop i=q::(l.take c).drop (i+1):=by
  rw [List.drop_take,List.drop_take,hd,show c - i=(c - (i+1))+1 by omega]
  rfl
 rw [h1] at h
 exact h
theorem toEnd {l:List Stp}{c:Nat}{i:Nat}{d:Dsk}{Y:Dsk}(h:((l.take c).drop i).foldl doD d=Y) (hc:l.length≤i∨c≤i):d=Y:=by
 rw [List.drop_of_length_le (by rw [List.length_take]; omega)] at h
 exact h
theorem FP {d:Dsk}{x:Stp}(h:x.kind=1):doD d x=⟨d.files++[⟨x.num,x.part⟩],d.list,d.names,x.num+1⟩:=by unfold doD; rw [if_pos h]
theorem HN {d:Dsk}{x:Stp}(h:x.kind=2):doD d x=⟨d.files,x.list,x.names,d.next⟩:=by unfold doD; rw [if_neg AB,if_pos h]
theorem Fm {d:Dsk}{x:Stp}(h:x.kind=3):doD d x=⟨D8 d x.num,d.list,d.names,d.next⟩:=by unfold doD; rw [if_neg AB,if_neg AB,if_pos h]
theorem XD {d:Dsk}{x:Stp}(h:x.kind≠1) (h2:x.kind≠2) (h3:x.kind≠3):doD d x=d:=by unfold doD; rw [if_neg h,if_neg h2,if_neg h3]
theorem QB {d:Dsk}{n:Int}(h:At d n≥0) (h2:d.list.contains n=false):D8 d n=d.files.take (At d n).toNat++d.files.drop ((At d n).toNat+1):=by unfold D8; rw [if_pos ⟨h,h2⟩]
theorem N5 {d:Dsk}{n:Int}(h:¬ At d n≥0∨d.list.contains n=true):D8 d n=d.files:=by unfold D8; rw [if_neg]; rintro ⟨h1,h2⟩; rcases h with h | h; exact h h1; rw [h2] at h; cases h
theorem I3 {d:Dsk}{a:Int}(h:inR a 0 ((d.list.length:Int) - 2)=false∨d.next≥999∨(d.files.length:Int)≥20):Al d a=[]:=by
 unfold Al
 rw [if_pos]
 rcases h with h | h | h
 ·simp [h]
 ·simp [h]
 ·have h:d.files.length≥20:=by omega
  simp [h]
theorem Ej {d:Dsk}{at_ a b:Int}{f g:Fil}(h:inR at_ 0 ((d.list.length:Int) - 2)=true) (h2:¬ d.next≥999) (h3:¬ (d.files.length:Int)≥20) (ha:d.list[at_.toNat]? = some a) (hb:d.list[(at_+1).toNat]? = some b)
 (hf:d.files[(At d a).toNat]? = some f) (hg:d.files[(At d b).toNat]? = some g) :
 Al d at_=[⟨1,d.next,BF f.part g.part,[],[]⟩,⟨2,0,⟨[],[]⟩,(([]++(d.list.take at_.toNat).drop 0)++[d.next])++(d.list.take d.list.length).drop (at_+2).toNat,d.names⟩,⟨3,a,⟨[],[]⟩,[],[]⟩,⟨3,b,⟨[],[]⟩,[],[]⟩]:=by
 have h0:=BW h
 have e1:(at_+1).toNat=at_.toNat+1:=by omega
 have e2:(at_+2).toNat=at_.toNat+2:=by omega
 rw [e1] at hb
 have h4:¬ d.files.length≥20:=by omega
 unfold Al
 rw [if_neg (by simp [h]; omega),← FI hf,← FI hg,e2,List.getD_eq_getElem?_getD,List.getD_eq_getElem?_getD,ha,hb]
 simp
theorem Q6 {d:Dsk}{x:Stp}(h:x.list.length≤1000) (hd:d.list.length≤1000):(doD d x).files.length≤d.files.length+1∧(doD d x).list.length≤1000:=by
 unfold doD D8
 split
 ·simp; exact hd
 ·split
  ·simp; exact h
  ·split
   ·simp only
    split <;> simp <;> omega
   ·omega
def KV (x:Stp):Prop:=x.list.length≤1000∧x.names.length≤1000∧(∀ n∈x.names,n.length≤1000) ∧ -9000000≤x.num∧x.num≤9000000
end Go.Proofs.YtfninflnngpchaaGreatDoor
namespace Go.Proofs.YtfninflnngpchaaGreatDoor
set_option maxRecDepth 100000
set_option maxHeartbeats 4000000
variable {w:World} {F:Nat→Prop} {a1 a2 a3 a4 a5 a6 a7:Option Addr} {n1 c1 n2 c2 n3 c3 n4 c4 n5 c5 n6 c6 n7 c7:Nat}
theorem Lj (d:Dsk) (h1:RepS w F a1 n1 c1 d.files) (h2:RepS w F a2 n2 c2 d.list) (h3:RepS w F a3 n3 c3 d.names) (p0:d.names.length≤1000) (p1:∀ n∈d.names,Fw n) (p2:d.list.length≤1000) (p3:∀ n∈d.list,0≤At d n):Calls Tryz.prog 56 [.agg #[.slice a1 n1 c1,.slice a2 n2 c2,.slice a3 n3 c3,.int .i64 d.next]].toArray w (Am fun rv w'=>VS (fo F w.heap.size) w' (Ar d:Sto) rv∧Ext w w'):=by
 cases h1.len
 cases h2.len
 cases h3.len
 refine goT func56 ?_
 have Z:=(((St.i0 F w).p h1).p h2).p h3
 refine .s<|.g<|RG.Np Z fun aj w Z=>RG.Np Z fun ak w Z=>.d<|.s<|.g<|.r 1<|RG.Lb 1 Z<|RG.CS (FG d.names (Z.a 0) p0 p1) Z fun ax ay az aA w Z=>RG.N0 Prt 1 Z fun aB w Z=>RG.N0 Smp 1 Z fun aC w Z=>.r 1<|RG.Np Z fun ah w Z=>RG.Ss 0 Z fun w Z=>.d<|.s<|.s<|.g<|.r 1<|.d<|.b 0<|T.Lp ((0:Nat),((idxOf d.names).names:List (List Tag)),ax,ay,((idxOf d.names).AY:List Pst),az,aA,([]:List Prt),aB,(0:Nat),([]:List Smp),aC,(0:Nat)) (fun (i,ac,a_s_0,c_s_0,ae,a_s_1,c_s_1,E,r_s_2,c_s_2,af,r_s_3,c_s_3)=>([(1,vP aj),(2,vP ak),(3,vP ah),(4,vI (i:Int))],[(0,.box ah 31 [.slice a_s_0 ac.length c_s_0,.slice a_s_1 ae.length c_s_1,vS r_s_2 E.length c_s_2,vS r_s_3 af.length c_s_3]),(1,.own 1 r_s_3 106 c_s_3 af),(2,.own 1 r_s_2 104 c_s_2 E)],[⟨0,none,.rep a_s_0 c_s_0 ac⟩,⟨0,none,.rep a_s_1 c_s_1 ae⟩],d.list.length - i,(i≤d.list.length)∧(ac=d.names)∧(ae=Dq d.names)∧(af=[])∧(E.length≤i)∧(E++(d.list.drop i).map (Ay d)=d.list.map (Ay d)))) [0,1] Z ⟨AD,AF,AF,AF,AD,AF⟩ ?_
 rintro ⟨i,ac,a_s_0,c_s_0,ae,a_s_1,c_s_1,E,r_s_2,c_s_2,af,r_s_3,c_s_3⟩ aQ w Z ⟨aI,aJ,aK,aL,aM,aN⟩ ag
 refine .s<|.s<|.g<|.r 2<|RG.Lb 4 Z<|.r 1<|.bp ((i:Int)< (d.list.length:Int)) (fun am=>?_) (fun am=>?_)
 ·refine .d<|.ct<|.sk<|.s<|.b 1<|T.GS 15 [ah,ak,aj] Z fun _ w Z=>.r [0]<|GA.Lb 1 0 Z<|.r [2]<|GA.Lb (q:=2) 3 4 Z<|GA.Ln (q:=2) 4 4 Z<|.r [5]<|GA.Lb (q:=2) 6 4 Z<|.r [7]<|gx (h:=AB) d.list i fun ai aa=>?_
  have aO:=drop_at aa; have aq:=AV aa
  refine GA.Ix 8 5 aa Z<|Z.el 5 aa fun Z=>GA.Lh 9 0 0 Z<|GA.D0 10 Z (fun w Y=>FF d ai (Y.a 7) (Y.a 6) (Y.a 5))<|gx (h:=(by exact Ji p3 ‹_›)) d.files ((At d ai).toNat) fun ao ab=>?_
  exact GA.Jx (hz:=(by exact Jj p3 ‹_›)) 11 7 (At d ai) ab Z<|.r [12]<|Z.el 7 ab fun aR aS aT aU Z=>GA.Lg 13 0 1 Z<|.go 14<|GE.Nb 1 Z fun aV w Z=>GA.Do Z fun w Z=>RG.Ap 2 0 E ao.part [1,2] Z fun aD aE w Z=>.r 1<|RG.Ss 0 Z fun w Z=>.d<|.ib 1<|.g<|.r 1<|.it ((i:Int)+1)<|.r 1<|.d<|ag (i+1,ac,a_s_0,c_s_0,ae,a_s_1,c_s_1,(E++[ao.part]),aD,aE,af,r_s_3,c_s_3) _ _ AA (Z.to 0 [4,5] 6) ⟨AB,‹_›,‹_›,‹_›,(by simp; omega),(by exact mapStep ‹_› ‹_› (FI ‹_›).symm)⟩ (by (simp only []; omega))
 refine .d<|.cf<|.x 0 rfl<|.s<|.g<|RG.Ln 0 Z<|RG.Ss 3 Z fun w Z=>.d ?_
 have Z:=(Z.sl 2).sl 1
 exact T.Rb 1 func56 results56 Z ⟨Z.rS (g:=1) (⟨(⟨ac,ae⟩:Idx),E,af⟩:Sto) [2,3,1,0] (by have q1:E=_:=TP ‹_› AB; subst_vars; rfl),Z.xt⟩
theorem Lk (d:Dsk) (h1:RepS w F a1 n1 c1 d.files) (h2:RepS w F a2 n2 c2 d.list) (h3:RepS w F a3 n3 c3 d.names) (p0:d.names.length≤1000) (p1:∀ n∈d.names,n.length≤1000) (p2:d.list.length≤1000) (p3:d.files.length≤1000) (p4:∀ f∈d.files,Cw f.part):Calls Tryz.prog 53 [.agg #[.slice a1 n1 c1,.slice a2 n2 c2,.slice a3 n3 c3,.int .i64 d.next]].toArray w (Am fun rv w'=>(∃ (r0 n0 c0:Nat) (r1 n1 c1:Nat) (r2 n2 c2:Nat),rv=.agg #[.slice (some ⟨r0,0,none⟩) n0 c0,.slice (some ⟨r1,0,none⟩) n1 c1,.slice (some ⟨r2,0,none⟩) n2 c2,.int .i64 (((BU d)).next)]∧Own w' r0 142 (nin (ge w.heap.size) [r0,r1,r2]) n0 c0 (((BU d)).files)∧w.heap.size≤r0∧Own w' r1 3 (nin (ge w.heap.size) [r0,r1,r2]) n1 c1 (((BU d)).list)∧w.heap.size≤r1∧Nb r1 r0∧Own w' r2 52 (nin (ge w.heap.size) [r0,r1,r2]) n2 c2 (((BU d)).names)∧w.heap.size≤r2∧Nb r2 r0∧Nb r2 r1)∧Ext w w'):=by
 cases h1.len
 cases h2.len
 cases h3.len
 refine goT func53 ?_
 have Z:=(((St.i0 F w).p h1).p h2).p h3
 refine .s<|.g<|RG.Np Z fun ac w Z=>RG.Np Z fun ae w Z=>.d<|.s<|.g<|RG.N0 Fil 0 Z fun ah w Z=>.r 1<|.d<|.s<|.s<|.g<|.r 1<|.d<|.b 0<|T.Lp (([]:List Fil),ah,(0:Nat),(0:Nat)) (fun (files,r_files,c_files,i)=>([(1,vP ac),(2,vP ae),(3,vS r_files files.length c_files),(4,vI (i:Int))],[(0,.own 0 r_files 142 c_files files)],[],d.files.length - i,(i≤d.files.length)∧(files.length≤i)∧(files++(d.files.drop i).map Li=d.files.map Li))) [] Z ⟨AD,AD,AD⟩ ?_
 rintro ⟨files,r_files,c_files,i⟩ aD w Z ⟨az,aA,aB⟩ ab
 refine .s<|.s<|.g<|.r 2<|RG.Lb 2 Z<|.r 1<|.bp ((i:Int)< (d.files.length:Int)) (fun af=>?_) (fun af=>.d<|.cf<|.x 0 rfl<|.s<|T.GS 10 [ae,ac] Z fun _ w Z=>.r [0,2]<|GA.Lb (q:=1) 3 2 Z<|.r [5]<|GA.Lb (q:=1) 6 2 Z<|.r [8]<|GA.Lb (q:=1) 9 2 Z<|.go 1<|GE.N0 Int 0 Z fun aE w Z=>.go 4<|GE.An (hs:=by exact (by (simp; omega))) (hf:=.inr Az) 0 1 ([]:List Int) d.list [2,3] Z fun ai aj w Z=>.go 7<|GE.CO 0 (fun w Z=>BT d.names (Z.a 0) AB (by intro n hn; have:=p1 n hn; omega)) Z fun ak am w Z=>GA.Do Z fun w Z=>.r 1<|RG.Ss 3 Z fun w Z=>.d<|T.Rb 3 func53 results53 Z ⟨⟨r_files,files.length,c_files,ai,(([]++d.list).length),aj,ak,d.names.length,am,(by rw [show (((BU d)).next)=d.next from Eq.symm AF]; kernel_rfl),Z.qo [2,1,0] 2 files (by exact TP ‹_› AB),Z.qb 2,Z.qo [2,1,0] 1 ([]++d.list) AF,Z.qb 1,Z.qn 1 2,Z.qo [2,1,0] 0 d.names AF,Z.qb 0,Z.qn 0 2,Z.qn 0 1⟩,Z.xt⟩)
 refine .d<|.ct<|.sk<|.s<|.b 1<|T.GS 17 [ae,ac] Z fun _ w Z=>.r [0,1]<|GA.Lb (q:=1) 2 2 Z<|.r [3]<|gx d.files i fun aa E=>?_
 have aC:=drop_at E; have ag:=AV E
 exact GA.Ix 4 2 E Z<|.r [5]<|Z.el 2 E fun aF aG aH aI Z=>GA.Lh 6 0 0 Z<|.r [7]<|GA.Lb (q:=1) 8 2 Z<|.r [9]<|GA.Ix 10 5 E Z<|.r [11]<|GA.Lg 12 0 1 Z<|.r [13]<|.go 14<|GE.CS (fun w Z=>Dp aa.part (⟨([]:List Int),([]:List (List Row))⟩:Prt) (Z.a 1) (Z.a 2) Z.na Z.na (p4 _ ‹_›) (by simp [Cw])) Z fun aJ aK aL aM w Z=>.r [15]<|.go 16<|GE.Nb 1 Z fun aN w Z=>GA.Do Z fun w Z=>RG.Ap (hs:=by exact AB) 0 0 files (⟨aa.num,(⟨(BF aa.part (⟨([]:List Int),([]:List (List Row))⟩:Prt)).ids,(BF aa.part (⟨([]:List Int),([]:List (List Row))⟩:Prt)).blocks⟩:Prt)⟩:Fil) [0,1] Z fun ao aq w Z=>.r 1<|.d<|.ib 1<|.g<|.r 1<|.it ((i:Int)+1)<|.r 1<|.d<|ab ((files++[(⟨aa.num,(⟨(BF aa.part (⟨([]:List Int),([]:List (List Row))⟩:Prt)).ids,(BF aa.part (⟨([]:List Int),([]:List (List Row))⟩:Prt)).blocks⟩:Prt)⟩:Fil)]),ao,aq,i+1) _ _ AA (Z.to 0 [] 5) ⟨AB,(by simp; omega),(by exact mapStep ‹_› ‹_› rfl)⟩ (by (simp only []; omega))
theorem N6 (d:Dsk) (x:Stp) (h1:RepS w F a1 n1 c1 d.files) (h2:RepS w F a2 n2 c2 d.list) (h3:RepS w F a3 n3 c3 d.names) (h4:RepS w F a4 n4 c4 x.part.ids) (h5:RepS w F a5 n5 c5 x.part.blocks) (h6:RepS w F a6 n6 c6 x.list) (h7:RepS w F a7 n7 c7 x.names) (p0:d.files.length≤2000) (p1:d.list.length≤2000) (p2:KV x):Calls Tryz.prog 155 [.agg #[.slice a1 n1 c1,.slice a2 n2 c2,.slice a3 n3 c3,.int .i64 d.next],.agg #[.int .i64 x.kind,.int .i64 x.num,.slice a4 n4 c4,.slice a5 n5 c5,.slice a6 n6 c6,.slice a7 n7 c7]].toArray w (Am fun rv w'=>VS (fo F w.heap.size) w' (doD d x:Dsk) rv∧Ext w w'):=by
 cases h1.len
 cases h2.len
 cases h3.len
 cases h4.len
 cases h5.len
 cases h6.len
 cases h7.len
 refine goT func155 ?_
 have Z:=(((((((St.i0 F w).p h1).p h2).p h3).p h4).p h5).p h6).p h7
 have ax:=h6.max
 have ay:=h7.max
 refine .s<|.g<|RG.Np Z fun ab w Z=>RG.Np Z fun ac w Z=>RG.Np Z fun ae w Z=>.d<|.s<|.s<|.g<|.r 1<|RG.Lb 1 Z<|.d<|.b 0<|.s<|.g<|.eq x.kind 1 (fun af=>?_) (fun af=>?_)
 ·refine .r 1<|.d<|.ct<|.s<|T.GS 10 [ae,ac,ab] Z fun _ w Z=>.r [1]<|GA.Lb (q:=2) 2 2 Z<|.r [4]<|GA.Lb (q:=1) 5 1 Z<|.r [6]<|GA.Ln (q:=1) 7 1 Z<|.r [8]<|.tw 0 9 ?_ ?_
  ·refine GE.N0 Fil 1 Z fun aA w Z=>.tw 3 9 ?_ ?_
   ·refine GE.An (hs:=by (simp only [List.nil_append,List.length_nil,List.length_append,List.length_cons] <;> exact (by have:=p2.1; omega))) 0 6 ([]:List Fil) d.files [1,2,3] Z fun aB aC w Z=>.go 9<|GE.Nb 1 Z fun aD w Z=>GA.Do Z fun w Z=>RG.Ap (hs:=by (simp only [List.nil_append,List.length_nil,List.length_append,List.length_cons] <;> exact (by have:=p2.1; omega))) 0 0 ([]++d.files) (⟨x.num,(⟨x.part.ids,x.part.blocks⟩:Prt)⟩:Fil) [3,2] Z fun aE aF w Z=>.r 1<|RG.Ss 3 Z fun w Z=>.d<|.g<|.r 1<|RG.Lb 2 Z<|RG.int (x.num+1) AA (by have E:=Ci d x.num; have q2:=p2.2.2.2; omega)<|.r 1<|RG.Ss 3 Z fun w Z=>.d<|.ib 0<|.s<|.g<|RG.Ln 3 Z<|RG.Ss 1 Z fun w Z=>.d ?_
    have Z:=Z.sl 0
    exact T.Rb 0 func155 results155 Z ⟨Z.rS (g:=1) (⟨(([]++d.files)++[(⟨x.num,(⟨x.part.ids,x.part.blocks⟩:Prt)⟩:Fil)]),d.list,d.names,x.num+1⟩:Dsk) [0,6,5] (by (rw [FP ‹_›]; simp; done)),Z.xt⟩
   refine GE.Nb 1 Z fun aG w Z=>.go 3<|GE.An (hs:=by (simp only [List.nil_append,List.length_nil,List.length_append,List.length_cons] <;> exact (by have:=p2.1; omega))) 1 6 ([]:List Fil) d.files [2,3,4] Z fun aH aI w Z=>GA.Do Z fun w Z=>RG.Ap (hs:=by (simp only [List.nil_append,List.length_nil,List.length_append,List.length_cons] <;> exact (by have:=p2.1; omega))) 0 0 ([]++d.files) (⟨x.num,(⟨x.part.ids,x.part.blocks⟩:Prt)⟩:Fil) [3,2] Z fun aJ aK w Z=>.r 1<|RG.Ss 3 Z fun w Z=>.d<|.g<|.r 1<|RG.Lb 2 Z<|RG.int (x.num+1) AA (by have E:=Ci d x.num; have q2:=p2.2.2.2; omega)<|.r 1<|RG.Ss 3 Z fun w Z=>.d<|.ib 0<|.s<|.g<|RG.Ln 3 Z<|RG.Ss 1 Z fun w Z=>.d ?_
   have Z:=Z.sl 0
   exact T.Rb 0 func155 results155 Z ⟨Z.rS (g:=1) (⟨(([]++d.files)++[(⟨x.num,(⟨x.part.ids,x.part.blocks⟩:Prt)⟩:Fil)]),d.list,d.names,x.num+1⟩:Dsk) [0,6,5] (by (rw [FP ‹_›]; simp; done)),Z.xt⟩
  refine GE.Nb 1 Z fun aL w Z=>.go 0<|GE.N0 Fil 1 Z fun aM w Z=>.go 3<|GE.An (hs:=by (simp only [List.nil_append,List.length_nil,List.length_append,List.length_cons] <;> exact (by have:=p2.1; omega))) 0 6 ([]:List Fil) d.files [2,3,4] Z fun aN aO w Z=>GA.Do Z fun w Z=>RG.Ap (hs:=by (simp only [List.nil_append,List.length_nil,List.length_append,List.length_cons] <;> exact (by have:=p2.1; omega))) 0 1 ([]++d.files) (⟨x.num,(⟨x.part.ids,x.part.blocks⟩:Prt)⟩:Fil) [3,2] Z fun aP aQ w Z=>.r 1<|RG.Ss 3 Z fun w Z=>.d<|.g<|.r 1<|RG.Lb 2 Z<|RG.int (x.num+1) AA (by have E:=Ci d x.num; have q2:=p2.2.2.2; omega)<|.r 1<|RG.Ss 3 Z fun w Z=>.d<|.ib 0<|.s<|.g<|RG.Ln 3 Z<|RG.Ss 1 Z fun w Z=>.d ?_
  have Z:=Z.sl 0
  exact T.Rb 0 func155 results155 Z ⟨Z.rS (g:=1) (⟨(([]++d.files)++[(⟨x.num,(⟨x.part.ids,x.part.blocks⟩:Prt)⟩:Fil)]),d.list,d.names,x.num+1⟩:Dsk) [0,6,5] (by (rw [FP ‹_›]; simp; done)),Z.xt⟩
 refine .r 1<|.d<|.cf<|.s<|.g<|.eq x.kind 2 (fun ag=>?_) (fun ag=>?_)
 ·refine .r 1<|.d<|.ct<|.s<|.g<|RG.N0 Int 1 Z fun aR w Z=>.r 1<|RG.Lb 2 Z<|RG.An (hs:=by (simp only [List.nil_append,List.length_nil,List.length_append,List.length_cons] <;> exact (by have:=p2.1; omega))) 0 1 ([]:List Int) x.list Z fun aS aT w Z=>.r 1<|RG.Ss 3 Z fun w Z=>.d<|.g<|.r 1<|RG.Lb 2 Z<|RG.CO 1 (BT x.names (Z.a 0) (by have:=p2.2.1; omega) (by intro n hn; have:=p2.2.2.1 n hn; omega)) Z fun aU aV w Z=>.r 1<|RG.Ss 4 Z fun w Z=>.d<|.ib 0<|.s<|.g<|RG.Ln 4 Z<|RG.Ss 2 Z fun w Z=>.d ?_
  have Z:=(Z.sl 1).sl 0
  exact T.Rb 0 func155 results155 Z ⟨Z.rS (g:=1) (⟨d.files,([]++x.list),x.names,d.next⟩:Dsk) [8,1,0] (by (rw [HN ‹_›]; simp; done)),Z.xt⟩
 refine .r 1<|.d<|.cf<|.s<|.g<|.eq x.kind 3 (fun ah=>?_) (fun ah=>.r 1<|.d<|.cf<|.sk<|.ib 0<|.s<|.g<|RG.Ln 2 Z<|RG.Ss 0 Z fun w Z=>.d<|T.Rb 0 func155 results155 Z ⟨Z.rS (g:=1) d [6,5,4] (by rw [XD ‹_› ‹_› ‹_›]),Z.xt⟩)
 refine .r 1<|.d<|.ct<|.s<|.g<|RG.Ln 2 Z<|.r 1<|RG.Lb 1 Z<|RG.C0 (FF d x.num (Z.a 6) (Z.a 5) (Z.a 4)) Z fun w Z=>.r 1<|.d<|.s<|.g<|.r 1<|.bp (At d x.num≥0) (fun ai=>?_) (fun ai=>.r 7<|.d<|.cf<|.sk<|.ib 0<|.s<|.g<|RG.Ln 2 Z<|RG.Ss 0 Z fun w Z=>.d<|T.Rb 0 func155 results155 Z ⟨Z.rS (g:=1) d [6,5,4] (by (rw [Fm ‹_›,N5 (.inl ‹_›)])),Z.xt⟩)
 refine .r 1<|RG.Ln 2 Z<|.r 1<|RG.Lb 1 Z<|RG.C0 (GC d x.num (Z.a 6) (Z.a 5) (Z.a 4)) Z fun w Z=>?_
 cases az:(d.list.contains x.num)
 ·refine .r 2<|.d<|.ct<|T.GS 11 [ae,ac,ab] Z fun _ w Z=>.r [1]<|GA.Lb (q:=2) 2 2 Z<|.r [3]<|GA.Sb (hlh:=(by have E:=Ci d x.num; omega)) (hh:=(by have E:=Ci d x.num; omega)) (hhi:=bdI (At d x.num)) 4 6 0 ((At d x.num).toNat) d.files Z fun aW aX Z=>.r [6]<|GA.Lb (q:=2) 7 2 Z<|.r [8]<|GA.int (i:=9) (At d x.num+1) AA (by have E:=Ci d x.num; omega)<|GA.Sb (hlh:=(by have E:=Ci d x.num; omega)) (hh:=(by have E:=Ci d x.num; omega)) (hlo:=bdI (At d x.num+1)) 10 7 ((At d x.num+1).toNat) d.files.length d.files Z fun aY aZ Z=>.go 0<|GE.N0 Fil 1 Z fun ba w Z=>.go 5<|GE.An (hs:=by (simp <;> omega)) 0 1 ([]:List Fil) ((d.files.take ((At d x.num).toNat)).drop 0) [1,2,3] Z fun bd bg w Z=>GA.Do Z fun w Z=>RG.An (hs:=by (simp <;> omega)) 0 0 ([]++((d.files.take ((At d x.num).toNat)).drop 0)) ((d.files.take d.files.length).drop ((At d x.num+1).toNat)) Z fun bh bi w Z=>.r 1<|RG.Ss 3 Z fun w Z=>.d<|.ib 0<|.s<|.g<|RG.Ln 3 Z<|RG.Ss 1 Z fun w Z=>.d ?_
  have Z:=Z.sl 0
  exact T.Rb 0 func155 results155 Z ⟨Z.rS (g:=1) (⟨(([]++((d.files.take ((At d x.num).toNat)).drop 0))++((d.files.take d.files.length).drop ((At d x.num+1).toNat))),d.list,d.names,d.next⟩:Dsk) [0,8,7] (by (rw [Fm ‹_›,QB ‹_› ‹_›]; have e1:(At d x.num+1).toNat=(At d x.num).toNat+1:=AB; simp [e1]; done)),Z.xt⟩
 exact .r 2<|.d<|.cf<|.sk<|.ib 0<|.s<|.g<|RG.Ln 2 Z<|RG.Ss 0 Z fun w Z=>.d<|T.Rb 0 func155 results155 Z ⟨Z.rS (g:=1) d [6,5,4] (by (rw [Fm ‹_›,N5 (.inr ‹_›)])),Z.xt⟩
theorem N7 (d:Dsk) (steps:List Stp) (cut:Int) (h1:RepS w F a1 n1 c1 d.files) (h2:RepS w F a2 n2 c2 d.list) (h3:RepS w F a3 n3 c3 d.names) (h4:RepS w F a4 n4 c4 steps) (p0:d.files.length≤1000) (p1:steps.length≤1000) (p2:d.list.length≤1000) (p3:∀ x∈steps,KV x):Calls Tryz.prog 98 [.agg #[.slice a1 n1 c1,.slice a2 n2 c2,.slice a3 n3 c3,.int .i64 d.next],.slice a4 n4 c4,.int .i64 cut].toArray w (Am fun rv w'=>VS (fo F w.heap.size) w' (toD d steps cut:Dsk) rv∧Ext w w'):=by
 cases h1.len
 cases h2.len
 cases h3.len
 cases h4.len
 refine goT func98 ?_
 have Z:=((((St.i0 F w).p h1).p h2).p h3).p h4
 refine .s<|.g<|RG.Np Z fun ah w Z=>RG.Np Z fun am w Z=>.d<|.s<|.s<|.g<|.r 1<|.d<|.b 0<|T.Lp ((0:Nat),(d.files:List Fil),a1,c1,(d.list:List Int),a2,c2,(d.names:List (List Tag)),a3,c3,d.next) (fun (i,E,a_d_0,c_d_0,aa,a_d_1,c_d_1,ab,a_d_2,c_d_2,ac)=>([(1,.slice a4 steps.length c4),(2,vI cut),(3,vP ah),(6,vP am),(7,vI (i:Int))],[(1,.box ah 35 [.slice a_d_0 E.length c_d_0,.slice a_d_1 aa.length c_d_1,.slice a_d_2 ab.length c_d_2,vI ac])],[⟨1,none,.rep a_d_0 c_d_0 E⟩,⟨1,none,.rep a_d_1 c_d_1 aa⟩,⟨1,none,.rep a_d_2 c_d_2 ab⟩],steps.length - i,(i≤steps.length)∧(E.length≤d.files.length+i)∧(aa.length≤1000)∧(((steps.take cut.toNat).drop i).foldl doD ⟨E,aa,ab,ac⟩=toD d steps cut))) [3,2,1] Z ⟨AB,AB,AB,AF⟩ ?_
 rintro ⟨i,E,a_d_0,c_d_0,aa,a_d_1,c_d_1,ab,a_d_2,c_d_2,ac⟩ aL w Z ⟨aG,aH,aI,aJ⟩ af
 refine .s<|.s<|.g<|.r 3<|.bp ((i:Int)< (steps.length:Int)) (fun ai=>?_) (fun ai=>.r 5<|.d<|.cf<|.x 0 rfl<|.s<|.g<|RG.Ln 1 Z<|RG.Ss 0 Z fun w Z=>.d<|T.Rb 0 func98 results98 Z ⟨Z.rS (g:=1) (⟨E,aa,ab,ac⟩:Dsk) [0,1,2] (by exact toEnd ‹_› AB),Z.xt⟩)
 refine .r 3<|.bp ((i:Int)< cut) (fun aj=>?_) (fun aj=>.r 1<|.d<|.cf<|.x 0 rfl<|.s<|.g<|RG.Ln 1 Z<|RG.Ss 0 Z fun w Z=>.d<|T.Rb 0 func98 results98 Z ⟨Z.rS (g:=1) (⟨E,aa,ab,ac⟩:Dsk) [0,1,2] (by exact toEnd ‹_› AB),Z.xt⟩)
 refine .r 1<|.d<|.ct<|.sk<|.s<|.b 1<|T.Gd 5 Z fun w Z=>GA.Ln 0 1 Z<|.r [1,2]<|gx steps i fun ag ae=>?_
 have aK:=drop_at ae; have ak:=AV ae
 exact GA.Ix 3 3 ae Z<|Z.el 3 ae fun aM aN aO aP aQ aR aS aT Z=>GA.Lg 4 0 0 Z<|GA.Dn Z fun w Z=>RG.CS (N6 (⟨E,aa,ab,ac⟩:Dsk) ag (Z.mg 1 5) (Z.mg 1 6) (Z.mg 1 7) (Z.mg 1 1) (Z.mg 1 2) (Z.mg 1 3) (Z.mg 1 4) (by simp only; omega) (by simp only; omega) (p3 _ ‹_›)) Z fun ao aq ar ax ay az w Z=>RG.Ss 1 Z fun w Z=>.d<|.ib 1<|.g<|.r 1<|.it ((i:Int)+1)<|.r 1<|.d<|af (i+1,(doD (⟨E,aa,ab,ac⟩:Dsk) ag).files,ao,aq,(doD (⟨E,aa,ab,ac⟩:Dsk) ag).list,ar,ax,(doD (⟨E,aa,ab,ac⟩:Dsk) ag).names,ay,az,(doD (⟨E,aa,ab,ac⟩:Dsk) ag).next) _ _ AA (Z.to 0 [0,1,2] 11) ⟨AB,(by have q1:=p3 _ ‹_›; have q2:=Q6 (d:=⟨E,aa,ab,ac⟩) q1.1 ‹_›; dsimp only at q2; omega),(by have q1:=p3 _ ‹_›; have q2:=Q6 (d:=⟨E,aa,ab,ac⟩) q1.1 ‹_›; dsimp only at q2; omega),(by exact toStep ‹_› ‹_› AB)⟩ (by (simp only []; omega))
theorem Kr (d:Dsk) (at_:Int) (h1:RepS w F a1 n1 c1 d.files) (h2:RepS w F a2 n2 c2 d.list) (h3:RepS w F a3 n3 c3 d.names) (p0:d.names.length≤1000) (p1:∀ n∈d.names,n.length≤1000) (p2:d.list.length≤1000) (p3:∀ n∈d.list,0≤At d n) (p4:∀ f∈d.files,Cw f.part):Calls Tryz.prog 52 [.agg #[.slice a1 n1 c1,.slice a2 n2 c2,.slice a3 n3 c3,.int .i64 d.next],.int .i64 at_].toArray w (Am fun rv w'=>VL (ge w.heap.size) w' (Al d at_:List Stp) rv∧Ext w w'):=by
 cases h1.len
 cases h2.len
 cases h3.len
 refine goT func52 ?_
 have Z:=(((St.i0 F w).p h1).p h2).p h3
 refine .s<|.g<|RG.Np Z fun aj w Z=>.r 1<|.d<|.s<|.s<|.g<|.r 2<|RG.Lb 0 Z<|.r 1<|.it ((d.list.length:Int) - 2)<|RG.C0 (CF at_ 0 ((d.list.length:Int) - 2) (F:=all)) Z fun w Z=>?_
 cases ai:(inR at_ 0 ((d.list.length:Int) - 2))
 ·exact .r 12<|.d<|.ct<|.s<|.g<|RG.N0 Stp 0 Z fun bK w Z=>.r 1<|.d<|T.Rt func52 results52 ⟨Z.rM 0 ([]:List Stp) (by rw [I3 (.inl ‹_›)]),Z.xt⟩
 have aE:=BW ai
 refine .r 3<|RG.Lb 0 Z<|.bp (d.next≥999) (fun ak=>.r 7<|.d<|.ct<|.s<|.g<|RG.N0 Stp 0 Z fun bL w Z=>.r 1<|.d<|T.Rt func52 results52 ⟨Z.rM 0 ([]:List Stp) (by rw [I3 (.inr (.inl ‹_›))]),Z.xt⟩) fun ak=>.r 3<|RG.Lb 0 Z<|.r 1<|.bp ((d.files.length:Int)≥20) (fun am=>.r 1<|.d<|.ct<|.s<|.g<|RG.N0 Stp 0 Z fun bM w Z=>.r 1<|.d<|T.Rt func52 results52 ⟨Z.rM 0 ([]:List Stp) (by rw [I3 (.inr (.inr ‹_›))]),Z.xt⟩) fun am=>.r 1<|.d<|.cf<|.sk<|.s<|.g<|.r 1<|RG.Lb 0 Z<|.r 1<|gx (h:=AB) d.list (at_.toNat) fun ab ae=>?_
 have aq:=AV ae
 refine RG.Jx (hz:=AB) 1 at_ ae Z<|Z.el 1 ae fun Z=>RG.Lh 0 0 Z<|.r 1<|.d<|.s<|.g<|.r 1<|RG.Lb 0 Z<|.r 1<|.it (at_+1)<|gx (h:=AB) d.list ((at_+1).toNat) fun ac af=>?_
 have ar:=AV af
 refine RG.Jx (hz:=AB) 2 (at_+1) af Z<|Z.el 2 af fun Z=>RG.Lh 0 0 Z<|.r 1<|.d<|.s<|T.Gd 18 Z fun w Z=>.r [0]<|GA.Lb 1 0 Z<|GA.Ln 2 0 Z<|.r [3]<|GA.C0 4 Z (fun w Z=>FF d ab (Z.a 4) (Z.a 3) (Z.a 2))<|gx (h:=(by exact Ji p3 ‹_›)) d.files ((At d ab).toNat) fun E ag=>?_
 have ax:=AV ag
 refine GA.Jx (hz:=(by exact Jj p3 ‹_›)) 5 4 (At d ab) ag Z<|.r [6]<|Z.el 4 ag fun bN bO bP bQ Z=>GA.Lg 7 0 1 Z<|.r [8]<|GA.Lb 9 0 Z<|GA.Ln 10 0 Z<|.r [11]<|GA.C0 12 Z (fun w Z=>FF d ac (Z.a 7) (Z.a 6) (Z.a 5))<|gx (h:=(by exact Ji p3 ‹_›)) d.files ((At d ac).toNat) fun aa ah=>?_
 have ay:=AV ah
 refine GA.Jx (hz:=(by exact Jj p3 ‹_›)) 13 7 (At d ac) ah Z<|.r [14]<|Z.el 7 ah fun bR bS bT bU Z=>GA.Lg 15 0 1 Z<|.tw 16 17 ?_ ?_
 ·refine GE.CS (fun w Z=>Dp E.part aa.part (Z.a 4) (Z.a 5) (Z.a 1) (Z.a 2) (p4 _ ‹_›) (p4 _ ‹_›)) Z fun bV bW bX bY w Z=>.go 17<|GE.Np Z fun az w Z=>GA.Dn Z fun w Z=>RG.Ss 0 Z fun w Z=>.d<|.s<|T.GS 15 [az,aj] Z fun _ w Z=>.r [1]<|GA.Lb (q:=1) 2 1 Z<|.r [3]<|GA.Sb (hhi:=bdI at_) 4 11 0 (at_.toNat) d.list Z fun bZ b0 Z=>.r [6]<|GA.Lb (q:=1) 7 1 Z<|.r [10]<|GA.Lb (q:=1) 11 1 Z<|.r [12]<|GA.int (i:=13) (at_+2) AA AB<|GA.Sb (hlo:=bdI (at_+2)) 14 12 ((at_+2).toNat) d.list.length d.list Z fun b6 b7 Z=>.tw 0 8 ?_ ?_
  ·refine GE.N0 Int 0 Z fun b8 w Z=>.tw 5 8 ?_ ?_
   ·exact GE.An (hf:=.inr Az) 0 1 ([]:List Int) ((d.list.take (at_.toNat)).drop 0) [1,2] Z fun b9 cd w Z=>.go 8<|GE.Nb 1 Z fun ce w Z=>.go 9<|GE.Ap 0 0 ([]++((d.list.take (at_.toNat)).drop 0)) d.next [] [1,2] Z fun cg ci w Z=>GA.Do Z fun w Z=>RG.An (hf:=.inr Az) 0 0 (([]++((d.list.take (at_.toNat)).drop 0))++[d.next]) ((d.list.take d.list.length).drop ((at_+2).toNat)) Z fun cj ck w Z=>.r 1<|.d<|.s<|T.Gd 13 Z fun w Z=>.r [0]<|GA.Lb 1 2 Z<|GA.Ln 2 1 Z<|.r [3,4,5]<|GA.Lb 6 2 Z<|.r [9,10,11,12]<|.go 7<|GE.CO 0 (fun w Z=>BT d.names (Z.a 12) AB (by intro n hn; have:=p1 n hn; omega)) Z fun cm co w Z=>.r [8]<|GA.Dn Z fun w Z=>RG.Nl 0 ([(⟨1,d.next,(⟨(BF E.part aa.part).ids,(BF E.part aa.part).blocks⟩:Prt),([]:List Int),([]:List (List Tag))⟩:Stp),(⟨2,0,(⟨([]:List Int),([]:List (List Row))⟩:Prt),((([]++((d.list.take (at_.toNat)).drop 0))++[d.next])++((d.list.take d.list.length).drop ((at_+2).toNat))),d.names⟩:Stp),(⟨3,ab,(⟨([]:List Int),([]:List (List Row))⟩:Prt),([]:List Int),([]:List (List Tag))⟩:Stp),(⟨3,ac,(⟨([]:List Int),([]:List (List Row))⟩:Prt),([]:List Int),([]:List (List Tag))⟩:Stp)]:List Stp) [[16,17,13,12],[9,8,11,10],[7,6,5,4],[3,2,1,0]] ((((((((((((((Z.nl Int).nl (List Tag)).sl 1).sl 0).nl Int).nl (List Row)).nl Int).nl (List Row)).nl Int).nl (List Tag)).nl Int).nl (List Row)).nl Int).nl (List Tag)) fun cp w Z=>.r 1<|.d<|T.Rt func52 results52 ⟨Z.rM 0 ([(⟨1,d.next,(⟨(BF E.part aa.part).ids,(BF E.part aa.part).blocks⟩:Prt),([]:List Int),([]:List (List Tag))⟩:Stp),(⟨2,0,(⟨([]:List Int),([]:List (List Row))⟩:Prt),((([]++((d.list.take (at_.toNat)).drop 0))++[d.next])++((d.list.take d.list.length).drop ((at_+2).toNat))),d.names⟩:Stp),(⟨3,ab,(⟨([]:List Int),([]:List (List Row))⟩:Prt),([]:List Int),([]:List (List Tag))⟩:Stp),(⟨3,ac,(⟨([]:List Int),([]:List (List Row))⟩:Prt),([]:List Int),([]:List (List Tag))⟩:Stp)]:List Stp) (by rw [Ej ‹_› ‹_› ‹_› ‹_› ‹_› ‹_› ‹_›]),Z.xt⟩
   exact GE.Nb 1 Z fun cq w Z=>.go 5<|GE.An (hf:=.inr Az) 1 1 ([]:List Int) ((d.list.take (at_.toNat)).drop 0) [2,3] Z fun cr cu w Z=>.go 9<|GE.Ap 0 0 ([]++((d.list.take (at_.toNat)).drop 0)) d.next [] [1,2] Z fun cw cx w Z=>GA.Do Z fun w Z=>RG.An (hf:=.inr Az) 0 0 (([]++((d.list.take (at_.toNat)).drop 0))++[d.next]) ((d.list.take d.list.length).drop ((at_+2).toNat)) Z fun cy cz w Z=>.r 1<|.d<|.s<|T.Gd 13 Z fun w Z=>.r [0]<|GA.Lb 1 2 Z<|GA.Ln 2 1 Z<|.r [3,4,5]<|GA.Lb 6 2 Z<|.r [9,10,11,12]<|.go 7<|GE.CO 0 (fun w Z=>BT d.names (Z.a 12) AB (by intro n hn; have:=p1 n hn; omega)) Z fun cA cB w Z=>.r [8]<|GA.Dn Z fun w Z=>RG.Nl 0 ([(⟨1,d.next,(⟨(BF E.part aa.part).ids,(BF E.part aa.part).blocks⟩:Prt),([]:List Int),([]:List (List Tag))⟩:Stp),(⟨2,0,(⟨([]:List Int),([]:List (List Row))⟩:Prt),((([]++((d.list.take (at_.toNat)).drop 0))++[d.next])++((d.list.take d.list.length).drop ((at_+2).toNat))),d.names⟩:Stp),(⟨3,ab,(⟨([]:List Int),([]:List (List Row))⟩:Prt),([]:List Int),([]:List (List Tag))⟩:Stp),(⟨3,ac,(⟨([]:List Int),([]:List (List Row))⟩:Prt),([]:List Int),([]:List (List Tag))⟩:Stp)]:List Stp) [[16,17,13,12],[9,8,11,10],[7,6,5,4],[3,2,1,0]] ((((((((((((((Z.nl Int).nl (List Tag)).sl 1).sl 0).nl Int).nl (List Row)).nl Int).nl (List Row)).nl Int).nl (List Tag)).nl Int).nl (List Row)).nl Int).nl (List Tag)) fun cC w Z=>.r 1<|.d<|T.Rt func52 results52 ⟨Z.rM 0 ([(⟨1,d.next,(⟨(BF E.part aa.part).ids,(BF E.part aa.part).blocks⟩:Prt),([]:List Int),([]:List (List Tag))⟩:Stp),(⟨2,0,(⟨([]:List Int),([]:List (List Row))⟩:Prt),((([]++((d.list.take (at_.toNat)).drop 0))++[d.next])++((d.list.take d.list.length).drop ((at_+2).toNat))),d.names⟩:Stp),(⟨3,ab,(⟨([]:List Int),([]:List (List Row))⟩:Prt),([]:List Int),([]:List (List Tag))⟩:Stp),(⟨3,ac,(⟨([]:List Int),([]:List (List Row))⟩:Prt),([]:List Int),([]:List (List Tag))⟩:Stp)]:List Stp) (by rw [Ej ‹_› ‹_› ‹_› ‹_› ‹_› ‹_› ‹_›]),Z.xt⟩
  exact GE.Nb 1 Z fun cD w Z=>.go 0<|GE.N0 Int 0 Z fun cE w Z=>.go 5<|GE.An (hf:=.inr Az) 0 1 ([]:List Int) ((d.list.take (at_.toNat)).drop 0) [2,3] Z fun cF cG w Z=>.go 9<|GE.Ap 0 1 ([]++((d.list.take (at_.toNat)).drop 0)) d.next [] [1,2] Z fun cH cI w Z=>GA.Do Z fun w Z=>RG.An (hf:=.inr Az) 0 0 (([]++((d.list.take (at_.toNat)).drop 0))++[d.next]) ((d.list.take d.list.length).drop ((at_+2).toNat)) Z fun cJ cK w Z=>.r 1<|.d<|.s<|T.Gd 13 Z fun w Z=>.r [0]<|GA.Lb 1 2 Z<|GA.Ln 2 1 Z<|.r [3,4,5]<|GA.Lb 6 2 Z<|.r [9,10,11,12]<|.go 7<|GE.CO 0 (fun w Z=>BT d.names (Z.a 12) AB (by intro n hn; have:=p1 n hn; omega)) Z fun aJ aK w Z=>.r [8]<|GA.Dn Z fun w Z=>RG.Nl 0 ([(⟨1,d.next,(⟨(BF E.part aa.part).ids,(BF E.part aa.part).blocks⟩:Prt),([]:List Int),([]:List (List Tag))⟩:Stp),(⟨2,0,(⟨([]:List Int),([]:List (List Row))⟩:Prt),((([]++((d.list.take (at_.toNat)).drop 0))++[d.next])++((d.list.take d.list.length).drop ((at_+2).toNat))),d.names⟩:Stp),(⟨3,ab,(⟨([]:List Int),([]:List (List Row))⟩:Prt),([]:List Int),([]:List (List Tag))⟩:Stp),(⟨3,ac,(⟨([]:List Int),([]:List (List Row))⟩:Prt),([]:List Int),([]:List (List Tag))⟩:Stp)]:List Stp) [[16,17,13,12],[9,8,11,10],[7,6,5,4],[3,2,1,0]] ((((((((((((((Z.nl Int).nl (List Tag)).sl 1).sl 0).nl Int).nl (List Row)).nl Int).nl (List Row)).nl Int).nl (List Tag)).nl Int).nl (List Row)).nl Int).nl (List Tag)) fun aL w Z=>.r 1<|.d<|T.Rt func52 results52 ⟨Z.rM 0 ([(⟨1,d.next,(⟨(BF E.part aa.part).ids,(BF E.part aa.part).blocks⟩:Prt),([]:List Int),([]:List (List Tag))⟩:Stp),(⟨2,0,(⟨([]:List Int),([]:List (List Row))⟩:Prt),((([]++((d.list.take (at_.toNat)).drop 0))++[d.next])++((d.list.take d.list.length).drop ((at_+2).toNat))),d.names⟩:Stp),(⟨3,ab,(⟨([]:List Int),([]:List (List Row))⟩:Prt),([]:List Int),([]:List (List Tag))⟩:Stp),(⟨3,ac,(⟨([]:List Int),([]:List (List Row))⟩:Prt),([]:List Int),([]:List (List Tag))⟩:Stp)]:List Stp) (by rw [Ej ‹_› ‹_› ‹_› ‹_› ‹_› ‹_› ‹_›]),Z.xt⟩
 refine GE.Np Z fun ao w Z=>.go 16<|GE.CS (fun w Z=>Dp E.part aa.part (Z.a 4) (Z.a 5) (Z.a 1) (Z.a 2) (p4 _ ‹_›) (p4 _ ‹_›)) Z fun aM aN aO aP w Z=>GA.Dn Z fun w Z=>RG.Ss 0 Z fun w Z=>.d<|.s<|T.GS 15 [ao,aj] Z fun _ w Z=>.r [1]<|GA.Lb (q:=1) 2 1 Z<|.r [3]<|GA.Sb (hhi:=bdI at_) 4 11 0 (at_.toNat) d.list Z fun aQ aR Z=>.r [6]<|GA.Lb (q:=1) 7 1 Z<|.r [10]<|GA.Lb (q:=1) 11 1 Z<|.r [12]<|GA.int (i:=13) (at_+2) AA AB<|GA.Sb (hlo:=bdI (at_+2)) 14 12 ((at_+2).toNat) d.list.length d.list Z fun aS aT Z=>.tw 0 8 ?_ ?_
 ·refine GE.N0 Int 0 Z fun aU w Z=>.tw 5 8 ?_ ?_
  ·exact GE.An (hf:=.inr Az) 0 1 ([]:List Int) ((d.list.take (at_.toNat)).drop 0) [1,2] Z fun aV aW w Z=>.go 8<|GE.Nb 1 Z fun aX w Z=>.go 9<|GE.Ap 0 0 ([]++((d.list.take (at_.toNat)).drop 0)) d.next [] [1,2] Z fun aY aZ w Z=>GA.Do Z fun w Z=>RG.An (hf:=.inr Az) 0 0 (([]++((d.list.take (at_.toNat)).drop 0))++[d.next]) ((d.list.take d.list.length).drop ((at_+2).toNat)) Z fun ba bd w Z=>.r 1<|.d<|.s<|T.Gd 13 Z fun w Z=>.r [0]<|GA.Lb 1 2 Z<|GA.Ln 2 1 Z<|.r [3,4,5]<|GA.Lb 6 2 Z<|.r [9,10,11,12]<|.go 7<|GE.CO 0 (fun w Z=>BT d.names (Z.a 12) AB (by intro n hn; have:=p1 n hn; omega)) Z fun bg bh w Z=>.r [8]<|GA.Dn Z fun w Z=>RG.Nl 0 ([(⟨1,d.next,(⟨(BF E.part aa.part).ids,(BF E.part aa.part).blocks⟩:Prt),([]:List Int),([]:List (List Tag))⟩:Stp),(⟨2,0,(⟨([]:List Int),([]:List (List Row))⟩:Prt),((([]++((d.list.take (at_.toNat)).drop 0))++[d.next])++((d.list.take d.list.length).drop ((at_+2).toNat))),d.names⟩:Stp),(⟨3,ab,(⟨([]:List Int),([]:List (List Row))⟩:Prt),([]:List Int),([]:List (List Tag))⟩:Stp),(⟨3,ac,(⟨([]:List Int),([]:List (List Row))⟩:Prt),([]:List Int),([]:List (List Tag))⟩:Stp)]:List Stp) [[16,17,13,12],[9,8,11,10],[7,6,5,4],[3,2,1,0]] ((((((((((((((Z.nl Int).nl (List Tag)).sl 1).sl 0).nl Int).nl (List Row)).nl Int).nl (List Row)).nl Int).nl (List Tag)).nl Int).nl (List Row)).nl Int).nl (List Tag)) fun bi w Z=>.r 1<|.d<|T.Rt func52 results52 ⟨Z.rM 0 ([(⟨1,d.next,(⟨(BF E.part aa.part).ids,(BF E.part aa.part).blocks⟩:Prt),([]:List Int),([]:List (List Tag))⟩:Stp),(⟨2,0,(⟨([]:List Int),([]:List (List Row))⟩:Prt),((([]++((d.list.take (at_.toNat)).drop 0))++[d.next])++((d.list.take d.list.length).drop ((at_+2).toNat))),d.names⟩:Stp),(⟨3,ab,(⟨([]:List Int),([]:List (List Row))⟩:Prt),([]:List Int),([]:List (List Tag))⟩:Stp),(⟨3,ac,(⟨([]:List Int),([]:List (List Row))⟩:Prt),([]:List Int),([]:List (List Tag))⟩:Stp)]:List Stp) (by rw [Ej ‹_› ‹_› ‹_› ‹_› ‹_› ‹_› ‹_›]),Z.xt⟩
  exact GE.Nb 1 Z fun bj w Z=>.go 5<|GE.An (hf:=.inr Az) 1 1 ([]:List Int) ((d.list.take (at_.toNat)).drop 0) [2,3] Z fun bk bm w Z=>.go 9<|GE.Ap 0 0 ([]++((d.list.take (at_.toNat)).drop 0)) d.next [] [1,2] Z fun bn bo w Z=>GA.Do Z fun w Z=>RG.An (hf:=.inr Az) 0 0 (([]++((d.list.take (at_.toNat)).drop 0))++[d.next]) ((d.list.take d.list.length).drop ((at_+2).toNat)) Z fun bq br w Z=>.r 1<|.d<|.s<|T.Gd 13 Z fun w Z=>.r [0]<|GA.Lb 1 2 Z<|GA.Ln 2 1 Z<|.r [3,4,5]<|GA.Lb 6 2 Z<|.r [9,10,11,12]<|.go 7<|GE.CO 0 (fun w Z=>BT d.names (Z.a 12) AB (by intro n hn; have:=p1 n hn; omega)) Z fun bu bv w Z=>.r [8]<|GA.Dn Z fun w Z=>RG.Nl 0 ([(⟨1,d.next,(⟨(BF E.part aa.part).ids,(BF E.part aa.part).blocks⟩:Prt),([]:List Int),([]:List (List Tag))⟩:Stp),(⟨2,0,(⟨([]:List Int),([]:List (List Row))⟩:Prt),((([]++((d.list.take (at_.toNat)).drop 0))++[d.next])++((d.list.take d.list.length).drop ((at_+2).toNat))),d.names⟩:Stp),(⟨3,ab,(⟨([]:List Int),([]:List (List Row))⟩:Prt),([]:List Int),([]:List (List Tag))⟩:Stp),(⟨3,ac,(⟨([]:List Int),([]:List (List Row))⟩:Prt),([]:List Int),([]:List (List Tag))⟩:Stp)]:List Stp) [[16,17,13,12],[9,8,11,10],[7,6,5,4],[3,2,1,0]] ((((((((((((((Z.nl Int).nl (List Tag)).sl 1).sl 0).nl Int).nl (List Row)).nl Int).nl (List Row)).nl Int).nl (List Tag)).nl Int).nl (List Row)).nl Int).nl (List Tag)) fun bw w Z=>.r 1<|.d<|T.Rt func52 results52 ⟨Z.rM 0 ([(⟨1,d.next,(⟨(BF E.part aa.part).ids,(BF E.part aa.part).blocks⟩:Prt),([]:List Int),([]:List (List Tag))⟩:Stp),(⟨2,0,(⟨([]:List Int),([]:List (List Row))⟩:Prt),((([]++((d.list.take (at_.toNat)).drop 0))++[d.next])++((d.list.take d.list.length).drop ((at_+2).toNat))),d.names⟩:Stp),(⟨3,ab,(⟨([]:List Int),([]:List (List Row))⟩:Prt),([]:List Int),([]:List (List Tag))⟩:Stp),(⟨3,ac,(⟨([]:List Int),([]:List (List Row))⟩:Prt),([]:List Int),([]:List (List Tag))⟩:Stp)]:List Stp) (by rw [Ej ‹_› ‹_› ‹_› ‹_› ‹_› ‹_› ‹_›]),Z.xt⟩
 exact GE.Nb 1 Z fun bz w Z=>.go 0<|GE.N0 Int 0 Z fun bA w Z=>.go 5<|GE.An (hf:=.inr Az) 0 1 ([]:List Int) ((d.list.take (at_.toNat)).drop 0) [2,3] Z fun bB bC w Z=>.go 9<|GE.Ap 0 1 ([]++((d.list.take (at_.toNat)).drop 0)) d.next [] [1,2] Z fun bD bE w Z=>GA.Do Z fun w Z=>RG.An (hf:=.inr Az) 0 0 (([]++((d.list.take (at_.toNat)).drop 0))++[d.next]) ((d.list.take d.list.length).drop ((at_+2).toNat)) Z fun bF bG w Z=>.r 1<|.d<|.s<|T.Gd 13 Z fun w Z=>.r [0]<|GA.Lb 1 2 Z<|GA.Ln 2 1 Z<|.r [3,4,5]<|GA.Lb 6 2 Z<|.r [9,10,11,12]<|.go 7<|GE.CO 0 (fun w Z=>BT d.names (Z.a 12) AB (by intro n hn; have:=p1 n hn; omega)) Z fun bH bI w Z=>.r [8]<|GA.Dn Z fun w Z=>RG.Nl 0 ([(⟨1,d.next,(⟨(BF E.part aa.part).ids,(BF E.part aa.part).blocks⟩:Prt),([]:List Int),([]:List (List Tag))⟩:Stp),(⟨2,0,(⟨([]:List Int),([]:List (List Row))⟩:Prt),((([]++((d.list.take (at_.toNat)).drop 0))++[d.next])++((d.list.take d.list.length).drop ((at_+2).toNat))),d.names⟩:Stp),(⟨3,ab,(⟨([]:List Int),([]:List (List Row))⟩:Prt),([]:List Int),([]:List (List Tag))⟩:Stp),(⟨3,ac,(⟨([]:List Int),([]:List (List Row))⟩:Prt),([]:List Int),([]:List (List Tag))⟩:Stp)]:List Stp) [[16,17,13,12],[9,8,11,10],[7,6,5,4],[3,2,1,0]] ((((((((((((((Z.nl Int).nl (List Tag)).sl 1).sl 0).nl Int).nl (List Row)).nl Int).nl (List Row)).nl Int).nl (List Tag)).nl Int).nl (List Row)).nl Int).nl (List Tag)) fun bJ w Z=>.r 1<|.d<|T.Rt func52 results52 ⟨Z.rM 0 ([(⟨1,d.next,(⟨(BF E.part aa.part).ids,(BF E.part aa.part).blocks⟩:Prt),([]:List Int),([]:List (List Tag))⟩:Stp),(⟨2,0,(⟨([]:List Int),([]:List (List Row))⟩:Prt),((([]++((d.list.take (at_.toNat)).drop 0))++[d.next])++((d.list.take d.list.length).drop ((at_+2).toNat))),d.names⟩:Stp),(⟨3,ab,(⟨([]:List Int),([]:List (List Row))⟩:Prt),([]:List Int),([]:List (List Tag))⟩:Stp),(⟨3,ac,(⟨([]:List Int),([]:List (List Row))⟩:Prt),([]:List Int),([]:List (List Tag))⟩:Stp)]:List Stp) (by rw [Ej ‹_› ‹_› ‹_› ‹_› ‹_› ‹_› ‹_›]),Z.xt⟩
end Go.Proofs.YtfninflnngpchaaGreatDoor
namespace Go.Proofs.YtfninflnngpchaaGreatDoor
def Blk (b:List Row):Prop:=Ce none b=true
theorem Bb {o:Option Row}{r:Row}{rs:List Row}:Ce o (r::rs)=true↔BZ r=true∧(∀ q,o=some q→q.t< r.t)∧Ce (some r) rs=true:=by
 simp only [Ce,AW]
 cases o <;> simp [and_assoc]
theorem Ou {o:Option Row}{b:List Row}(h:Ce o b=true):Blk b:=by
 cases b with
 | nil=>rfl
 | cons r rs=>exact Bb.2 ⟨(Bb.1 h).1,by simp,(Bb.1 h).2.2⟩
theorem LA {r:Row}(h:BZ r=true):0≤r.t∧r.t≤99:=by
 simp only [BZ,AW] at h
 exact BW h.1
theorem Q7 {r:Row}(h:BZ r=true):-99≤r.v∧r.v≤99:=by
 simp only [BZ,AW] at h
 exact BW h.2
theorem QC:∀ (b:List Row) (q:Row),Ce (some q) b=true→q.t≤99→(b.length:Int)≤99 - q.t:=by
 intro b
 induction b with
 | nil=>intro q _ h; simp; omega
 | cons r rs ih =>
   intro q h hq
   obtain ⟨h1,h2,h3⟩:=Bb.1 h
   have h4:=h2 q rfl
   have h5:=LA h1
   have h6:=ih r h3 AB
   simp only [List.length_cons]
   omega
theorem Blk.len {b:List Row}(h:Blk b):b.length≤100:=by
 cases b with
 | nil=>simp
 | cons r rs =>
   obtain ⟨h1,_,h3⟩:=Bb.1 h
   have h5:=LA h1
   have h6:=QC rs r h3 AB
   simp only [List.length_cons]
   omega
theorem Ov:∀ (b:List Row) (o:Option Row),Ce o b=true→∀ r∈b,BZ r=true:=by
 intro b
 induction b with
 | nil=>intro o _ r hr; cases hr
 | cons x xs ih =>
   intro o h r hr
   obtain ⟨h1,_,h3⟩:=Bb.1 h
   rcases List.mem_cons.1 hr with rfl | hr
   ·exact h1
   ·exact ih _ h3 r hr
theorem Blk.rows {b:List Row}(h:Blk b):∀ r∈b,BZ r=true:=Ov b none h
theorem Mz:∀ (b:List Row) (q:Row),Ce (some q) b=true→∀ r∈b,q.t< r.t:=by
 intro b
 induction b with
 | nil=>intro q _ r hr; cases hr
 | cons x xs ih =>
   intro q h r hr
   obtain ⟨_,h2,h3⟩:=Bb.1 h
   have h4:=h2 q rfl
   rcases List.mem_cons.1 hr with rfl | hr
   ·exact h4
   ·have:=ih x h3 r hr; omega
def DU (r:Row):List Row→List Row
 | []=>[r]
 | x::xs=>if r.t< x.t then r::x::xs else if r.t=x.t then r::xs else x::DU r xs
theorem M0 (r:Row):∀ (b out:List Row),(∀ x∈b,r.t< x.t)→Cm out r true b=out++b:=by
 intro b
 induction b with
 | nil=>intro out _; simp [Cm]
 | cons x xs ih =>
   intro out h
   have h1:=h x AD
   have h2:(x.t != r.t)=true:=by simp; omega
   unfold Cm
   simp only [Bool.not_true,Bool.false_and,if_neg,h2,if_true]
   rw [if_neg AD,ih _ (fun y hy=>h y (by simp [hy]))]
   simp
theorem TQ (r:Row):∀ (b out:List Row) (o:Option Row),Ce o b=true→Cm out r false b=out++DU r b:=by
 intro b
 induction b with
 | nil=>intro out o _; simp [Cm,DU]
 | cons x xs ih =>
   intro out o h
   obtain ⟨_,_,h3⟩:=Bb.1 h
   have hg:=Mz xs x h3
   unfold Cm DU
   by_cases h1:r.t< x.t
   ·have e1:(x.t != r.t)=true:=by simp; omega
    have e2:(!false&&decide (x.t≥r.t))=true:=by simp; omega
    rw [if_pos e2,if_pos e1,if_pos h1,M0 r xs _ (fun y hy=>by have:=hg y hy; omega)]
    simp
   ·by_cases h2:r.t=x.t
    ·have e1:¬ (x.t != r.t)=true:=by simp; omega
     have e2:(!false&&decide (x.t≥r.t))=true:=by simp; omega
     rw [if_pos e2,if_neg e1,if_neg h1,if_pos h2,M0 r xs _ (fun y hy=>by have:=hg y hy; omega)]
     simp
    ·have e1:(x.t != r.t)=true:=by simp; omega
     have e2:¬ (!false&&decide (x.t≥r.t))=true:=by simp; omega
     rw [if_neg e2,if_pos e1,if_neg h1,if_neg h2,ih _ _ h3]
     simp
theorem GH {b:List Row}(h:Blk b) (r:Row):Eb b r=DU r b:=by
 unfold Eb
 rw [TQ r b [] none h]
 rfl
theorem Vk {r:Row}(hr:BZ r=true):∀ (b:List Row) (o:Option Row),Ce o b=true→(∀ q,o=some q→q.t< r.t)→Ce o (DU r b)=true:=by
 intro b
 induction b with
 | nil=>intro o _ ho; exact Bb.2 ⟨hr,ho,rfl⟩
 | cons x xs ih =>
   intro o h ho
   obtain ⟨h1,h2,h3⟩:=Bb.1 h
   unfold DU
   split
   ·exact Bb.2 ⟨hr,ho,Bb.2 ⟨h1,fun q hq=>by cases hq; assumption,h3⟩⟩
   ·split
    ·rename_i _ he
     refine Bb.2 ⟨hr,ho,?_⟩
     cases xs with
     | nil=>rfl
     | cons y ys =>
       obtain ⟨g1,g2,g3⟩:=Bb.1 h3
       exact Bb.2 ⟨g1,fun q hq=>by cases hq; have:=g2 x rfl; omega,g3⟩
    ·exact Bb.2 ⟨h1,h2,ih _ h3 (fun q hq=>by cases hq; omega)⟩
theorem Blk.put {b:List Row}(h:Blk b){r:Row}(hr:BZ r=true):Blk (Eb b r):=by
 rw [GH h]
 exact Vk hr b none h AD
theorem Blk.nil:Blk []:=rfl
theorem Blk.foldl {b:List Row}:∀ {a:List Row},Blk a→(∀ r∈b,BZ r=true)→Blk (b.foldl Eb a):=by
 induction b with
 | nil=>intro a h _; exact h
 | cons x xs ih=>intro a h hr; exact ih (h.put (hr x AD)) (fun r hr'=>hr r (by simp [hr']))
theorem Blk.merge {a b:List Row}(ha:Blk a) (hb:Blk b):Blk (Bf a b):=Blk.foldl ha hb.rows
structure PrtI (p:Prt):Prop where
 len:p.ids.length=p.blocks.length
 le:p.blocks.length≤6
 blk:∀ b∈p.blocks,Blk b
theorem PrtI.sz {p:Prt}(h:PrtI p):Cw p:=⟨h.len,by have:=h.le; omega,fun b hb=>by have:=(h.blk b hb).len; omega⟩
theorem PrtI.nil:PrtI ⟨[],[]⟩:=⟨rfl,by simp,by simp⟩
theorem PrtI.of {p:Prt}(h:PrtI p) (id:Int):Blk (partOf p id):=by
 rcases Je id p.ids p.blocks with h1 | h1
 ·unfold partOf; rw [h1]; exact Blk.nil
 ·exact h.blk _ h1
theorem M3:∀ (bs:List (List Row)) (i:Nat),(BM i bs).1.length=(BM i bs).2.length∧(BM i bs).2.length≤bs.length∧∀ b∈(BM i bs).2,b∈bs:=by
 intro bs
 induction bs with
 | nil=>intro i; simp [BM]
 | cons b bs ih =>
   intro i
   obtain ⟨h1,h2,h3⟩:=ih (i+1)
   unfold BM
   split
   ·refine ⟨by simp [h1],by simp; omega,fun x hx=>?_⟩
    rcases List.mem_cons.1 hx with rfl | hx
    ·simp
    ·exact List.mem_cons_of_mem _ (h3 x hx)
   ·exact ⟨h1,by simp; omega,fun x hx=>List.mem_cons_of_mem _ (h3 x hx)⟩
theorem PrtI.make {bs:List (List Row)}(hl:bs.length≤6) (h:∀ b∈bs,Blk b):PrtI (EF bs):=by
 obtain ⟨h1,h2,h3⟩:=M3 bs 0
 exact ⟨h1,by unfold EF; dsimp only; omega,fun b hb=>h b (h3 b hb)⟩
theorem PrtI.merge {p q:Prt}(hp:PrtI p) (hq:PrtI q):PrtI (BF p q):=by
 refine PrtI.make (by rw [D7]; omega) (fun b hb=>?_)
 simp only [BY,List.mem_map] at hb
 obtain ⟨i,_,rfl⟩:=hb
 exact (hp.of _).merge (hq.of _)
theorem TR:∀ (mem:List Smp) (bl:List (List Row)),bl.length=6→(∀ b∈bl,Blk b)→(∀ m∈mem,BZ m.row=true)→(mem.foldl G6 bl).length=6∧∀ b∈mem.foldl G6 bl,Blk b:=by
 intro mem
 induction mem with
 | nil=>intro bl h1 h2 _; exact ⟨h1,h2⟩
 | cons m ms ih =>
   intro bl h1 h2 h3
   refine ih (G6 bl m) (by rw [TM,h1]) (fun b hb=>?_) (fun x hx=>h3 x (by simp [hx]))
   unfold G6 at hb
   rcases List.mem_or_eq_of_mem_set hb with hb | rfl
   ·exact h2 b hb
   ·refine Blk.put ?_ (h3 m AD)
    rw [List.getD_eq_getElem?_getD]
    cases hx:bl[(m.id - 1).toNat]? with
    | none=>exact Blk.nil
    | some y=>exact h2 y (AV hx)
theorem PrtI.mem {mem:List Smp}(h:∀ m∈mem,BZ m.row=true):PrtI (Ai mem):=by
 obtain ⟨h1,h2⟩:=TR mem [[],[],[],[],[],[]] rfl (by simp [Blk.nil]) h
 exact PrtI.make AB h2
structure NmI (names:List (List Tag)):Prop where
 len:names.length≤6
 ok:∀ n∈names,Ao n=true
 nodup:(names.map text).Nodup
theorem Ew {lo hi:Int}{s:Str}(h:LU lo hi s=true):s.length=1:=by
 match s,h with
 | [x],_=>rfl
 | [],h=>simp [LU] at h
 | x::y::r,h=>simp [LU] at h
theorem Gl:∀ (n:List Tag) (o:Option Tag),D3 o n=true→∀ t∈n,Bj t=true:=by
 intro n
 induction n with
 | nil=>intro o _ t ht; cases ht
 | cons x xs ih =>
   intro o h t ht
   simp only [D3,AW] at h
   rcases List.mem_cons.1 ht with rfl | ht
   ·exact h.1.1
   ·exact ih _ h.2 t ht
theorem R5 {n:List Tag}(h:Ao n=true):n.length≤3∧Fw n:=by
 simp only [Ao,AW] at h
 have h1:=BW h.2
 refine ⟨by omega,by omega,fun t ht=>?_⟩
 have h2:=Gl n none h.1 t ht
 simp only [Bj,AW] at h2
 have h3:=Ew h2.1
 have h4:=Ew h2.2
 omega
theorem NmI.sz {names:List (List Tag)}(h:NmI names):∀ n∈names,Fw n:=fun n hn=>(R5 (h.ok n hn)).2
theorem Ow (t:Str):∀ (ns:List (List Tag)) (i:Nat),(nmF t i ns=0∧t∉ns.map text)∨((i:Int)< nmF t i ns∧nmF t i ns≤i+ns.length∧t∈ns.map text):=by
 intro ns
 induction ns with
 | nil=>intro i; simp [nmF]
 | cons x xs ih =>
   intro i
   unfold nmF
   by_cases h:text x=t
   ·right
    simp [h]
    omega
   ·have h1:¬ (text x==t)=true:=by simpa using h
    rw [if_neg h1]
    rcases ih (i+1) with ⟨h2,h3⟩ | ⟨h2,h3,h4⟩
    ·left
     refine ⟨h2,?_⟩
     simp only [List.map_cons,List.mem_cons,not_or]
     exact ⟨fun e=>h e.symm,h3⟩
    ·right
     refine ⟨by omega,by simp only [List.length_cons]; omega,?_⟩
     simp only [List.map_cons,List.mem_cons]
     exact .inr h4
theorem NmI.add {names:List (List Tag)}{ps:List Pst}(h:NmI names){n:List Tag}(hn:Ao n=true) (h0:¬ G5 ⟨names,ps⟩ n > 0) (hl:names.length< 6):NmI (names++[n]):=by
 refine ⟨by simp; omega,fun m hm=>?_,?_⟩
 ·rcases List.mem_append.1 hm with hm | hm
  ·exact h.ok m hm
  ·simp at hm; rw [hm]; exact hn
 ·rw [List.map_append]
  refine List.nodup_append.2 ⟨h.nodup,by simp,fun a ha b hb=>?_⟩
  simp at hb
  subst hb
  rintro rfl
  rcases Ow (text n) names 0 with ⟨h2,h3⟩ | ⟨h2,_,_⟩
  ·exact h3 ha
  ·exact h0 (by unfold G5; simpa using h2)
structure StoI (s:Sto):Prop where
 idx:s.idx=idxOf s.idx.names
 nm:NmI s.idx.names
 np:s.parts.length≤6
 part:∀ p∈s.parts,PrtI p
 nm2:s.mem.length≤20
 mem:∀ m∈s.mem,1≤m.id∧m.id≤s.idx.names.length∧BZ m.row=true
theorem StoI.sz {s:Sto}(h:StoI s):My s:=⟨⟨by have:=h.nm.len; omega,h.nm.sz⟩,by have:=h.np; omega,fun p hp=>(h.part p hp).sz,by have:=h.nm2; omega⟩
theorem StoI.copy {s:Sto}(h:StoI s):Ah s=s:=by
 have:=h.idx
 unfold Ah
 rw [← this]
theorem StoI.Jk {s:Sto}(h:StoI s):∀ m∈s.mem,1≤m.id∧m.id≤6:=fun m hm=>by
 have h1:=h.mem m hm
 have h2:=h.nm.len
 omega
theorem StoI.new:StoI ⟨⟨[],[]⟩,[],[]⟩:=⟨by rfl,⟨by simp,by simp,by simp⟩,by simp,by simp,by simp,by simp⟩
theorem QD {ix:Idx}(h:ix=idxOf ix.names) (hn:NmI ix.names) (n:List Tag) :
 (BV ix n).1=idxOf (BV ix n).1.names∧NmI (BV ix n).1.names∧ix.names.length≤(BV ix n).1.names.length∧((BV ix n).2.2=true→1≤(BV ix n).2.1∧(BV ix n).2.1≤(BV ix n).1.names.length):=by
 by_cases h1:G5 ix n > 0
 ·rw [HL h1]
  refine ⟨h,hn,Nat.le_refl _,fun _=>?_⟩
  rcases Ow (text n) ix.names 0 with ⟨h2,_⟩ | ⟨h2,h3,_⟩
  ·unfold G5 at h1; omega
  ·unfold G5 at h1 ⊢; simp only; omega
 ·by_cases h2:Ao n=false∨(ix.names.length:Int)≥6
  ·rw [Fl h1 h2]
   exact ⟨h,hn,Nat.le_refl _,by simp⟩
  ·have h3:Ao n=true:=by
    cases h4:Ao n
    ·exact absurd (.inl h4) h2
    ·rfl
   have h4:¬ (ix.names.length:Int)≥6:=fun h=>h2 (.inr h)
   rw [HM h1 h3 h4]
   refine ⟨rfl,?_,by simp [idxOf],fun _=>by simp [idxOf]; omega⟩
   exact NmI.add (ps:=ix.AY) hn h3 h1 AB
theorem StoI.add {s:Sto}(h:StoI s) (n:List Tag) (r:Row):StoI (CI s n r).1:=by
 unfold CI
 split
 ·exact h
 ·rename_i h1
  split
  ·exact h
  ·simp only [Bool.or_eq_true,not_or] at h1
   obtain ⟨⟨h1,h2⟩,h3⟩:=h1
   obtain ⟨g1,g2,g3,g4⟩:=QD h.idx h.nm n
   have h5:=g4 (by simpa using h1)
   refine ⟨g1,g2,h.np,h.part,?_,fun m hm=>?_⟩
   ·have:¬ s.mem.length≥20:=by simpa using h3
    simp only [GG,List.length_append,List.length_cons,List.length_nil]; omega
   ·rcases List.mem_append.1 hm with hm | hm
    ·have:=h.mem m hm
     refine ⟨this.1,?_,this.2.2⟩
     have h6:=this.2.1
     show m.id≤((BV s.idx n).1.names.length:Int)
     omega
    ·simp at hm
     subst hm
     exact ⟨h5.1,h5.2,by simpa using h2⟩
theorem StoI.flush {s:Sto}(h:StoI s):StoI (BI s).1:=by
 unfold BI
 split
 ·exact h
 ·rename_i h1
  refine ⟨h.idx,h.nm,by simp; omega,fun p hp=>?_,by simp,by simp⟩
  rcases List.mem_append.1 hp with hp | hp
  ·exact h.part p hp
  ·simp at hp; subst hp; exact PrtI.mem (fun m hm=>(h.mem m hm).2.2)
theorem StoI.merge {s:Sto}(h:StoI s) (a:Int):StoI (BH s a).1:=by
 unfold BH
 split
 ·rename_i h1
  have h2:=BW h1
  have h3:a.toNat+1< s.parts.length:=by omega
  refine ⟨h.idx,h.nm,?_,fun p hp=>?_,h.nm2,h.mem⟩
  ·show (Gi s.parts a.toNat).length≤6
   rw [Hs (AU AB) (AU h3)]
   have:=h.np
   simp only [List.length_append,List.length_take,List.length_drop,List.length_cons,List.length_nil]
   omega
  ·change p∈Gi s.parts a.toNat at hp
   rw [Hs (AU AB) (AU h3)] at hp
   rcases List.mem_append.1 hp with hp | hp
   ·rcases List.mem_append.1 hp with hp | hp
    ·exact h.part p (List.mem_of_mem_take hp)
    ·simp at hp; subst hp
     exact (h.part _ (List.getElem_mem _)).merge (h.part _ (List.getElem_mem _))
   ·exact h.part p (List.mem_of_mem_drop hp)
 ·exact h
structure DskI (d:Dsk):Prop where
 nm:NmI d.names
 nf:d.files.length≤20
 file:∀ f∈d.files,PrtI f.part
 nl:d.list.length≤6
 there:∀ n∈d.list,∃ f∈d.files,f.num=n
 num:∀ n∈d.list,0≤n∧n≤999
 next:1≤d.next∧d.next≤999
theorem R6 (n:Int):∀ (fs:List Fil) (i:Nat),0≤DN n i fs↔∃ f∈fs,f.num=n:=by
 intro fs
 induction fs with
 | nil=>intro i; simp [DN]
 | cons f fs ih =>
   intro i
   unfold DN
   by_cases h:f.num=n
   ·simp [h]
   ·have h1:¬ (f.num==n)=true:=by simpa using h
    rw [if_neg h1,ih]
    simp [h]
theorem FQ (d:Dsk) (n:Int):0≤At d n↔∃ f∈d.files,f.num=n:=R6 n d.files 0
theorem DskI.at {d:Dsk}(h:DskI d):∀ n∈d.list,0≤At d n:=fun n hn=>(FQ d n).2 (h.there n hn)
theorem DskI.new:DskI ⟨[],[],[],1⟩:=⟨⟨by simp,by simp,by simp⟩,by simp,by simp,by simp,by simp,by simp,by simp⟩
theorem DskI.part {d:Dsk}(h:DskI d) (n:Int):PrtI (Ay d n):=by
 unfold Ay
 rw [List.getD_eq_getElem?_getD]
 cases hx:d.files[(At d n).toNat]? with
 | none=>exact PrtI.nil
 | some f=>exact h.file f (AV hx)
theorem DskI.copy {d:Dsk}(h:DskI d):DskI (BU d):=by
 refine ⟨h.nm,by simp [BU]; exact h.nf,fun f hf=>?_,h.nl,fun n hn=>?_,h.num,h.next⟩
 ·simp only [BU,List.mem_map] at hf
  obtain ⟨g,hg,rfl⟩:=hf
  exact (h.file g hg).merge PrtI.nil
 ·obtain ⟨f,hf,he⟩:=h.there n hn
  exact ⟨Li f,by simp only [BU,List.mem_map]; exact ⟨f,hf,rfl⟩,he⟩
theorem DskI.tidy {d:Dsk}(h:DskI d):DskI (BN d):=by
 refine ⟨h.nm,Nat.le_trans (List.length_filter_le _ _) h.nf,fun f hf=>h.file f (List.mem_filter.1 hf).1,h.nl,fun n hn=>?_,h.num,h.next⟩
 obtain ⟨f,hf,he⟩:=h.there n hn
 exact ⟨f,List.mem_filter.2 ⟨hf,by rw [he]; have h1:n∈d.list:=hn; simpa using h1⟩,he⟩
theorem DskI.open {d:Dsk}(h:DskI d):StoI (Ar d):=by
 refine ⟨rfl,h.nm,by simp [Ar]; exact h.nl,fun p hp=>?_,by simp [Ar],by simp [Ar]⟩
 simp only [Ar,List.mem_map] at hp
 obtain ⟨n,_,rfl⟩:=hp
 exact h.part n
theorem DskI.gone {d:Dsk}(h:DskI d) (n:Int):DskI ⟨D8 d n,d.list,d.names,d.next⟩:=by
 unfold D8
 split
 ·rename_i h1
  refine ⟨h.nm,?_,fun f hf=>?_,h.nl,fun k hk=>?_,h.num,h.next⟩
  ·have:=h.nf
   simp only [List.length_append,List.length_take,List.length_drop]; omega
  ·rcases List.mem_append.1 hf with hf | hf
   ·exact h.file f (List.mem_of_mem_take hf)
   ·exact h.file f (List.mem_of_mem_drop hf)
  ·obtain ⟨f,hf,he⟩:=h.there k hk
   obtain ⟨i,hi,hif⟩:=List.mem_iff_getElem.1 hf
   have hne:k≠n:=by rintro rfl; have:=h1.2; simp at this; exact this hk
   have hat:∀ (fs:List Fil) (j:Nat) (g:Fil),0≤DN n j fs→fs[(DN n j fs).toNat - j]? = some g→g.num=n:=by
    intro fs
    induction fs with
    | nil=>intro j g hj; simp [DN] at hj
    | cons y ys ih =>
      intro j g hj hg
      unfold DN at hj hg
      by_cases hy:(y.num==n)=true
      ·rw [if_pos hy] at hg
       simp at hg
       subst hg
       simpa using hy
      ·rw [if_neg hy] at hj hg
       have h3:=K9 n ys (j+1)
       have h4:(DN n (j+1) ys).toNat - j=((DN n (j+1) ys).toNat - (j+1))+1:=by omega
       rw [h4,List.getElem?_cons_succ] at hg
       exact ih _ _ hj hg
   have hin:i≠(At d n).toNat:=by
    rintro rfl
    have:=hat d.files 0 f h1.1 (by show d.files[(At d n).toNat - 0]? = _; rw [Nat.sub_zero,AU hi,hif])
    exact hne (he▸this)
   refine ⟨f,?_,he⟩
   rcases Nat.lt_or_gt_of_ne hin with hlt | hgt
   ·refine List.mem_append.2 (.inl (List.mem_iff_getElem.2 ⟨i,by simp; omega,?_⟩))
    rw [List.getElem_take]; exact hif
   ·refine List.mem_append.2 (.inr (List.mem_iff_getElem.2 ⟨i - ((At d n).toNat+1),by simp; omega,?_⟩))
    rw [List.getElem_drop]
    simp only [show (At d n).toNat+1+(i - ((At d n).toNat+1))=i by omega]
    exact hif
 ·exact h
theorem DskI.XE {d:Dsk}(h:DskI d){p:Prt}(hp:PrtI p) (hf:d.files.length< 20) (hn:d.next< 999):DskI ⟨d.files++[⟨d.next,p⟩],d.list,d.names,d.next+1⟩:=by
 refine ⟨h.nm,by simp; omega,fun f hf=>?_,h.nl,fun n hn=>?_,h.num,by have:=h.next; simp only; omega⟩
 ·rcases List.mem_append.1 hf with hf | hf
  ·exact h.file f hf
  ·simp at hf; subst hf; exact hp
 ·obtain ⟨f,hf,he⟩:=h.there n hn
  exact ⟨f,List.mem_append.2 (.inl hf),he⟩
structure WI (w:Wld):Prop where
 sto:StoI w.store
 dsk:DskI w.disk
theorem WI.new:WI ⟨⟨⟨[],[]⟩,[],[]⟩,⟨[],[],[],1⟩⟩:=⟨StoI.new,DskI.new⟩
theorem WI.VW {w:Wld}(h:DskI w.disk):WI (BA w):=by
 have h1:=h.tidy.copy
 refine ⟨?_,h1⟩
 show StoI (Ah (Ar (BU (BN w.disk))))
 rw [h1.open.copy]
 exact h1.open
theorem WI.copy {w:Wld}(h:WI w):WI (Q5 w):=⟨by show StoI (Ah w.store); rw [h.sto.copy]; exact h.sto,h.dsk.copy⟩
structure StI (d:Dsk) (st:List Stp):Prop where
 len:st.length≤4
 sz:∀ x∈st,KV x
 ok:∀ k:Nat,DskI ((st.take k).foldl doD d)
theorem StI.nil {d:Dsk}(h:DskI d):StI d []:=⟨by simp,by simp,by simpa using h⟩
theorem Jl {d:Dsk}{x:Stp}{xs:List Stp}(h0:DskI d) (h:∀ k:Nat,DskI ((xs.take k).foldl doD (doD d x))):∀ k:Nat,DskI (((x::xs).take k).foldl doD d):=by
 intro k
 cases k with
 | zero=>exact h0
 | succ k=>exact h k
theorem Q8 {d:Dsk}(h0:DskI d):∀ k:Nat,DskI ((([]:List Stp).take k).foldl doD d):=by intro k; simpa using h0
theorem StI.flush {w:Wld}(h:WI w):StI w.disk (BB w.disk w.store):=by
 unfold BB
 split
 ·exact StI.nil h.dsk
 ·rename_i h1
  have hd:=h.dsk
  have hs:=h.sto
  have hp:PrtI (Ai w.store.mem):=PrtI.mem (fun m hm=>(hs.mem m hm).2.2)
  have h2:=hd.XE hp AB AB
  have hn:=hd.next
  refine ⟨by simp,fun x hx=>?_,?_⟩
  ·simp only [List.mem_cons,List.not_mem_nil,or_false] at hx
   rcases hx with rfl | rfl
   ·exact ⟨by simp,by simp,by simp,by simp only; omega,by simp only; omega⟩
   ·refine ⟨?_,?_,fun n hn=>?_,by simp,by simp⟩
    ·have:=hd.nl; simp; omega
    ·have:=hs.nm.len; simp only; omega
    ·have:=(hs.nm.sz n hn).1; omega
  ·refine Jl hd (Jl ?_ (Q8 ?_))
   ·rw [FP rfl]; exact h2
   ·rw [HN rfl,FP rfl]
    refine ⟨hs.nm,h2.nf,h2.file,by simp only [List.length_append,List.length_cons,List.length_nil]; omega,fun n hn'=>?_,fun n hn'=>?_,h2.next⟩
    ·rcases List.mem_append.1 hn' with hn' | hn'
     ·exact h2.there n hn'
     ·simp at hn'; subst hn'
      exact ⟨⟨w.disk.next,Ai w.store.mem⟩,by simp,rfl⟩
    ·rcases List.mem_append.1 hn' with hn' | hn'
     ·exact h2.num n hn'
     ·simp at hn'; omega
theorem StI.merge {d:Dsk}(hd:DskI d) (at_:Int):StI d (Al d at_):=by
 unfold Al
 split
 ·exact StI.nil hd
 ·rename_i h1
  simp only [Bool.or_eq_true,not_or,Bool.not_eq_true,Bool.not_eq_false',decide_eq_true_eq] at h1
  obtain ⟨⟨h1,h3⟩,h4⟩:=h1
  have h0:=BW (by simpa using h1)
  have hl:at_.toNat+1< d.list.length:=by omega
  have ha:d.list.getD at_.toNat 0∈d.list:=by rw [List.getD_eq_getElem?_getD,AU AB]; exact List.getElem_mem _
  have hb:d.list.getD (at_.toNat+1) 0∈d.list:=by rw [List.getD_eq_getElem?_getD,AU hl]; exact List.getElem_mem _
  have na:=hd.num _ ha
  have nb:=hd.num _ hb
  generalize d.list.getD at_.toNat 0=a at *
  generalize d.list.getD (at_.toNat+1) 0=b at *
  have hp:PrtI (BF (Ay d a) (Ay d b)):=(hd.part a).merge (hd.part b)
  have h2:=hd.XE hp AB AB
  have hn:=hd.next
  have hlen:(d.list.take at_.toNat++[d.next]++d.list.drop (at_.toNat+2)).length≤6:=by
   have:=hd.nl
   simp only [List.length_append,List.length_take,List.length_drop,List.length_cons,List.length_nil]; omega
  have hm:∀ n∈d.list.take at_.toNat++[d.next]++d.list.drop (at_.toNat+2),n∈d.list∨n=d.next:=by
   intro n hn
   rcases List.mem_append.1 hn with hn | hn
   ·rcases List.mem_append.1 hn with hn | hn
    ·exact .inl (List.mem_of_mem_take hn)
    ·simp at hn; exact .inr hn
   ·exact .inl (List.mem_of_mem_drop hn)
  have h5:DskI ⟨d.files++[⟨d.next,BF (Ay d a) (Ay d b)⟩],d.list.take at_.toNat++[d.next]++d.list.drop (at_.toNat+2),d.names,d.next+1⟩:=by
   refine ⟨h2.nm,h2.nf,h2.file,hlen,fun n hn'=>?_,fun n hn'=>?_,h2.next⟩
   ·rcases hm n hn' with hn' | rfl
    ·exact h2.there n hn'
    ·exact ⟨⟨d.next,BF (Ay d a) (Ay d b)⟩,by simp,rfl⟩
   ·rcases hm n hn' with hn' | rfl
    ·exact h2.num n hn'
    ·omega
  refine ⟨by simp,fun x hx=>?_,?_⟩
  ·simp only [List.mem_cons,List.not_mem_nil,or_false] at hx
   rcases hx with rfl | rfl | rfl | rfl
   ·exact ⟨by simp,by simp,by simp,by simp only; omega,by simp only; omega⟩
   ·refine ⟨by simp only; omega,by have:=hd.nm.len; simp only; omega,fun n hn=>?_,by simp,by simp⟩
    have:=(hd.nm.sz n hn).1; omega
   ·exact ⟨by simp,by simp,by simp,by simp only; omega,by simp only; omega⟩
   ·exact ⟨by simp,by simp,by simp,by simp only; omega,by simp only; omega⟩
  ·refine Jl hd (Jl ?_ (Jl ?_ (Jl ?_ (Q8 ?_))))
   ·rw [FP rfl]; exact h2
   ·rw [HN rfl,FP rfl]; exact h5
   ·rw [Fm rfl,HN rfl,FP rfl]; exact h5.gone a
   ·rw [Fm rfl,Fm rfl,HN rfl,FP rfl]; exact (h5.gone a).gone b
theorem WI.steps {w:Wld}(h:WI w){st:List Stp}(hs:StI w.disk st) (cut:Int){s:Sto}(h2:StoI s):WI (Bl w st cut s):=by
 unfold Bl
 split
 ·exact h
 ·split
  ·exact WI.VW (hs.ok _)
  ·exact ⟨h2,hs.ok _⟩
theorem WI.do {w:Wld}(h:WI w) (e:Evt):WI (doW w e):=by
 unfold doW
 split
 ·split
  ·exact ⟨h.sto.add _ _,h.dsk⟩
  ·exact h
 ·split
  ·exact h.steps (StI.flush h) _ h.sto.flush
  ·split
   ·exact h.steps (StI.merge h.dsk _) _ (h.sto.merge _)
   ·split
    ·exact WI.VW h.dsk
    ·exact h
theorem DV {w:Wld}{st:List Stp}{c:Int}{s:Sto}(h:(st.length:Int)=0∨c< 0):Bl w st c s=w:=by unfold Bl; rw [if_pos AB]
theorem Ex {w:Wld}{st:List Stp}{c:Int}{s:Sto}(h:(st.length:Int)≠0) (h2:¬ c< 0) (h3:c< st.length):Bl w st c s=BA ⟨w.store,toD w.disk st c⟩:=by unfold Bl; rw [if_neg AB,if_pos h3]
theorem EJ {w:Wld}{st:List Stp}{c:Int}{s:Sto}(h:(st.length:Int)≠0) (h2:¬ c< 0) (h3:¬ c< st.length):Bl w st c s=⟨s,toD w.disk st c⟩:=by unfold Bl; rw [if_neg AB,if_neg h3]
theorem KW {w:Wld}{e:Evt}(h:e.kind=1) (h2:Ao e.name=true):doW w e=⟨(CI w.store e.name e.row).1,w.disk⟩:=by unfold doW; rw [if_pos h,if_pos h2]
theorem IW {w:Wld}{e:Evt}(h:e.kind=1) (h2:Ao e.name=false):doW w e=w:=by unfold doW; rw [if_pos h,if_neg (by simp [h2])]
theorem I4 {w:Wld}{e:Evt}(h:e.kind=2):doW w e=Bl w (BB w.disk w.store) e.cut (BI w.store).1:=by unfold doW; rw [if_neg AB,if_pos h]
theorem HO {w:Wld}{e:Evt}(h:e.kind=3):doW w e=Bl w (Al w.disk e.at_) e.cut (BH w.store e.at_).1:=by unfold doW; rw [if_neg AB,if_neg AB,if_pos h]
theorem M4 {w:Wld}{e:Evt}(h:e.kind=4):doW w e=BA w:=by unfold doW; rw [if_neg AB,if_neg AB,if_neg AB,if_pos h]
theorem Ox {w:Wld}{e:Evt}(h:e.kind≠1) (h2:e.kind≠2) (h3:e.kind≠3) (h4:e.kind≠4):doW w e=w:=by unfold doW; rw [if_neg h,if_neg h2,if_neg h3,if_neg h4]
end Go.Proofs.YtfninflnngpchaaGreatDoor
namespace Go.Proofs.YtfninflnngpchaaGreatDoor
set_option maxRecDepth 100000
set_option maxHeartbeats 4000000
variable {w:World} {F:Nat→Prop} {a1 a2 a3 a4 a5 a6 a7 a8 a9 a10 a11 a12:Option Addr} {n1 c1 n2 c2 n3 c3 n4 c4 n5 c5 n6 c6 n7 c7 n8 c8 n9 c9 n10 c10 n11 c11 n12 c12:Nat}
theorem FR (w_:Wld) (h1:RepS w F a1 n1 c1 w_.store.idx.names) (h2:RepS w F a2 n2 c2 w_.store.idx.AY) (h3:RepS w F a3 n3 c3 w_.store.parts) (h4:RepS w F a4 n4 c4 w_.store.mem) (h5:RepS w F a5 n5 c5 w_.disk.files) (h6:RepS w F a6 n6 c6 w_.disk.list) (h7:RepS w F a7 n7 c7 w_.disk.names) (p0:DskI w_.disk):Calls Tryz.prog 22 [.agg #[.slice a1 n1 c1,.slice a2 n2 c2,.slice a3 n3 c3,.slice a4 n4 c4,.slice a5 n5 c5,.slice a6 n6 c6,.slice a7 n7 c7,.int .i64 w_.disk.next]].toArray w (Am fun rv w'=>VS (ge w.heap.size) w' (BA w_:Wld) rv∧Ext w w'):=by
 cases h1.len
 cases h2.len
 cases h3.len
 cases h4.len
 cases h5.len
 cases h6.len
 cases h7.len
 refine goT func22 ?_
 have Z:=(((((((St.i0 F w).p h1).p h2).p h3).p h4).p h5).p h6).p h7
 have aQ:=h5.max
 refine .s<|.g<|RG.Np Z fun aT w Z=>RG.Np Z fun aU w Z=>.d<|.s<|.g<|.r 1<|RG.Ln 1 Z<|RG.CS (Ld w_.disk (Z.mg 1 2) (Z.mg 1 1) (Z.mg 1 0) (by have:=p0.nf; omega)) Z fun aV aW aX aY aZ ba w Z=>RG.cl (Lk (BN w_.disk) (Z.a 0) (Z.a 1) (Z.a 2) (by have:=p0.tidy.nm.len; omega) (fun n hn=>by have:=(p0.tidy.nm.sz n hn).1; omega) (by have:=p0.tidy.nl; omega) (by have:=p0.tidy.nf; omega) (fun f hf=>(p0.tidy.file f hf).sz)) ?_
 rintro _ w ⟨⟨ay,bd,az,aA,bg,aB,aC,bh,aD,rfl,E,ae,aa,af,ag,ab,ah,ai,aj⟩,ak⟩
 cases E.len
 cases aa.len
 cases ab.len
 have Z:=Z.so ak [.own 0 ay 142 az (((BU (BN w_.disk))).files),.own 0 aA 3 aB (((BU (BN w_.disk))).list),.own 0 aC 52 aD (((BU (BN w_.disk))).names)] [] (nd3 ag ai aj) (oN E ae (oN aa af (oN ab ah o0))) fn_
 refine .r 1<|RG.Ss 4 Z fun w Z=>.d<|.s<|.g<|.r 1<|RG.Ln 4 Z ?_
 have Z:=((Z.sl 0).sl 0).sl 0
 refine RG.CS (Lj ((BU (BN w_.disk))) (Z.mg 1 2) (Z.mg 1 1) (Z.mg 1 0) (by have:=p0.tidy.copy.nm.len; omega) p0.tidy.copy.nm.sz (by have:=p0.tidy.copy.nl; omega) p0.tidy.copy.at) Z fun bi bj bk bm bn bo bq br w Z=>RG.cl (Lf (⟨(⟨((Ar ((BU (BN w_.disk)))).idx).names,((Ar ((BU (BN w_.disk)))).idx).AY⟩:Idx),(Ar ((BU (BN w_.disk)))).parts,(Ar ((BU (BN w_.disk)))).mem⟩:Sto) (Z.a 0) (Z.a 1) (Z.a 2) (Z.a 3) p0.tidy.copy.open.sz) ?_
 rintro _ w ⟨⟨aE,bu,aF,aG,bv,aH,aI,bw,aJ,aK,bz,aL,rfl,am,ao,aq,ac,ar⟩,ax⟩
 cases am.len
 cases ao.len
 cases aq.len
 cases ac.len
 have Z:=Z.so ax [.own 0 aK 106 aL (((Ah (⟨(⟨((Ar ((BU (BN w_.disk)))).idx).names,((Ar ((BU (BN w_.disk)))).idx).AY⟩:Idx),(Ar ((BU (BN w_.disk)))).parts,(Ar ((BU (BN w_.disk)))).mem⟩:Sto))).mem)] [.rep aE aF ((((Ah (⟨(⟨((Ar ((BU (BN w_.disk)))).idx).names,((Ar ((BU (BN w_.disk)))).idx).AY⟩:Idx),(Ar ((BU (BN w_.disk)))).parts,(Ar ((BU (BN w_.disk)))).mem⟩:Sto))).idx).names),.rep aG aH ((((Ah (⟨(⟨((Ar ((BU (BN w_.disk)))).idx).names,((Ar ((BU (BN w_.disk)))).idx).AY⟩:Idx),(Ar ((BU (BN w_.disk)))).parts,(Ar ((BU (BN w_.disk)))).mem⟩:Sto))).idx).AY),.rep aI aJ (((Ah (⟨(⟨((Ar ((BU (BN w_.disk)))).idx).names,((Ar ((BU (BN w_.disk)))).idx).AY⟩:Idx),(Ar ((BU (BN w_.disk)))).parts,(Ar ((BU (BN w_.disk)))).mem⟩:Sto))).parts)] nd1 (oN ac ar o0) (fc am (fc ao (fc aq fn_)))
 refine .r 1<|RG.Ss 2 Z fun w Z=>.d<|.s<|.g<|RG.Ln 2 Z<|RG.Ss 1 Z fun w Z=>.d ?_
 have Z:=Z.sl 0
 exact T.Rb 0 func22 results22 Z ⟨Z.rS (⟨(⟨(⟨(((Ah (⟨(⟨((Ar ((BU (BN w_.disk)))).idx).names,((Ar ((BU (BN w_.disk)))).idx).AY⟩:Idx),(Ar ((BU (BN w_.disk)))).parts,(Ar ((BU (BN w_.disk)))).mem⟩:Sto))).idx).names,(((Ah (⟨(⟨((Ar ((BU (BN w_.disk)))).idx).names,((Ar ((BU (BN w_.disk)))).idx).AY⟩:Idx),(Ar ((BU (BN w_.disk)))).parts,(Ar ((BU (BN w_.disk)))).mem⟩:Sto))).idx).AY⟩:Idx),((Ah (⟨(⟨((Ar ((BU (BN w_.disk)))).idx).names,((Ar ((BU (BN w_.disk)))).idx).AY⟩:Idx),(Ar ((BU (BN w_.disk)))).parts,(Ar ((BU (BN w_.disk)))).mem⟩:Sto))).parts,((Ah (⟨(⟨((Ar ((BU (BN w_.disk)))).idx).names,((Ar ((BU (BN w_.disk)))).idx).AY⟩:Idx),(Ar ((BU (BN w_.disk)))).parts,(Ar ((BU (BN w_.disk)))).mem⟩:Sto))).mem⟩:Sto),(⟨((BU (BN w_.disk))).files,((BU (BN w_.disk))).list,((BU (BN w_.disk))).names,((BU (BN w_.disk))).next⟩:Dsk)⟩:Wld) [1,2,3,0,10,9,8] AF,Z.xt⟩
theorem Gx (w_:Wld) (steps:List Stp) (cut:Int) (s:Sto) (h1:RepS w F a1 n1 c1 w_.store.idx.names) (h2:RepS w F a2 n2 c2 w_.store.idx.AY) (h3:RepS w F a3 n3 c3 w_.store.parts) (h4:RepS w F a4 n4 c4 w_.store.mem) (h5:RepS w F a5 n5 c5 w_.disk.files) (h6:RepS w F a6 n6 c6 w_.disk.list) (h7:RepS w F a7 n7 c7 w_.disk.names) (h8:RepS w F a8 n8 c8 steps) (h9:RepS w F a9 n9 c9 s.idx.names) (h10:RepS w F a10 n10 c10 s.idx.AY) (h11:RepS w F a11 n11 c11 s.parts) (h12:RepS w F a12 n12 c12 s.mem) (p0:WI w_) (p1:StI w_.disk steps) (p2:StoI s):Calls Tryz.prog 49 [.agg #[.slice a1 n1 c1,.slice a2 n2 c2,.slice a3 n3 c3,.slice a4 n4 c4,.slice a5 n5 c5,.slice a6 n6 c6,.slice a7 n7 c7,.int .i64 w_.disk.next],.slice a8 n8 c8,.int .i64 cut,.agg #[.slice a9 n9 c9,.slice a10 n10 c10,.slice a11 n11 c11,.slice a12 n12 c12]].toArray w (Am fun rv w'=>VS (fo F w.heap.size) w' (Bl w_ steps cut s:Wld) rv∧Ext w w'):=by
 cases h1.len
 cases h2.len
 cases h3.len
 cases h4.len
 cases h5.len
 cases h6.len
 cases h7.len
 cases h8.len
 cases h9.len
 cases h10.len
 cases h11.len
 cases h12.len
 refine goT func49 ?_
 have Z:=((((((((((((St.i0 F w).p h1).p h2).p h3).p h4).p h5).p h6).p h7).p h8).p h9).p h10).p h11).p h12
 have ah:=h5.max
 have ai:=h6.max
 have ak:=h8.max
 exact .s<|.g<|RG.Np Z fun ax w Z=>RG.Np Z fun ay w Z=>RG.Np Z fun az w Z=>.d<|.s<|.s<|.g<|.r 2<|.eq (steps.length:Int) 0 (fun E=>.r 4<|.d<|.ct<|.s<|.g<|RG.Ln 2 Z<|RG.Ss 0 Z fun w Z=>.d<|T.Rb 0 func49 results49 Z ⟨Z.rS (g:=1) w_ [11,10,9,8,7,6,5] (by rw [DV AB]),Z.xt⟩) fun E=>.r 2<|.bp (cut< 0) (fun aa=>.r 1<|.d<|.ct<|.s<|.g<|RG.Ln 2 Z<|RG.Ss 0 Z fun w Z=>.d<|T.Rb 0 func49 results49 Z ⟨Z.rS (g:=1) w_ [11,10,9,8,7,6,5] (by rw [DV AB]),Z.xt⟩) fun aa=>.r 1<|.d<|.cf<|.sk<|.s<|.g<|.r 1<|RG.Ln 2 Z<|.r 2<|RG.CS (N7 w_.disk steps cut (Z.mg 1 7) (Z.mg 1 6) (Z.mg 1 5) (Z.mg 1 4) (by have:=p0.dsk.nf; omega) (by have:=p1.len; omega) (by have:=p0.dsk.nl; omega) p1.sz) Z fun aA aB aC aD aE aF w Z=>.r 1<|RG.Ss 2 Z fun w Z=>.d<|.s<|.s<|.g<|.r 3<|.bp (cut< (steps.length:Int)) (fun ab=>.d<|.ct<|.s<|.g<|RG.Ln 2 Z<|RG.CS (FR (⟨(⟨(⟨w_.store.idx.names,w_.store.idx.AY⟩:Idx),w_.store.parts,w_.store.mem⟩:Sto),(⟨(toD w_.disk steps cut).files,(toD w_.disk steps cut).list,(toD w_.disk steps cut).names,(toD w_.disk steps cut).next⟩:Dsk)⟩:Wld) (Z.a 14) (Z.a 13) (Z.a 12) (Z.a 11) (Z.a 0) (Z.a 1) (Z.a 2) (p1.ok _)) Z fun aG aH aI aJ aK aL aM aN aO aP aQ aR aS aT w Z=>RG.Ss 0 Z fun w Z=>.d<|T.Rb 0 func49 results49 Z ⟨Z.rS (g:=1) (⟨(⟨(⟨(((BA (⟨(⟨(⟨w_.store.idx.names,w_.store.idx.AY⟩:Idx),w_.store.parts,w_.store.mem⟩:Sto),(⟨(toD w_.disk steps cut).files,(toD w_.disk steps cut).list,(toD w_.disk steps cut).names,(toD w_.disk steps cut).next⟩:Dsk)⟩:Wld)).store).idx).names,(((BA (⟨(⟨(⟨w_.store.idx.names,w_.store.idx.AY⟩:Idx),w_.store.parts,w_.store.mem⟩:Sto),(⟨(toD w_.disk steps cut).files,(toD w_.disk steps cut).list,(toD w_.disk steps cut).names,(toD w_.disk steps cut).next⟩:Dsk)⟩:Wld)).store).idx).AY⟩:Idx),((BA (⟨(⟨(⟨w_.store.idx.names,w_.store.idx.AY⟩:Idx),w_.store.parts,w_.store.mem⟩:Sto),(⟨(toD w_.disk steps cut).files,(toD w_.disk steps cut).list,(toD w_.disk steps cut).names,(toD w_.disk steps cut).next⟩:Dsk)⟩:Wld)).store).parts,((BA (⟨(⟨(⟨w_.store.idx.names,w_.store.idx.AY⟩:Idx),w_.store.parts,w_.store.mem⟩:Sto),(⟨(toD w_.disk steps cut).files,(toD w_.disk steps cut).list,(toD w_.disk steps cut).names,(toD w_.disk steps cut).next⟩:Dsk)⟩:Wld)).store).mem⟩:Sto),(⟨((BA (⟨(⟨(⟨w_.store.idx.names,w_.store.idx.AY⟩:Idx),w_.store.parts,w_.store.mem⟩:Sto),(⟨(toD w_.disk steps cut).files,(toD w_.disk steps cut).list,(toD w_.disk steps cut).names,(toD w_.disk steps cut).next⟩:Dsk)⟩:Wld)).disk).files,((BA (⟨(⟨(⟨w_.store.idx.names,w_.store.idx.AY⟩:Idx),w_.store.parts,w_.store.mem⟩:Sto),(⟨(toD w_.disk steps cut).files,(toD w_.disk steps cut).list,(toD w_.disk steps cut).names,(toD w_.disk steps cut).next⟩:Dsk)⟩:Wld)).disk).list,((BA (⟨(⟨(⟨w_.store.idx.names,w_.store.idx.AY⟩:Idx),w_.store.parts,w_.store.mem⟩:Sto),(⟨(toD w_.disk steps cut).files,(toD w_.disk steps cut).list,(toD w_.disk steps cut).names,(toD w_.disk steps cut).next⟩:Dsk)⟩:Wld)).disk).names,((BA (⟨(⟨(⟨w_.store.idx.names,w_.store.idx.AY⟩:Idx),w_.store.parts,w_.store.mem⟩:Sto),(⟨(toD w_.disk steps cut).files,(toD w_.disk steps cut).list,(toD w_.disk steps cut).names,(toD w_.disk steps cut).next⟩:Dsk)⟩:Wld)).disk).next⟩:Dsk)⟩:Wld) [0,1,2,3,4,5,6] (by rw [Ex AB AB AB]),Z.xt⟩) fun ab=>.d<|.cf<|.sk<|.s<|.g<|RG.Ln 1 Z<|.r 1<|RG.Ss 2 Z fun w Z=>.d<|.s<|.g<|RG.Ln 2 Z<|RG.Ss 0 Z fun w Z=>.d<|T.Rb 0 func49 results49 Z ⟨Z.rS (g:=1) (⟨(⟨(⟨s.idx.names,s.idx.AY⟩:Idx),s.parts,s.mem⟩:Sto),(⟨(toD w_.disk steps cut).files,(toD w_.disk steps cut).list,(toD w_.disk steps cut).names,(toD w_.disk steps cut).next⟩:Dsk)⟩:Wld) [6,5,4,3,0,1,2] (by rw [EJ AB AB AB]),Z.xt⟩
theorem EK (w_:Wld) (e:Evt) (h1:RepS w F a1 n1 c1 w_.store.idx.names) (h2:RepS w F a2 n2 c2 w_.store.idx.AY) (h3:RepS w F a3 n3 c3 w_.store.parts) (h4:RepS w F a4 n4 c4 w_.store.mem) (h5:RepS w F a5 n5 c5 w_.disk.files) (h6:RepS w F a6 n6 c6 w_.disk.list) (h7:RepS w F a7 n7 c7 w_.disk.names) (h8:RepS w F a8 n8 c8 e.name) (p0:WI w_) (p1:Fw e.name):Calls Tryz.prog 21 [.agg #[.slice a1 n1 c1,.slice a2 n2 c2,.slice a3 n3 c3,.slice a4 n4 c4,.slice a5 n5 c5,.slice a6 n6 c6,.slice a7 n7 c7,.int .i64 w_.disk.next],.agg #[.int .i64 e.kind,.int .i64 e.at_,.int .i64 e.cut,.slice a8 n8 c8,.int .i64 e.row.t,.int .i64 e.row.v]].toArray w (Am fun rv w'=>VS (fo F w.heap.size) w' (doW w_ e:Wld) rv∧Ext w w'):=by
 cases h1.len
 cases h2.len
 cases h3.len
 cases h4.len
 cases h5.len
 cases h6.len
 cases h7.len
 cases h8.len
 refine goT func21 ?_
 have Z:=((((((((St.i0 F w).p h1).p h2).p h3).p h4).p h5).p h6).p h7).p h8
 have ae:=h1.max
 have ag:=h3.max
 have ah:=h4.max
 have aj:=h6.max
 have ak:=h7.max
 refine .s<|.g<|RG.Np Z fun aH w Z=>RG.Np Z fun aI w Z=>RG.Np Z fun aJ w Z=>.d<|.s<|.s<|.g<|.r 1<|RG.Lb 1 Z<|.d<|.b 0<|.s<|.g<|.eq e.kind 1 (fun E=>?_) (fun E=>.r 1<|.d<|.cf<|.s<|.g<|.eq e.kind 2 (fun aa=>.r 1<|.d<|.ct<|.s<|.g<|.r 1<|RG.Ln 2 Z<|RG.CT (us:=[.bool ((BI w_.store).2)]) (Kn w_.store (Z.mg 1 7) (Z.mg 1 6) (Z.mg 1 5) (Z.mg 1 4) (by have:=p0.sto.nm2; omega) p0.sto.Jk) Z fun aK aL aM aN aO aP aQ aR w Z=>.r 3<|RG.Np Z fun aS w Z=>RG.Ss 0 Z fun w Z=>.r 1<|.d<|.s<|T.Gd 9 Z fun w Z=>GA.Ln 0 3 Z<|.r [1]<|GA.Ln 2 3 Z<|.r [3]<|GA.Ln 4 3 Z<|.r [6]<|GA.Lb 7 2 Z<|GA.Ln 8 0 Z<|.go 5<|GE.CL (fun w Z=>Kq w_.disk w_.store (Z.a 7) (Z.a 6) (Z.a 5) (Z.a 11) (Z.a 10) (Z.a 9) (Z.a 8) (by have:=p0.sto.nm2; omega) p0.sto.Jk (by have:=p0.dsk.nl; omega) (by have:=p0.sto.nm.len; omega) (fun n hn=>(p0.sto.nm.sz n hn).1)) Z fun aT aU w Z=>GA.Dn Z fun w Z=>RG.CS (Gx w_ (BB w_.disk w_.store) e.cut (⟨(⟨(BI w_.store).1.idx.names,((BI w_.store).1.idx).AY⟩:Idx),(BI w_.store).1.parts,(BI w_.store).1.mem⟩:Sto) (Z.mg 1 12) (Z.mg 1 11) (Z.mg 1 10) (Z.mg 1 9) (Z.mg 1 8) (Z.mg 1 7) (Z.mg 1 6) (Z.mg 1 0) (Z.mg 1 1) (Z.mg 1 2) (Z.mg 1 3) (Z.mg 1 4) p0 (by exact StI.flush p0) (by exact p0.sto.flush)) Z fun aV aW aX aY aZ ba bd bg bh bi bj bk bm bn w Z=>RG.Ss 1 Z fun w Z=>.d<|T.Rb 1 func21 results21 Z ⟨Z.rS (g:=1) (⟨(⟨(⟨(((Bl w_ (BB w_.disk w_.store) e.cut (⟨(⟨(BI w_.store).1.idx.names,((BI w_.store).1.idx).AY⟩:Idx),(BI w_.store).1.parts,(BI w_.store).1.mem⟩:Sto)).store).idx).names,(((Bl w_ (BB w_.disk w_.store) e.cut (⟨(⟨(BI w_.store).1.idx.names,((BI w_.store).1.idx).AY⟩:Idx),(BI w_.store).1.parts,(BI w_.store).1.mem⟩:Sto)).store).idx).AY⟩:Idx),((Bl w_ (BB w_.disk w_.store) e.cut (⟨(⟨(BI w_.store).1.idx.names,((BI w_.store).1.idx).AY⟩:Idx),(BI w_.store).1.parts,(BI w_.store).1.mem⟩:Sto)).store).parts,((Bl w_ (BB w_.disk w_.store) e.cut (⟨(⟨(BI w_.store).1.idx.names,((BI w_.store).1.idx).AY⟩:Idx),(BI w_.store).1.parts,(BI w_.store).1.mem⟩:Sto)).store).mem⟩:Sto),(⟨((Bl w_ (BB w_.disk w_.store) e.cut (⟨(⟨(BI w_.store).1.idx.names,((BI w_.store).1.idx).AY⟩:Idx),(BI w_.store).1.parts,(BI w_.store).1.mem⟩:Sto)).disk).files,((Bl w_ (BB w_.disk w_.store) e.cut (⟨(⟨(BI w_.store).1.idx.names,((BI w_.store).1.idx).AY⟩:Idx),(BI w_.store).1.parts,(BI w_.store).1.mem⟩:Sto)).disk).list,((Bl w_ (BB w_.disk w_.store) e.cut (⟨(⟨(BI w_.store).1.idx.names,((BI w_.store).1.idx).AY⟩:Idx),(BI w_.store).1.parts,(BI w_.store).1.mem⟩:Sto)).disk).names,((Bl w_ (BB w_.disk w_.store) e.cut (⟨(⟨(BI w_.store).1.idx.names,((BI w_.store).1.idx).AY⟩:Idx),(BI w_.store).1.parts,(BI w_.store).1.mem⟩:Sto)).disk).next⟩:Dsk)⟩:Wld) [0,1,2,3,4,5,6] (by (rw [I4 ‹_›])),Z.xt⟩) fun aa=>.r 1<|.d<|.cf<|.s<|.g<|.eq e.kind 3 (fun ab=>.r 1<|.d<|.ct<|.s<|.g<|.r 1<|RG.Ln 2 Z<|.r 1<|RG.Lb 1 Z<|RG.CT (us:=[.bool ((BH w_.store e.at_).2)]) (Kp w_.store e.at_ (Z.mg 1 7) (Z.mg 1 6) (Z.mg 1 5) (Z.mg 1 4) (by have:=p0.sto.np; omega) (fun p hp=>(p0.sto.part p hp).sz)) Z fun bo bq br bu bv bw bz bA w Z=>.r 3<|RG.Np Z fun bB w Z=>RG.Ss 0 Z fun w Z=>.r 1<|.d<|.s<|T.Gd 9 Z fun w Z=>GA.Ln 0 3 Z<|.r [1]<|GA.Ln 2 3 Z<|.r [3]<|GA.Lb 4 2 Z<|.r [6]<|GA.Lb 7 2 Z<|GA.Ln 8 0 Z<|.go 5<|GE.CL (fun w Z=>Kr w_.disk e.at_ (Z.a 7) (Z.a 6) (Z.a 5) (by have:=p0.dsk.nm.len; omega) (fun n hn=>(p0.dsk.nm.sz n hn).1) (by have:=p0.dsk.nl; omega) p0.dsk.at (fun f hf=>(p0.dsk.file f hf).sz)) Z fun bC bD w Z=>GA.Dn Z fun w Z=>RG.CS (Gx w_ (Al w_.disk e.at_) e.cut (⟨(⟨(BH w_.store e.at_).1.idx.names,((BH w_.store e.at_).1.idx).AY⟩:Idx),(BH w_.store e.at_).1.parts,(BH w_.store e.at_).1.mem⟩:Sto) (Z.mg 1 12) (Z.mg 1 11) (Z.mg 1 10) (Z.mg 1 9) (Z.mg 1 8) (Z.mg 1 7) (Z.mg 1 6) (Z.mg 1 0) (Z.mg 1 1) (Z.mg 1 2) (Z.mg 1 3) (Z.mg 1 4) p0 (by exact StI.merge p0.dsk _) (by exact p0.sto.merge _)) Z fun bE bF bG bH bI bJ bK bL bM bN bO bP bQ bR w Z=>RG.Ss 1 Z fun w Z=>.d<|T.Rb 1 func21 results21 Z ⟨Z.rS (g:=1) (⟨(⟨(⟨(((Bl w_ (Al w_.disk e.at_) e.cut (⟨(⟨(BH w_.store e.at_).1.idx.names,((BH w_.store e.at_).1.idx).AY⟩:Idx),(BH w_.store e.at_).1.parts,(BH w_.store e.at_).1.mem⟩:Sto)).store).idx).names,(((Bl w_ (Al w_.disk e.at_) e.cut (⟨(⟨(BH w_.store e.at_).1.idx.names,((BH w_.store e.at_).1.idx).AY⟩:Idx),(BH w_.store e.at_).1.parts,(BH w_.store e.at_).1.mem⟩:Sto)).store).idx).AY⟩:Idx),((Bl w_ (Al w_.disk e.at_) e.cut (⟨(⟨(BH w_.store e.at_).1.idx.names,((BH w_.store e.at_).1.idx).AY⟩:Idx),(BH w_.store e.at_).1.parts,(BH w_.store e.at_).1.mem⟩:Sto)).store).parts,((Bl w_ (Al w_.disk e.at_) e.cut (⟨(⟨(BH w_.store e.at_).1.idx.names,((BH w_.store e.at_).1.idx).AY⟩:Idx),(BH w_.store e.at_).1.parts,(BH w_.store e.at_).1.mem⟩:Sto)).store).mem⟩:Sto),(⟨((Bl w_ (Al w_.disk e.at_) e.cut (⟨(⟨(BH w_.store e.at_).1.idx.names,((BH w_.store e.at_).1.idx).AY⟩:Idx),(BH w_.store e.at_).1.parts,(BH w_.store e.at_).1.mem⟩:Sto)).disk).files,((Bl w_ (Al w_.disk e.at_) e.cut (⟨(⟨(BH w_.store e.at_).1.idx.names,((BH w_.store e.at_).1.idx).AY⟩:Idx),(BH w_.store e.at_).1.parts,(BH w_.store e.at_).1.mem⟩:Sto)).disk).list,((Bl w_ (Al w_.disk e.at_) e.cut (⟨(⟨(BH w_.store e.at_).1.idx.names,((BH w_.store e.at_).1.idx).AY⟩:Idx),(BH w_.store e.at_).1.parts,(BH w_.store e.at_).1.mem⟩:Sto)).disk).names,((Bl w_ (Al w_.disk e.at_) e.cut (⟨(⟨(BH w_.store e.at_).1.idx.names,((BH w_.store e.at_).1.idx).AY⟩:Idx),(BH w_.store e.at_).1.parts,(BH w_.store e.at_).1.mem⟩:Sto)).disk).next⟩:Dsk)⟩:Wld) [0,1,2,3,4,5,6] (by (rw [HO ‹_›])),Z.xt⟩) fun ab=>.r 1<|.d<|.cf<|.s<|.g<|.eq e.kind 4 (fun ac=>.r 1<|.d<|.ct<|.s<|.g<|RG.Ln 2 Z<|RG.CS (FR w_ (Z.a 7) (Z.a 6) (Z.a 5) (Z.a 4) (Z.a 3) (Z.a 2) (Z.a 1) p0.dsk) Z fun bS bT ao aq ar ax ay az aA aB aC aD aE aF w Z=>RG.Ss 0 Z fun w Z=>.d<|T.Rb 0 func21 results21 Z ⟨Z.rS (g:=1) (⟨(⟨(⟨(BA w_).store.idx.names,((BA w_).store.idx).AY⟩:Idx),(BA w_).store.parts,(BA w_).store.mem⟩:Sto),(⟨(BA w_).disk.files,(BA w_).disk.list,(BA w_).disk.names,(BA w_).disk.next⟩:Dsk)⟩:Wld) [0,1,2,3,4,5,6] (by (rw [M4 ‹_›])),Z.xt⟩) fun ac=>.r 1<|.d<|.cf<|.sk<|.ib 0<|.s<|.g<|RG.Ln 2 Z<|RG.Ss 0 Z fun w Z=>.d<|T.Rb 0 func21 results21 Z ⟨Z.rS (g:=1) w_ [7,6,5,4,3,2,1] (by (rw [Ox ‹_› ‹_› ‹_› ‹_›])),Z.xt⟩)
 refine .r 1<|.d<|.ct<|.s<|.g<|.r 1<|RG.Lb 1 Z<|RG.C0 (Fx e.name (Z.a 0)) Z fun w Z=>?_
 cases aG:(Ao e.name)
 ·exact .d<|.cf<|.sk<|.ib 0<|.s<|.g<|RG.Ln 2 Z<|RG.Ss 0 Z fun w Z=>.d<|T.Rb 0 func21 results21 Z ⟨Z.rS (g:=1) w_ [7,6,5,4,3,2,1] (by (rw [IW ‹_› ‹_›])),Z.xt⟩
 exact .d<|.ct<|.s<|.g<|.r 1<|RG.Ln 2 Z<|.r 1<|RG.Lb 1 Z<|.r 1<|RG.Ln 1 Z<|RG.CT (us:=[.bool ((CI w_.store e.name e.row).2)]) (Mg w_.store e.name e.row (Z.mg 1 7) (Z.mg 1 6) (Z.mg 1 5) (Z.mg 1 4) (Z.mg 1 0) p0.sto.sz p1) Z fun bU bV bW bX bY bZ b0 b6 w Z=>.r 3<|RG.Np Z fun b7 w Z=>RG.Ss 0 Z fun w Z=>.r 1<|.d<|.g<|RG.Ln 0 Z<|.r 1<|RG.Ss 3 Z fun w Z=>.d<|.ib 0<|.s<|.g<|RG.Ln 3 Z<|RG.Ss 1 Z fun w Z=>.d<|T.Rb 1 func21 results21 Z ⟨Z.rS (g:=1) (⟨(⟨(⟨(CI w_.store e.name e.row).1.idx.names,((CI w_.store e.name e.row).1.idx).AY⟩:Idx),(CI w_.store e.name e.row).1.parts,(CI w_.store e.name e.row).1.mem⟩:Sto),(⟨w_.disk.files,w_.disk.list,w_.disk.names,w_.disk.next⟩:Dsk)⟩:Wld) [0,1,2,3,7,6,5] (by (rw [KW ‹_› ‹_›])),Z.xt⟩
end Go.Proofs.YtfninflnngpchaaGreatDoor
namespace Go.Proofs.YtfninflnngpchaaGreatDoor
def XF (n m:Nat) (ops:Array Oper) (l is:List Nat) (e:Env):Bool :=
 is.all (fun i=>Cv n m ops l i&&CP n ops i e)&&decide (LO ops l=is) && !is.isEmpty
section
variable {P:Program} {S:Nat→Prop} {n m:Nat} {L:Env→World→Prop} {ops:Array Oper} {l:List Nat} {e:Env} {w:World}
theorem GE.many (is:List Nat) (h:XF n m ops l is e=true) (H:∀ i∈is,GE P S n m L ops l i e w):GA P S n m L ops l e w:=by
 intro hB f a hf ha inv
 simp only [XF,AW,decide_eq_true_eq,List.all_eq_true] at h
 obtain ⟨⟨h1,hready⟩,hne⟩:=h
 rw [Jb] at hready
 have hne:is≠[]:=by rintro rfl; simp at hne
 obtain ⟨i0,hi0⟩:=List.exists_mem_of_ne_nil is hne
 have hlm:=(Dv (h1 i0 hi0).1).1
 obtain ⟨f,rfl⟩:∃ g,f=g+1:=⟨f - 1,by omega⟩
 have key:∀ k,Cv n m ops l k=true→CP n ops k e=true→GE P S n m L ops l k e w→∀ w1,Ext w w1→k< m∧gOp P S ops k (Kg P S ops m (fun listed a' w'=>listed=fin ops m∧∃ e',Sees n a' e'∧L e' w') f ((lst ops.size l).setIfInBounds k true)) a w1:=by
  intro k hk1 hk2 HK w1 hx
  obtain ⟨_,him,hd,hi,hr⟩:=Dv hk1
  refine ⟨him,?_⟩
  simp only [CP,AW] at hk2
  unfold gOp
  simp only [hi]
  rw [ha.want,hk2.2,if_pos rfl,ha.eval]
  refine Ef (fun v w2 _ hq=>?_) (HK w1 hx)
  have:=hq hB f (a.put (Ad ops k).dst v) (by simp only [List.length_cons]; omega) (ha.MW hd v) (by rw [C5]; exact inv.set hr him)
  rwa [C5] at this
 refine ⟨by rw [hready]; exact hne,fun w1 hx k hk=>?_⟩
 rw [hready] at hk
 exact key k (h1 k hk).1 (h1 k hk).2 (H k hk) w1 hx
end
theorem GA.quo {P:Program}{S:Nat→Prop}{n m:Nat}{L:Env→World→Prop}{ops:Array Oper}{l:List Nat}{e:Env}{w:World}{i:Nat}{t:TypeId}{a b:Int}(hb:gB n m ops l i=true) (h:HG n ops i e=some (.quo,t,.int .i64 a,.int .i64 b)) (hb0:b≠0) (hr:-9223372036854775808≤a.tdiv b∧a.tdiv b≤9223372036854775807)
 (H:GA P S n m L ops (i::l) (Aj e (Ad ops i).dst (.int .i64 (a.tdiv b))) w):GA P S n m L ops l e w :=
 GA.Ma hb (fun w=>Er h (fun _ _=>Qy hb0 hr w)) H
section
variable {α:Type} [Rep α] {w:World} {G F:Nat→Prop} {M:List Nat} {o:Option Addr} {n c r b s:Nat} {t:TypeId} {xs:List α}
theorem RepS.Q9 (h:RepS w (nin G M) o n c xs) (hb:b∈M):RepS w (nin all [b]) o n c xs:=h.CQ fun k _ hk=>⟨trivial,fun e=>hk.2 (by simp at e; exact e▸hb)⟩
theorem Own.Q9 (h:Own w r t (nin G M) n c xs) (hb:b∈M) (hr:Nb r b):RepS w (nin all [b]) (some ⟨r,0,none⟩) n c xs :=
 h.P0 (fun k _ hk=>⟨trivial,fun e=>hk.2 (by simp at e; exact e▸hb)⟩) ⟨trivial,fun e=>hr.ne (by simpa using e)⟩
end
theorem Cov.mk1 (w:World) (b:Nat):Cov (Go.Proofs.YtfninflnngpchaaGreatDoor.one b) w b:=⟨.inl rfl⟩
instance {w:World}{b:Nat}:Cov (Go.Proofs.YtfninflnngpchaaGreatDoor.one b) w b:=⟨.inl rfl⟩
def Zl (t:Tag):Prop:=t.key.length≤1000∧t.val.length≤1000
def NmD (n:List Tag):Prop:=n.length≤5∧∀ t∈n,Zl t
def Oy (r:Row):Prop:=-1≤r.t∧r.t≤100 ∧ -100≤r.v∧r.v≤100
end Go.Proofs.YtfninflnngpchaaGreatDoor
namespace Go.Proofs.YtfninflnngpchaaGreatDoor
def Vl (P:Program) (s d:TypeId):Bool :=
 match P.underlying s,P.underlying d with
 | some (.slice e),some .string=>(match P.underlying e with | some (.int .u8)=>true | _=>false)
 | _,_=>false
theorem Ll {P:Program}{w:World}{r:Nat}{src dst:TypeId}{y:UInt8}{c:Nat}(h:Has w ⟨r,0,none⟩ [.int .u8 (y.toNat:Int)]) (hb:Vl P src dst=true) :
 (convert src dst (.slice (some ⟨r,0,none⟩) 1 c)).run P w=.ok (.string (bs [y])) w:=by
 unfold Vl at hb
 split at hb
 ·rename_i e h1 h2
  split at hb
  ·rename_i h3
   have h4:=run_loadCellsFrom (P:=P) ⟨r,0,none⟩ [.int .u8 (y.toNat:Int)] 0 #[] _ rfl h
   have h5:(loadCells ⟨r,0,none⟩ 1).run P w=.ok #[.int .u8 (y.toNat:Int)] w:=h4
   have h6:(Conv.bytesToString (.slice (some ⟨r,0,none⟩) 1 c)).run P w=.ok (.string (bs [y])) w:=by
    unfold Conv.bytesToString
    simp only []
    rw [AX h5]
    simp [go_sem]
    rfl
   unfold convert
   rw [AX (run_underlying h1 w),AX (run_underlying h2 w)]
   simp only []
   rw [AX (run_underlying h3 w)]
   exact h6
  ·cases hb
 ·cases hb
def TS (n:Nat) (ops:Array Oper) (j:Nat) (e:Env):Option (TypeId × TypeId × Value) :=
 bif CP n ops j e then
  match (Ad ops j).op with
  | .convert s d x=>some (s,d,ev e x)
  | _=>none
 else none
theorem Jm {P:Program}{n:Nat}{ops:Array Oper}{j:Nat}{e:Env}{s d:TypeId}{a v:Value}{w:World}(h:TS n ops j e=some (s,d,a))
 (hr:(convert s d a).run P w=.ok v w):CP n ops j e=true∧(execOp (ev e) (Ad ops j)).run P w=.ok (.value v) w:=by
 obtain ⟨hg,h⟩:=CY h
 refine ⟨hg,?_⟩
 split at h
 ·rename_i s' d' x hop
  simp only [Option.some.injEq,Prod.mk.injEq] at h
  obtain ⟨rfl,rfl,rfl⟩:=h
  simp only [execOp,hop]
  exact AX hr
 ·cases h
theorem GA.b2s {P:Program}{n m:Nat}{L:Env→World→Prop}{ops:Array Oper}{l:List Nat}{e:Env}{w:World}{i:Nat}{s d:TypeId}{r c:Nat}{y:UInt8}{t:TypeId}{F:Nat→Prop}
 (hb:gB n m ops l i=true) (ho:Own w r t F 1 c [y]) (h:TS n ops i e=some (s,d,.slice (some ⟨r,0,none⟩) 1 c)) (ht:Vl P s d=true)
 (H:GA P nil n m L ops (i::l) (Aj e (Ad ops i).dst (.string (bs [y]))) w):GA P nil n m L ops l e w:=by
 obtain ⟨cs,h1,h2⟩:=ho.elem 0 y rfl
 cases h1
 have h3:Has w ⟨r,0,none⟩ [.int .u8 (y.toNat:Int)]:=by simpa using h2
 have h4:=Jm (P:=P) (w:=w) h (Ll h3 ht)
 refine GA.det (by unfold gB at hb; rw [hb,h4.1]; rfl) (fun w1 hx=>?_) H
 exact (Jm (P:=P) (w:=w1) h (Ll (h3.ext hx) ht)).2
def Gm (at_:UInt8) (out:List Txt):List UInt8→List Txt
 | []=>out
 | x::xs=>if x=at_ then Gm at_ (out++[⟨[]⟩]) xs else Gm at_ (out.set (out.length - 1) ⟨(out.getD (out.length - 1) ⟨[]⟩).s++[x]⟩) xs
def AZ (s:List UInt8) (at_:UInt8):List Txt:=Gm at_ [⟨[]⟩] s
theorem TT {at_:UInt8}{s:List UInt8}{i:Nat}{out:List Txt}{x:UInt8}{Y:List Txt}(h:Gm at_ out (s.drop i)=Y) (hd:s.drop i=x::s.drop (i+1)) (he:(x.toNat:Int)=(at_.toNat:Int)):Gm at_ (out++[⟨[]⟩]) (s.drop (i+1))=Y:=by
 have:x=at_:=UInt8.toNat_inj.1 AB
 rw [hd] at h
 unfold Gm at h
 rw [if_pos this] at h
 exact h
theorem TU {at_:UInt8}{s:List UInt8}{i:Nat}{out:List Txt}{x:UInt8}{Y:List Txt}{t:Txt}{k:Nat}(h:Gm at_ out (s.drop i)=Y) (hd:s.drop i=x::s.drop (i+1)) (he:(x.toNat:Int)≠(at_.toNat:Int)) (hk:k=out.length - 1) (ht:out[k]? = some t):Gm at_ (out.set k ⟨t.s++[x]⟩) (s.drop (i+1))=Y:=by
 have:x≠at_:=fun e=>he (by rw [e])
 rw [hd] at h
 unfold Gm at h
 rw [if_neg this,List.getD_eq_getElem?_getD,← hk,ht] at h
 exact h
theorem Xj {at_:UInt8}{s:List UInt8}{i:Nat}{out:List Txt}{Y:List Txt}(h:Gm at_ out (s.drop i)=Y) (hi:s.length≤i):out=Y:=by
 rw [Ac hi] at h
 exact h
def G7 (s:Str):Bool:=decide (s.length=4)&&decide (s[1]? = some 33)
def EL (s:Str):Str:=if G7 s then s.take 1++s.drop 2 else s
def Co (s:Str):Cnd × Bool :=
 if (EL s).length=3∧(EL s)[1]? = some 61 then (⟨⟨(EL s).take 1,(EL s).drop 2⟩,G7 s⟩,Bj ⟨(EL s).take 1,(EL s).drop 2⟩) else (⟨⟨[],[]⟩,G7 s⟩,false)
def DW:List Cnd→List Txt→List Cnd × Bool
 | out,[]=>(out,true)
 | out,t::ts=>if (Co t.s).2=false∨out.length≥3 then ([],false) else DW (out++[(Co t.s).1]) ts
def Ax (s:Str):List Cnd × Bool:=if s=[42] then ([],true) else DW [] (AZ s 44)
def CD:List Tag→List Cnd→Option (List Tag)
 | out,[]=>some out
 | out,c::cs=>if c.no then none else CD (out++[c.tag]) cs
def Cy (s:Str):List Tag:=match CD [] (Ax s).1 with
 | some out=>if (Ax s).2=true∧Ao out=true then out else []
 | none=>[]
theorem Jn {w:Str}(h:(w.length:Int)≠4):G7 w=false∧EL w=w:=by
 have:G7 w=false:=by unfold G7; rw [decide_eq_false AB]; rfl
 exact ⟨this,by unfold EL; rw [this]; rfl⟩
theorem Jp {w:Str}{y:UInt8}(h:(w.length:Int)=4) (hy:w[1]? = some y) (h2:(y.toNat:Int)≠33):G7 w=false∧EL w=w:=by
 have:G7 w=false:=by
  unfold G7
  rw [hy,decide_eq_false (p:=some y=some 33),Bool.and_false]
  intro e
  cases e
  exact h2 rfl
 exact ⟨this,by unfold EL; rw [this]; rfl⟩
theorem Jq {w:Str}{y:UInt8}(h:(w.length:Int)=4) (hy:w[1]? = some y) (h2:(y.toNat:Int)=33):G7 w=true∧EL w=((w.take 1).drop 0)++((w.take w.length).drop 2):=by
 have hy2:y=33:=UInt8.toNat_inj.1 (by show y.toNat=33; omega)
 have:G7 w=true:=by
  unfold G7
  rw [hy,hy2,decide_eq_true AB]
  rfl
 exact ⟨this,by unfold EL; rw [this]; simp⟩
theorem C8 {w u:Str}{b:Bool}(h:G7 w=b∧EL w=u) (h2:(u.length:Int)≠3∨(∃ z,u[1]? = some z∧(z.toNat:Int)≠61)):Co w=(⟨⟨[],[]⟩,b⟩,false):=by
 obtain ⟨rfl,rfl⟩:=h
 unfold Co
 rw [if_neg]
 rintro ⟨h3,h4⟩
 rcases h2 with h2 | ⟨z,h2,h5⟩
 ·omega
 ·rw [h2] at h4
  cases h4
  exact h5 rfl
theorem FJ {w u:Str}{b:Bool}{z:UInt8}(h:G7 w=b∧EL w=u) (h1:(u.length:Int)=3) (h2:u[1]? = some z) (h3:(z.toNat:Int)=61) :
 Co w=(⟨⟨(u.take 1).drop 0,(u.take u.length).drop 2⟩,b⟩,Bj ⟨(u.take 1).drop 0,(u.take u.length).drop 2⟩):=by
 obtain ⟨rfl,rfl⟩:=h
 have hz:z=61:=UInt8.toNat_inj.1 (by show z.toNat=61; omega)
 unfold Co
 rw [if_pos ⟨by omega,by rw [h2,hz]⟩]
 simp
theorem Xk {out:List Txt}{i k:Nat}{t:Txt}{y:UInt8}(h:∀ t∈out,t.s.length≤i) (ht:out[k]? = some t):∀ t'∈out.set k ⟨t.s++[y]⟩,t'.s.length≤i+1:=by
 intro t' ht'
 rcases List.mem_or_eq_of_mem_set ht' with ht' | rfl
 ·have:=h t' ht'; omega
 ·have:=h t (AV ht)
  simp only [List.length_append,List.length_cons,List.length_nil]; omega
theorem RA {out:List Txt}{i:Nat}(h:∀ t∈out,t.s.length≤i):∀ t'∈out++[⟨[]⟩],t'.s.length≤i+1:=by
 intro t' ht'
 rcases List.mem_append.1 ht' with ht' | ht'
 ·have:=h t' ht'; omega
 ·simp at ht'; subst ht'; simp
theorem TV (a:UInt8):∀ (s:List UInt8) (out:List Txt) (i:Nat),(∀ t∈out,t.s.length≤i)→(∀ t∈Gm a out s,t.s.length≤i+s.length)∧(Gm a out s).length≤out.length+s.length:=by
 intro s
 induction s with
 | nil=>intro out i h; exact ⟨fun t ht=>by have:=h t ht; simpa using this,by unfold Gm; simp⟩
 | cons x xs ih =>
   intro out i h
   unfold Gm
   split
   ·obtain ⟨h1,h2⟩:=ih (out++[⟨[]⟩]) (i+1) (RA h)
    refine ⟨fun t ht=>?_,?_⟩
    ·have:=h1 t ht; simp only [List.length_cons]; omega
    ·simp only [List.length_append,List.length_cons,List.length_nil] at h2 ⊢; omega
   ·have h3:∀ t∈out.set (out.length - 1) ⟨(out.getD (out.length - 1) ⟨[]⟩).s++[x]⟩,t.s.length≤i+1:=by
     intro t ht
     rcases List.mem_or_eq_of_mem_set ht with ht | rfl
     ·have:=h t ht; omega
     ·rw [List.getD_eq_getElem?_getD]
      cases hq:out[out.length - 1]? with
      | none=>simp
      | some q=>have:=h q (AV hq); simp; omega
    obtain ⟨h1,h2⟩:=ih _ (i+1) h3
    refine ⟨fun t ht=>?_,?_⟩
    ·have:=h1 t ht; simp only [List.length_cons]; omega
    ·simp only [List.length_set,List.length_cons] at h2 ⊢; omega
theorem BK (s:List UInt8) (a:UInt8):(∀ t∈AZ s a,t.s.length≤s.length)∧(AZ s a).length≤s.length+1:=by
 obtain ⟨h1,h2⟩:=TV a s [⟨[]⟩] 0 AD
 refine ⟨fun t ht=>by have:=h1 t ht; omega,?_⟩
 unfold AZ
 simp only [List.length_cons,List.length_nil] at h2; omega
theorem LB {out:List Cnd}{ts:List Txt}{i:Nat}{t:Txt}{Y:List Cnd × Bool}(h:DW out (ts.drop i)=Y) (hd:ts.drop i=t::ts.drop (i+1)) (h2:(Co t.s).2=false∨(out.length:Int)≥3):Y=([],false):=by
 rw [hd] at h
 unfold DW at h
 rw [if_pos (by rcases h2 with h2 | h2; exact .inl h2; exact .inr AB)] at h
 exact h.symm
theorem TW {out:List Cnd}{ts:List Txt}{i:Nat}{t:Txt}{Y:List Cnd × Bool}(h:DW out (ts.drop i)=Y) (hd:ts.drop i=t::ts.drop (i+1)) (h2:(Co t.s).2=true) (h3:¬ (out.length:Int)≥3):DW (out++[(Co t.s).1]) (ts.drop (i+1))=Y:=by
 rw [hd] at h
 unfold DW at h
 rw [if_neg (by rw [h2]; simp; omega)] at h
 exact h
theorem RB {out:List Cnd}{ts:List Txt}{i:Nat}{Y:List Cnd × Bool}(h:DW out (ts.drop i)=Y) (hi:ts.length≤i):Y=(out,true):=by
 rw [Ac hi] at h
 exact h.symm
theorem R7:∀ (ts:List Txt) (out:List Cnd),out.length≤3→(DW out ts).1.length≤3:=by
 intro ts
 induction ts with
 | nil=>intro out h; exact h
 | cons t ts ih =>
   intro out h
   unfold DW
   split
   ·simp
   ·rename_i h2
    refine ih _ ?_
    simp only [not_or] at h2
    simp only [List.length_append,List.length_cons,List.length_nil]; omega
theorem Ht (s:Str):(Ax s).1.length≤3:=by
 unfold Ax
 split
 ·simp
 ·exact R7 _ _ AD
theorem Lm {s:Str}(h:(s==[42])=true):Ax s=([],true):=by unfold Ax; rw [if_pos (by simpa using h)]
theorem QE {s:Str}(h:(s==[42])=false):DW [] (AZ s 44)=Ax s:=by unfold Ax; rw [if_neg (by simpa using h)]
theorem I5 {out:List Tag}{cs:List Cnd}{i:Nat}{c:Cnd}{Y:Option (List Tag)}(h:CD out (cs.drop i)=Y) (hd:cs.drop i=c::cs.drop (i+1)) (h2:c.no=true):Y=none:=by
 rw [hd] at h
 unfold CD at h
 rw [if_pos h2] at h
 exact h.symm
theorem Oz {out:List Tag}{cs:List Cnd}{i:Nat}{c:Cnd}{Y:Option (List Tag)}(h:CD out (cs.drop i)=Y) (hd:cs.drop i=c::cs.drop (i+1)) (h2:c.no=false):CD (out++[c.tag]) (cs.drop (i+1))=Y:=by
 rw [hd] at h
 unfold CD at h
 rw [if_neg (by rw [h2]; simp)] at h
 exact h
theorem O0 {s:Str}(h:CD [] (Ax s).1=none):Cy s=[]:=by unfold Cy; rw [h]
theorem M5 {s:Str}{out:List Tag}{i:Nat}(h:CD out ((Ax s).1.drop i)=CD [] (Ax s).1) (hi:(Ax s).1.length≤i):Cy s=if (Ax s).2=true∧Ao out=true then out else []:=by
 rw [Ac hi] at h
 unfold Cy
 rw [← h]
 rfl
theorem O1 {s:Str}{out:List Tag}{i:Nat}(h:CD out ((Ax s).1.drop i)=CD [] (Ax s).1) (hi:(Ax s).1.length≤i) (h2:(Ax s).2=false∨Ao out=false):Cy s=[]:=by
 rw [M5 h hi,if_neg]
 rintro ⟨h3,h4⟩
 rcases h2 with h2 | h2
 ·rw [h2] at h3; cases h3
 ·rw [h2] at h4; cases h4
theorem TX {s:Str}{out:List Tag}{i:Nat}(h:CD out ((Ax s).1.drop i)=CD [] (Ax s).1) (hi:(Ax s).1.length≤i) (h2:(Ax s).2=true) (h3:Ao out=true):Cy s=out:=by
 rw [M5 h hi,if_pos ⟨h2,h3⟩]
end Go.Proofs.YtfninflnngpchaaGreatDoor
namespace Go.Proofs.YtfninflnngpchaaGreatDoor
set_option maxRecDepth 100000
set_option maxHeartbeats 4000000
variable {w:World} {F:Nat→Prop}
theorem Gn (text_:Str) (by_:UInt8){F:Nat→Prop}  (p0:text_.length≤1000):Calls Tryz.prog 7 [.string (bs text_),.int .u8 (by_.toNat:Int)].toArray w (Am fun rv w'=>VL (ge w.heap.size) w' (AZ text_ by_:List Txt) rv∧Ext w w'):=by
 refine goT func7 ?_
 have Z:=St.i0 F w
 refine .s<|.g<|.r 1<|.d<|.s<|.g<|RG.Nl 0 ([(⟨[]⟩:Txt)]:List Txt) [] Z fun ai w Z=>.r 1<|.d<|.s<|.s<|.g<|.r 1<|.d<|.b 0<|T.Lp (([(⟨[]⟩:Txt)]:List Txt),ai,(1:Nat),(0:Nat)) (fun (out,r_out,c_out,i)=>([(0,vT text_),(1,.int .u8 (by_.toNat:Int)),(5,vS r_out out.length c_out),(6,vI (i:Int))],[(0,.own 0 r_out 9 c_out out)],[],text_.length - i,(i≤text_.length)∧(0< out.length)∧(out.length≤i+1)∧(∀ t∈out,t.s.length≤i)∧(Gm by_ out (text_.drop i)=AZ text_ by_))) [] Z ⟨AD,AD,AD,AD,AF⟩ ?_
 rintro ⟨out,r_out,c_out,i⟩ aB w Z ⟨am,ao,aq,ar,ax⟩ aa
 refine .s<|.s<|.g<|.r 2<|RG.eqv (v:=vI (text_.length:Int)) AA (CZ text_)<|.bp ((i:Int)< (text_.length:Int)) (fun af=>?_) (fun af=>.d<|.cf<|.x 0 rfl<|.s<|.g<|.r 2<|.d<|T.Rt func7 results7 ⟨Z.rM 0 out (by exact Xj ‹_› AB),Z.xt⟩)
 refine .d<|.ct<|.sk<|.s<|.b 1<|.s<|.g<|.r 2 ?_
 obtain ⟨ab,ac⟩:∃ y,text_[i]? = some y:=⟨_,AU AB⟩
 have az:=drop_at ac
 refine RG.GZ (t:=9) (s:=text_) (k:=.i64) (i:=(i:Int)) i AA AA AB ac<|.r 1<|.eq (ab.toNat:Int) (by_.toNat:Int) (fun ag=>.d<|.ct<|.g<|.r 1<|RG.Nb 1 Z fun aC w Z=>RG.Ap 0 0 out (⟨[]⟩:Txt) [] Z fun aj ak w Z=>.r 1<|.d<|.ib 1<|.g<|.r 1<|.it ((i:Int)+1)<|.r 1<|.d<|aa ((out++[(⟨[]⟩:Txt)]),aj,ak,i+1) _ _ AA (Z.to 0 [] 0) ⟨AB,(by simp <;> omega),(by (simp <;> omega)),(by exact RA ‹_›),(by exact TT ‹_› ‹_› ‹_›)⟩ (by (simp only []; omega))) fun ag=>.d<|.cf<|T.Gd 16 Z fun w Z=>.r [0,1,2]<|GA.int (i:=3) ((out.length:Int) - 1) AA AB<|.r [4,5,6]<|GA.int (i:=7) ((out.length:Int) - 1) AA AB<|gx out (out.length - 1) fun ae E=>?_
 have ah:=AV E
 exact GA.Jo 8 0 ((out.length:Int) - 1) E Z<|Z.eo 0 E fun Z=>GA.Lt 9 0 0 Z<|.r [10,11]<|GA.GZ (i:=12) (t:=9) (s:=text_) (k:=.i64) (z:=(i:Int)) AA i AA AA AB ac<|.go 13<|GE.Nl 0 ([ab]:List UInt8) [] Z fun aD w Z=>GA.b2s (i:=14) (s:=50) (d:=9) (y:=ab) AA (Z.ow 0 ([ab]:List UInt8) AA).1 AA AA<|GA.cat (i:=15) (t:=9) (s:=ae.s) (u:=[ab]) AA AA (by have q1:∀ t∈out,t.s.length≤i:=‹_›; have q2:=q1 _ ‹_›; simp only [List.length_cons,List.length_nil]; omega)<|GA.Dn Z fun w Z=>RG.Jo 1 ((out.length:Int) - 1) E Z<|RG.Se 1 0 0 E (⟨(ae.s++[ab])⟩:Txt) [] Z fun w Z=>.d<|.ib 1<|.g<|.r 1<|.it ((i:Int)+1)<|.r 1<|.d<|aa ((out.set (out.length - 1) (⟨(ae.s++[ab])⟩:Txt)),r_out,c_out,i+1) _ _ (by simp only [List.length_set]; kernel_rfl) (Z.to 1 [] 0) ⟨AB,(by simp <;> omega),(by (simp <;> omega)),(by exact Xk ‹_› ‹_›),(by exact TU ‹_› ‹_› ‹_› AB ‹_›)⟩ (by (simp only []; omega))
theorem Mh (w_:Str){F:Nat→Prop}  (p0:w_.length≤1000):Calls Tryz.prog 57 [.string (bs w_)].toArray w (Am fun rv w'=>(∃ v0,rv=.tuple #[v0,.bool ((Co w_).2)]∧VS (ge w.heap.size) w' ((Co w_).1:Cnd) v0)∧Ext w w'):=by
 refine goT func57 ?_
 have Z:=St.i0 F w
 refine .s<|.g<|RG.Np Z fun aC w Z=>.r 1<|.d<|.s<|.g<|.r 1<|RG.Np Z fun aD w Z=>RG.Ss 0 Z fun w Z=>.d<|.s<|.s<|.g<|.r 1<|RG.eqv (v:=vI (w_.length:Int)) AA (CZ w_)<|.eq (w_.length:Int) 4 (fun ae=>?_) (fun ae=>?_)
 ·refine .r 2 ?_
  obtain ⟨ac,E⟩:∃ y,w_[1]? = some y:=⟨_,AU AB⟩
  refine RG.GZ (t:=9) (s:=w_) (k:=.i64) (i:=1) 1 AA AA AB E<|.eq (ac.toNat:Int) 33 (fun af=>?_) (fun af=>.r 1<|.d<|.cf<|.sk<|.s<|.s<|.g<|.r 1<|RG.eqv (v:=vI (w_.length:Int)) AA (CZ w_)<|.ne (w_.length:Int) 3 (fun ag=>.r 5<|.d<|.ct<|.s<|.g<|RG.Ln 0 Z<|RG.Ss 1 Z fun w Z=>.r 1<|.d<|T.r2 func57 results57 (.B 1 Z) (.t (.bool false)) ⟨⟨_,(Be rfl (AG (by rw [C8 (Jp ‹_› ‹_› ‹_›) (.inl ‹_›)]))),Z.rS (⟨(⟨[],[]⟩:Tag),false⟩:Cnd) [] (by rw [C8 (Jp ‹_› ‹_› ‹_›) (.inl ‹_›)])⟩,Z.xt⟩) fun ag=>.r 2<|RG.GZ (t:=9) (s:=w_) (k:=.i64) (i:=1) 1 AA AA AB E<|.ne (ac.toNat:Int) 61 (fun ah=>.r 1<|.d<|.ct<|.s<|.g<|RG.Ln 0 Z<|RG.Ss 1 Z fun w Z=>.r 1<|.d<|T.r2 func57 results57 (.B 1 Z) (.t (.bool false)) ⟨⟨_,(Be rfl (AG (by rw [C8 (Jp ‹_› ‹_› ‹_›) (.inr ⟨_,by assumption,by assumption⟩)]))),Z.rS (⟨(⟨[],[]⟩:Tag),false⟩:Cnd) [] (by rw [C8 (Jp ‹_› ‹_› ‹_›) (.inr ⟨_,by assumption,by assumption⟩)])⟩,Z.xt⟩) fun ah=>.r 1<|.d<|.cf<|.sk<|.s<|T.Gd 4 Z fun w Z=>.r [0]<|GA.H3 (i:=1) (t:=9) (lo:=none) (hi:=some (vI 1)) (s:=w_) AA 0 1 AA AA (.inl ⟨rfl,rfl⟩) (.inr ⟨_,_,rfl,by omega⟩) AB AB<|.r [2]<|GA.H3 (i:=3) (t:=9) (lo:=some (vI 2)) (hi:=none) (s:=w_) AA 2 w_.length AA AA (.inr ⟨_,_,rfl,by omega⟩) (.inl ⟨rfl,rfl⟩) AB AB<|GA.Dn Z fun w Z=>.r 2<|RG.Ss 0 Z fun w Z=>.d<|.s<|T.Gd 4 Z fun w Z=>GA.Ln 0 0 Z<|.r [1]<|GA.Ln 2 0 Z<|GA.C0 3 Z (fun w Z=>FE (⟨((w_.take 1).drop 0),((w_.take w_.length).drop 2)⟩:Tag) (F:=all))<|GA.Dn Z fun w Z=>RG.Ss 1 Z fun w Z=>.r 1<|.d<|T.r2 func57 results57 (.B 1 Z) (.t (.bool (Bj (⟨((w_.take 1).drop 0),((w_.take w_.length).drop 2)⟩:Tag)))) ⟨⟨_,(Be rfl (AG (by rw [FJ (Jp ‹_› ‹_› ‹_›) ‹_› ‹_› ‹_›]))),Z.rS (⟨(⟨((w_.take 1).drop 0),((w_.take w_.length).drop 2)⟩:Tag),false⟩:Cnd) [] (by rw [FJ (Jp ‹_› ‹_› ‹_›) ‹_› ‹_› ‹_›])⟩,Z.xt⟩)
  refine .r 1<|.d<|.ct<|.s<|.g<|.r 1<|RG.Ss 0 Z fun w Z=>.d<|T.Gd 4 Z fun w Z=>.r [0]<|GA.H3 (i:=1) (t:=9) (lo:=none) (hi:=some (vI 1)) (s:=w_) AA 0 1 AA AA (.inl ⟨rfl,rfl⟩) (.inr ⟨_,_,rfl,by omega⟩) AB AB<|.r [2]<|GA.H3 (i:=3) (t:=9) (lo:=some (vI 2)) (hi:=none) (s:=w_) AA 2 w_.length AA AA (.inr ⟨_,_,rfl,by omega⟩) (.inl ⟨rfl,rfl⟩) AB AB<|GA.Dn Z fun w Z=>RG.cat (t:=9) (s:=((w_.take 1).drop 0)) (u:=((w_.take w_.length).drop 2)) AA (by simp; omega)<|.r 1<|.d<|.s<|.s<|.g<|.r 1<|RG.eqv (v:=vI ((((w_.take 1).drop 0)++((w_.take w_.length).drop 2)).length:Int)) AA (CZ (((w_.take 1).drop 0)++((w_.take w_.length).drop 2)))<|.ne ((((w_.take 1).drop 0)++((w_.take w_.length).drop 2)).length:Int) 3 (fun ai=>.r 5<|.d<|.ct<|.s<|.g<|RG.Ln 0 Z<|RG.Ss 1 Z fun w Z=>.r 1<|.d<|T.r2 func57 results57 (.B 1 Z) (.t (.bool false)) ⟨⟨_,(Be rfl (AG (by rw [C8 (Jq ‹_› ‹_› ‹_›) (.inl ‹_›)]))),Z.rS (⟨(⟨[],[]⟩:Tag),true⟩:Cnd) [] (by rw [C8 (Jq ‹_› ‹_› ‹_›) (.inl ‹_›)])⟩,Z.xt⟩) fun ai=>.r 2 ?_
  obtain ⟨aj,aa⟩:∃ y,(((w_.take 1).drop 0)++((w_.take w_.length).drop 2))[1]? = some y:=⟨_,AU AB⟩
  exact RG.GZ (t:=9) (s:=(((w_.take 1).drop 0)++((w_.take w_.length).drop 2))) (k:=.i64) (i:=1) 1 AA AA AB aa<|.ne (aj.toNat:Int) 61 (fun ak=>.r 1<|.d<|.ct<|.s<|.g<|RG.Ln 0 Z<|RG.Ss 1 Z fun w Z=>.r 1<|.d<|T.r2 func57 results57 (.B 1 Z) (.t (.bool false)) ⟨⟨_,(Be rfl (AG (by rw [C8 (Jq ‹_› ‹_› ‹_›) (.inr ⟨_,by assumption,by assumption⟩)]))),Z.rS (⟨(⟨[],[]⟩:Tag),true⟩:Cnd) [] (by rw [C8 (Jq ‹_› ‹_› ‹_›) (.inr ⟨_,by assumption,by assumption⟩)])⟩,Z.xt⟩) fun ak=>.r 1<|.d<|.cf<|.sk<|.s<|T.Gd 4 Z fun w Z=>.r [0]<|GA.H3 (i:=1) (t:=9) (lo:=none) (hi:=some (vI 1)) (s:=(((w_.take 1).drop 0)++((w_.take w_.length).drop 2))) AA 0 1 AA AA (.inl ⟨rfl,rfl⟩) (.inr ⟨_,_,rfl,by omega⟩) AB AB<|.r [2]<|GA.H3 (i:=3) (t:=9) (lo:=some (vI 2)) (hi:=none) (s:=(((w_.take 1).drop 0)++((w_.take w_.length).drop 2))) AA 2 ((((w_.take 1).drop 0)++((w_.take w_.length).drop 2)).length) AA AA (.inr ⟨_,_,rfl,by omega⟩) (.inl ⟨rfl,rfl⟩) AB AB<|GA.Dn Z fun w Z=>.r 2<|RG.Ss 0 Z fun w Z=>.d<|.s<|T.Gd 4 Z fun w Z=>GA.Ln 0 0 Z<|.r [1]<|GA.Ln 2 0 Z<|GA.C0 3 Z (fun w Z=>FE (⟨(((((w_.take 1).drop 0)++((w_.take w_.length).drop 2)).take 1).drop 0),(((((w_.take 1).drop 0)++((w_.take w_.length).drop 2)).take ((((w_.take 1).drop 0)++((w_.take w_.length).drop 2)).length)).drop 2)⟩:Tag) (F:=all))<|GA.Dn Z fun w Z=>RG.Ss 1 Z fun w Z=>.r 1<|.d<|T.r2 func57 results57 (.B 1 Z) (.t (.bool (Bj (⟨(((((w_.take 1).drop 0)++((w_.take w_.length).drop 2)).take 1).drop 0),(((((w_.take 1).drop 0)++((w_.take w_.length).drop 2)).take ((((w_.take 1).drop 0)++((w_.take w_.length).drop 2)).length)).drop 2)⟩:Tag)))) ⟨⟨_,(Be rfl (AG (by rw [FJ (Jq ‹_› ‹_› ‹_›) ‹_› ‹_› ‹_›]))),Z.rS (⟨(⟨(((((w_.take 1).drop 0)++((w_.take w_.length).drop 2)).take 1).drop 0),(((((w_.take 1).drop 0)++((w_.take w_.length).drop 2)).take ((((w_.take 1).drop 0)++((w_.take w_.length).drop 2)).length)).drop 2)⟩:Tag),true⟩:Cnd) [] (by rw [FJ (Jq ‹_› ‹_› ‹_›) ‹_› ‹_› ‹_›])⟩,Z.xt⟩
 refine .r 5<|.d<|.cf<|.sk<|.s<|.s<|.g<|.r 1<|RG.eqv (v:=vI (w_.length:Int)) AA (CZ w_)<|.ne (w_.length:Int) 3 (fun am=>.r 5<|.d<|.ct<|.s<|.g<|RG.Ln 0 Z<|RG.Ss 1 Z fun w Z=>.r 1<|.d<|T.r2 func57 results57 (.B 1 Z) (.t (.bool false)) ⟨⟨_,(Be rfl (AG (by rw [C8 (Jn ‹_›) (.inl ‹_›)]))),Z.rS (⟨(⟨[],[]⟩:Tag),false⟩:Cnd) [] (by rw [C8 (Jn ‹_›) (.inl ‹_›)])⟩,Z.xt⟩) fun am=>.r 2 ?_
 obtain ⟨ao,ab⟩:∃ y,w_[1]? = some y:=⟨_,AU AB⟩
 exact RG.GZ (t:=9) (s:=w_) (k:=.i64) (i:=1) 1 AA AA AB ab<|.ne (ao.toNat:Int) 61 (fun aq=>.r 1<|.d<|.ct<|.s<|.g<|RG.Ln 0 Z<|RG.Ss 1 Z fun w Z=>.r 1<|.d<|T.r2 func57 results57 (.B 1 Z) (.t (.bool false)) ⟨⟨_,(Be rfl (AG (by rw [C8 (Jn ‹_›) (.inr ⟨_,by assumption,by assumption⟩)]))),Z.rS (⟨(⟨[],[]⟩:Tag),false⟩:Cnd) [] (by rw [C8 (Jn ‹_›) (.inr ⟨_,by assumption,by assumption⟩)])⟩,Z.xt⟩) fun aq=>.r 1<|.d<|.cf<|.sk<|.s<|T.Gd 4 Z fun w Z=>.r [0]<|GA.H3 (i:=1) (t:=9) (lo:=none) (hi:=some (vI 1)) (s:=w_) AA 0 1 AA AA (.inl ⟨rfl,rfl⟩) (.inr ⟨_,_,rfl,by omega⟩) AB AB<|.r [2]<|GA.H3 (i:=3) (t:=9) (lo:=some (vI 2)) (hi:=none) (s:=w_) AA 2 w_.length AA AA (.inr ⟨_,_,rfl,by omega⟩) (.inl ⟨rfl,rfl⟩) AB AB<|GA.Dn Z fun w Z=>.r 2<|RG.Ss 0 Z fun w Z=>.d<|.s<|T.Gd 4 Z fun w Z=>GA.Ln 0 0 Z<|.r [1]<|GA.Ln 2 0 Z<|GA.C0 3 Z (fun w Z=>FE (⟨((w_.take 1).drop 0),((w_.take w_.length).drop 2)⟩:Tag) (F:=all))<|GA.Dn Z fun w Z=>RG.Ss 1 Z fun w Z=>.r 1<|.d<|T.r2 func57 results57 (.B 1 Z) (.t (.bool (Bj (⟨((w_.take 1).drop 0),((w_.take w_.length).drop 2)⟩:Tag)))) ⟨⟨_,(Be rfl (AG (by rw [FJ (Jn ‹_›) ‹_› ‹_› ‹_›]))),Z.rS (⟨(⟨((w_.take 1).drop 0),((w_.take w_.length).drop 2)⟩:Tag),false⟩:Cnd) [] (by rw [FJ (Jn ‹_›) ‹_› ‹_› ‹_›])⟩,Z.xt⟩
theorem Fo (text_:Str){F:Nat→Prop}  (p0:text_.length≤1000):Calls Tryz.prog 23 [.string (bs text_)].toArray w (Am fun rv w'=>(∃ v0,rv=.tuple #[v0,.bool ((Ax text_).2)]∧VL (ge w.heap.size) w' ((Ax text_).1:List Cnd) v0)∧Ext w w'):=by
 refine goT func23 ?_
 have Z:=St.i0 F w
 refine .s<|.g<|.r 2<|.d<|.s<|.g<|RG.N0 Cnd 0 Z fun ag w Z=>.r 1<|.d<|.s<|.s<|.g<|.r 1<|RG.eqv (v:=.bool ((text_==[42]))) AA (GX text_ [42]) ?_
 cases am:(text_==[42])
 ·refine .d<|.cf<|.sk<|.s<|.g<|.r 1<|RG.CL (Gn text_ (44:UInt8) AB (F:=all)) Z fun ah ai w Z=>?_
  have ao:=Z.mf 0 (AZ text_ (44:UInt8))
  refine .r 1<|.d<|.s<|.s<|.g<|.r 1<|.d<|.b 0<|T.Lp (([]:List Cnd),ag,(0:Nat),(0:Nat)) (fun (out,r_out,c_out,i)=>([(4,vS r_out out.length c_out),(5,.slice ah ((AZ text_ (44:UInt8)).length) ai),(6,vI (i:Int))],[(0,.own 0 r_out 85 c_out out)],[],(AZ text_ 44).length - i,(i≤(AZ text_ 44).length)∧(out.length≤i)∧(DW out ((AZ text_ 44).drop i)=Ax text_))) [] Z ⟨(by (simp; done)),(by (simp; done)),(by exact QE ‹_›)⟩ ?_
  rintro ⟨out,r_out,c_out,i⟩ aD w Z ⟨aq,ar,ax⟩ ab
  have ay:=Z.mo 0 out
  refine .s<|.s<|.g<|.r 3<|.bp ((i:Int)< (((AZ text_ (44:UInt8)).length):Int)) (fun ac=>?_) (fun ac=>.d<|.cf<|.x 0 rfl<|.s<|.g<|.r 3<|.d<|T.r2 func23 results23 (.T _) (.t (.bool true)) ⟨⟨_,(Be rfl (AG (by rw [RB (Y:=Ax text_) ‹_› AB]))),Z.rM 0 out (by rw [RB (Y:=Ax text_) ‹_› AB])⟩,Z.xt⟩)
  refine .d<|.ct<|.sk<|.s<|.b 1<|.s<|.g<|.r 2<|gx (AZ text_ (44:UInt8)) i fun E aa=>?_
  have az:=drop_at aa; have af:=AV aa
  refine RG.Ix 0 aa Z<|Z.el 0 aa fun Z=>RG.Lh 0 0 Z<|RG.CT (us:=[.bool ((Co E.s).2)]) (Mh E.s (by have q1:=(BK text_ 44).1 _ ‹_›; omega) (F:=all)) Z fun  w Z=>.r 2 ?_
  cases aB:(Co E.s).2
  ·exact .r 1<|RG.Np Z fun aE w Z=>RG.Ss 0 Z fun w Z=>.r 1<|.d<|.s<|.s<|.g<|.r 7<|.d<|.ct<|.s<|.g<|RG.N0 Cnd 0 Z fun aF w Z=>.r 2<|.d<|T.r2 func23 results23 (.T _) (.t (.bool false)) ⟨⟨_,(Be rfl (AG (by rw [LB (Y:=Ax text_) ‹_› ‹_› (.inl ‹_›)]))),Z.rM 0 ([]:List Cnd) (by rw [LB (Y:=Ax text_) ‹_› ‹_› (.inl ‹_›)])⟩,Z.xt⟩
  refine .r 1<|RG.Np Z fun aG w Z=>RG.Ss 0 Z fun w Z=>.r 1<|.d<|.s<|.s<|.g<|.r 5<|.bp ((out.length:Int)≥3) (fun ae=>.r 1<|.d<|.ct<|.s<|.g<|RG.N0 Cnd 0 Z fun aH w Z=>.r 2<|.d<|T.r2 func23 results23 (.T _) (.t (.bool false)) ⟨⟨_,(Be rfl (AG (by rw [LB (Y:=Ax text_) ‹_› ‹_› (.inr AB)]))),Z.rM 0 ([]:List Cnd) (by rw [LB (Y:=Ax text_) ‹_› ‹_› (.inr AB)])⟩,Z.xt⟩) fun ae=>.r 1<|.d<|.cf<|.sk<|.g<|.r 1<|RG.Ln 0 Z<|RG.Nb 1 Z fun aI w Z=>RG.Ap (hs:=by exact (by have q1:=(BK text_ 44).2; omega)) 1 0 out (⟨(⟨(Co E.s).1.tag.key,(Co E.s).1.tag.val⟩:Tag),(Co E.s).1.no⟩:Cnd) [] Z fun aj ak w Z=>?_
  exact .r 1<|.d<|.ib 1<|.g<|.r 1<|.it ((i:Int)+1)<|.r 1<|.d<|ab ((out++[(⟨(⟨(Co E.s).1.tag.key,(Co E.s).1.tag.val⟩:Tag),(Co E.s).1.no⟩:Cnd)]),aj,ak,i+1) _ _ AA (Z.to 1 [] 1) ⟨AB,(by simp; omega),(by exact TW ‹_› ‹_› ‹_› AB)⟩ (by (simp only []; omega))
 exact .d<|.ct<|.s<|.g<|.r 3<|.d<|T.r2 func23 results23 (.T _) (.t (.bool true)) ⟨⟨_,(Be rfl (AG (by rw [Lm ‹_›]))),Z.rM 0 ([]:List Cnd) (by rw [Lm ‹_›])⟩,Z.xt⟩
end Go.Proofs.YtfninflnngpchaaGreatDoor
namespace Go.Proofs.YtfninflnngpchaaGreatDoor
theorem NmD.sz {n:List Tag}(h:NmD n):Fw n:=⟨Nat.le_trans h.1 AE,h.2⟩
theorem NmD.nil:NmD []:=⟨by simp,by simp⟩
def NsD (ns:List (List Tag)):Prop:=∀ n∈ns,NmD n
structure WD (w:Wld):Prop where
 wi:WI w
 sn:NsD w.store.idx.names
 dn:NsD w.disk.names
theorem NsD.nil:NsD []:=by intro n hn; cases hn
theorem WD.new:WD ⟨⟨⟨[],[]⟩,[],[]⟩,⟨[],[],[],1⟩⟩:=⟨WI.new,NsD.nil,NsD.nil⟩
theorem R8 (Q:List (List Tag)→Prop):∀ (st:List Stp) (d:Dsk),Q d.names→(∀ x∈st,x.kind=2→Q x.names)→Q (st.foldl doD d).names:=by
 intro st
 induction st with
 | nil=>intro d h _; exact h
 | cons x xs ih =>
   intro d h hs
   refine ih (doD d x) ?_ (fun y hy=>hs y (by simp [hy]))
   unfold doD
   split
   ·exact h
   ·split
    ·exact hs x AD ‹_›
    ·split
     ·exact h
     ·exact h
theorem WD.steps {w:Wld}(h:WD w){st:List Stp}(hs:∀ x∈st,x.kind=2→NsD x.names) (cut:Int){s:Sto}(h2:NsD s.idx.names):NsD (Bl w st cut s).store.idx.names∧NsD (Bl w st cut s).disk.names:=by
 have h3:NsD (toD w.disk st cut).names:=R8 NsD _ _ h.dn (fun x hx hk=>hs x (List.mem_of_mem_take hx) hk)
 unfold Bl
 split
 ·exact ⟨h.sn,h.dn⟩
 ·split
  ·exact ⟨h3,h3⟩
  ·exact ⟨h2,h3⟩
theorem QF {s:Sto}{n:List Tag}{r:Row}(h:NsD s.idx.names) (hn:NmD n):NsD (CI s n r).1.idx.names:=by
 have h1:NsD (BV s.idx n).1.names:=by
  unfold BV
  split
  ·exact h
  ·split
   ·exact h
   ·intro m hm
    rcases List.mem_append.1 hm with hm | hm
    ·exact h m hm
    ·simp at hm; rw [hm]; exact hn
 unfold CI
 split
 ·exact h
 ·split
  ·exact h
  ·exact h1
theorem QG (s:Sto):(BI s).1.idx=s.idx:=by unfold BI; split <;> rfl
theorem QH (s:Sto) (a:Int):(BH s a).1.idx=s.idx:=by unfold BH; split <;> rfl
theorem R9 {w:Wld}(h:WD w):∀ x∈BB w.disk w.store,x.kind=2→NsD x.names:=by
 unfold BB
 split
 ·intro x hx; cases hx
 ·intro x hx _
  simp only [List.mem_cons,List.not_mem_nil,or_false] at hx
  rcases hx with rfl | rfl
  ·exact NsD.nil
  ·exact h.sn
theorem SA {d:Dsk}(h:NsD d.names) (a:Int):∀ x∈Al d a,x.kind=2→NsD x.names:=by
 unfold Al
 split
 ·intro x hx; cases hx
 ·intro x hx _
  simp only [List.mem_cons,List.not_mem_nil,or_false] at hx
  rcases hx with rfl | rfl | rfl | rfl
  ·exact NsD.nil
  ·exact h
  ·exact NsD.nil
  ·exact NsD.nil
theorem WD.do {w:Wld}(h:WD w){e:Evt}(he:NmD e.name):WD (doW w e):=by
 have key:NsD (doW w e).store.idx.names∧NsD (doW w e).disk.names:=by
  unfold doW
  split
  ·split
   ·exact ⟨QF h.sn he,h.dn⟩
   ·exact ⟨h.sn,h.dn⟩
  ·split
   ·exact h.steps (R9 h) _ (by rw [QG]; exact h.sn)
   ·split
    ·exact h.steps (SA h.dn _) _ (by rw [QH]; exact h.sn)
    ·split
     ·exact ⟨h.dn,h.dn⟩
     ·exact ⟨h.sn,h.dn⟩
 exact ⟨h.wi.do e,key.1,key.2⟩
theorem WD.copy {w:Wld}(h:WD w):WD (Q5 w):=⟨h.wi.copy,h.sn,h.dn⟩
def EvD (e:Evt):Prop:=NmD e.name∧Oy e.row
structure SD (s:Sto):Prop where
 idx:s.idx=idxOf s.idx.names
 nm:NmI s.idx.names
 nd:NsD s.idx.names
 np:s.parts.length≤6
 part:∀ p∈s.parts,PrtI p
 nm2:s.mem.length≤21
 mem:∀ m∈s.mem,0≤m.id∧m.id≤7∧Oy m.row
theorem TY {r:Row}(h:BZ r=true):Oy r:=by
 have h1:=LA h
 have h2:=Q7 h
 unfold Oy
 omega
theorem WD.sd {w:Wld}(h:WD w):SD w.store:=⟨h.wi.sto.idx,h.wi.sto.nm,h.sn,h.wi.sto.np,h.wi.sto.part,by have:=h.wi.sto.nm2; omega,fun m hm=>by
 have h1:=h.wi.sto.Jk m hm
 exact ⟨by omega,by omega,TY (h.wi.sto.mem m hm).2.2⟩⟩
end Go.Proofs.YtfninflnngpchaaGreatDoor
namespace Go.Proofs.YtfninflnngpchaaGreatDoor
def Lo:List Tag:=(List.range' 97 4).flatMap (fun k=>(List.range' 112 11).map (I1 k))
theorem SB (names:List (List Tag)) (k:Nat):∀ f v,Gg names k f v=((List.range' v f).map (I1 k)).flatMap (GF names):=by
 intro f
 induction f with
 | zero=>intro v; rfl
 | succ f ih=>intro v; rw [Gg,ih,List.range'_succ]; rfl
theorem SC (names:List (List Tag)):∀ f k,Gh names f k=((List.range' k f).flatMap (fun k=>(List.range' 112 11).map (I1 k))).flatMap (GF names):=by
 intro f
 induction f with
 | zero=>intro k; rfl
 | succ f ih=>intro k; rw [Gh,ih,SB,show List.range' k (f+1)=k::List.range' (k+1) f from rfl,List.flatMap_cons,List.flatMap_append]
theorem IY (names:List (List Tag)):Dq names=Lo.flatMap (GF names):=SC names 4 97
theorem N8:Lo.Pairwise (fun a b=>D6 a b=true):=by decide +kernel
theorem SE {t:Tag}(h:Bj t=true):t∈Lo:=by
 simp only [Bj,AW] at h
 obtain ⟨h1,h2⟩:=h
 obtain ⟨x,hx⟩:∃ x,t.key=[x]:=by
  have:=Ew h1
  match t.key,this with
  | [x],_=>exact ⟨x,rfl⟩
 obtain ⟨y,hy⟩:∃ y,t.val=[y]:=by
  have:=Ew h2
  match t.val,this with
  | [y],_=>exact ⟨y,rfl⟩
 rw [hx] at h1
 rw [hy] at h2
 have g1:=BW h1
 have g2:=BW h2
 unfold Lo
 refine List.mem_flatMap.2 ⟨x.toNat,?_,List.mem_map.2 ⟨y.toNat,?_,?_⟩⟩
 ·rw [List.mem_range'_1]; omega
 ·rw [List.mem_range'_1]; omega
 ·cases t
  simp only at hx hy
  subst hx hy
  simp [I1]
theorem SF {names:List (List Tag)}{p:Pst}(h:p∈Dq names):p.ids=ids names p.tag∧0< p.ids.length∧p.tag∈Lo:=by
 rw [IY] at h
 obtain ⟨t,ht,hp⟩:=List.mem_flatMap.1 h
 unfold GF at hp
 split at hp
 ·simp at hp
  subst hp
  exact ⟨rfl,by assumption,ht⟩
 ·cases hp
theorem TZ {names:List (List Tag)}{t:Tag}(h:t∈Lo) (h2:0< (ids names t).length):⟨t,ids names t⟩∈Dq names:=by
 rw [IY]
 refine List.mem_flatMap.2 ⟨t,h,?_⟩
 unfold GF
 rw [if_pos h2]
 simp
theorem N9 (names:List (List Tag)):(Dq names).Pairwise (fun a b=>D6 a.tag b.tag=true):=by
 rw [IY,List.pairwise_flatMap]
 refine ⟨fun t _=>?_,N8.imp ?_⟩
 ·unfold GF
  split <;> simp
 ·intro a b hab x hx y hy
  have h1:x.tag=a:=by
   unfold GF at hx
   split at hx
   ·simp at hx; rw [hx]
   ·cases hx
  have h2:y.tag=b:=by
   unfold GF at hy
   split at hy
   ·simp at hy; rw [hy]
   ·cases hy
  rw [h1,h2]
  exact hab
theorem Jr:∀ (s:Str),Bo s s=false:=by
 intro s
 induction s with
 | nil=>rfl
 | cons x xs ih =>
   have ih':Op.bytesLess xs xs=false:=ih
   show (decide (x< x) || x==x&&Op.bytesLess xs xs)=false
   simp [ih']
theorem M6 {a b:Tag}(ha:Bj a=true) (hb:Bj b=true) (h:Bo a.key b.key=true):∃ x y,a.key=[x]∧b.key=[y]∧x.toNat< y.toNat:=by
 simp only [Bj,AW] at ha hb
 have h1:=Ew ha.1
 have h2:=Ew hb.1
 match ha':a.key,h1,hb':b.key,h2 with
 | [x], _, [y], _ =>
   rw [ha',hb',LV] at h
   exact ⟨x,y,rfl,rfl,by simpa using h⟩
theorem QI:∀ (n:List Tag) (o:Option Tag),D3 o n=true→(∀ q,o=some q→Bj q=true)→(∀ q,o=some q→∀ t∈n,Bo q.key t.key=true)∧n.Nodup:=by
 intro n
 induction n with
 | nil=>intro o _ _; exact ⟨fun _ _ t ht=>(by cases ht),by simp⟩
 | cons t ts ih =>
   intro o h ho
   simp only [D3,AW] at h
   obtain ⟨⟨h1,h2⟩,h3⟩:=h
   obtain ⟨g1,g2⟩:=ih (some t) h3 (fun q hq=>by cases hq; exact h1)
   refine ⟨fun q hq u hu=>?_,List.nodup_cons.2 ⟨fun hm=>?_,g2⟩⟩
   ·subst hq
    have h4:Bo q.key t.key=true:=h2
    rcases List.mem_cons.1 hu with rfl | hu
    ·exact h4
    ·have h5:=g1 t rfl u hu
     obtain ⟨x,y,e1,e2,l1⟩:=M6 (ho q rfl) h1 h4
     obtain ⟨y',z,e3,e4,l2⟩:=M6 h1 (Gl ts (some t) h3 u hu) h5
     rw [e2] at e3
     cases e3
     rw [e1,e4,LV]
     simp; omega
   ·have h5:=g1 t rfl t hm
    rw [Jr] at h5
    cases h5
theorem I6 {n:List Tag}(h:Ao n=true):n.Nodup∧∀ t∈n,t∈Lo:=by
 simp only [Ao,AW] at h
 exact ⟨(QI n none h.1 AD).2,fun t ht=>SE (Gl n none h.1 t ht)⟩
end Go.Proofs.YtfninflnngpchaaGreatDoor
namespace Go.Proofs.YtfninflnngpchaaGreatDoor
structure IxI (x:Idx):Prop where
 eq:x=idxOf x.names
 nm:NmI x.names
theorem IxI.AY {x:Idx}(h:IxI x):x.AY=Dq x.names:=by have:=h.eq; rw [this]; rfl
theorem IxI.sz {x:Idx}(h:IxI x):TN x:=⟨by have:=h.nm.len; omega,h.nm.sz⟩
theorem SD.ix {s:Sto}(h:SD s):IxI s.idx:=⟨h.idx,h.nm⟩
theorem SD.sz {s:Sto}(h:SD s):My s:=⟨h.ix.sz,by have:=h.np; omega,fun p hp=>(h.part p hp).sz,by have:=h.nm2; omega⟩
theorem Hu {α:Type}{f:α→Bool}{l:List α}{i:Nat}{x:α}{b:Bool}(h:(l.drop i).all f=b) (hd:l.drop i=x::l.drop (i+1)) (hx:f x=true):(l.drop (i+1)).all f=b:=by
 rw [hd,List.all_cons,hx,Bool.true_and] at h
 exact h
theorem I7 {α:Type}{f:α→Bool}{l:List α}{i:Nat}{x:α}{b:Bool}(h:(l.drop i).all f=b) (hd:l.drop i=x::l.drop (i+1)) (hx:f x=false):b=false:=by
 rw [hd,List.all_cons,hx,Bool.false_and] at h
 exact h.symm
theorem Js {α:Type}{f:α→Bool}{l:List α}{i:Nat}{b:Bool}(h:(l.drop i).all f=b) (hi:l.length≤i):b=true:=by
 rw [Ac hi] at h
 exact h.symm
def E8 (n:Nat) (m:Smp):Bool:=inR m.id 1 n&&BZ m.row
def E9 (s:Sto) (i:Nat):Bool:=decide ((rowsOf s ((i:Int)+1)).length≤24)
def Aa (s:Sto):Bool :=
 decide (s.parts.length≤6)&&decide (s.mem.length≤20)&&s.parts.all (fun p=>Bn p s.idx.names.length)&&s.mem.all (E8 s.idx.names.length)&&(List.range s.idx.names.length).all (E9 s)
theorem M7 {s:Sto}(h:(s.parts.length:Int) > 6∨(s.mem.length:Int) > 20):Aa s=false:=by
 unfold Aa
 rcases h with h | h
 ·rw [decide_eq_false AB]; simp
 ·rw [decide_eq_false (p:=s.mem.length≤20) AB]; simp
theorem Jt {s:Sto}(h:s.parts.all (fun p=>Bn p s.idx.names.length)=false):Aa s=false:=by unfold Aa; rw [h]; simp
theorem M8 {s:Sto}(h:s.mem.all (E8 s.idx.names.length)=false):Aa s=false:=by unfold Aa; rw [h]; simp
theorem SH {s:Sto}(h:(List.range s.idx.names.length).all (E9 s)=false):Aa s=false:=by unfold Aa; rw [h]; simp
theorem SI {s:Sto}(h1:¬ (s.parts.length:Int) > 6) (h2:¬ (s.mem.length:Int) > 20) (h3:s.parts.all (fun p=>Bn p s.idx.names.length)=true) (h4:s.mem.all (E8 s.idx.names.length)=true) (h5:(List.range s.idx.names.length).all (E9 s)=true):Aa s=true:=by
 unfold Aa
 rw [h3,h4,h5,decide_eq_true AB,decide_eq_true AB]
 rfl
theorem O2 {n i:Nat}(h:i< n):(List.range n).drop i=i::(List.range n).drop (i+1):=by
 rw [List.drop_eq_getElem_cons (by simpa using h)]
 simp
def BX (s:Sto) (n:List Tag) (r:Row):Sto × Bool:=if Aa s=true∧Ao n=true then CI (Ah s) n r else (⟨⟨[],[]⟩,[],[]⟩,false)
theorem LC {s:Sto}{n:List Tag}{r:Row}(h:Aa s=false∨Ao n=false):BX s n r=(⟨⟨[],[]⟩,[],[]⟩,false):=by
 unfold BX
 rw [if_neg]
 rintro ⟨h1,h2⟩
 rcases h with h | h
 ·rw [h] at h1; cases h1
 ·rw [h] at h2; cases h2
theorem HP {s:Sto}{n:List Tag}{r:Row}(h:Aa s=true) (h2:Ao n=true):BX s n r=CI (Ah s) n r:=by unfold BX; rw [if_pos ⟨h,h2⟩]
theorem SD.copy {s:Sto}(h:SD s):Ah s=s:=by
 have:=h.idx
 unfold Ah
 rw [← this]
theorem Vm {s:Sto}{n k:Nat}{b:Bool}(h:((List.range n).drop (k - 1)).all (E9 s)=b) (h1:1≤k) (h2:k≤n) (h3:((rowsOf s (k:Int)).length:Int)≤24):((List.range n).drop (k+1 - 1)).all (E9 s)=b:=by
 have hd:=O2 (n:=n) (i:=k - 1) AB
 have:=Hu h hd (by unfold E9; rw [show ((k - 1:Nat):Int)+1=(k:Int) by omega]; simp; omega)
 rw [show k+1 - 1=k - 1+1 by omega]
 exact this
theorem Y8 {s:Sto}{n k:Nat}{b:Bool}(h:((List.range n).drop (k - 1)).all (E9 s)=b) (h1:1≤k) (h2:k≤n) (h3:((rowsOf s (k:Int)).length:Int) > 24):b=false:=by
 have hd:=O2 (n:=n) (i:=k - 1) AB
 exact I7 h hd (by unfold E9; rw [show ((k - 1:Nat):Int)+1=(k:Int) by omega]; simp; omega)
theorem Xl {s:Sto}{n k:Nat}{b:Bool}(h:((List.range n).drop (k - 1)).all (E9 s)=b) (h1:n+1≤k):b=true:=Js h (by simp; omega)
end Go.Proofs.YtfninflnngpchaaGreatDoor
