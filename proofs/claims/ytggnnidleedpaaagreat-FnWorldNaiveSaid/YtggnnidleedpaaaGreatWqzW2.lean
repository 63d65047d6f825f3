/- walks; pruned haves; hints pruned; squeezed -/
import Derived.Test.YtggnnidleedpaaaGreatWqzMem
open Go.Proofs.Tryz
set_option linter.unusedVariables false
set_option linter.unusedSimpArgs false
namespace Go.Proofs.YtggnnidleedpaaaGreat
set_option maxRecDepth 100000
set_option maxHeartbeats 4000000
variable {w:World} {F:Nat→Prop} {a1 a2:Option Addr} {n1 c1 n2 c2:Nat}
theorem Bv (n:Int) (low:Int) (high:Int){F:Nat→Prop}   : Calls Tryz.prog 48 [.int .i64 n,.int .i64 low,.int .i64 high].toArray w (Am fun rv w'=>rv=.bool (inR n low high)∧Ext w w'):=by
 refine goT func48 ?_
 have Z:=St.i0 F w
 exact .s<|.g<|.r 1<|.d<|.s<|.g<|.r 2<|.bp (n≥low) (fun E=>.r 6<|.d<|T.rt func48 results48 (.bool (decide (n≤high))) ⟨(AG (by simp [inR]; omega)),Z.xt⟩) fun E=>.r 6<|.d<|T.rt func48 results48 (.bool false) ⟨(AG (by simp [inR]; omega)),Z.xt⟩
theorem DH (n:Int) (low:Int) (high:Int){F:Nat→Prop}   : Calls Tryz.prog 105 [.int .i64 n,.int .i64 low,.int .i64 high].toArray w (Am fun rv w'=>rv=.bool (inR n low high)∧Ext w w'):=by
 refine goT func105 ?_
 have Z:=St.i0 F w
 exact .s<|.g<|.r 1<|.d<|.s<|.g<|.r 2<|.bp (n≥low) (fun E=>.r 6<|.d<|T.rt func105 results105 (.bool (decide (n≤high))) ⟨(AG (by simp [inR]; omega)),Z.xt⟩) fun E=>.r 6<|.d<|T.rt func105 results105 (.bool false) ⟨(AG (by simp [inR]; omega)),Z.xt⟩
theorem Fs (r:Row){F:Nat→Prop}   : Calls Tryz.prog 87 [.agg #[.int .i64 r.t,.int .i64 r.v]].toArray w (Am fun rv w'=>rv=.bool (BU r)∧Ext w w'):=by
 refine goT func87 ?_
 have Z:=St.i0 F w
 refine .s<|.g<|RG.Np Z fun ac w Z=>.r 1<|.d<|.s<|.g<|.r 1<|RG.Lb 0 Z<|RG.C0 (Bv r.t 0 99 (F:=all)) Z fun w Z=>?_
 cases E:(inR r.t 0 99)
 ·exact .r 6<|.d<|T.rt func87 results87 (.bool false) ⟨(AG (by simp_all [BU])),Z.xt⟩
 exact .r 2<|RG.Lb 0 Z<|RG.C0 (Bv r.v (-99) 99 (F:=all)) Z fun w Z=>.r 2<|.d<|T.rt func87 results87 (.bool (inR r.v (-99) 99)) ⟨(AG (by simp_all [BU])),Z.xt⟩
theorem MP (r:Row){F:Nat→Prop}   : Calls Tryz.prog 107 [.agg #[.int .i64 r.t,.int .i64 r.v]].toArray w (Am fun rv w'=>rv=.bool (BU r)∧Ext w w'):=by
 refine goT func107 ?_
 have Z:=St.i0 F w
 refine .s<|.g<|RG.Np Z fun ac w Z=>.r 1<|.d<|.s<|.g<|.r 1<|RG.Lb 0 Z<|RG.C0 (DH r.t 0 99 (F:=all)) Z fun w Z=>?_
 cases E:(inR r.t 0 99)
 ·exact .r 6<|.d<|T.rt func107 results107 (.bool false) ⟨(AG (by simp_all [BU])),Z.xt⟩
 exact .r 2<|RG.Lb 0 Z<|RG.C0 (DH r.v (-99) 99 (F:=all)) Z fun w Z=>.r 2<|.d<|T.rt func107 results107 (.bool (inR r.v (-99) 99)) ⟨(AG (by simp_all [BU])),Z.xt⟩
theorem BO (names:List (List Tag)) (h1:RepS w F a1 n1 c1 names) (p0:names.length≤1000000) (p1:∀ n∈names,n.length≤1000000):Calls Tryz.prog 111 [.slice a1 n1 c1].toArray w (Am fun rv w'=>VO 43 w.heap.size w' (names:List (List Tag)) rv∧Ext w w'):=by
 cases h1.len
 refine goT func111 ?_
 have Z:=(St.i0 F w).p h1
 refine .s<|.g<|.r 1<|.d<|.s<|.g<|RG.N0 (List Tag) 0 Z fun af w Z=>.r 1<|.d<|.s<|.s<|.g<|.r 1<|.d<|.b 0<|T.Lp (([]:List (List Tag)),af,(0:Nat),(0:Nat)) (fun (out,r_out,c_out,i)=>([(0,.slice a1 names.length c1),(3,vS r_out out.length c_out),(4,vI (i:Int))],[(0,.own 0 r_out 43 c_out out)],[],names.length - i,(i≤names.length)∧(out++names.drop i=names))) [] Z ⟨AB,AF⟩ ?_
 rintro ⟨out,r_out,c_out,i⟩ am w Z ⟨aj,ak⟩ aa
 refine .s<|.s<|.g<|.r 3<|.bp ((i:Int)< (names.length:Int)) (fun ac=>?_) (fun ac=>.d<|.cf<|.x 0 rfl<|.s<|.g<|.r 2<|.d<|T.Rt func111 results111 ⟨Z.rO 0 out (by grind),Z.xt⟩)
 exact .d<|.ct<|.sk<|.s<|.b 1<|.g<|.r 1<|RG.N0 Tag 0 Z fun ao w Z=>.r 2<|gxb names i fun ab E al ae=>RG.Ix 0 E Z<|Z.el 0 E fun aq ar Z=>RG.Lh 0 0 Z<|RG.An (hs:=by exact (by grind)) (hf:=.inr M3) 0 1 ([]:List Tag) ab Z fun au ax w Z=>RG.Nb 1 Z fun ay w Z=>RG.Ap (hs:=by exact (by grind)) 0 0 out ([]++ab) [0] (Z.sl 1) fun ag ah w Z=>.r 1<|.d<|.ib 1<|.g<|.r 1<|.it ((i:Int)+1)<|.r 1<|.d<|aa ((out++[([]++ab)]),ag,ah,i+1) _ _ AA (Z.to 0 [] 3) ⟨AB,(by grind)⟩ (by (simp only []; omega))
theorem Ae (names:List (List Tag)) (h1:RepS w F a1 n1 c1 names) (p0:names.length≤1000000) (p1:∀ n∈names,n.length≤1000000):Calls Tryz.prog 80 [.slice a1 n1 c1].toArray w (Am fun rv w'=>VO 43 w.heap.size w' (names:List (List Tag)) rv∧Ext w w'):=by
 cases h1.len
 refine goT func80 ?_
 have Z:=(St.i0 F w).p h1
 refine .s<|.g<|.r 1<|.d<|.s<|.g<|RG.N0 (List Tag) 0 Z fun af w Z=>.r 1<|.d<|.s<|.s<|.g<|.r 3<|.d<|.b 0<|T.Lp (([]:List (List Tag)),af,(0:Nat),(0:Nat)) (fun (out,r_out,c_out,k)=>([(3,vS r_out out.length c_out),(7,.slice a1 names.length c1),(8,vI (names.length:Int)),(9,vI (k:Int))],[(0,.own 0 r_out 43 c_out out)],[],names.length - k,(k≤names.length)∧(out++names.drop k=names))) [] Z ⟨AB,AF⟩ ?_
 rintro ⟨out,r_out,c_out,k⟩ am w Z ⟨aj,ak⟩ aa
 refine .s<|.g<|.bp ((k:Int)< (names.length:Int)) (fun ac=>?_) (fun ac=>.d<|.s<|.cf<|.x 0 rfl<|.s<|.g<|.r 2<|.d<|T.Rt func80 results80 ⟨Z.rO 0 out (by grind),Z.xt⟩)
 exact .d<|.s<|.ct<|.sk<|.s<|.b 1<|.s<|.g<|gxb names k fun ab E al ae=>RG.Ix 0 E Z<|Z.el 0 E fun ao aq Z=>RG.Lh 0 0 Z<|.r 1<|.d<|.g<|.r 1<|RG.N0 Tag 0 Z fun ar w Z=>.r 1<|RG.An (hs:=by exact (by grind)) (hf:=.inr M3) 0 1 ([]:List Tag) ab Z fun au ax w Z=>RG.Nb 1 Z fun ay w Z=>RG.Ap (hs:=by exact (by grind)) 0 0 out ([]++ab) [0] (Z.sl 1) fun ag ah w Z=>.r 1<|.d<|.ib 1<|.g<|.it ((k:Int)+1)<|.r 1<|.d<|aa ((out++[([]++ab)]),ag,ah,k+1) _ _ AA (Z.to 0 [] 3) ⟨AB,(by grind)⟩ (by (simp only []; omega))
theorem Ft (b:List Row) (r:Row) (h1:RepS w F a1 n1 c1 b) (p0:b.length≤1000000):Calls Tryz.prog 147 [.slice a1 n1 c1,.agg #[.int .i64 r.t,.int .i64 r.v]].toArray w (Am fun rv w'=>VL (ge w.heap.size) w' (ED b r:List Row) rv∧Ext w w'):=by
 cases h1.len
 refine goT func147 ?_
 have Z:=(St.i0 F w).p h1
 refine .s<|.g<|RG.Np Z fun am w Z=>.r 1<|.d<|.s<|.g<|RG.N0 Row 0 Z fun ao w Z=>.r 1<|.d<|.s<|.g<|.r 1<|.d<|.s<|.s<|.g<|.r 1<|.d<|.b 0<|T.Lp (([]:List Row),ao,(0:Nat),false,(0:Nat)) (fun (out,r_out,c_out,put,i)=>([(0,.slice a1 b.length c1),(3,vP am),(5,vS r_out out.length c_out),(6,.bool put),(7,vI (i:Int))],[(0,.own 0 r_out 56 c_out out)],[],b.length - i,(i≤b.length)∧(out.length≤i+1)∧(put=false→out.length≤i)∧(Cl out r put (b.drop i)=ED b r))) [] Z ⟨(by simp [ED]),(by simp [ED]),(by simp [ED]),(by simp [ED])⟩ ?_
 rintro ⟨out,r_out,c_out,put,i⟩ aL w Z ⟨aD,aE,aF,aG⟩ E
 refine .s<|.s<|.g<|.r 3<|.bp ((i:Int)< (b.length:Int)) (fun af=>?_) (fun af=>?_)
 ·refine .d<|.ct<|.sk<|.s<|.b 1<|.s<|.s<|T.Gd 10 Z fun w Z=>?_
  cases aH:put
  ·exact .r [0,1,2,3,4]<|gxd b i fun ac aa aI=>GA.Ix 5 0 aa Z<|.r [6]<|Z.el 0 aa fun Z=>GA.Lh 7 0 0 Z<|.r [8]<|GA.Lb 9 1 Z<|GA.Dn Z fun w Z=>.bp (ac.t≥r.t) (fun ag=>.r 1<|.d<|.ct<|.s<|.g<|.r 1<|RG.Ln 1 Z<|RG.Nb 1 Z fun aM w Z=>RG.Ap 0 0 out r [] Z fun aq ar w Z=>.r 1<|.d<|.g<|.r 1<|.d<|.s<|T.Gd 7 Z fun w Z=>.r [0,1]<|GA.Ix 2 1 aa Z<|.r [3]<|GA.Lh 4 0 0 Z<|.r [5]<|GA.Lb 6 1 Z<|GA.Dn Z fun w Z=>.ne ac.t r.t (fun ah=>.d<|.ct<|.g<|.r 3<|RG.Ix 1 aa Z<|RG.Lg 0 0 Z<|RG.Nb 1 Z fun aN w Z=>RG.Ap 0 0 (out++[r]) ac [] Z fun au ax w Z=>.r 1<|.d<|.ib 1<|.g<|.r 1<|.it ((i:Int)+1)<|.r 1<|.d<|E (((out++[r])++[ac]),au,ax,true,i+1) _ _ AA (Z.to 0 [] 1) ⟨(by grind [Cl]),(by grind [Cl]),(by grind [Cl]),(by grind [Cl])⟩ (by (simp only []; omega))) fun ah=>.d<|.cf<|.sk<|.ib 1<|.g<|.r 1<|.it ((i:Int)+1)<|.r 1<|.d<|E ((out++[r]),aq,ar,true,i+1) _ _ AA (Z.to 0 [] 1) ⟨(by grind [Cl]),(by grind [Cl]),(by grind [Cl]),(by grind [Cl])⟩ (by (simp only []; omega))) fun ag=>.r 1<|.d<|.cf<|.sk<|.s<|T.Gd 7 Z fun w Z=>.r [0,1]<|GA.Ix 2 1 aa Z<|.r [3]<|GA.Lh 4 0 0 Z<|.r [5]<|GA.Lb 6 1 Z<|GA.Dn Z fun w Z=>.ne ac.t r.t (fun ai=>.d<|.ct<|.g<|.r 3<|RG.Ix 1 aa Z<|RG.Lg 0 0 Z<|RG.Nb 1 Z fun aO w Z=>RG.Ap 0 0 out ac [] Z fun ay az w Z=>.r 1<|.d<|.ib 1<|.g<|.r 1<|.it ((i:Int)+1)<|.r 1<|.d<|E ((out++[ac]),ay,az,false,i+1) _ _ AA (Z.to 0 [] 1) ⟨(by grind [Cl]),(by grind [Cl]),(by grind [Cl]),(by grind [Cl])⟩ (by (simp only []; omega))) fun ai=>.d<|.cf<|.sk<|.ib 1<|.g<|.r 1<|.it ((i:Int)+1)<|.r 1<|.d<|E (out,r_out,c_out,false,i+1) _ _ AA (Z.to 0 [] 1) ⟨(by grind [Cl]),(by grind [Cl]),(by grind [Cl]),(by grind [Cl])⟩ AB
  exact .r [0,1,2]<|GA.Sk Z fun w Z=>.r 2<|.d<|.cf<|.sk<|.s<|T.Gd 7 Z fun w Z=>.r [0,1]<|gxd b i fun ae ab aJ=>GA.Ix 2 0 ab Z<|.r [3]<|Z.el 0 ab fun Z=>GA.Lh 4 0 0 Z<|.r [5]<|GA.Lb 6 1 Z<|GA.Dn Z fun w Z=>.ne ae.t r.t (fun aj=>.d<|.ct<|.g<|.r 3<|RG.Ix 1 ab Z<|RG.Lg 0 0 Z<|RG.Nb 1 Z fun aP w Z=>RG.Ap 0 0 out ae [] Z fun aA aB w Z=>.r 1<|.d<|.ib 1<|.g<|.r 1<|.it ((i:Int)+1)<|.r 1<|.d<|E ((out++[ae]),aA,aB,true,i+1) _ _ AA (Z.to 0 [] 1) ⟨(by grind [Cl]),(by grind [Cl]),(by grind [Cl]),(by grind [Cl])⟩ (by (simp only []; omega))) fun aj=>.d<|.cf<|.sk<|.ib 1<|.g<|.r 1<|.it ((i:Int)+1)<|.r 1<|.d<|E (out,r_out,c_out,true,i+1) _ _ AA (Z.to 0 [] 1) ⟨(by grind [Cl]),(by grind [Cl]),(by grind [Cl]),(by grind [Cl])⟩ (by (simp only []; omega))
 refine .d<|.cf<|.x 0 rfl<|.s<|.s<|.g ?_
 cases aK:put
 ·exact .r 2<|.d<|.ct<|.g<|.r 1<|RG.Ln 1 Z<|RG.Nb 1 Z fun aQ w Z=>RG.Ap 0 0 out r [] Z fun aR aS w Z=>.r 1<|.d<|.s<|.g<|.r 2<|.d<|T.Rt func147 results147 ⟨Z.rM 0 (out++[r]) (by grind [Cl]),Z.xt⟩
 exact .r 2<|.d<|.cf<|.sk<|.s<|.g<|.r 2<|.d<|T.Rt func147 results147 ⟨Z.rM 0 out (by grind [Cl]),Z.xt⟩
theorem Em (t:Tag){F:Nat→Prop}   : Calls Tryz.prog 104 [.agg #[.string (bs t.key),.string (bs t.val)]].toArray w (Am fun rv w'=>rv=.bool (BZ t)∧Ext w w'):=by
 refine goT func104 ?_
 have Z:=St.i0 F w
 refine .s<|.g<|RG.Np Z fun ao w Z=>.r 1<|.d<|.s<|.g<|.r 1<|RG.Lb 0 Z<|RG.eqv (v:=vI (t.key.length:Int)) AA (Hv t.key)<|.eq (t.key.length:Int) 1 (fun af=>?_) (fun af=>.r 21<|.d<|T.rt func104 results104 (.bool false) ⟨(AG (by grind [EP,De,G6,J5])),Z.xt⟩)
 refine .r 2<|RG.Lb 0 Z<|RG.eqv (v:=vI (t.val.length:Int)) AA (Hv t.val)<|.eq (t.val.length:Int) 1 (fun ag=>?_) (fun ag=>.r 16<|.d<|T.rt func104 results104 (.bool false) ⟨(AG (by grind [EP,De,G6,J5])),Z.xt⟩)
 refine .r 3<|RG.Lb 0 Z ?_
 obtain ⟨E,ab⟩:∃ y,t.key[0]? = some y:=⟨_,AU AB⟩
 have ah:=UInt8.toNat_lt E
 refine RG.MH (t:=9) (s:=t.key) (k:=.i64) (i:=0) 0 AA AA AB ab<|.it ((E.toNat:Int))<|RG.C0 (DH (E.toNat:Int) 97 100 (F:=all)) Z fun w Z=>?_
 cases ac:(inR (E.toNat:Int) 97 100)
 ·exact .r 9<|.d<|T.rt func104 results104 (.bool false) ⟨(AG (by grind [EP,De,G6,J5])),Z.xt⟩
 refine .r 3<|RG.Lb 0 Z ?_
 obtain ⟨aa,ae⟩:∃ y,t.val[0]? = some y:=⟨_,AU AB⟩
 have al:=UInt8.toNat_lt aa
 exact RG.MH (t:=9) (s:=t.val) (k:=.i64) (i:=0) 0 AA AA AB ae<|.it ((aa.toNat:Int))<|RG.C0 (DH (aa.toNat:Int) 112 122 (F:=all)) Z fun w Z=>.r 2<|.d<|T.rt func104 results104 (.bool (inR (aa.toNat:Int) 112 122)) ⟨(AG (by grind [EP,De,G6,J5])),Z.xt⟩
theorem H2 (t:Tag){F:Nat→Prop}   : Calls Tryz.prog 138 [.agg #[.string (bs t.key),.string (bs t.val)]].toArray w (Am fun rv w'=>rv=.bool (BZ t)∧Ext w w'):=by
 refine goT func138 ?_
 have Z:=St.i0 F w
 refine .s<|.g<|RG.Np Z fun af w Z=>.r 1<|.d<|.s<|.g<|.r 1<|RG.Lb 0 Z<|RG.eqv (v:=vI (t.key.length:Int)) AA (Hv t.key)<|.eq (t.key.length:Int) 1 (fun E=>?_) (fun E=>.r 27<|.d<|T.rt func138 results138 (.bool false) ⟨(AG (by grind [EP,De,Dq,FX,FY])),Z.xt⟩)
 refine .r 2<|RG.Lb 0 Z<|RG.eqv (v:=.bool (!(Bn t.key [97]))) AA (TA t.key [97]) ?_
 cases ab:(Bn t.key [97])
 ·refine .r 3<|RG.Lb 0 Z<|RG.eqv (v:=.bool ((Ex t.key [100]))) AA (Vu t.key [100]) ?_
  cases ac:(Ex t.key [100])
  ·exact .r 18<|.d<|T.rt func138 results138 (.bool false) ⟨(AG (by grind [EP,De,Dq,FX,FY])),Z.xt⟩
  refine .r 3<|RG.Lb 0 Z<|RG.eqv (v:=vI (t.val.length:Int)) AA (Hv t.val)<|.eq (t.val.length:Int) 1 (fun aa=>?_) (fun aa=>.r 12<|.d<|T.rt func138 results138 (.bool false) ⟨(AG (by grind [EP,De,Dq,FX,FY])),Z.xt⟩)
  refine .r 3<|RG.Lb 0 Z<|RG.eqv (v:=.bool (!(Bn t.val [112]))) AA (TA t.val [112]) ?_
  cases ae:(Bn t.val [112])
  ·exact .r 3<|RG.Lb 0 Z<|RG.eqv (v:=.bool ((Ex t.val [122]))) AA (Vu t.val [122])<|.r 2<|.d<|T.rt func138 results138 (.bool (Ex t.val [122])) ⟨(AG (by grind [EP,De,Dq,FX,FY])),Z.xt⟩
  exact .r 7<|.d<|T.rt func138 results138 (.bool false) ⟨(AG (by grind [EP,De,Dq,FX,FY])),Z.xt⟩
 exact .r 23<|.d<|T.rt func138 results138 (.bool false) ⟨(AG (by grind [EP,De,Dq,FX,FY])),Z.xt⟩
theorem Dy (a:List Int) (b:List Int) (h1:RepS w F a1 n1 c1 a) (h2:RepS w F a2 n2 c2 b)  : Calls Tryz.prog 117 [.slice a1 n1 c1,.slice a2 n2 c2].toArray w (Am fun rv w'=>rv=.bool ((a==b))∧Ext w w'):=by
 cases h1.len
 cases h2.len
 refine goT func117 ?_
 have Z:=((St.i0 F w).p h1).p h2
 have ak:=h1.max
 refine .s<|.g<|.r 1<|.d<|.s<|.s<|.g<|.r 4<|.ne (a.length:Int) (b.length:Int) (fun ac=>.d<|.ct<|.s<|.g<|.r 1<|.d<|T.rt func117 results117 (.bool false) ⟨(AG (by grind [Aa])),Z.xt⟩) fun ac=>.d<|.cf<|.sk<|.s<|.s<|.g<|.r 3<|.d<|.b 0<|T.Lp (0:Nat) (fun k=>([(0,.slice a1 a.length c1),(1,.slice a2 b.length c2),(12,vI (a.length:Int)),(13,vI (k:Int))],[],[],a.length - k,(k≤a.length)∧(a.drop k=b.drop k↔a=b))) [] Z ⟨AD,AD⟩ ?_
 rintro k au w Z ⟨am,ao⟩ ab
 refine .s<|.g<|.bp ((k:Int)< (a.length:Int)) (fun ae=>?_) (fun ae=>.d<|.s<|.cf<|.x 0 rfl<|.s<|.g<|.r 1<|.d<|T.rt func117 results117 (.bool true) ⟨(AG (by grind [Aa])),Z.xt⟩)
 exact .d<|.s<|.ct<|.sk<|.s<|.b 1<|.s<|.g<|.r 2<|.d<|.s<|T.Gd 8 Z fun w Z=>.r [0,1]<|gxd a k fun ai E aq=>GA.Ix 2 1 E Z<|Z.el 1 E fun Z=>GA.Lh 3 0 0 Z<|.r [4,5]<|gxd b k fun aj aa ar=>GA.Ix 6 1 aa Z<|Z.el 1 aa fun Z=>GA.Lh 7 0 0 Z<|GA.Dn Z fun w Z=>.ne ai aj (fun af=>.d<|.ct<|.s<|.g<|.r 1<|.d<|T.rt func117 results117 (.bool false) ⟨(AG (by grind [Aa])),Z.xt⟩) fun af=>.d<|.cf<|.sk<|.ib 1<|.g<|.it ((k:Int)+1)<|.r 1<|.d<|ab (k+1) _ _ AA (Z.to 0 [] 2) ⟨AB,(by grind)⟩ (by (simp only []; omega))
theorem FL (a:List Int) (b:List Int) (h1:RepS w F a1 n1 c1 a) (h2:RepS w F a2 n2 c2 b)  : Calls Tryz.prog 25 [.slice a1 n1 c1,.slice a2 n2 c2].toArray w (Am fun rv w'=>rv=.bool ((a==b))∧Ext w w'):=by
 cases h1.len
 cases h2.len
 refine goT func25 ?_
 have Z:=((St.i0 F w).p h1).p h2
 have ak:=h1.max
 refine .s<|.g<|.r 1<|.d<|.s<|.s<|.g<|.r 4<|.ne (a.length:Int) (b.length:Int) (fun ac=>.d<|.ct<|.s<|.g<|.r 1<|.d<|T.rt func25 results25 (.bool false) ⟨(AG (by grind [Aa])),Z.xt⟩) fun ac=>.d<|.cf<|.sk<|.s<|.s<|.g<|.r 1<|.d<|.b 0<|T.Lp (0:Nat) (fun i=>([(0,.slice a1 a.length c1),(1,.slice a2 b.length c2),(5,vI (i:Int))],[],[],a.length - i,(i≤a.length)∧(a.drop i=b.drop i↔a=b))) [] Z ⟨AD,AD⟩ ?_
 rintro i au w Z ⟨am,ao⟩ ab
 refine .s<|.s<|.g<|.r 3<|.bp ((i:Int)< (a.length:Int)) (fun ae=>?_) (fun ae=>.d<|.cf<|.x 0 rfl<|.s<|.g<|.r 1<|.d<|T.rt func25 results25 (.bool true) ⟨(AG (by grind [Aa])),Z.xt⟩)
 exact .d<|.ct<|.sk<|.s<|.b 1<|.s<|T.Gd 8 Z fun w Z=>.r [0,1]<|gxd a i fun ai E aq=>GA.Ix 2 1 E Z<|Z.el 1 E fun Z=>GA.Lh 3 0 0 Z<|.r [4,5]<|gxd b i fun aj aa ar=>GA.Ix 6 1 aa Z<|Z.el 1 aa fun Z=>GA.Lh 7 0 0 Z<|GA.Dn Z fun w Z=>.ne ai aj (fun af=>.d<|.ct<|.s<|.g<|.r 1<|.d<|T.rt func25 results25 (.bool false) ⟨(AG (by grind [Aa])),Z.xt⟩) fun af=>.d<|.cf<|.sk<|.ib 1<|.g<|.r 1<|.it ((i:Int)+1)<|.r 1<|.d<|ab (i+1) _ _ AA (Z.to 0 [] 2) ⟨AB,(by grind)⟩ (by (simp only []; omega))
theorem Cd (a:List Tag) (b:List Tag) (h1:RepS w F a1 n1 c1 a) (h2:RepS w F a2 n2 c2 b)  : Calls Tryz.prog 77 [.slice a1 n1 c1,.slice a2 n2 c2].toArray w (Am fun rv w'=>rv=.bool ((a==b))∧Ext w w'):=by
 cases h1.len
 cases h2.len
 refine goT func77 ?_
 have Z:=((St.i0 F w).p h1).p h2
 have aj:=h1.max
 refine .s<|.g<|.r 1<|.d<|.s<|.s<|.g<|.r 4<|.ne (a.length:Int) (b.length:Int) (fun ac=>.d<|.ct<|.s<|.g<|.r 1<|.d<|T.rt func77 results77 (.bool false) ⟨(AG (by grind [Aa])),Z.xt⟩) fun ac=>.d<|.cf<|.sk<|.s<|.s<|.g<|.r 3<|.d<|.b 0<|T.Lp (0:Nat) (fun k=>([(0,.slice a1 a.length c1),(1,.slice a2 b.length c2),(12,vI (a.length:Int)),(13,vI (k:Int))],[],[],a.length - k,(k≤a.length)∧(a.drop k=b.drop k↔a=b))) [] Z ⟨AD,AD⟩ ?_
 rintro k au w Z ⟨al,am⟩ ab
 refine .s<|.g<|.bp ((k:Int)< (a.length:Int)) (fun ae=>?_) (fun ae=>.d<|.s<|.cf<|.x 0 rfl<|.s<|.g<|.r 1<|.d<|T.rt func77 results77 (.bool true) ⟨(AG (by grind [Aa])),Z.xt⟩)
 refine .d<|.s<|.ct<|.sk<|.s<|.b 1<|.s<|.g<|.r 2<|.d<|.s<|T.Gd 8 Z fun w Z=>.r [0,1]<|gxd a k fun af E ao=>GA.Ix 2 1 E Z<|Z.el 1 E fun Z=>GA.Lg 3 0 0 Z<|.r [4,5]<|gxd b k fun ag aa aq=>GA.Ix 6 1 aa Z<|Z.el 1 aa fun Z=>GA.Lg 7 0 0 Z<|GA.Dn Z fun w Z=>RG.PF (t:=67) (x:=af) (y:=ag) AA AA ?_
 cases ar:(af==ag)
 ·exact .d<|.ct<|.s<|.g<|.r 1<|.d<|T.rt func77 results77 (.bool false) ⟨(AG (by grind [Aa])),Z.xt⟩
 exact .d<|.cf<|.sk<|.ib 1<|.g<|.it ((k:Int)+1)<|.r 1<|.d<|ab (k+1) _ _ AA (Z.to 0 [] 2) ⟨AB,(by grind)⟩ (by (simp only []; omega))
theorem HQ (a:List Tag) (b:List Tag) (h1:RepS w F a1 n1 c1 a) (h2:RepS w F a2 n2 c2 b)  : Calls Tryz.prog 19 [.slice a1 n1 c1,.slice a2 n2 c2].toArray w (Am fun rv w'=>rv=.bool ((a==b))∧Ext w w'):=by
 cases h1.len
 cases h2.len
 refine goT func19 ?_
 have Z:=((St.i0 F w).p h1).p h2
 have aj:=h1.max
 refine .s<|.g<|.r 1<|.d<|.s<|.s<|.g<|.r 4<|.ne (a.length:Int) (b.length:Int) (fun ac=>.d<|.ct<|.s<|.g<|.r 1<|.d<|T.rt func19 results19 (.bool false) ⟨(AG (by grind [Aa])),Z.xt⟩) fun ac=>.d<|.cf<|.sk<|.s<|.s<|.g<|.r 1<|.d<|.b 0<|T.Lp (0:Nat) (fun i=>([(0,.slice a1 a.length c1),(1,.slice a2 b.length c2),(5,vI (i:Int))],[],[],a.length - i,(i≤a.length)∧(a.drop i=b.drop i↔a=b))) [] Z ⟨AD,AD⟩ ?_
 rintro i au w Z ⟨al,am⟩ ab
 refine .s<|.s<|.g<|.r 3<|.bp ((i:Int)< (a.length:Int)) (fun ae=>?_) (fun ae=>.d<|.cf<|.x 0 rfl<|.s<|.g<|.r 1<|.d<|T.rt func19 results19 (.bool true) ⟨(AG (by grind [Aa])),Z.xt⟩)
 refine .d<|.ct<|.sk<|.s<|.b 1<|.s<|T.Gd 8 Z fun w Z=>.r [0,1]<|gxd a i fun af E ao=>GA.Ix 2 1 E Z<|Z.el 1 E fun Z=>GA.Lg 3 0 0 Z<|.r [4,5]<|gxd b i fun ag aa aq=>GA.Ix 6 1 aa Z<|Z.el 1 aa fun Z=>GA.Lg 7 0 0 Z<|GA.Dn Z fun w Z=>RG.PF (t:=67) (x:=af) (y:=ag) AA AA ?_
 cases ar:(af==ag)
 ·exact .d<|.ct<|.s<|.g<|.r 1<|.d<|T.rt func19 results19 (.bool false) ⟨(AG (by grind [Aa])),Z.xt⟩
 exact .d<|.cf<|.sk<|.ib 1<|.g<|.r 1<|.it ((i:Int)+1)<|.r 1<|.d<|ab (i+1) _ _ AA (Z.to 0 [] 2) ⟨AB,(by grind)⟩ (by (simp only []; omega))
theorem HR (a:List Row) (b:List Row) (h1:RepS w F a1 n1 c1 a) (h2:RepS w F a2 n2 c2 b)  : Calls Tryz.prog 82 [.slice a1 n1 c1,.slice a2 n2 c2].toArray w (Am fun rv w'=>rv=.bool ((a==b))∧Ext w w'):=by
 cases h1.len
 cases h2.len
 refine goT func82 ?_
 have Z:=((St.i0 F w).p h1).p h2
 have aj:=h1.max
 refine .s<|.g<|.r 1<|.d<|.s<|.s<|.g<|.r 4<|.ne (a.length:Int) (b.length:Int) (fun ac=>.d<|.ct<|.s<|.g<|.r 1<|.d<|T.rt func82 results82 (.bool false) ⟨(AG (by grind [Aa])),Z.xt⟩) fun ac=>.d<|.cf<|.sk<|.s<|.s<|.g<|.r 1<|.d<|.b 0<|T.Lp (0:Nat) (fun i=>([(0,.slice a1 a.length c1),(1,.slice a2 b.length c2),(5,vI (i:Int))],[],[],a.length - i,(i≤a.length)∧(a.drop i=b.drop i↔a=b))) [] Z ⟨AD,AD⟩ ?_
 rintro i au w Z ⟨al,am⟩ ab
 refine .s<|.s<|.g<|.r 3<|.bp ((i:Int)< (a.length:Int)) (fun ae=>?_) (fun ae=>.d<|.cf<|.x 0 rfl<|.s<|.g<|.r 1<|.d<|T.rt func82 results82 (.bool true) ⟨(AG (by grind [Aa])),Z.xt⟩)
 refine .d<|.ct<|.sk<|.s<|.b 1<|.s<|T.Gd 8 Z fun w Z=>.r [0,1]<|gxd a i fun af E ao=>GA.Ix 2 1 E Z<|Z.el 1 E fun Z=>GA.Lg 3 0 0 Z<|.r [4,5]<|gxd b i fun ag aa aq=>GA.Ix 6 1 aa Z<|Z.el 1 aa fun Z=>GA.Lg 7 0 0 Z<|GA.Dn Z fun w Z=>RG.Qs (t:=56) (x:=af) (y:=ag) AA AA ?_
 cases ar:(af==ag)
 ·exact .d<|.ct<|.s<|.g<|.r 1<|.d<|T.rt func82 results82 (.bool false) ⟨(AG (by grind [Aa])),Z.xt⟩
 exact .d<|.cf<|.sk<|.ib 1<|.g<|.r 1<|.it ((i:Int)+1)<|.r 1<|.d<|ab (i+1) _ _ AA (Z.to 0 [] 2) ⟨AB,(by grind)⟩ (by (simp only []; omega))
theorem MQ (n:List Tag) (t:Tag) (h1:RepS w F a1 n1 c1 n)  : Calls Tryz.prog 167 [.slice a1 n1 c1,.agg #[.string (bs t.key),.string (bs t.val)]].toArray w (Am fun rv w'=>rv=.bool (has n t)∧Ext w w'):=by
 cases h1.len
 refine goT func167 ?_
 have Z:=(St.i0 F w).p h1
 have ag:=h1.max
 refine .s<|.g<|RG.Np Z fun af w Z=>.r 1<|.d<|.s<|.s<|.g<|.r 1<|.d<|.b 0<|T.Lp (0:Nat) (fun i=>([(0,.slice a1 n.length c1),(3,vP af),(5,vI (i:Int))],[],[],n.length - i,(i≤n.length)∧(has (n.drop i) t=has n t))) [] Z ⟨AD,AD⟩ ?_
 rintro i al w Z ⟨ah,ai⟩ aa
 refine .s<|.s<|.g<|.r 3<|.bp ((i:Int)< (n.length:Int)) (fun ab=>?_) (fun ab=>.d<|.cf<|.x 0 rfl<|.s<|.g<|.r 1<|.d<|T.rt func167 results167 (.bool false) ⟨(AG (by grind [has])),Z.xt⟩)
 refine .d<|.ct<|.sk<|.s<|.b 1<|.s<|T.Gd 5 Z fun w Z=>.r [0,1]<|gxd n i fun ac E aj=>GA.Ix 2 0 E Z<|Z.el 0 E fun Z=>GA.Lg 3 0 0 Z<|GA.Ln 4 0 Z<|GA.Dn Z fun w Z=>RG.M8 (t:=67) (x:=ac) (y:=t) AA AA ?_
 cases ak:(ac==t)
 ·exact .d<|.cf<|.sk<|.ib 1<|.g<|.r 1<|.it ((i:Int)+1)<|.r 1<|.d<|aa (i+1) _ _ AA (Z.to 0 [] 1) ⟨AB,(by grind [has])⟩ (by (simp only []; omega))
 exact .d<|.ct<|.s<|.g<|.r 1<|.d<|T.rt func167 results167 (.bool true) ⟨(AG (by grind [has])),Z.xt⟩
theorem LA (names:List (List Tag)) (t:Tag) (h1:RepS w F a1 n1 c1 names) (p0:names.length≤1000000):Calls Tryz.prog 151 [.slice a1 n1 c1,.agg #[.string (bs t.key),.string (bs t.val)]].toArray w (Am fun rv w'=>VL (ge w.heap.size) w' (ids names t:List Int) rv∧Ext w w'):=by
 cases h1.len
 refine goT func151 ?_
 have Z:=(St.i0 F w).p h1
 refine .s<|.g<|RG.Np Z fun af w Z=>.r 1<|.d<|.s<|.g<|RG.N0 Int 0 Z fun ag w Z=>.r 1<|.d<|.s<|.s<|.g<|.r 1<|.d<|.b 0<|T.Lp (([]:List Int),ag,(0:Nat),(0:Nat)) (fun (out,r_out,c_out,i)=>([(0,.slice a1 names.length c1),(3,vP af),(5,vS r_out out.length c_out),(6,vI (i:Int))],[(0,.own 0 r_out 3 c_out out)],[],names.length - i,(i≤names.length)∧(out.length≤i)∧(out++HE t i (names.drop i)=ids names t))) [] Z ⟨(by simp [ids]),(by simp [ids]),(by simp [ids])⟩ ?_
 rintro ⟨out,r_out,c_out,i⟩ ar w Z ⟨ak,al,am⟩ E
 refine .s<|.s<|.g<|.r 3<|.bp ((i:Int)< (names.length:Int)) (fun ab=>?_) (fun ab=>.d<|.cf<|.x 0 rfl<|.s<|.g<|.r 2<|.d<|T.Rt func151 results151 ⟨Z.rM 0 out (by grind [HE]),Z.xt⟩)
 refine .d<|.ct<|.sk<|.s<|.b 1<|.s<|T.Gd 5 Z fun w Z=>.r [0,1]<|gxd names i fun ac aa ao=>GA.Ix 2 0 aa Z<|Z.el 0 aa fun au ax Z=>GA.Lh 3 0 0 Z<|GA.Ln 4 1 Z<|GA.Dn Z fun w Z=>RG.C0 (MQ ac t (Z.a 1)) Z fun w Z=>?_
 cases aq:(has ac t)
 ·exact .d<|.cf<|.sk<|.ib 1<|.g<|.r 1<|.it ((i:Int)+1)<|.r 1<|.d<|E (out,r_out,c_out,i+1) _ _ AA (Z.to 0 [] 2) ⟨(by grind [HE]),(by grind [HE]),(by grind [HE])⟩ (by (simp only []; omega))
 exact .d<|.ct<|.g<|.r 2<|.it ((i:Int)+1)<|RG.Nb 1 Z fun ay w Z=>RG.Ap 0 0 out ((i:Int)+1) [] Z fun ah ai w Z=>.r 1<|.d<|.ib 1<|.g<|.r 1<|.it ((i:Int)+1)<|.r 1<|.d<|E ((out++[(i:Int)+1]),ah,ai,i+1) _ _ AA (Z.to 0 [] 2) ⟨(by grind [HE]),(by grind [HE]),(by grind [HE])⟩ (by (simp only []; omega))
theorem GY (a:List Row) (b:List Row) (h1:RepS w F a1 n1 c1 a) (h2:RepS w F a2 n2 c2 b) (p0:a.length+b.length≤1000000):Calls Tryz.prog 145 [.slice a1 n1 c1,.slice a2 n2 c2].toArray w (Am fun rv w'=>VL (ge w.heap.size) w' (Bb a b:List Row) rv∧Ext w w'):=by
 cases h1.len
 cases h2.len
 refine goT func145 ?_
 have Z:=((St.i0 F w).p h1).p h2
 have aj:=h1.max
 have ak:=h2.max
 refine .s<|.g<|.r 1<|.d<|.s<|.g<|RG.N0 Row 0 Z fun ar w Z=>.r 1<|RG.An (hf:=.inr Bm) 0 1 ([]:List Row) a Z fun af ag w Z=>.r 1<|.d<|.s<|.s<|.g<|.r 1<|.d<|.b 0 ?_
 have Z:=Z.sl 0
 refine T.Lp ((([]++a):List Row),sA af,ag,(0:Nat)) (fun (out,a_out,c_out,i)=>([(1,.slice a2 b.length c2),(5,.slice a_out out.length c_out),(6,vI (i:Int))],[],[⟨0,none,.rep a_out c_out out⟩],b.length - i,(i≤b.length)∧(out.length≤a.length+i)∧((b.drop i).foldl ED out=Bb a b))) [0] Z ⟨(by simp [Bb]),(by simp [Bb]),(by simp [Bb])⟩ ?_
 rintro ⟨out,a_out,c_out,i⟩ au w Z ⟨al,am,ao⟩ aa
 refine .s<|.s<|.g<|.r 3<|.bp ((i:Int)< (b.length:Int)) (fun ab=>?_) (fun ab=>.d<|.cf<|.x 0 rfl<|.s<|.g<|.r 2<|.d<|T.Rt func145 results145 ⟨Z.rL 0 out (by grind [Aa]),Z.xt⟩)
 exact .d<|.ct<|.sk<|.s<|.b 1<|.g<|.r 3<|gxd b i fun ac E aq=>RG.Ix 2 E Z<|Z.el 2 E fun Z=>RG.Lg 0 0 Z<|RG.CL (Ft out ac (Z.a 1) AB) Z fun ah ai w Z=>.r 1<|.d<|.ib 1<|.g<|.r 1<|.it ((i:Int)+1)<|.r 1<|.d<|aa (ED out ac,ah,ai,i+1) _ _ AA (Z.to 0 [0] 3) ⟨(by grind [DF]),(by grind [DF]),(by grind [DF])⟩ (by (simp only []; omega))
theorem Fu (p:Prt) (id:Int) (h1:RepS w F a1 n1 c1 p.ids) (h2:RepS w F a2 n2 c2 p.blocks) (p0:p.ids.length≤p.blocks.length):Calls Tryz.prog 146 [.agg #[.slice a1 n1 c1,.slice a2 n2 c2],.int .i64 id].toArray w (Am fun rv w'=>VL (fo F w.heap.size) w' (partOf p id:List Row) rv∧Ext w w'):=by
 cases h1.len
 cases h2.len
 refine goT func146 ?_
 have Z:=((St.i0 F w).p h1).p h2
 have ak:=h1.max
 refine .s<|.g<|RG.Np Z fun ah w Z=>.r 1<|.d<|.s<|.s<|.g<|.r 1<|.d<|.b 0<|T.Lp (0:Nat) (fun i=>([(1,vI id),(2,vP ah),(5,vI (i:Int))],[],[],p.ids.length - i,(i≤p.ids.length)∧(Ba id (p.ids.drop i) (p.blocks.drop i)=partOf p id))) [] Z ⟨(by simp [partOf]),(by simp [partOf])⟩ ?_
 rintro i au w Z ⟨am,ao⟩ ab
 refine .s<|.s<|.g<|.r 2<|RG.Lb 0 Z<|.r 1<|.bp ((i:Int)< (p.ids.length:Int)) (fun ac=>?_) (fun ac=>.d<|.cf<|.x 0 rfl<|.s<|.g<|RG.N0 Row 1 Z fun ax w Z=>.r 1<|.d<|T.Rt func146 results146 ⟨Z.rM (g:=1) 0 ([]:List Row) (by grind [Ba,Aa]),Z.xt⟩)
 refine .d<|.ct<|.sk<|.s<|.b 1<|.s<|.g<|.r 1<|RG.Lb 0 Z<|.r 1<|gxd p.ids i fun ai E aq=>RG.Ix 1 E Z<|Z.el 1 E fun Z=>RG.Lh 0 0 Z<|.r 1<|.eq ai id (fun ae=>?_) (fun ae=>.d<|.cf<|.sk<|.ib 1<|.g<|.r 1<|.it ((i:Int)+1)<|.r 1<|.d<|ab (i+1) _ _ AA (Z.to 0 [] 1) ⟨(by have:=List.drop_eq_getElem_cons (l:=p.blocks) (i:=i) AB; grind [Ba]),(by have:=List.drop_eq_getElem_cons (l:=p.blocks) (i:=i) AB; grind [Ba])⟩ (by (simp only []; omega)))
 exact .d<|.ct<|.s<|.g<|.r 1<|RG.Lb 0 Z<|.r 1<|gxd p.blocks i fun aj aa ar=>RG.Ix 1 aa Z<|Z.el 1 aa fun ay az Z=>RG.Lh 0 0 Z<|.r 1<|.d<|T.Rt func146 results146 ⟨Z.rL (g:=1) 1 aj (by grind [Ba,Aa]),Z.xt⟩
theorem GZ (blocks:List (List Row)) (h1:RepS w F a1 n1 c1 blocks) (p0:blocks.length≤1000000) (p1:∀ b∈blocks,b.length≤1000000):Calls Tryz.prog 148 [.slice a1 n1 c1].toArray w (Am fun rv w'=>VS (ge w.heap.size) w' (Dx blocks:Prt) rv∧Ext w w'):=by
 cases h1.len
 refine goT func148 ?_
 have Z:=(St.i0 F w).p h1
 refine .s<|.g<|RG.Np Z fun ag w Z=>.d<|.s<|.g<|RG.N0 Int 0 Z fun ak w Z=>RG.N0 (List Row) 0 Z fun al w Z=>.r 1<|RG.Np Z fun af w Z=>RG.Ss 0 Z fun w Z=>.d<|.s<|.s<|.g<|.r 1<|.d<|.b 0<|T.Lp ((0:Nat),([]:List Int),ak,(0:Nat),([]:List (List Row)),al,(0:Nat)) (fun (i,E,r_p_0,c_p_0,aa,r_p_1,c_p_1)=>([(0,.slice a1 blocks.length c1),(2,vP ag),(3,vP af),(4,vI (i:Int))],[(0,.box af 48 [vS r_p_0 E.length c_p_0,vS r_p_1 aa.length c_p_1]),(1,.own 0 r_p_1 62 c_p_1 aa),(2,.own 0 r_p_0 3 c_p_0 E)],[],blocks.length - i,(i≤blocks.length)∧(E.length≤i)∧(aa.length≤i)∧(E++(BJ i (blocks.drop i)).1=(BJ 0 blocks).1)∧(aa++(BJ i (blocks.drop i)).2=(BJ 0 blocks).2))) [] Z ⟨AD,AD,AD,AD,AD⟩ ?_
 rintro ⟨i,E,r_p_0,c_p_0,aa,r_p_1,c_p_1⟩ aD w Z ⟨ax,ay,az,aA,aB⟩ ab
 refine .s<|.s<|.g<|.r 3<|.bp ((i:Int)< (blocks.length:Int)) (fun ah=>?_) (fun ah=>?_)
 ·exact .d<|.ct<|.sk<|.s<|.b 1<|.s<|.g<|.r 2<|gxb blocks i fun ae ac aC aj=>RG.Ix 0 ac Z<|Z.el 0 ac fun aE aF Z=>RG.Lh 0 0 Z<|.r 1<|.bp ((ae.length:Int) > 0) (fun ai=>.d<|.ct<|.s<|.g<|.r 1<|RG.Lb 0 Z<|.r 1<|.it ((i:Int)+1)<|RG.Nb 1 Z fun aG w Z=>RG.Ap (hs:=by exact (by grind)) 2 0 E ((i:Int)+1) [] Z fun am ao w Z=>.r 1<|RG.Ss 0 Z fun w Z=>.d<|T.GS 9 [af,ag] Z fun _ w Z=>.r [0]<|GA.Lb 1 0 Z<|.r [3,4]<|GA.Ix 5 2 ac Z<|GA.Lh 6 0 0 Z<|.go 2<|GE.N0 Row 0 Z fun aH w Z=>.go 7<|GE.An (hs:=by exact (by grind)) (hf:=.inr Bm) 0 1 ([]:List Row) ae [1,4] Z fun aI aJ w Z=>.go 8<|GE.Nb 1 Z fun aK w Z=>GA.Do Z fun w Z=>RG.Ap (hs:=by exact (by grind)) 1 0 aa ([]++ae) [0] (Z.sl 1) fun aq ar w Z=>.r 1<|RG.Ss 0 Z fun w Z=>.d<|.ib 1<|.g<|.r 1<|.it ((i:Int)+1)<|.r 1<|.d<|ab (i+1,(E++[(i:Int)+1]),am,ao,(aa++[([]++ae)]),aq,ar) _ _ AA (Z.to 0 [] 3) ⟨(by grind [BJ]),(by grind [BJ]),(by grind [BJ]),(by grind [BJ]),(by grind [BJ])⟩ (by (simp only []; omega))) fun ai=>.d<|.cf<|.sk<|.ib 1<|.g<|.r 1<|.it ((i:Int)+1)<|.r 1<|.d<|ab (i+1,E,r_p_0,c_p_0,aa,r_p_1,c_p_1) _ _ AA (Z.to 0 [] 2) ⟨(by grind [BJ]),(by grind [BJ]),(by grind [BJ]),(by grind [BJ]),(by grind [BJ])⟩ (by (simp only []; omega))
 refine .d<|.cf<|.x 0 rfl<|.s<|.g<|RG.Ln 0 Z<|RG.Ss 3 Z fun w Z=>.d ?_
 have Z:=(Z.sl 2).sl 1
 exact T.Rb 1 func148 results148 Z ⟨Z.rS (⟨E,aa⟩:Prt) [1,0] (by grind [BJ,Dx]),Z.xt⟩
end Go.Proofs.YtggnnidleedpaaaGreat
namespace Go.Proofs.YtggnnidleedpaaaGreat
set_option maxRecDepth 100000
set_option maxHeartbeats 4000000
variable {w:World} {F:Nat→Prop} {a1 a2:Option Addr} {n1 c1 n2 c2:Nat}
theorem FM (n:List Tag) (h1:RepS w F a1 n1 c1 n)  : Calls Tryz.prog 63 [.slice a1 n1 c1].toArray w (Am fun rv w'=>rv=.bool (Aq n)∧Ext w w'):=by
 cases h1.len
 refine goT func63 ?_
 have Z:=(St.i0 F w).p h1
 have aj:=h1.max
 refine .s<|.g<|.r 1<|.d<|.s<|.s<|.g<|.r 1<|.d<|.b 0<|T.Lp (0:Nat) (fun i=>([(0,.slice a1 n.length c1),(3,vI (i:Int))],[],[],n.length - i,(i≤n.length)∧(Dp (prev n i) (n.drop i)=Dp none n))) [] Z ⟨(by simp [prev]),(by simp [prev])⟩ ?_
 rintro i au w Z ⟨ak,al⟩ E
 refine .s<|.s<|.g<|.r 3<|.bp ((i:Int)< (n.length:Int)) (fun af=>?_) (fun af=>.d<|.cf<|.x 0 rfl<|.s<|.g<|.r 2<|RG.C0 (DH (n.length:Int) 1 3 (F:=all)) Z fun w Z=>.r 1<|.d<|T.rt func63 results63 (.bool (inR (n.length:Int) 1 3)) ⟨(AG (by grind [Dp,Aq,prev,Aa])),Z.xt⟩)
 refine .d<|.ct<|.sk<|.s<|.b 1<|.s<|T.Gd 21 Z fun w Z=>.r [0,1]<|gxb n i fun ac aa am ah=>GA.Ix 2 0 aa Z<|Z.el 0 aa fun Z=>GA.Lg 3 0 0 Z<|GA.C0 4 Z (fun w Z=>Em ac (F:=all)) ?_
 cases ao:(BZ ac)
 ·exact .r [5,6]<|GA.Sk Z fun w Z=>.r 3<|.d<|.ct<|.s<|.g<|.r 1<|.d<|T.rt func63 results63 (.bool false) ⟨(AG (by grind [Dp,Aq,prev,Aa])),Z.xt⟩
 refine .r [5,6,7]<|GA.F6 (i:=8) ((i:Int) > 0) AA (fun ag=>?_) (fun ag=>.r [9]<|GA.Sk Z fun w Z=>.r 3<|.d<|.cf<|.sk<|.ib 1<|.g<|.r 1<|.it ((i:Int)+1)<|.r 1<|.d<|E (i+1) _ _ AA (Z.to 0 [] 1) ⟨AB,(by grind [Dp,prev])⟩ (by (simp only []; omega)))
 refine .r [9,10,11]<|GA.int (i:=12) ((i:Int) - 1) AA AB<|gx n (i - 1) fun ae ab=>GA.Jx 13 1 ((i:Int) - 1) ab Z<|.r [14]<|Z.el 1 ab fun Z=>GA.Lh 15 0 0 Z<|.r [16,17]<|GA.Ix 18 2 aa Z<|.r [19]<|GA.Lh 20 1 0 Z<|GA.Dn Z fun w Z=>RG.eqv (v:=.bool (!(Bn ae.key ac.key))) AA (TA ae.key ac.key) ?_
 cases ar:(Bn ae.key ac.key)
 ·exact .r 2<|.d<|.ct<|.s<|.g<|.r 1<|.d<|T.rt func63 results63 (.bool false) ⟨(AG (by grind [Dp,Aq,prev,Aa])),Z.xt⟩
 exact .r 2<|.d<|.cf<|.sk<|.ib 1<|.g<|.r 1<|.it ((i:Int)+1)<|.r 1<|.d<|E (i+1) _ _ AA (Z.to 0 [] 2) ⟨AB,(by grind [Dp,prev])⟩ (by (simp only []; omega))
theorem DY (n:List Tag) (h1:RepS w F a1 n1 c1 n)  : Calls Tryz.prog 95 [.slice a1 n1 c1].toArray w (Am fun rv w'=>rv=.bool (Aq n)∧Ext w w'):=by
 cases h1.len
 refine goT func95 ?_
 have Z:=(St.i0 F w).p h1
 have aj:=h1.max
 refine .s<|.g<|.r 1<|.d<|.s<|.s<|.g<|.r 3<|.d<|.b 0<|T.Lp (0:Nat) (fun k=>([(0,.slice a1 n.length c1),(5,.slice a1 n.length c1),(6,vI (n.length:Int)),(7,vI (k:Int))],[],[],n.length - k,(k≤n.length)∧(Dp (prev n k) (n.drop k)=Dp none n))) [] Z ⟨(by simp [prev]),(by simp [prev])⟩ ?_
 rintro k au w Z ⟨ak,al⟩ E
 refine .s<|.g<|.bp ((k:Int)< (n.length:Int)) (fun af=>?_) (fun af=>.d<|.s<|.cf<|.x 0 rfl<|.s<|.g<|.r 2<|RG.C0 (Bv (n.length:Int) 1 3 (F:=all)) Z fun w Z=>.r 1<|.d<|T.rt func95 results95 (.bool (inR (n.length:Int) 1 3)) ⟨(AG (by grind [Dp,Aq,prev,Aa])),Z.xt⟩)
 refine .d<|.s<|.ct<|.sk<|.s<|.b 1<|.s<|.g<|.r 1<|gxb n k fun ac aa am ah=>RG.Ix 0 aa Z<|Z.el 0 aa fun Z=>RG.Lg 0 0 Z<|RG.Np Z fun ax w Z=>.r 1<|RG.Ss 0 Z fun w Z=>.d<|.s<|T.Gd 15 Z fun w Z=>GA.Ln 0 0 Z<|GA.C0 1 Z (fun w Z=>H2 ac (F:=all)) ?_
 cases ao:(BZ ac)
 ·exact .r [2,3]<|GA.Sk Z fun w Z=>.r 3<|.d<|.ct<|.s<|.g<|.r 1<|.d<|T.rt func95 results95 (.bool false) ⟨(AG (by grind [Dp,Aq,prev,Aa])),Z.xt⟩
 refine .r [2,3,4]<|GA.F6 (i:=5) ((k:Int) > 0) AA (fun ag=>?_) (fun ag=>.r [6]<|GA.Sk Z fun w Z=>.r 3<|.d<|.cf<|.sk<|.ib 1<|.g<|.it ((k:Int)+1)<|.r 1<|.d<|E (k+1) _ _ AA (Z.to 1 [] 1) ⟨AB,(by grind [Dp,prev])⟩ (by (simp only []; omega)))
 refine .r [6,7,8]<|GA.int (i:=9) ((k:Int) - 1) AA AB<|gx n (k - 1) fun ae ab=>GA.Jx 10 1 ((k:Int) - 1) ab Z<|.r [11]<|Z.el 1 ab fun Z=>GA.Lh 12 0 0 Z<|.r [13]<|GA.Lb 14 0 Z<|GA.Dn Z fun w Z=>RG.eqv (v:=.bool (!(Bn ae.key ac.key))) AA (TA ae.key ac.key) ?_
 cases ar:(Bn ae.key ac.key)
 ·exact .r 2<|.d<|.ct<|.s<|.g<|.r 1<|.d<|T.rt func95 results95 (.bool false) ⟨(AG (by grind [Dp,Aq,prev,Aa])),Z.xt⟩
 exact .r 2<|.d<|.cf<|.sk<|.ib 1<|.g<|.it ((k:Int)+1)<|.r 1<|.d<|E (k+1) _ _ AA (Z.to 1 [] 2) ⟨AB,(by grind [Dp,prev])⟩ (by (simp only []; omega))
theorem DI (b:List Row) (h1:RepS w F a1 n1 c1 b)  : Calls Tryz.prog 73 [.slice a1 n1 c1].toArray w (Am fun rv w'=>rv=.bool (Bf b)∧Ext w w'):=by
 cases h1.len
 refine goT func73 ?_
 have Z:=(St.i0 F w).p h1
 have ak:=h1.max
 refine .s<|.g<|.r 1<|.d<|.s<|.s<|.g<|.r 3<|.d<|.b 0<|T.Lp (0:Nat) (fun k=>([(0,.slice a1 b.length c1),(5,.slice a1 b.length c1),(6,vI (b.length:Int)),(7,vI (k:Int))],[],[],b.length - k,(k≤b.length)∧(Ca (prev b k) (b.drop k)=Ca none b))) [] Z ⟨(by simp [prev]),(by simp [prev])⟩ ?_
 rintro k au w Z ⟨al,am⟩ E
 refine .s<|.g<|.bp ((k:Int)< (b.length:Int)) (fun ae=>?_) (fun ae=>.d<|.s<|.cf<|.x 0 rfl<|.s<|.g<|.r 4<|.d<|T.rt func73 results73 (.bool (decide ((b.length:Int)≤24))) ⟨(AG (by grind [Ca,Bf,prev,Aa])),Z.xt⟩)
 refine .d<|.s<|.ct<|.sk<|.s<|.b 1<|.s<|.g<|.r 1<|gxb b k fun ac aa ao ah=>RG.Ix 0 aa Z<|Z.el 0 aa fun Z=>RG.Lg 0 0 Z<|RG.Np Z fun ax w Z=>.r 1<|RG.Ss 0 Z fun w Z=>.d<|.s<|T.Gd 15 Z fun w Z=>GA.Ln 0 0 Z<|GA.C0 1 Z (fun w Z=>Fs ac (F:=all)) ?_
 cases aq:(BU ac)
 ·exact .r [2,3]<|GA.Sk Z fun w Z=>.r 3<|.d<|.ct<|.s<|.g<|.r 1<|.d<|T.rt func73 results73 (.bool false) ⟨(AG (by grind [Ca,Bf,prev,Aa])),Z.xt⟩
 refine .r [2,3,4]<|GA.F6 (i:=5) ((k:Int) > 0) AA (fun af=>?_) (fun af=>.r [6]<|GA.Sk Z fun w Z=>.r 3<|.d<|.cf<|.sk<|.ib 1<|.g<|.it ((k:Int)+1)<|.r 1<|.d<|E (k+1) _ _ AA (Z.to 1 [] 1) ⟨AB,(by grind [Ca,prev])⟩ (by (simp only []; omega)))
 exact .r [6,7,8]<|GA.int (i:=9) ((k:Int) - 1) AA AB<|gx b (k - 1) fun aj ab=>GA.Jx 10 1 ((k:Int) - 1) ab Z<|.r [11]<|Z.el 1 ab fun Z=>GA.Lh 12 0 0 Z<|.r [13]<|GA.Lb 14 0 Z<|GA.Dn Z fun w Z=>.bp (aj.t≥ac.t) (fun ag=>.r 2<|.d<|.ct<|.s<|.g<|.r 1<|.d<|T.rt func73 results73 (.bool false) ⟨(AG (by grind [Ca,Bf,prev,Aa])),Z.xt⟩) fun ag=>.r 2<|.d<|.cf<|.sk<|.ib 1<|.g<|.it ((k:Int)+1)<|.r 1<|.d<|E (k+1) _ _ AA (Z.to 1 [] 2) ⟨AB,(by grind [Ca,prev])⟩ (by (simp only []; omega))
theorem C4 (p:Prt) (h1:RepS w F a1 n1 c1 p.ids) (h2:RepS w F a2 n2 c2 p.blocks)  : Calls Tryz.prog 39 [.agg #[.slice a1 n1 c1,.slice a2 n2 c2]].toArray w (Am fun rv w'=>rv=.bool (Au p)∧Ext w w'):=by
 cases h1.len
 cases h2.len
 refine goT func39 ?_
 have Z:=((St.i0 F w).p h1).p h2
 have aB:=h1.max
 refine .s<|.g<|RG.Np Z fun az w Z=>.r 1<|.d<|.s<|.s<|.g<|.r 1<|RG.Lb 0 Z<|.r 2<|RG.Lb 0 Z<|.r 1<|.ne (p.ids.length:Int) (p.blocks.length:Int) (fun aj=>.d<|.ct<|.s<|.g<|.r 1<|.d<|T.rt func39 results39 (.bool false) ⟨(AG (by grind [Bo,Au,prev,Aa])),Z.xt⟩) fun aj=>.d<|.cf<|.sk<|.s<|.s<|.g<|.r 1<|RG.Lb 0 Z<|.r 2<|.d<|.b 0<|T.Lp (0:Nat) (fun k=>([(1,vP az),(13,.slice a1 p.ids.length c1),(14,vI (p.ids.length:Int)),(15,vI (k:Int))],[],[],p.ids.length - k,(k≤p.ids.length)∧(Bo (prev p.ids k) (p.ids.drop k) (p.blocks.drop k)=Bo none p.ids p.blocks))) [] Z ⟨(by simp [prev]),(by simp [prev])⟩ ?_
 rintro k aN w Z ⟨aD,aE⟩ E
 refine .s<|.g<|.bp ((k:Int)< (p.ids.length:Int)) (fun ak=>?_) (fun ak=>.d<|.s<|.cf<|.x 0 rfl<|.s<|.g<|.r 1<|.d<|T.rt func39 results39 (.bool true) ⟨(AG (by grind [Bo,Au,prev,Aa])),Z.xt⟩)
 refine .d<|.s<|.ct<|.sk<|.s<|.b 1<|.s<|.g<|.r 1<|gxb p.ids k fun ag ac aF ar=>RG.Ix 1 ac Z<|Z.el 1 ac fun Z=>RG.Lh 0 0 Z<|.r 2<|.d<|.s<|.g<|.r 1<|RG.C0 (Bv ag 1 6 (F:=all)) Z fun w Z=>?_
 cases af:(inR ag 1 6)
 ·exact .r 33<|.d<|.ct<|.s<|.g<|.r 1<|.d<|T.rt func39 results39 (.bool false) ⟨(AG (by (have hdd:=List.drop_eq_getElem_cons (l:=p.blocks) (i:=k) AB; grind [Bo,Au,prev,Aa]))),Z.xt⟩
 refine .r 3<|.bp ((k:Int) > 0) (fun al=>?_) (fun al=>?_)
 ·refine .r 2<|RG.Lb 0 Z<|.r 1<|.it ((k:Int) - 1)<|gx p.ids (k - 1) fun aA ae=>RG.Jx 2 ((k:Int) - 1) ae Z<|Z.el 2 ae fun Z=>RG.Lh 0 0 Z<|.r 1<|.bp (aA≥ag) (fun am=>.r 20<|.d<|.ct<|.s<|.g<|.r 1<|.d<|T.rt func39 results39 (.bool false) ⟨(AG (by (have hdd:=List.drop_eq_getElem_cons (l:=p.blocks) (i:=k) AB; grind [Bo,Au,prev,Aa]))),Z.xt⟩) fun am=>.r 4<|RG.Lb 0 Z<|.r 1<|gxd p.blocks k fun ah aa aJ=>RG.Ix 2 aa Z<|Z.el 2 aa fun aO aP Z=>RG.Lh 0 0 Z<|RG.C0 (DI ah (Z.a 1)) Z fun w Z=>?_
  cases aK:(Bf ah)
  ·exact .r 11<|.d<|.ct<|.s<|.g<|.r 1<|.d<|T.rt func39 results39 (.bool false) ⟨(AG (by grind [Bo,Au,prev,Aa])),Z.xt⟩
  exact .r 4<|RG.Lb 0 Z<|.r 1<|RG.Ix 4 aa Z<|RG.Lh 0 0 Z<|.r 1<|.eq (ah.length:Int) 0 (fun ao=>.r 1<|.d<|.ct<|.s<|.g<|.r 1<|.d<|T.rt func39 results39 (.bool false) ⟨(AG (by grind [Bo,Au,prev,Aa])),Z.xt⟩) fun ao=>.r 1<|.d<|.cf<|.sk<|.ib 1<|.g<|.it ((k:Int)+1)<|.r 1<|.d<|E (k+1) _ _ AA (Z.to 0 [] 4) ⟨AB,(by grind [Bo,prev])⟩ (by (simp only []; omega))
 refine .r 13<|RG.Lb 0 Z<|.r 1<|gxd p.blocks k fun ai ab aL=>RG.Ix 1 ab Z<|Z.el 1 ab fun aQ aR Z=>RG.Lh 0 0 Z<|RG.C0 (DI ai (Z.a 1)) Z fun w Z=>?_
 cases aM:(Bf ai)
 ·exact .r 11<|.d<|.ct<|.s<|.g<|.r 1<|.d<|T.rt func39 results39 (.bool false) ⟨(AG (by grind [Bo,Au,prev,Aa])),Z.xt⟩
 exact .r 4<|RG.Lb 0 Z<|.r 1<|RG.Ix 3 ab Z<|RG.Lh 0 0 Z<|.r 1<|.eq (ai.length:Int) 0 (fun aq=>.r 1<|.d<|.ct<|.s<|.g<|.r 1<|.d<|T.rt func39 results39 (.bool false) ⟨(AG (by grind [Bo,Au,prev,Aa])),Z.xt⟩) fun aq=>.r 1<|.d<|.cf<|.sk<|.ib 1<|.g<|.it ((k:Int)+1)<|.r 1<|.d<|E (k+1) _ _ AA (Z.to 0 [] 3) ⟨AB,(by grind [Bo,prev])⟩ (by (simp only []; omega))
theorem Dz (s:List Int) (v:Int) (h1:RepS w F a1 n1 c1 s)  : Calls Tryz.prog 128 [.slice a1 n1 c1,.int .i64 v].toArray w (Am fun rv w'=>rv=.int .i64 (EJ v 0 s)∧Ext w w'):=by
 cases h1.len
 refine goT func128 ?_
 have Z:=(St.i0 F w).p h1
 have ag:=h1.max
 refine .s<|.g<|.r 1<|.d<|.s<|.s<|.g<|.r 3<|.d<|.b 0<|T.Lp (0:Nat) (fun k=>([(0,.slice a1 s.length c1),(1,vI v),(7,vI (s.length:Int)),(8,vI (k:Int))],[],[],s.length - k,(k≤s.length)∧(EJ v k (s.drop k)=EJ v 0 s))) [] Z ⟨AD,AD⟩ ?_
 rintro k ak w Z ⟨ah,ai⟩ aa
 refine .s<|.g<|.bp ((k:Int)< (s.length:Int)) (fun ab=>?_) (fun ab=>.d<|.s<|.cf<|.x 0 rfl<|.s<|.g<|.r 1<|.d<|T.rt func128 results128 (vI (-1)) ⟨(congrArg (Value.int .i64) (by grind [EJ,Aa])),Z.xt⟩)
 exact .d<|.s<|.ct<|.sk<|.s<|.b 1<|.s<|.g<|.r 2<|.d<|.s<|.g<|.r 3<|gxd s k fun af E aj=>RG.Ix 0 E Z<|Z.el 0 E fun Z=>RG.Lh 0 0 Z<|.eq v af (fun ac=>.d<|.ct<|.s<|.g<|.r 2<|.d<|T.rt func128 results128 (vI (k:Int)) ⟨(congrArg (Value.int .i64) (by grind [EJ,Aa])),Z.xt⟩) fun ac=>.d<|.cf<|.sk<|.ib 1<|.g<|.it ((k:Int)+1)<|.r 1<|.d<|aa (k+1) _ _ AA (Z.to 0 [] 1) ⟨AB,(by grind [EJ])⟩ (by (simp only []; omega))
theorem Ga (x:List Int) (h1:RepS w F a1 n1 c1 x) (p0:0< x.length):Calls Tryz.prog 86 [.slice a1 n1 c1].toArray w (Am fun rv w'=>rv=.int .i64 (maxOf x)∧Ext w w'):=by
 cases h1.len
 refine goT func86 ?_
 have Z:=(St.i0 F w).p h1
 have aj:=h1.max
 refine .s<|.g<|.r 1<|.d<|.s<|.s<|.g<|.r 2<|.bp ((x.length:Int)< 1) (fun ac=>.d<|.ct<|.g<|absurd (show False by omega) id) fun ac=>.d<|.cf<|.sk<|.s<|.g<|.r 1<|gxd x 0 fun ai E ak=>RG.Ix 0 E Z<|Z.el 0 E fun Z=>RG.Lh 0 0 Z<|.r 1<|.d<|.s<|.s<|.g<|.r 1<|.d<|.b 0<|T.Lp (ai,(1:Nat)) (fun (m,i)=>([(0,.slice a1 x.length c1),(3,vI m),(4,vI (i:Int))],[],[],x.length - i,(i≤x.length)∧(K9 m (x.drop i)=maxOf x))) [] Z ⟨AB,(by grind [maxOf])⟩ ?_
 rintro ⟨m,i⟩ aq w Z ⟨al,am⟩ ab
 refine .s<|.s<|.g<|.r 3<|.bp ((i:Int)< (x.length:Int)) (fun ae=>?_) (fun ae=>.d<|.cf<|.x 0 rfl<|.s<|.g<|.r 2<|.d<|T.rt func86 results86 (vI m) ⟨(congrArg (Value.int .i64) (by grind [K9,Aa])),Z.xt⟩)
 exact .d<|.ct<|.sk<|.s<|.b 1<|.g<|.r 3<|gxd x i fun af aa ao=>RG.Ix 1 aa Z<|Z.el 1 aa fun Z=>RG.Lh 0 0 Z<|.r 2<|.d<|.ib 1<|.g<|.r 1<|.it ((i:Int)+1)<|.r 1<|.d<|ab ((if af > m then af else m),i+1) _ _ AA (Z.to 0 [] 1) ⟨AB,(by grind [K9])⟩ (by (simp only []; omega))
theorem HS (n:List Tag) (h1:RepS w F a1 n1 c1 n) (p0:n.length≤1000000) (p1:∀ t∈n,t.key.length≤1000000∧t.val.length≤1000000):Calls Tryz.prog 166 [.slice a1 n1 c1].toArray w (Am fun rv w'=>rv=.string (bs (text n))∧Ext w w'):=by
 cases h1.len
 refine goT func166 ?_
 have Z:=(St.i0 F w).p h1
 refine .s<|.g<|.r 1<|.d<|.s<|.g<|.r 1<|.d<|.s<|.s<|.g<|.r 1<|.d<|.b 0<|T.Lp ([],(0:Nat)) (fun (out,i)=>([(0,.slice a1 n.length c1),(3,vT out),(4,vI (i:Int))],[],[],n.length - i,(i≤n.length)∧(out.length≤3000000 * i)∧(out++ET i (n.drop i)=text n))) [] Z ⟨(by simp [text]),(by simp [text]),(by simp [text])⟩ ?_
 rintro ⟨out,i⟩ ar w Z ⟨ak,al,am⟩ E
 refine .s<|.s<|.g<|.r 3<|.bp ((i:Int)< (n.length:Int)) (fun af=>?_) (fun af=>.d<|.cf<|.x 0 rfl<|.s<|.g<|.r 2<|.d<|T.rt func166 results166 (vT out) ⟨(congrArg (fun s=>Value.string (bs s)) (by grind [ET,Aa])),Z.xt⟩)
 refine .d<|.ct<|.sk<|.s<|.b 1<|.s<|.s<|.g<|.r 1<|.bp ((i:Int) > 0) (fun ag=>?_) (fun ag=>?_)
 ·exact .d<|.ct<|.g<|.r 1<|RG.cat (t:=9) (s:=out) (u:=[44]) AA (by grind)<|.r 1<|.d<|T.Gd 13 Z fun w Z=>.r [0,1,2]<|gxb n i fun ac aa ao ah=>GA.Ix 3 0 aa Z<|.r [4]<|Z.el 0 aa fun Z=>GA.Lh 5 0 0 Z<|GA.cat (i:=6) (t:=9) (s:=(out++[44])) (u:=ac.key) AA AA (by grind)<|GA.cat (i:=7) (t:=9) (s:=((out++[44])++ac.key)) (u:=[61]) AA AA (by grind)<|.r [8,9]<|GA.Ix 10 1 aa Z<|.r [11]<|GA.Lh 12 0 1 Z<|GA.Dn Z fun w Z=>RG.cat (t:=9) (s:=(((out++[44])++ac.key)++[61])) (u:=ac.val) AA (by grind)<|.r 1<|.d<|.ib 1<|.g<|.r 1<|.it ((i:Int)+1)<|.r 1<|.d<|E (((((out++[44])++ac.key)++[61])++ac.val),i+1) _ _ AA (Z.to 0 [] 1) ⟨AB,(by grind),(by grind [ET,HP])⟩ (by (simp only []; omega))
 exact .d<|.cf<|.sk<|T.Gd 13 Z fun w Z=>.r [0,1,2]<|gxb n i fun ae ab aq ai=>GA.Ix 3 0 ab Z<|.r [4]<|Z.el 0 ab fun Z=>GA.Lh 5 0 0 Z<|GA.cat (i:=6) (t:=9) (s:=out) (u:=ae.key) AA AA (by grind)<|GA.cat (i:=7) (t:=9) (s:=(out++ae.key)) (u:=[61]) AA AA (by grind)<|.r [8,9]<|GA.Ix 10 1 ab Z<|.r [11]<|GA.Lh 12 0 1 Z<|GA.Dn Z fun w Z=>RG.cat (t:=9) (s:=((out++ae.key)++[61])) (u:=ae.val) AA (by grind)<|.r 1<|.d<|.ib 1<|.g<|.r 1<|.it ((i:Int)+1)<|.r 1<|.d<|E ((((out++ae.key)++[61])++ae.val),i+1) _ _ AA (Z.to 0 [] 1) ⟨AB,(by grind),(by grind [ET,HP])⟩ (by (simp only []; omega))
end Go.Proofs.YtggnnidleedpaaaGreat
namespace Go.Proofs.YtggnnidleedpaaaGreat
set_option maxRecDepth 100000
set_option maxHeartbeats 4000000
variable {w:World} {F:Nat→Prop} {a1 a2 a3 a4 a5 a6 a7 a8:Option Addr} {n1 c1 n2 c2 n3 c3 n4 c4 n5 c5 n6 c6 n7 c7 n8 c8:Nat}
theorem LB  {F:Nat→Prop}   : Calls Tryz.prog 103 [].toArray w (Am fun rv w'=>VS (ge w.heap.size) w' ((⟨[],[]⟩:Idx):Idx) rv∧Ext w w'):=by
 refine goT func103 ?_
 have Z:=St.i0 F w
 refine .s<|.g<|RG.Np Z fun E w Z=>.d<|.s<|.g<|RG.N0 (List Tag) 0 Z fun aa w Z=>RG.N0 Pst 0 Z fun ab w Z=>.r 1<|RG.Ss 2 Z fun w Z=>.d ?_
 have Z:=(Z.sl 1).sl 0
 exact T.Rb 0 func103 results103 Z ⟨Z.rS (⟨([]:List (List Tag)),([]:List Pst)⟩:Idx) [1,0] AF,Z.xt⟩
theorem LC  {F:Nat→Prop}   : Calls Tryz.prog 61 [].toArray w (Am fun rv w'=>VS (ge w.heap.size) w' ((⟨⟨[],[]⟩,[],[]⟩:Sto):Sto) rv∧Ext w w'):=by
 refine goT func61 ?_
 have Z:=St.i0 F w
 refine .s<|.g<|RG.Np Z fun E w Z=>.d<|.s<|.g<|RG.CS (LB (F:=all)) Z fun aa ab ac ae w Z=>RG.N0 Prt 0 Z fun af w Z=>RG.N0 Smp 0 Z fun ag w Z=>.r 1<|RG.Ss 2 Z fun w Z=>.d ?_
 have Z:=(Z.sl 1).sl 0
 exact T.Rb 0 func61 results61 Z ⟨Z.rS (⟨(⟨((⟨[],[]⟩:Idx)).names,((⟨[],[]⟩:Idx)).AY⟩:Idx),([]:List Prt),([]:List Smp)⟩:Sto) [2,3,1,0] AF,Z.xt⟩
theorem KT  {F:Nat→Prop}   : Calls Tryz.prog 62 [].toArray w (Am fun rv w'=>VS (ge w.heap.size) w' ((⟨[],[],[],1⟩:Dsk):Dsk) rv∧Ext w w'):=by
 refine goT func62 ?_
 have Z:=St.i0 F w
 refine .s<|.g<|RG.Np Z fun E w Z=>.d<|.s<|.g<|RG.N0 Fil 0 Z fun aa w Z=>RG.N0 Int 0 Z fun ab w Z=>RG.N0 (List Tag) 0 Z fun ac w Z=>.r 1<|RG.Ss 3 Z fun w Z=>.d ?_
 have Z:=((Z.sl 2).sl 1).sl 0
 exact T.Rb 0 func62 results62 Z ⟨Z.rS (⟨([]:List Fil),([]:List Int),([]:List (List Tag)),1⟩:Dsk) [2,1,0] AF,Z.xt⟩
theorem GB  {F:Nat→Prop}   : Calls Tryz.prog 35 [].toArray w (Am fun rv w'=>VS (ge w.heap.size) w' ((⟨⟨⟨[],[]⟩,[],[]⟩,⟨[],[],[],1⟩⟩:Wld):Wld) rv∧Ext w w'):=by
 refine goT func35 ?_
 have Z:=St.i0 F w
 exact .s<|.g<|RG.Np Z fun E w Z=>.d<|.s<|.g<|RG.CS (LC (F:=all)) Z fun aa ab ac ae af ag ah ai w Z=>RG.CS (KT (F:=all)) Z fun aj ak al am ao aq w Z=>.r 1<|RG.Ss 0 Z fun w Z=>.d<|T.Rb 0 func35 results35 Z ⟨Z.rS (⟨(⟨(⟨(((⟨⟨[],[]⟩,[],[]⟩:Sto)).idx).names,(((⟨⟨[],[]⟩,[],[]⟩:Sto)).idx).AY⟩:Idx),((⟨⟨[],[]⟩,[],[]⟩:Sto)).parts,((⟨⟨[],[]⟩,[],[]⟩:Sto)).mem⟩:Sto),(⟨((⟨[],[],[],1⟩:Dsk)).files,((⟨[],[],[],1⟩:Dsk)).list,((⟨[],[],[],1⟩:Dsk)).names,((⟨[],[],[],1⟩:Dsk)).next⟩:Dsk)⟩:Wld) [3,4,5,6,0,1,2] AF,Z.xt⟩
theorem HT (a:Prt) (b:Prt) (h1:RepS w F a1 n1 c1 a.ids) (h2:RepS w F a2 n2 c2 a.blocks) (h3:RepS w F a3 n3 c3 b.ids) (h4:RepS w F a4 n4 c4 b.blocks)  : Calls Tryz.prog 44 [.agg #[.slice a1 n1 c1,.slice a2 n2 c2],.agg #[.slice a3 n3 c3,.slice a4 n4 c4]].toArray w (Am fun rv w'=>rv=.bool ((a==b))∧Ext w w'):=by
 cases h1.len
 cases h2.len
 cases h3.len
 cases h4.len
 refine goT func44 ?_
 have Z:=((((St.i0 F w).p h1).p h2).p h3).p h4
 have al:=h1.max
 have am:=h2.max
 have ao:=h3.max
 have aq:=h4.max
 refine .s<|.g<|RG.Np Z fun aj w Z=>RG.Np Z fun ak w Z=>.r 1<|.d<|.s<|.s<|.g<|.r 1<|RG.Lb 1 Z<|.r 1<|RG.Lb 0 Z<|RG.C0 (FL a.ids b.ids (Z.a 3) (Z.a 1)) Z fun w Z=>?_
 cases ar:(a.ids==b.ids)
 ·exact .r 10<|.d<|.ct<|.s<|.g<|.r 1<|.d<|T.rt func44 results44 (.bool false) ⟨(AG (by cases a; cases b; grind [Aa])),Z.xt⟩
 refine .r 3<|RG.Lb 1 Z<|.r 2<|RG.Lb 0 Z<|.r 1<|.ne (a.blocks.length:Int) (b.blocks.length:Int) (fun ac=>.r 1<|.d<|.ct<|.s<|.g<|.r 1<|.d<|T.rt func44 results44 (.bool false) ⟨(AG (by cases a; cases b; grind [Aa])),Z.xt⟩) fun ac=>.r 1<|.d<|.cf<|.sk<|.s<|.s<|.g<|.r 1<|.d<|.b 0<|T.Lp (0:Nat) (fun i=>([(2,vP aj),(3,vP ak),(5,vI (i:Int))],[],[],a.blocks.length - i,(i≤a.blocks.length)∧(a.blocks.drop i=b.blocks.drop i↔a.blocks=b.blocks))) [] Z ⟨AD,AD⟩ ?_
 rintro i aB w Z ⟨au,ax⟩ ab
 refine .s<|.s<|.g<|.r 2<|RG.Lb 1 Z<|.r 1<|.bp ((i:Int)< (a.blocks.length:Int)) (fun ae=>?_) (fun ae=>.d<|.cf<|.x 0 rfl<|.s<|.g<|.r 1<|.d<|T.rt func44 results44 (.bool true) ⟨(AG (by cases a; cases b; grind [Aa])),Z.xt⟩)
 refine .d<|.ct<|.sk<|.s<|.b 1<|.s<|T.Gd 10 Z fun w Z=>.r [0]<|GA.Lb 1 1 Z<|.r [2]<|gxb a.blocks i fun af E ay ah=>GA.Ix 3 2 E Z<|Z.el 2 E fun aC aD Z=>GA.Lh 4 0 0 Z<|.r [5]<|GA.Lb 6 0 Z<|.r [7]<|gxb b.blocks i fun ag aa az ai=>GA.Ix 8 2 aa Z<|Z.el 2 aa fun aE aF Z=>GA.Lh 9 0 0 Z<|GA.Dn Z fun w Z=>RG.C0 (HR af ag (Z.a 3) (Z.a 1)) Z fun w Z=>?_
 cases aA:(af==ag)
 ·exact .r 1<|.d<|.ct<|.s<|.g<|.r 1<|.d<|T.rt func44 results44 (.bool false) ⟨(AG (by cases a; cases b; grind [Aa])),Z.xt⟩
 exact .r 1<|.d<|.cf<|.sk<|.ib 1<|.g<|.r 1<|.it ((i:Int)+1)<|.r 1<|.d<|ab (i+1) _ _ AA (Z.to 0 [] 4) ⟨AB,(by grind)⟩ (by (simp only []; omega))
theorem Df (a:Prt) (b:Prt) (h1:RepS w F a1 n1 c1 a.ids) (h2:RepS w F a2 n2 c2 a.blocks) (h3:RepS w F a3 n3 c3 b.ids) (h4:RepS w F a4 n4 c4 b.blocks) (p0:Cv a) (p1:Cv b):Calls Tryz.prog 112 [.agg #[.slice a1 n1 c1,.slice a2 n2 c2],.agg #[.slice a3 n3 c3,.slice a4 n4 c4]].toArray w (Am fun rv w'=>VS (ge w.heap.size) w' (BC a b:Prt) rv∧Ext w w'):=by
 cases h1.len
 cases h2.len
 cases h3.len
 cases h4.len
 refine goT func112 ?_
 have Z:=((((St.i0 F w).p h1).p h2).p h3).p h4
 refine .s<|.g<|RG.Np Z fun aa w Z=>RG.Np Z fun ab w Z=>RG.Np Z fun ac w Z=>.d<|.s<|.g<|RG.N0 (List Row) 0 Z fun af w Z=>.r 1<|.d<|.s<|.s<|.g<|.r 1<|.d<|.b 0<|T.Lp (([]:List (List Row)),af,(0:Nat),(1:Nat)) (fun (blocks,r_blocks,c_blocks,id)=>([(2,vP aa),(3,vP ab),(4,vP ac),(5,vS r_blocks blocks.length c_blocks),(6,vI (id:Int))],[(0,.own 0 r_blocks 62 c_blocks blocks)],[],7 - id,(1≤id)∧(id≤7)∧(blocks=BT a b (id - 1)))) [] Z ⟨(by simp [BT]),(by simp [BT]),(by simp [BT])⟩ ?_
 rintro ⟨blocks,r_blocks,c_blocks,id⟩ ar w Z ⟨am,ao,aq⟩ E
 exact .s<|.s<|.g<|.r 1<|.bp ((id:Int)≤6) (fun ae=>.d<|.ct<|.sk<|.s<|.b 1<|T.GS 9 [ac,ab,aa] Z fun _ w Z=>.r [0]<|GA.Ln (q:=2) 1 3 Z<|.r [2]<|GA.Ln (q:=1) 4 2 Z<|.r [5]<|.go 3<|GE.CL (fun w Z=>Fu a (id:Int) (Z.mg 1 3) (Z.mg 1 2) (by grind [Cv])) Z fun au ax w Z=>.go 6<|GE.CL (fun w Z=>Fu b (id:Int) (Z.mg 1 2) (Z.mg 1 1) (by grind [Cv])) Z fun ay az w Z=>.go 7<|GE.CL (fun w Z=>GY (partOf a (id:Int)) (partOf b (id:Int)) (Z.a 1) (Z.a 0) (by have q1:=DG p0 id; have q2:=DG p1 id; omega)) Z fun aA aB w Z=>.go 8<|GE.Nb 1 Z fun aC w Z=>GA.Do Z fun w Z=>RG.Ap (hs:=by exact (by grind [Dr])) 0 0 blocks (Bb (partOf a (id:Int)) (partOf b (id:Int))) [0] Z fun ag ah w Z=>.r 1<|.d<|.ib 1<|.g<|.r 1<|.it ((id:Int)+1)<|.r 1<|.d<|E ((blocks++[Bb (partOf a (id:Int)) (partOf b (id:Int))]),ag,ah,id+1) _ _ AA (Z.to 0 [] 3) ⟨AB,AB,(by obtain ⟨q,rfl⟩:∃ q,id=q+1:=⟨id - 1,by omega⟩; have:=Hx a b q; grind)⟩ (by (simp only []; omega))) fun ae=>.d<|.cf<|.x 0 rfl<|.s<|.g<|.r 1<|RG.CS (GZ blocks (Z.oa 0) (by grind [Dr]) (by have q:=NA p0 p1 6; grind)) Z fun aD aE aF aG w Z=>RG.Ss 1 Z fun w Z=>.d<|T.Rb 1 func112 results112 Z ⟨Z.rS (Dx blocks) [0,1] (by grind [BC]),Z.xt⟩
theorem E1 (s:Sto) (id:Int) (h1:RepS w F a1 n1 c1 s.idx.names) (h2:RepS w F a2 n2 c2 s.idx.AY) (h3:RepS w F a3 n3 c3 s.parts) (h4:RepS w F a4 n4 c4 s.mem) (p0:s.parts.length≤100) (p1:∀ p∈s.parts,Cv p) (p2:s.mem.length≤1000):Calls Tryz.prog 108 [.agg #[.slice a1 n1 c1,.slice a2 n2 c2,.slice a3 n3 c3,.slice a4 n4 c4],.int .i64 id].toArray w (Am fun rv w'=>VL (ge w.heap.size) w' (rowsOf s id:List Row) rv∧Ext w w'):=by
 cases h1.len
 cases h2.len
 cases h3.len
 cases h4.len
 refine goT func108 ?_
 have Z:=((((St.i0 F w).p h1).p h2).p h3).p h4
 refine .s<|.g<|RG.Np Z fun ag w Z=>.r 1<|.d<|.s<|.g<|RG.N0 Row 0 Z fun am w Z=>.r 1<|.d<|.s<|.s<|.g<|.r 1<|.d<|.b 0 ?_
 have Z:=Z.sl 0
 refine T.Lp (([]:List Row),sA am,(0:Nat),(0:Nat)) (fun (out,a_out,c_out,i)=>([(1,vI id),(2,vP ag),(5,.slice a_out out.length c_out),(6,vI (i:Int))],[],[⟨0,none,.rep a_out c_out out⟩],s.parts.length - i,(i≤s.parts.length)∧(out.length≤1000 * i)∧((s.parts.drop i).foldl (Bq id) out=s.parts.foldl (Bq id) []))) [0] Z ⟨AD,AD,AD⟩ ?_
 rintro ⟨out,a_out,c_out,i⟩ aJ w Z ⟨aB,aC,aD⟩ ac
 refine .s<|.s<|.g<|.r 2<|RG.Lb 0 Z<|.r 1<|.bp ((i:Int)< (s.parts.length:Int)) (fun ah=>?_) (fun ah=>?_)
 ·exact .d<|.ct<|.sk<|.s<|.b 1<|.g<|.r 2<|RG.Lb 0 Z<|.r 1<|gxb s.parts i fun ae ab aE ak=>RG.Ix 3 ab Z<|Z.el 3 ab fun aK aL aM aN Z=>RG.Lg 0 0 Z<|.r 1<|RG.CL (Fu ae id (Z.mg 1 1) (Z.mg 1 2) (by grind [Cv])) Z fun aO aP w Z=>RG.CL (GY out (partOf ae id) (Z.a 4) (Z.a 0) (by grind [DG])) Z fun ao aq w Z=>.r 1<|.d<|.ib 1<|.g<|.r 1<|.it ((i:Int)+1)<|.r 1<|.d<|ac (Bb out (partOf ae id),ao,aq,i+1) _ _ AA (Z.to 0 [0] 6) ⟨AB,(by grind [Ha,DG]),(by grind [Bq,Ha,DG])⟩ (by (simp only []; omega))
 refine .d<|.cf<|.x 0 rfl<|.s<|.s<|.g<|.r 1<|.d<|.b 2<|T.Lp ((out:List Row),a_out,c_out,(0:Nat)) (fun (out,a_out,c_out,i)=>([(1,vI id),(2,vP ag),(5,.slice a_out out.length c_out),(7,vI (i:Int))],[],[⟨0,none,.rep a_out c_out out⟩],s.mem.length - i,(i≤s.mem.length)∧(out.length≤100000+i)∧((s.mem.drop i).foldl (CR id) out=rowsOf s id))) [0] Z ⟨(by grind [rowsOf,Aa]),(by grind [rowsOf,Aa]),(by grind [rowsOf,Aa])⟩ ?_
 rintro ⟨out,a_out,c_out,i⟩ aQ w Z ⟨aF,aG,aH⟩ E
 refine .s<|.s<|.g<|.r 2<|RG.Lb 0 Z<|.r 1<|.bp ((i:Int)< (s.mem.length:Int)) (fun ai=>?_) (fun ai=>.d<|.cf<|.x 2 rfl<|.s<|.g<|.r 2<|.d<|T.Rt func108 results108 ⟨Z.rL 0 out (by grind [Aa]),Z.xt⟩)
 exact .d<|.ct<|.sk<|.s<|.b 3<|.s<|.g<|.r 1<|RG.Lb 0 Z<|.r 1<|gxd s.mem i fun af aa aI=>RG.Ix 3 aa Z<|.r 1<|Z.el 3 aa fun Z=>RG.Lh 0 0 Z<|.r 1<|.eq af.id id (fun aj=>.d<|.ct<|.g<|.r 2<|RG.Lb 0 Z<|.r 1<|RG.Ix 4 aa Z<|.r 1<|RG.Lg 0 1 Z<|RG.CL (Ft out af.row (Z.a 1) AB) Z fun ar au w Z=>.r 1<|.d<|.ib 3<|.g<|.r 1<|.it ((i:Int)+1)<|.r 1<|.d<|E (ED out af.row,ar,au,i+1) _ _ AA (Z.to 0 [0] 3) ⟨(by grind [CR,DF]),(by grind [CR,DF]),(by grind [CR,DF])⟩ (by (simp only []; omega))) fun aj=>.d<|.cf<|.sk<|.ib 3<|.g<|.r 1<|.it ((i:Int)+1)<|.r 1<|.d<|E (out,a_out,c_out,i+1) _ _ AA (Z.to 0 [1] 2) ⟨(by grind [CR,DF]),(by grind [CR,DF]),(by grind [CR,DF])⟩ (by (simp only []; omega))
theorem En (d:Dsk) (num:Int) (h1:RepS w F a1 n1 c1 d.files) (h2:RepS w F a2 n2 c2 d.list) (h3:RepS w F a3 n3 c3 d.names)  : Calls Tryz.prog 113 [.agg #[.slice a1 n1 c1,.slice a2 n2 c2,.slice a3 n3 c3,.int .i64 d.next],.int .i64 num].toArray w (Am fun rv w'=>rv=.int .i64 (At d num)∧Ext w w'):=by
 cases h1.len
 cases h2.len
 cases h3.len
 refine goT func113 ?_
 have Z:=(((St.i0 F w).p h1).p h2).p h3
 have ah:=h1.max
 refine .s<|.g<|RG.Np Z fun af w Z=>.r 1<|.d<|.s<|.s<|.g<|.r 1<|.d<|.b 0<|T.Lp (0:Nat) (fun i=>([(1,vI num),(2,vP af),(5,vI (i:Int))],[],[],d.files.length - i,(i≤d.files.length)∧(DB num i (d.files.drop i)=At d num))) [] Z ⟨(by simp [At]),(by simp [At])⟩ ?_
 rintro i ao w Z ⟨ak,al⟩ aa
 refine .s<|.s<|.g<|.r 2<|RG.Lb 0 Z<|.r 1<|.bp ((i:Int)< (d.files.length:Int)) (fun ab=>?_) (fun ab=>.d<|.cf<|.x 0 rfl<|.s<|.g<|.r 1<|.d<|T.rt func113 results113 (vI (-1)) ⟨(congrArg (Value.int .i64) (by grind [DB,Aa])),Z.xt⟩)
 exact .d<|.ct<|.sk<|.s<|.b 1<|.s<|.g<|.r 1<|RG.Lb 0 Z<|.r 1<|gxd d.files i fun ag E am=>RG.Ix 2 E Z<|.r 1<|Z.el 2 E fun aq ar au ax Z=>RG.Lh 0 0 Z<|.r 1<|.eq ag.num num (fun ac=>.d<|.ct<|.s<|.g<|.r 2<|.d<|T.rt func113 results113 (vI (i:Int)) ⟨(congrArg (Value.int .i64) (by grind [DB,Aa])),Z.xt⟩) fun ac=>.d<|.cf<|.sk<|.ib 1<|.g<|.r 1<|.it ((i:Int)+1)<|.r 1<|.d<|aa (i+1) _ _ AA (Z.to 0 [] 3) ⟨AB,(by grind [DB])⟩ (by (simp only []; omega))
theorem MR (ix:Idx) (n:List Tag) (h1:RepS w F a1 n1 c1 ix.names) (h2:RepS w F a2 n2 c2 ix.AY) (h3:RepS w F a3 n3 c3 n) (p0:ix.names.length≤1000) (p1:∀ n∈ix.names,FZ n) (p2:FZ n):Calls Tryz.prog 144 [.agg #[.slice a1 n1 c1,.slice a2 n2 c2],.slice a3 n3 c3].toArray w (Am fun rv w'=>rv=.int .i64 (GP ix n)∧Ext w w'):=by
 cases h1.len
 cases h2.len
 cases h3.len
 refine goT func144 ?_
 have Z:=(((St.i0 F w).p h1).p h2).p h3
 refine .s<|.g<|RG.Np Z fun af w Z=>.r 1<|.d<|.s<|.s<|.g<|.r 1<|.d<|.b 0<|T.Lp (0:Nat) (fun i=>([(1,.slice a3 n.length c3),(2,vP af),(5,vI (i:Int))],[],[],ix.names.length - i,(i≤ix.names.length)∧(nmF (text n) i (ix.names.drop i)=GP ix n))) [] Z ⟨(by simp [GP]),(by simp [GP])⟩ ?_
 rintro i ao w Z ⟨aj,ak⟩ aa
 refine .s<|.s<|.g<|.r 2<|RG.Lb 0 Z<|.r 1<|.bp ((i:Int)< (ix.names.length:Int)) (fun ac=>?_) (fun ac=>.d<|.cf<|.x 0 rfl<|.s<|.g<|.r 1<|.d<|T.rt func144 results144 (vI 0) ⟨(congrArg (Value.int .i64) (by grind [nmF,Aa])),Z.xt⟩)
 refine .d<|.ct<|.sk<|.s<|.b 1<|.s<|.g<|.r 1<|RG.Lb 0 Z<|.r 1<|gxb ix.names i fun ab E al ae=>RG.Ix 2 E Z<|Z.el 2 E fun aq ar Z=>RG.Lh 0 0 Z<|RG.C0 (HS ab (Z.a 1) (by grind [FZ]) (by grind [FZ])) Z fun w Z=>.r 1<|RG.C0 (HS n (Z.a 2) (by grind [FZ]) (by grind [FZ])) Z fun w Z=>RG.eqv (v:=.bool ((text ab==text n))) AA (Vs (text ab) (text n)) ?_
 cases am:(text ab==text n)
 ·exact .d<|.cf<|.sk<|.ib 1<|.g<|.r 1<|.it ((i:Int)+1)<|.r 1<|.d<|aa (i+1) _ _ AA (Z.to 0 [] 2) ⟨AB,(by grind [nmF])⟩ (by (simp only []; omega))
 exact .d<|.ct<|.s<|.g<|.r 1<|.it ((i:Int)+1)<|.r 1<|.d<|T.rt func144 results144 (vI ((i:Int)+1)) ⟨(congrArg (Value.int .i64) (by grind [nmF,Aa])),Z.xt⟩
theorem Fa (d:Dsk) (num:Int) (h1:RepS w F a1 n1 c1 d.files) (h2:RepS w F a2 n2 c2 d.list) (h3:RepS w F a3 n3 c3 d.names)  : Calls Tryz.prog 150 [.agg #[.slice a1 n1 c1,.slice a2 n2 c2,.slice a3 n3 c3,.int .i64 d.next],.int .i64 num].toArray w (Am fun rv w'=>rv=.bool ((d.list.contains num))∧Ext w w'):=by
 cases h1.len
 cases h2.len
 cases h3.len
 refine goT func150 ?_
 have Z:=(((St.i0 F w).p h1).p h2).p h3
 have ai:=h2.max
 refine .s<|.g<|RG.Np Z fun af w Z=>.r 1<|.d<|.s<|.s<|.g<|.r 1<|.d<|.b 0<|T.Lp (0:Nat) (fun i=>([(1,vI num),(2,vP af),(5,vI (i:Int))],[],[],d.list.length - i,(i≤d.list.length)∧((d.list.drop i).contains num=d.list.contains num))) [] Z ⟨AD,AD⟩ ?_
 rintro i ao w Z ⟨ak,al⟩ aa
 refine .s<|.s<|.g<|.r 2<|RG.Lb 0 Z<|.r 1<|.bp ((i:Int)< (d.list.length:Int)) (fun ab=>?_) (fun ab=>.d<|.cf<|.x 0 rfl<|.s<|.g<|.r 1<|.d<|T.rt func150 results150 (.bool false) ⟨(AG (by grind [Aa])),Z.xt⟩)
 exact .d<|.ct<|.sk<|.s<|.b 1<|.s<|.g<|.r 1<|RG.Lb 0 Z<|.r 1<|gxd d.list i fun ag E am=>RG.Ix 1 E Z<|Z.el 1 E fun Z=>RG.Lh 0 0 Z<|.r 1<|.eq ag num (fun ac=>.d<|.ct<|.s<|.g<|.r 1<|.d<|T.rt func150 results150 (.bool true) ⟨(AG (by grind [Aa])),Z.xt⟩) fun ac=>.d<|.cf<|.sk<|.ib 1<|.g<|.r 1<|.it ((i:Int)+1)<|.r 1<|.d<|aa (i+1) _ _ AA (Z.to 0 [] 1) ⟨AB,(by grind)⟩ (by (simp only []; omega))
theorem KU (a:Idx) (b:Idx) (h1:RepS w F a1 n1 c1 a.names) (h2:RepS w F a2 n2 c2 a.AY) (h3:RepS w F a3 n3 c3 b.names) (h4:RepS w F a4 n4 c4 b.AY)  : Calls Tryz.prog 43 [.agg #[.slice a1 n1 c1,.slice a2 n2 c2],.agg #[.slice a3 n3 c3,.slice a4 n4 c4]].toArray w (Am fun rv w'=>rv=.bool ((a==b))∧Ext w w'):=by
 cases h1.len
 cases h2.len
 cases h3.len
 cases h4.len
 refine goT func43 ?_
 have Z:=((((St.i0 F w).p h1).p h2).p h3).p h4
 have aA:=h1.max
 have aB:=h2.max
 have aC:=h3.max
 have aD:=h4.max
 refine .s<|.g<|RG.Np Z fun ai w Z=>RG.Np Z fun aj w Z=>.r 1<|.d<|.s<|.s<|.g<|.r 1<|RG.Lb 1 Z<|.r 2<|RG.Lb 0 Z<|.r 1<|.ne (a.names.length:Int) (b.names.length:Int) (fun ak=>.r 9<|.d<|.ct<|.s<|.g<|.r 1<|.d<|T.rt func43 results43 (.bool false) ⟨(AG (by cases a; cases b; grind [Aa,Ey])),Z.xt⟩) fun ak=>.r 2<|RG.Lb 1 Z<|.r 2<|RG.Lb 0 Z<|.r 1<|.ne (a.AY.length:Int) (b.AY.length:Int) (fun al=>.r 1<|.d<|.ct<|.s<|.g<|.r 1<|.d<|T.rt func43 results43 (.bool false) ⟨(AG (by cases a; cases b; grind [Aa,Ey])),Z.xt⟩) fun al=>.r 1<|.d<|.cf<|.sk<|.s<|.s<|.g<|.r 1<|.d<|.b 0<|T.Lp (0:Nat) (fun k=>([(2,vP ai),(3,vP aj),(5,vI (k:Int))],[],[],a.names.length - k,(k≤a.names.length)∧(a.names.drop k=b.names.drop k↔a.names=b.names))) [] Z ⟨AD,AD⟩ ?_
 rintro k aQ w Z ⟨aE,aF⟩ ae
 refine .s<|.s<|.g<|.r 2<|RG.Lb 1 Z<|.r 1<|.bp ((k:Int)< (a.names.length:Int)) (fun am=>?_) (fun am=>?_)
 ·refine .d<|.ct<|.sk<|.s<|.b 1<|.s<|T.Gd 10 Z fun w Z=>.r [0]<|GA.Lb 1 1 Z<|.r [2]<|gxb a.names k fun ao ab aG au=>GA.Ix 3 3 ab Z<|Z.el 3 ab fun aR aS Z=>GA.Lh 4 0 0 Z<|.r [5]<|GA.Lb 6 0 Z<|.r [7]<|gxb b.names k fun aq ac aH ax=>GA.Ix 8 3 ac Z<|Z.el 3 ac fun aT aU Z=>GA.Lh 9 0 0 Z<|GA.Dn Z fun w Z=>RG.C0 (HQ ao aq (Z.a 3) (Z.a 1)) Z fun w Z=>?_
  cases aI:(ao==aq)
  ·exact .r 1<|.d<|.ct<|.s<|.g<|.r 1<|.d<|T.rt func43 results43 (.bool false) ⟨(AG (by cases a; cases b; grind [Aa,Ey])),Z.xt⟩
  exact .r 1<|.d<|.cf<|.sk<|.ib 1<|.g<|.r 1<|.it ((k:Int)+1)<|.r 1<|.d<|ae (k+1) _ _ AA (Z.to 0 [] 4) ⟨AB,(by grind)⟩ (by (simp only []; omega))
 refine .d<|.cf<|.x 0 rfl<|.s<|.s<|.g<|.r 1<|.d<|.b 2<|T.Lp (0:Nat) (fun k=>([(2,vP ai),(3,vP aj),(6,vI (k:Int))],[],[],a.AY.length - k,(k≤a.AY.length)∧(a.names=b.names)∧(a.AY.drop k=b.AY.drop k↔a.AY=b.AY))) [] Z ⟨(by grind [Aa]),(by grind [Aa]),(by grind [Aa])⟩ ?_
 rintro k aV w Z ⟨aJ,aK,aL⟩ af
 refine .s<|.s<|.g<|.r 2<|RG.Lb 1 Z<|.r 1<|.bp ((k:Int)< (a.AY.length:Int)) (fun ar=>?_) (fun ar=>.d<|.cf<|.x 2 rfl<|.s<|.g<|.r 1<|.d<|T.rt func43 results43 (.bool true) ⟨(AG (by cases a; cases b; grind [Aa,Ey])),Z.xt⟩)
 refine .d<|.ct<|.sk<|.s<|.b 3<|.s<|T.Gd 26 Z fun w Z=>.r [0]<|GA.Lb 1 1 Z<|.r [2]<|gxb a.AY k fun ag E aM ay=>GA.Ix 3 2 E Z<|.r [4]<|Z.el 2 E fun aW aX Z=>GA.Lg 5 0 0 Z<|.r [6]<|GA.Lb 7 0 Z<|.r [8]<|gxb b.AY k fun ah aa aN az=>GA.Ix 9 2 aa Z<|.r [10]<|Z.el 2 aa fun aY aZ Z=>GA.Lg 11 0 0 Z<|GA.PF (i:=12) (t:=67) (x:=ag.tag) (y:=ah.tag) AA AA AA ?_
 cases aO:(ag.tag==ah.tag)
 ·exact .r [13]<|GA.Sk Z fun w Z=>.r 3<|.d<|.ct<|.s<|.g<|.r 1<|.d<|T.rt func43 results43 (.bool false) ⟨(AG (by cases a; cases b; grind [Aa,Ey])),Z.xt⟩
 refine .r [13,14]<|GA.Lb 15 1 Z<|.r [16]<|GA.Ix 17 6 E Z<|.r [18]<|GA.Lh 19 2 2 Z<|.r [20]<|GA.Lb 21 0 Z<|.r [22]<|GA.Ix 23 4 aa Z<|.r [24]<|GA.Lh 25 0 2 Z<|GA.Dn Z fun w Z=>RG.C0 (FL ag.ids ah.ids (Z.a 3) (Z.a 1)) Z fun w Z=>?_
 cases aP:(ag.ids==ah.ids)
 ·exact .r 2<|.d<|.ct<|.s<|.g<|.r 1<|.d<|T.rt func43 results43 (.bool false) ⟨(AG (by cases a; cases b; grind [Aa,Ey])),Z.xt⟩
 exact .r 2<|.d<|.cf<|.sk<|.ib 3<|.g<|.r 1<|.it ((k:Int)+1)<|.r 1<|.d<|af (k+1) _ _ AA (Z.to 0 [] 4) ⟨(by grind [Ey]),(by grind [Ey]),(by grind [Ey])⟩ (by (simp only []; omega))
theorem KV (a:Sto) (b:Sto) (h1:RepS w F a1 n1 c1 a.idx.names) (h2:RepS w F a2 n2 c2 a.idx.AY) (h3:RepS w F a3 n3 c3 a.parts) (h4:RepS w F a4 n4 c4 a.mem) (h5:RepS w F a5 n5 c5 b.idx.names) (h6:RepS w F a6 n6 c6 b.idx.AY) (h7:RepS w F a7 n7 c7 b.parts) (h8:RepS w F a8 n8 c8 b.mem)  : Calls Tryz.prog 24 [.agg #[.slice a1 n1 c1,.slice a2 n2 c2,.slice a3 n3 c3,.slice a4 n4 c4],.agg #[.slice a5 n5 c5,.slice a6 n6 c6,.slice a7 n7 c7,.slice a8 n8 c8]].toArray w (Am fun rv w'=>rv=.bool ((a==b))∧Ext w w'):=by
 cases h1.len
 cases h2.len
 cases h3.len
 cases h4.len
 cases h5.len
 cases h6.len
 cases h7.len
 cases h8.len
 refine goT func24 ?_
 have Z:=((((((((St.i0 F w).p h1).p h2).p h3).p h4).p h5).p h6).p h7).p h8
 have aA:=h1.max
 have aB:=h2.max
 have aC:=h3.max
 have aD:=h4.max
 have aE:=h5.max
 have aF:=h6.max
 have aG:=h7.max
 have aH:=h8.max
 refine .s<|.g<|RG.Np Z fun ag w Z=>RG.Np Z fun ah w Z=>.r 1<|.d<|.s<|.s<|.g<|.r 1<|RG.Ln 1 Z<|.r 1<|RG.Ln 0 Z<|RG.C0 (KU a.idx b.idx (Z.a 7) (Z.a 6) (Z.a 3) (Z.a 2)) Z fun w Z=>?_
 cases aI:(a.idx==b.idx)
 ·exact .r 19<|.d<|.ct<|.s<|.g<|.r 1<|.d<|T.rt func24 results24 (.bool false) ⟨(AG (by cases a; cases b; grind [Aa])),Z.xt⟩
 refine .r 3<|RG.Lb 1 Z<|.r 2<|RG.Lb 0 Z<|.r 1<|.ne (a.parts.length:Int) (b.parts.length:Int) (fun ai=>.r 10<|.d<|.ct<|.s<|.g<|.r 1<|.d<|T.rt func24 results24 (.bool false) ⟨(AG (by cases a; cases b; grind [Aa])),Z.xt⟩) fun ai=>.r 3<|RG.Lb 1 Z<|.r 2<|RG.Lb 0 Z<|.r 1<|.ne (a.mem.length:Int) (b.mem.length:Int) (fun aj=>.r 1<|.d<|.ct<|.s<|.g<|.r 1<|.d<|T.rt func24 results24 (.bool false) ⟨(AG (by cases a; cases b; grind [Aa])),Z.xt⟩) fun aj=>.r 1<|.d<|.cf<|.sk<|.s<|.s<|.g<|.r 1<|.d<|.b 0<|T.Lp (0:Nat) (fun k=>([(2,vP ag),(3,vP ah),(5,vI (k:Int))],[],[],a.parts.length - k,(k≤a.parts.length)∧(a.idx=b.idx)∧(a.parts.drop k=b.parts.drop k↔a.parts=b.parts))) [] Z ⟨(by grind),(by grind),(by grind)⟩ ?_
 rintro k aW w Z ⟨aJ,aK,aL⟩ ae
 refine .s<|.s<|.g<|.r 2<|RG.Lb 1 Z<|.r 1<|.bp ((k:Int)< (a.parts.length:Int)) (fun ak=>?_) (fun ak=>?_)
 ·refine .d<|.ct<|.sk<|.s<|.b 1<|.s<|T.Gd 10 Z fun w Z=>.r [0]<|GA.Lb 1 1 Z<|.r [2]<|gxb a.parts k fun al E aM au=>GA.Ix 3 5 E Z<|Z.el 5 E fun aX aY aZ ba Z=>GA.Lg 4 0 0 Z<|.r [5]<|GA.Lb 6 0 Z<|.r [7]<|gxb b.parts k fun am aa aN ax=>GA.Ix 8 4 aa Z<|Z.el 4 aa fun bd bg bh bi Z=>GA.Lg 9 0 0 Z<|GA.Dn Z fun w Z=>RG.C0 (HT al am (Z.a 4) (Z.a 5) (Z.a 1) (Z.a 2)) Z fun w Z=>?_
  cases aO:(al==am)
  ·exact .r 1<|.d<|.ct<|.s<|.g<|.r 1<|.d<|T.rt func24 results24 (.bool false) ⟨(AG (by cases a; cases b; grind [Aa])),Z.xt⟩
  exact .r 1<|.d<|.cf<|.sk<|.ib 1<|.g<|.r 1<|.it ((k:Int)+1)<|.r 1<|.d<|ae (k+1) _ _ AA (Z.to 0 [] 6) ⟨(by grind),(by grind),(by grind)⟩ (by (simp only []; omega))
 refine .d<|.cf<|.x 0 rfl<|.s<|.s<|.g<|.r 1<|.d<|.b 2<|T.Lp (0:Nat) (fun k=>([(2,vP ag),(3,vP ah),(6,vI (k:Int))],[],[],a.mem.length - k,(k≤a.mem.length)∧(a.idx=b.idx)∧(a.parts=b.parts)∧(a.mem.drop k=b.mem.drop k↔a.mem=b.mem))) [] Z ⟨(by grind [Aa]),(by grind [Aa]),(by grind [Aa]),(by grind [Aa])⟩ ?_
 rintro k bj w Z ⟨aP,aQ,aR,aS⟩ af
 refine .s<|.s<|.g<|.r 2<|RG.Lb 1 Z<|.r 1<|.bp ((k:Int)< (a.mem.length:Int)) (fun ao=>?_) (fun ao=>.d<|.cf<|.x 2 rfl<|.s<|.g<|.r 1<|.d<|T.rt func24 results24 (.bool true) ⟨(AG (by cases a; cases b; grind [Aa])),Z.xt⟩)
 refine .d<|.ct<|.sk<|.s<|.b 3<|.s<|T.Gd 10 Z fun w Z=>.r [0]<|GA.Lb 1 1 Z<|.r [2]<|gxb a.mem k fun aq ab aT ay=>GA.Ix 3 4 ab Z<|Z.el 4 ab fun Z=>GA.Lg 4 0 0 Z<|.r [5]<|GA.Lb 6 0 Z<|.r [7]<|gxb b.mem k fun ar ac aU az=>GA.Ix 8 1 ac Z<|Z.el 1 ac fun Z=>GA.Lg 9 0 0 Z<|GA.Dn Z fun w Z=>RG.UK (t:=85) (x:=aq) (y:=ar) AA AA ?_
 cases aV:(aq==ar)
 ·exact .d<|.ct<|.s<|.g<|.r 1<|.d<|T.rt func24 results24 (.bool false) ⟨(AG (by cases a; cases b; grind [Aa])),Z.xt⟩
 exact .d<|.cf<|.sk<|.ib 3<|.g<|.r 1<|.it ((k:Int)+1)<|.r 1<|.d<|af (k+1) _ _ AA (Z.to 0 [] 2) ⟨(by grind),(by grind),(by grind),(by grind)⟩ (by (simp only []; omega))
end Go.Proofs.YtggnnidleedpaaaGreat
namespace Go.Proofs.YtggnnidleedpaaaGreat
def H3 (k v:Nat):Tag:=⟨[UInt8.ofNat k],[UInt8.ofNat v]⟩
def Fb (names:List (List Tag)) (t:Tag):List Pst:=if (ids names t).length > 0 then [⟨t,ids names t⟩] else []
def Fv (names:List (List Tag)) (k:Nat):Nat→Nat→List Pst
 | 0,_=>[]
 | f+1,v=>Fb names (H3 k v)++Fv names k f (v+1)
def Fw (names:List (List Tag)):Nat→Nat→List Pst
 | 0,_=>[]
 | f+1,k=>Fv names k 11 112++Fw names f (k+1)
def Dg (names:List (List Tag)):List Pst:=Fw names 4 97
def idxOf (names:List (List Tag)):Idx:=⟨names,Dg names⟩
def BQ (ix:Idx) (n:List Tag):Idx × Int × Bool :=
 if GP ix n > 0 then (ix,GP ix n,true)
 else if !Aq n || decide (ix.names.length≥6) then (ix,0,false)
 else (idxOf (ix.names++[n]),(ix.names.length:Int)+1,true)
def GQ (bl:List (List Row)) (m:Smp):List (List Row):=bl.set (m.id - 1).toNat (ED (bl.getD (m.id - 1).toNat []) m.row)
def Ai (mem:List Smp):Prt:=Dx (mem.foldl GQ [[],[],[],[],[],[]])
theorem Q2 (bl:List (List Row)) (m:Smp):(GQ bl m).length=bl.length:=by simp [GQ]
theorem TE {l:List Smp}{i:Nat}{xs:List (List Row)}{m:Smp}{x:List Row}{Y:List (List Row)}(hi:(l.drop i).foldl GQ xs=Y) (hd:l.drop i=m::l.drop (i+1)) (hx:xs[(m.id - 1).toNat]? = some x) :
 (l.drop (i+1)).foldl GQ (xs.set (m.id - 1).toNat (ED x m.row))=Y:=by
 rw [hd,List.foldl_cons] at hi
 have:GQ xs m=xs.set (m.id - 1).toNat (ED x m.row):=by unfold GQ; rw [List.getD_eq_getElem?_getD,hx]; rfl
 rw [this] at hi
 exact hi
theorem Uw {xs:List (List Row)}{j i:Nat}{x:List Row}{r:Row}(h:∀ b∈xs,b.length≤i) (hx:xs[j]? = some x):∀ b∈xs.set j (ED x r),b.length≤i+1:=by
 intro b hb
 rcases List.mem_or_eq_of_mem_set hb with hb | rfl
 ·have:=h b hb; omega
 ·have h1:=h x (AV hx)
  have h2:=DF x r
  omega
theorem Il (names:List (List Tag)) (k v:Nat) (h:v≤122):Fv names k (123 - v) v=Fb names (H3 k v)++Fv names k (123 - (v+1)) (v+1):=by
 rw [show 123 - v=(123 - (v+1))+1 by omega]
 rfl
theorem Pz (names:List (List Tag)) (k:Nat) (h:k≤100):Fw names (101 - k) k=Fv names k 11 112++Fw names (101 - (k+1)) (k+1):=by
 rw [show 101 - k=(101 - (k+1))+1 by omega]
 rfl
theorem OL (names:List (List Tag)) (k v:Nat) (h:123≤v):Fv names k (123 - v) v=[]:=by
 rw [show 123 - v=0 by omega]; rfl
theorem OM (names:List (List Tag)) (k:Nat) (h:101≤k):Fw names (101 - k) k=[]:=by
 rw [show 101 - k=0 by omega]; rfl
end Go.Proofs.YtggnnidleedpaaaGreat
namespace Go.Proofs.YtggnnidleedpaaaGreat
set_option maxRecDepth 100000
set_option maxHeartbeats 4000000
variable {w:World} {F:Nat→Prop} {a1 a2 a3 a4:Option Addr} {n1 c1 n2 c2 n3 c3 n4 c4:Nat}
theorem Eo (names:List (List Tag)) (h1:RepS w F a1 n1 c1 names) (p0:names.length≤1000) (p1:∀ n∈names,FZ n):Calls Tryz.prog 116 [.slice a1 n1 c1].toArray w (Am fun rv w'=>VS (ge w.heap.size) w' (idxOf names:Idx) rv∧Ext w w'):=by
 cases h1.len
 refine goT func116 ?_
 have Z:=(St.i0 F w).p h1
 refine .s<|.g<|RG.Np Z fun ac w Z=>.d<|.s<|.g<|RG.N0 Pst 0 Z fun ah w Z=>.r 1<|.d<|.s<|.s<|.g<|.r 1<|.d<|.b 0<|T.Lp (([]:List Pst),ah,(0:Nat),(97:Nat)) (fun (AY,r_posts,c_posts,k)=>([(0,.slice a1 names.length c1),(2,vP ac),(3,vS r_posts AY.length c_posts),(4,.int .i32 (k:Int))],[(0,.own 0 r_posts 117 c_posts AY)],[],101 - k,(97≤k)∧(k≤101)∧(AY.length≤11 * (k - 97))∧(AY++Fw names (101 - k) k=Dg names))) [] Z ⟨AB,AB,(by simp [Dg]),(by simp [Dg])⟩ ?_
 rintro ⟨AY,r_posts,c_posts,k⟩ aB w Z ⟨al,am,ao,aq⟩ ab
 refine .s<|.s<|.g<|.r 1<|.bp ((k:Int)≤100) (fun ae=>?_) (fun ae=>?_)
 ·refine .d<|.ct<|.sk<|.s<|.b 1<|.s<|.g<|.r 1<|.d<|.b 2<|T.Lp ((AY:List Pst),r_posts,c_posts,(112:Nat)) (fun (E,r_posts1,c_posts1,v)=>([(0,.slice a1 names.length c1),(2,vP ac),(3,vS r_posts1 E.length c_posts1),(4,.int .i32 (k:Int)),(5,.int .i32 (v:Int))],[(0,.own 0 r_posts1 117 c_posts1 E)],[],123 - v,(112≤v)∧(v≤123)∧(97≤k)∧(k≤100)∧(E.length≤11 * (k - 97)+(v - 112))∧(E++Fv names k (123 - v) v++Fw names (101 - (k+1)) (k+1)=Dg names))) [] Z ⟨AB,AB,AB,AB,AB,(by grind [Pz])⟩ ?_
  rintro ⟨E,r_posts1,c_posts1,v⟩ aC w Z ⟨ar,au,ax,ay,az,aA⟩ aa
  exact .s<|.s<|.g<|.r 1<|.bp ((v:Int)≤122) (fun af=>.d<|.ct<|.sk<|.s<|.b 3<|.s<|.g<|.r 1<|RG.eqv (v:=.string (bs [UInt8.ofNat k])) AA (UL k AB)<|.r 1<|RG.eqv (v:=.string (bs [UInt8.ofNat v])) AA (UL v AB)<|.r 1<|RG.Np Z fun aD w Z=>RG.Ss 0 Z fun w Z=>.d<|.s<|.g<|.r 1<|RG.Ln 0 Z<|RG.CL (LA names (⟨[UInt8.ofNat k],[UInt8.ofNat v]⟩:Tag) (Z.a 0) AB) Z fun aE aF w Z=>.r 1<|.d<|.s<|.g<|.r 2<|.bp ((((ids names (⟨[UInt8.ofNat k],[UInt8.ofNat v]⟩:Tag)).length):Int) > 0) (fun ag=>.d<|.ct<|.g<|.r 1<|RG.Ln 0 Z<|.r 2<|RG.Nb 1 Z fun aG w Z=>RG.Ap 1 0 E (⟨(⟨[UInt8.ofNat k],[UInt8.ofNat v]⟩:Tag),ids names (⟨[UInt8.ofNat k],[UInt8.ofNat v]⟩:Tag)⟩:Pst) [0] Z fun ai aj w Z=>.r 1<|.d<|.ib 3<|.g<|.r 1<|RG.int32 ((v:Int)+1) AA AB<|.r 1<|.d<|aa ((E++[(⟨(⟨[UInt8.ofNat k],[UInt8.ofNat v]⟩:Tag),ids names (⟨[UInt8.ofNat k],[UInt8.ofNat v]⟩:Tag)⟩:Pst)]),ai,aj,v+1) _ _ AA (Z.to 1 [] 1) ⟨AB,AB,AB,AB,(by grind [Il,Fb,H3]),(by grind [Il,Fb,H3])⟩ (by (simp only []; omega))) fun ag=>.d<|.cf<|.sk<|.ib 3<|.g<|.r 1<|RG.int32 ((v:Int)+1) AA AB<|.r 1<|.d<|aa (E,r_posts1,c_posts1,v+1) _ _ AA (Z.to 1 [] 1) ⟨AB,AB,AB,AB,AB,(by grind [Il,Fb,H3])⟩ (by (simp only []; omega))) fun af=>.d<|.cf<|.x 2 rfl<|.ib 1<|.g<|.r 1<|RG.int32 ((k:Int)+1) AA AB<|.r 1<|.d<|ab (E,r_posts1,c_posts1,k+1) _ _ AA (Z.to 0 [] 0) ⟨AB,AB,AB,(by grind [OL])⟩ (by (simp only []; omega))
 refine .d<|.cf<|.x 0 rfl<|.s<|.g<|.r 1<|RG.CO 0 (BO names (Z.a 0) (by grind [FZ]) (by grind [FZ])) Z fun aH aI w Z=>.r 2<|RG.Ss 2 Z fun w Z=>.d ?_
 have Z:=(Z.sl 0).sl 0
 exact T.Rb 0 func116 results116 Z ⟨Z.rS (⟨names,AY⟩:Idx) [1,0] (by grind [idxOf,OM]),Z.xt⟩
theorem EQ (s:Sto) (h1:RepS w F a1 n1 c1 s.idx.names) (h2:RepS w F a2 n2 c2 s.idx.AY) (h3:RepS w F a3 n3 c3 s.parts) (h4:RepS w F a4 n4 c4 s.mem) (p0:s.mem.length≤1000) (p1:∀ m∈s.mem,1≤m.id∧m.id≤6):Calls Tryz.prog 109 [.agg #[.slice a1 n1 c1,.slice a2 n2 c2,.slice a3 n3 c3,.slice a4 n4 c4]].toArray w (Am fun rv w'=>VS (ge w.heap.size) w' (Ai s.mem:Prt) rv∧Ext w w'):=by
 cases h1.len
 cases h2.len
 cases h3.len
 cases h4.len
 refine goT func109 ?_
 have Z:=((((St.i0 F w).p h1).p h2).p h3).p h4
 refine .s<|.g<|RG.Np Z fun al w Z=>RG.Np Z fun am w Z=>.d<|.s<|.g<|RG.Nl 0 ([([]:List Row),([]:List Row),([]:List Row),([]:List Row),([]:List Row),([]:List Row)]:List (List Row)) [[5],[4],[3],[2],[1],[0]] ((((((Z.nl Row).nl Row).nl Row).nl Row).nl Row).nl Row) fun ag w Z=>.r 1<|.d<|.s<|.s<|.g<|.r 1<|.d<|.b 0<|T.Lp ((0:Nat),([([]:List Row),([]:List Row),([]:List Row),([]:List Row),([]:List Row),([]:List Row)]:List (List Row))) (fun (i,xs)=>([(1,vP al),(2,vP am),(3,vS ag 6 6),(4,vI (i:Int))],[(0,.own 0 ag 62 6 xs)],[],s.mem.length - i,(i≤s.mem.length)∧(xs.length=6)∧(∀ b∈xs,b.length≤i)∧((s.mem.drop i).foldl GQ xs=s.mem.foldl GQ [[],[],[],[],[],[]]))) [] Z ⟨AD,AD,AD,AD⟩ ?_
 rintro ⟨i,xs⟩ aD w Z ⟨ax,ay,az,aA⟩ ac
 refine .s<|.s<|.g<|.r 2<|RG.Lb 2 Z<|.r 1<|.bp ((i:Int)< (s.mem.length:Int)) (fun ah=>?_) (fun ah=>.d<|.cf<|.x 0 rfl<|.s<|.g<|.r 1<|RG.CS (GZ xs (Z.ob' 0 6) AB (by intro b hb; have ae:=‹∀ b∈xs,b.length≤i› _ hb; omega)) Z fun aE aF aG aH w Z=>RG.Ss 1 Z fun w Z=>.d<|T.Rb 1 func109 results109 Z ⟨Z.rS (Dx xs) [0,1] (by have ae:=Aa (xs:=s.mem) (k:=i) AB; have ai:List.foldl GQ xs (s.mem.drop i)=_:=‹_›; rw [ae] at ai; unfold Ai; rw [← ai]; rfl),Z.xt⟩)
 exact .d<|.ct<|.sk<|.s<|.b 1<|.s<|.g<|.r 1<|RG.Lb 2 Z<|.r 1<|gxb (h:=AB) s.mem i fun aa ab aB aj=>RG.Ix 6 ab Z<|.r 1<|Z.el 6 ab fun Z=>RG.Lh 0 0 Z<|.r 1<|.d<|T.Gd 15 Z fun w Z=>.r [0,1]<|GA.int (i:=2) (aa.id - 1) AA (by (have:=p1 _ ‹_›; omega))<|.r [3,4]<|GA.int (i:=5) (aa.id - 1) AA (by (have:=p1 _ ‹_›; omega))<|gxm (h:=(by (have:=p1 _ ‹_›; omega))) xs ((aa.id - 1).toNat) fun af E ak=>GA.Ko (hz:=(by (have:=p1 _ ‹_›; omega))) (hn:=(by (have:=p1 _ ‹_›; omega))) 6 0 6 (aa.id - 1) E Z<|Z.eo 0 E fun aI aJ Z=>GA.Lt 7 0 0 Z<|.r [8]<|GA.Lb 9 2 Z<|.r [10]<|GA.Ix 11 8 ab Z<|.r [12]<|GA.Lg 13 1 1 Z<|.go 14<|GE.CL (fun w Z=>Ft af aa.row (Z.a 0) (by have ae:=‹∀ b∈xs,b.length≤i› _ ‹_›; omega)) Z fun aK aL w Z=>GA.Dn Z fun w Z=>RG.Ko (hz:=(by (have:=p1 _ ‹_›; omega))) (hn:=(by (have:=p1 _ ‹_›; omega))) 0 6 (aa.id - 1) E Z<|RG.Se 0 0 0 E (ED af aa.row) [0] Z fun w Z=>.d<|.ib 1<|.g<|.r 1<|RG.int ((i:Int)+1) AA AB<|.r 1<|.d<|ac (i+1,(xs.set ((aa.id - 1).toNat) (ED af aa.row))) _ _ AA (Z.to 0 [] 3) ⟨AB,(by simp; omega),(by exact Uw ‹_› ‹_›),(by exact TE ‹_› ‹_› ‹_›)⟩ (by (simp only []; omega))
end Go.Proofs.YtggnnidleedpaaaGreat
namespace Go.Proofs.YtggnnidleedpaaaGreat
def Q3 (x:Idx):Prop:=x.names.length≤1000∧∀ n∈x.names,FZ n
def LX (s:Sto):Prop:=Q3 s.idx∧s.parts.length≤100∧(∀ p∈s.parts,Cv p)∧s.mem.length≤900
def BE (s:Sto):Sto × Bool :=
 if s.mem.length=0∨s.parts.length≥6 then (s,false) else (⟨s.idx,s.parts++[Ai s.mem],[]⟩,true)
def Fx (ps:List Prt) (at_:Nat):List Prt:=match ps[at_]?,ps[at_+1]? with
 | some x,some y=>ps.take at_++[BC x y]++ps.drop (at_+2)
 | _,_=>ps
def BD (s:Sto) (at_:Int):Sto × Bool :=
 if inR at_ 0 ((s.parts.length:Int) - 2) then (⟨s.idx,Fx s.parts at_.toNat,s.mem⟩,true) else (s,false)
def FN (s:Sto) (n:List Tag) (r:Row):Sto:=⟨(BQ s.idx n).1,s.parts,s.mem++[⟨(BQ s.idx n).2.1,r⟩]⟩
def CA (s:Sto) (n:List Tag) (r:Row):Sto × Bool :=
 if !(BQ s.idx n).2.2 || !BU r || decide (s.mem.length≥20) then (s,false)
 else if (rowsOf (FN s n r) (BQ s.idx n).2.1).length > 24 then (s,false) else (FN s n r,true)
theorem Gc {ix:Idx}{n:List Tag}(h:GP ix n > 0):BQ ix n=(ix,GP ix n,true):=by unfold BQ; rw [if_pos h]
theorem FB {ix:Idx}{n:List Tag}(h:¬ GP ix n > 0) (h2:Aq n=false∨(ix.names.length:Int)≥6):BQ ix n=(ix,0,false):=by
 unfold BQ
 rw [if_neg h,if_pos]
 rcases h2 with h2 | h2
 ·simp [h2]
 ·simp; omega
theorem Ge {ix:Idx}{n:List Tag}(h:¬ GP ix n > 0) (h2:Aq n=true) (h3:¬ (ix.names.length:Int)≥6):BQ ix n=(idxOf (ix.names++[n]),(ix.names.length:Int)+1,true):=by
 unfold BQ
 rw [if_neg h,if_neg]
 simp [h2]
 omega
theorem G7 {ps:List Prt}{i:Nat}{x y:Prt}(hx:ps[i]? = some x) (hy:ps[i+1]? = some y):Fx ps i=ps.take i++[BC x y]++ps.drop (i+2):=by
 simp [Fx,hx,hy]
theorem KW {s:Sto}{n:List Tag}{r:Row}(h:(BQ s.idx n).2.2=false):CA s n r=(s,false):=by unfold CA; rw [if_pos (by simp [h])]
theorem KX {s:Sto}{n:List Tag}{r:Row}(h:BU r=false):CA s n r=(s,false):=by unfold CA; rw [if_pos (by simp [h])]
theorem ON {s:Sto}{n:List Tag}{r:Row}(h:(s.mem.length:Int)≥20):CA s n r=(s,false):=by unfold CA; rw [if_pos (by simp; omega)]
theorem Fy {s:Sto}{n:List Tag}{r:Row}(h1:(BQ s.idx n).2.2=true) (h2:BU r=true) (h3:¬ (s.mem.length:Int)≥20) (h:((rowsOf (FN s n r) (BQ s.idx n).2.1).length:Int) > 24):CA s n r=(s,false):=by
 unfold CA; rw [if_neg (by simp [h1,h2]; omega),if_pos AB]
theorem F0 {s:Sto}{n:List Tag}{r:Row}(h1:(BQ s.idx n).2.2=true) (h2:BU r=true) (h3:¬ (s.mem.length:Int)≥20) (h:¬ ((rowsOf (FN s n r) (BQ s.idx n).2.1).length:Int) > 24):CA s n r=(FN s n r,true):=by
 unfold CA; rw [if_neg (by simp [h1,h2]; omega),if_neg AB]
theorem KY {s:Sto}{a:Int}(h:inR a 0 ((s.parts.length:Int) - 2)=false):BD s a=(s,false):=by unfold BD; rw [if_neg (by simp [h])]
theorem KZ {s:Sto}{a:Int}{x y:Prt}(h:inR a 0 ((s.parts.length:Int) - 2)=true) (hx:s.parts[a.toNat]? = some x) (hy:s.parts[(a+1).toNat]? = some y) :
 BD s a=(⟨s.idx,(([]++(s.parts.take a.toNat).drop 0)++[BC x y])++((s.parts.take s.parts.length).drop (a+2).toNat),s.mem⟩,true):=by
 have h1:=By h
 have e1:(a+1).toNat=a.toNat+1:=by omega
 have e2:(a+2).toNat=a.toNat+2:=by omega
 rw [e1] at hy
 unfold BD
 rw [if_pos h,G7 hx hy,e2]
 simp
end Go.Proofs.YtggnnidleedpaaaGreat
namespace Go.Proofs.YtggnnidleedpaaaGreat
set_option maxRecDepth 100000
set_option maxHeartbeats 4000000
variable {w:World} {F:Nat→Prop} {a1 a2 a3 a4 a5:Option Addr} {n1 c1 n2 c2 n3 c3 n4 c4 n5 c5:Nat}
theorem LD (ix:Idx) (n:List Tag) (h1:RepS w F a1 n1 c1 ix.names) (h2:RepS w F a2 n2 c2 ix.AY) (h3:RepS w F a3 n3 c3 n) (p0:Q3 ix) (p1:FZ n):Calls Tryz.prog 106 [.agg #[.slice a1 n1 c1,.slice a2 n2 c2],.slice a3 n3 c3].toArray w (Am fun rv w'=>(∃ v0,rv=.tuple #[v0,.int .i64 ((BQ ix n).2.1),.bool ((BQ ix n).2.2)]∧VS (fo F w.heap.size) w' ((BQ ix n).1:Idx) v0)∧Ext w w'):=by
 cases h1.len
 cases h2.len
 cases h3.len
 refine goT func106 ?_
 have Z:=(((St.i0 F w).p h1).p h2).p h3
 have ae:=h1.max
 have ag:=h3.max
 refine .s<|.g<|RG.Np Z fun ab w Z=>RG.Np Z fun ai w Z=>.r 2<|.d<|.s<|.g<|RG.Ln 1 Z<|.r 1<|RG.C0 (MR ix n (Z.a 2) (Z.a 1) (Z.a 0) p0.1 p0.2 p1) Z fun w Z=>.r 1<|.d<|.s<|.s<|.g<|.r 1<|.bp (GP ix n > 0) (fun E=>.d<|.ct<|.s<|.g<|RG.Ln 1 Z<|.r 1<|RG.Ss 0 Z fun w Z=>.r 2<|.d<|T.r3 func106 results106 (.B 0 Z) (.t (vI (GP ix n))) (.t (.bool true)) ⟨⟨_,(MM rfl (congrArg (Value.int .i64) (by (rw [Gc ‹_›]))) (AG (by (rw [Gc ‹_›])))),Z.rS (g:=1) ix [2,1] (by (rw [Gc ‹_›]))⟩,Z.xt⟩) fun E=>.d<|.cf<|.sk<|.s<|.s<|.g<|.r 1<|RG.C0 (FM n (Z.a 0)) Z fun w Z=>?_
 cases ah:(Aq n)
 ·exact .r 7<|.d<|.ct<|.s<|.g<|RG.Ln 1 Z<|RG.Ss 0 Z fun w Z=>.r 2<|.d<|T.r3 func106 results106 (.B 0 Z) (.t (vI 0)) (.t (.bool false)) ⟨⟨_,(MM rfl (congrArg (Value.int .i64) (by (rw [FB ‹_› (.inl ‹_›)]))) (AG (by (rw [FB ‹_› (.inl ‹_›)])))),Z.rS (g:=1) ix [2,1] (by (rw [FB ‹_› (.inl ‹_›)]))⟩,Z.xt⟩
 exact .r 3<|RG.Lb 1 Z<|.r 1<|.bp ((ix.names.length:Int)≥6) (fun aa=>.r 1<|.d<|.ct<|.s<|.g<|RG.Ln 1 Z<|RG.Ss 0 Z fun w Z=>.r 2<|.d<|T.r3 func106 results106 (.B 0 Z) (.t (vI 0)) (.t (.bool false)) ⟨⟨_,(MM rfl (congrArg (Value.int .i64) (by (rw [FB ‹_› (.inr ‹_›)]))) (AG (by (rw [FB ‹_› (.inr ‹_›)])))),Z.rS (g:=1) ix [2,1] (by (rw [FB ‹_› (.inr ‹_›)]))⟩,Z.xt⟩) fun aa=>.r 1<|.d<|.cf<|.sk<|.s<|.g<|.r 1<|RG.Lb 1 Z<|RG.CO 1 (BO ix.names (Z.a 2) (by have:=p0.1; omega) (by intro n hn; have:=(p0.2 n hn).1; omega)) Z fun aj ak w Z=>RG.N0 Tag 1 Z fun al w Z=>.r 1<|RG.An (hs:=by (simp only [List.nil_append,List.length_nil,List.length_append,List.length_cons] <;> exact (by have:=p0.1; have:=p1.1; omega))) 0 0 ([]:List Tag) n Z fun am ao w Z=>RG.Nb 1 Z fun aq w Z=>RG.Ap (hs:=by exact (by have:=p0.1; have:=p1.1; omega)) 0 0 ix.names ([]++n) [0] (Z.sl 1) fun ar au w Z=>RG.CS (Eo (ix.names++[([]++n)]) (Z.oa 0) (by have:=p0.1; simp; omega) (by intro m hm; simp at hm; rcases hm with hm | rfl; exact p0.2 m hm; exact p1)) Z fun ax ay az aA w Z=>RG.Np Z fun ac w Z=>RG.Ss 0 Z fun w Z=>.d<|.s<|T.GS 5 [ac,ab] Z fun _ w Z=>GA.Ln 0 0 Z<|.r [1]<|GA.Lb 2 0 Z<|.r [3]<|.go 4<|GE.Ss 2 [0,3] Z fun w Z=>GA.Do Z fun w Z=>.r 2<|.d<|T.r3 func106 results106 (.B 2 Z) (.t (vI ((((idxOf (ix.names++[([]++n)])).names).length):Int))) (.t (.bool true)) ⟨⟨_,(MM rfl (congrArg (Value.int .i64) (by (rw [Ge ‹_› ‹_› ‹_›] <;> simp [idxOf]))) (AG (by (rw [Ge ‹_› ‹_› ‹_›] <;> simp [idxOf])))),Z.rS (g:=1) (idxOf (ix.names++[([]++n)])) [0,1] (by (rw [Ge ‹_› ‹_› ‹_›] <;> simp [idxOf]))⟩,Z.xt⟩
theorem Jf (s:Sto) (h1:RepS w F a1 n1 c1 s.idx.names) (h2:RepS w F a2 n2 c2 s.idx.AY) (h3:RepS w F a3 n3 c3 s.parts) (h4:RepS w F a4 n4 c4 s.mem) (p0:s.mem.length≤1000) (p1:∀ m∈s.mem,1≤m.id∧m.id≤6):Calls Tryz.prog 65 [.agg #[.slice a1 n1 c1,.slice a2 n2 c2,.slice a3 n3 c3,.slice a4 n4 c4]].toArray w (Am fun rv w'=>(∃ v0,rv=.tuple #[v0,.bool ((BE s).2)]∧VS (fo F w.heap.size) w' ((BE s).1:Sto) v0)∧Ext w w'):=by
 cases h1.len
 cases h2.len
 cases h3.len
 cases h4.len
 refine goT func65 ?_
 have Z:=((((St.i0 F w).p h1).p h2).p h3).p h4
 have ag:=h3.max
 refine .s<|.g<|RG.Np Z fun ab w Z=>RG.Np Z fun ac w Z=>.r 1<|.d<|.s<|.s<|.g<|.r 1<|RG.Lb 1 Z<|.r 1<|.eq (s.mem.length:Int) 0 (fun E=>.r 6<|.d<|.ct<|.s<|.g<|RG.Ln 1 Z<|RG.Ss 0 Z fun w Z=>.r 1<|.d<|T.r2 func65 results65 (.B 0 Z) (.t (.bool false)) ⟨⟨_,(Bx rfl (AG (by (unfold BE; (rw [if_pos AB]))))),Z.rS (g:=1) s [3,2,1,0] (by (unfold BE; (rw [if_pos AB])))⟩,Z.xt⟩) fun E=>.r 2<|RG.Lb 1 Z<|.r 1<|.bp ((s.parts.length:Int)≥6) (fun aa=>.r 1<|.d<|.ct<|.s<|.g<|RG.Ln 1 Z<|RG.Ss 0 Z fun w Z=>.r 1<|.d<|T.r2 func65 results65 (.B 0 Z) (.t (.bool false)) ⟨⟨_,(Bx rfl (AG (by (unfold BE; (rw [if_pos AB]))))),Z.rS (g:=1) s [3,2,1,0] (by (unfold BE; (rw [if_pos AB])))⟩,Z.xt⟩) fun aa=>.r 1<|.d<|.cf<|.sk<|.s<|T.GS 5 [ac,ab] Z fun _ w Z=>.r [1]<|GA.Lb (q:=1) 2 1 Z<|GA.Ln (q:=1) 4 1 Z<|.go 0<|GE.N0 Prt 1 Z fun ai w Z=>.go 3<|GE.An 0 1 ([]:List Prt) s.parts [1,2] Z fun aj ak w Z=>GA.Do Z fun w Z=>RG.CS (EQ s (Z.a 3) (Z.a 2) (Z.a 1) (Z.a 0) p0 p1) Z fun al am ao aq w Z=>RG.Nb 1 Z fun ar w Z=>RG.Ap 0 0 ([]++s.parts) (Ai s.mem) [0,1] Z fun au ax w Z=>.r 1<|RG.Ss 2 Z fun w Z=>.d<|.s<|.g<|RG.N0 Smp 1 Z fun ay w Z=>.r 1<|RG.Ss 3 Z fun w Z=>.d<|.s<|.g<|RG.Ln 3 Z<|RG.Ss 2 Z fun w Z=>.r 1<|.d ?_
 have Z:=(Z.sl 1).sl 0
 exact T.r2 func65 results65 (.B 0 Z) (.t (.bool true)) ⟨⟨_,(Bx rfl (AG (by (unfold BE; (rw [if_neg AB] <;> simp))))),Z.rS (g:=1) (⟨(⟨s.idx.names,s.idx.AY⟩:Idx),(([]++s.parts)++[(Ai s.mem)]),([]:List Smp)⟩:Sto) [7,6,1,0] (by (unfold BE; (rw [if_neg AB] <;> simp)))⟩,Z.xt⟩
theorem Jg (s:Sto) (at_:Int) (h1:RepS w F a1 n1 c1 s.idx.names) (h2:RepS w F a2 n2 c2 s.idx.AY) (h3:RepS w F a3 n3 c3 s.parts) (h4:RepS w F a4 n4 c4 s.mem) (p0:s.parts.length≤100) (p1:∀ p∈s.parts,Cv p):Calls Tryz.prog 68 [.agg #[.slice a1 n1 c1,.slice a2 n2 c2,.slice a3 n3 c3,.slice a4 n4 c4],.int .i64 at_].toArray w (Am fun rv w'=>(∃ v0,rv=.tuple #[v0,.bool ((BD s at_).2)]∧VS (fo F w.heap.size) w' ((BD s at_).1:Sto) v0)∧Ext w w'):=by
 cases h1.len
 cases h2.len
 cases h3.len
 cases h4.len
 refine goT func68 ?_
 have Z:=((((St.i0 F w).p h1).p h2).p h3).p h4
 refine .s<|.g<|RG.Np Z fun ah w Z=>RG.Np Z fun ai w Z=>.r 1<|.d<|.s<|.s<|.g<|.r 2<|RG.Lb 1 Z<|.r 1<|RG.int ((s.parts.length:Int) - 2) AA (by grind [inR])<|RG.C0 (DH at_ 0 ((s.parts.length:Int) - 2) (F:=all)) Z fun w Z=>?_
 cases ae:(inR at_ 0 ((s.parts.length:Int) - 2))
 ·exact .r 1<|.d<|.ct<|.s<|.g<|RG.Ln 1 Z<|RG.Ss 0 Z fun w Z=>.r 1<|.d<|T.r2 func68 results68 (.B 0 Z) (.t (.bool false)) ⟨⟨_,(Bx rfl (AG (by rw [KY ‹_›]))),Z.rS (g:=1) s [3,2,1,0] (by rw [KY ‹_›])⟩,Z.xt⟩
 have aq:=By ae
 refine .r 1<|.d<|.cf<|.sk<|.s<|.g<|RG.N0 Prt 1 Z fun ax w Z=>.r 1<|RG.Lb 2 Z<|.r 1<|RG.Sb (hlh:=(by grind [inR])) (hh:=(by grind [inR])) (hhi:=bdI at_) 1 0 (at_.toNat) s.parts Z fun ay az Z=>RG.An 0 0 ([]:List Prt) ((s.parts.take (at_.toNat)).drop 0) Z fun aA aB w Z=>.r 1<|.d<|.s<|T.GS 14 [ai,ah] Z fun _ w Z=>.r [0,1]<|GA.Lb (q:=1) 2 2 Z<|.r [3]<|gxm (h:=(by grind [inR])) s.parts (at_.toNat) fun ab E af=>GA.Jx (hz:=(by grind [inR])) 4 2 at_ E Z<|Z.el 2 E fun aC aD aE aF Z=>GA.Lg 5 0 0 Z<|.r [6]<|GA.Lb (q:=1) 7 2 Z<|.r [8]<|GA.int (i:=9) (at_+1) AA (by grind [inR])<|gxm (h:=(by grind [inR])) s.parts ((at_+1).toNat) fun ac aa ag=>GA.Jx (hz:=(by grind [inR])) 10 5 (at_+1) aa Z<|Z.el 5 aa fun aG aH aI aJ Z=>GA.Lg 11 0 0 Z<|.go 12<|GE.CS (fun w Z=>Df ab ac (Z.a 4) (Z.a 5) (Z.a 1) (Z.a 2) (by grind) (by grind)) Z fun aK aL aM aN w Z=>.go 13<|GE.Nb 1 Z fun aO w Z=>GA.Do Z fun w Z=>RG.Ap 0 0 ([]++((s.parts.take (at_.toNat)).drop 0)) (BC ab ac) [0,1] Z fun aP aQ w Z=>.r 1<|.d<|.s<|.g<|.r 2<|RG.Lb 2 Z<|.r 1<|RG.int (at_+2) AA (by grind [inR])<|RG.Sb (hlh:=(by grind [inR])) (hh:=(by grind [inR])) (hlo:=bdI (at_+2)) 10 ((at_+2).toNat) s.parts.length s.parts Z fun aR aS Z=>RG.An 0 0 (([]++((s.parts.take (at_.toNat)).drop 0))++[(BC ab ac)]) ((s.parts.take s.parts.length).drop ((at_+2).toNat)) Z fun aT aU w Z=>.r 1<|RG.Ss 2 Z fun w Z=>.d<|.s<|.g<|RG.Ln 2 Z<|RG.Ss 1 Z fun w Z=>.r 1<|.d ?_
 have Z:=Z.sl 0
 exact T.r2 func68 results68 (.B 0 Z) (.t (.bool true)) ⟨⟨_,(Bx rfl (AG (by rw [KZ ‹_› ‹_› ‹_›]))),Z.rS (g:=1) (⟨(⟨s.idx.names,s.idx.AY⟩:Idx),((([]++((s.parts.take (at_.toNat)).drop 0))++[(BC ab ac)])++((s.parts.take s.parts.length).drop ((at_+2).toNat))),s.mem⟩:Sto) [14,13,0,11] (by rw [KZ ‹_› ‹_› ‹_›])⟩,Z.xt⟩
theorem LF (s:Sto) (n:List Tag) (r:Row) (h1:RepS w F a1 n1 c1 s.idx.names) (h2:RepS w F a2 n2 c2 s.idx.AY) (h3:RepS w F a3 n3 c3 s.parts) (h4:RepS w F a4 n4 c4 s.mem) (h5:RepS w F a5 n5 c5 n) (p0:LX s) (p1:FZ n):Calls Tryz.prog 64 [.agg #[.slice a1 n1 c1,.slice a2 n2 c2,.slice a3 n3 c3,.slice a4 n4 c4],.slice a5 n5 c5,.agg #[.int .i64 r.t,.int .i64 r.v]].toArray w (Am fun rv w'=>(∃ v0,rv=.tuple #[v0,.bool ((CA s n r).2)]∧VS (fo F w.heap.size) w' ((CA s n r).1:Sto) v0)∧Ext w w'):=by
 cases h1.len
 cases h2.len
 cases h3.len
 cases h4.len
 cases h5.len
 refine goT func64 ?_
 have Z:=(((((St.i0 F w).p h1).p h2).p h3).p h4).p h5
 have am:=h4.max
 refine .s<|.g<|RG.Np Z fun ae w Z=>RG.Np Z fun af w Z=>RG.Np Z fun ag w Z=>.r 1<|.d<|.s<|.g<|.r 1<|RG.Ln 2 Z<|.r 1<|RG.CT (us:=[vI ((BQ s.idx n).2.1),.bool ((BQ s.idx n).2.2)]) (LD s.idx n (Z.mg 1 4) (Z.mg 1 3) (Z.mg 1 0) p0.1 p1) Z fun au ax ay az w Z=>.r 3 ?_
 cases aq:(BQ s.idx n).2.2
 ·exact .r 1<|RG.Np Z fun aA w Z=>RG.Ss 0 Z fun w Z=>.r 2<|.d<|.s<|.s<|.g<|.r 13<|.d<|.ct<|.s<|.g<|RG.Ln 3 Z<|RG.Ss 1 Z fun w Z=>.r 1<|.d<|T.r2 func64 results64 (.B 1 Z) (.t (.bool false)) ⟨⟨_,(Bx rfl (AG (by rw [KW ‹_›]))),Z.rS (g:=1) s [6,5,4,3] (by rw [KW ‹_›])⟩,Z.xt⟩
 refine .r 1<|RG.Np Z fun ah w Z=>RG.Ss 0 Z fun w Z=>.r 2<|.d<|.s<|.s<|.g<|.r 3<|RG.Ln 2 Z<|RG.C0 (MP r (F:=all)) Z fun w Z=>?_
 cases ar:(BU r)
 ·exact .r 8<|.d<|.ct<|.s<|.g<|RG.Ln 3 Z<|RG.Ss 1 Z fun w Z=>.r 1<|.d<|T.r2 func64 results64 (.B 1 Z) (.t (.bool false)) ⟨⟨_,(Bx rfl (AG (by rw [KX ‹_›]))),Z.rS (g:=1) s [6,5,4,3] (by rw [KX ‹_›])⟩,Z.xt⟩
 refine .r 4<|RG.Lb 3 Z<|.r 1<|.bp ((s.mem.length:Int)≥20) (fun E=>.r 1<|.d<|.ct<|.s<|.g<|RG.Ln 3 Z<|RG.Ss 1 Z fun w Z=>.r 1<|.d<|T.r2 func64 results64 (.B 1 Z) (.t (.bool false)) ⟨⟨_,(Bx rfl (AG (by rw [ON ‹_›]))),Z.rS (g:=1) s [6,5,4,3] (by rw [ON ‹_›])⟩,Z.xt⟩) fun E=>.r 1<|.d<|.cf<|.sk<|.s<|.g<|RG.Ln 3 Z<|RG.Np Z fun ai w Z=>RG.Ss 0 Z fun w Z=>.d<|.s<|.g<|RG.Ln 1 Z<|.r 1<|RG.Ss 0 Z fun w Z=>.d<|.s<|T.GS 8 [ai,ah,ag,af,ae] Z fun _ w Z=>.r [1]<|GA.Lb (q:=4) 2 4 Z<|.r [4]<|GA.Ln (q:=3) 5 3 Z<|.r [6]<|.tw 0 7 ?_ ?_
 ·refine GE.N0 Smp 1 Z fun aB w Z=>.tw 3 7 ?_ ?_
  ·refine GE.An (hs:=by (simp only [List.nil_append,List.length_nil,List.length_append,List.length_cons] <;> exact (by have:=p0.2.2.2; omega))) 0 3 ([]:List Smp) s.mem [1,2,3,4,5] Z fun aC aD w Z=>.go 7<|GE.Nb 1 Z fun aE w Z=>GA.Do Z fun w Z=>RG.Ap (hs:=by (simp only [List.nil_append,List.length_nil,List.length_append,List.length_cons] <;> exact (by have:=p0.2.2.2; omega))) 0 0 ([]++s.mem) (⟨(BQ s.idx n).2.1,(⟨r.t,r.v⟩:Row)⟩:Smp) [] Z fun aF aG w Z=>.r 1<|RG.Ss 1 Z fun w Z=>.d<|.s<|.s<|.g<|RG.Ln 1 Z<|.r 1<|RG.CL (E1 (⟨(⟨(BQ s.idx n).1.names,((BQ s.idx n).1).AY⟩:Idx),s.parts,(([]++s.mem)++[(⟨(BQ s.idx n).2.1,(⟨r.t,r.v⟩:Row)⟩:Smp)])⟩:Sto) ((BQ s.idx n).2.1) (Z.a 0) (Z.a 1) (Z.a 4) (Z.oa 0) p0.2.1 p0.2.2.1 (by have:=p0.2.2.2; simp; omega)) Z fun aH aI w Z=>.r 1<|.bp ((((rowsOf (⟨(⟨(BQ s.idx n).1.names,((BQ s.idx n).1).AY⟩:Idx),s.parts,(([]++s.mem)++[(⟨(BQ s.idx n).2.1,(⟨r.t,r.v⟩:Row)⟩:Smp)])⟩:Sto) ((BQ s.idx n).2.1)).length):Int) > 24) (fun aa=>.d<|.ct<|.s<|.g<|RG.Ln 5 Z<|RG.Ss 3 Z fun w Z=>.r 1<|.d<|T.r2 func64 results64 (.B 3 Z) (.t (.bool false)) ⟨⟨_,(Bx rfl (AG (by rw [Fy ‹_› ‹_› ‹_› ‹_›]))),Z.rS (g:=1) s [7,6,5,4] (by rw [Fy ‹_› ‹_› ‹_› ‹_›])⟩,Z.xt⟩) fun aa=>.d<|.cf<|.sk<|.s<|.g<|RG.Ln 1 Z<|RG.Ss 3 Z fun w Z=>.r 1<|.d ?_
   have Z:=Z.sl 0
   exact T.r2 func64 results64 (.B 2 Z) (.t (.bool true)) ⟨⟨_,(Bx rfl (AG (by (rw [F0 ‹_› ‹_› ‹_› ‹_›] <;> rfl)))),Z.rS (g:=1) (⟨(⟨(BQ s.idx n).1.names,((BQ s.idx n).1).AY⟩:Idx),s.parts,(([]++s.mem)++[(⟨(BQ s.idx n).2.1,(⟨r.t,r.v⟩:Row)⟩:Smp)])⟩:Sto) [2,3,6,0] (by (rw [F0 ‹_› ‹_› ‹_› ‹_›] <;> rfl))⟩,Z.xt⟩
  refine GE.Nb 1 Z fun aJ w Z=>.go 3<|GE.An (hs:=by (simp only [List.nil_append,List.length_nil,List.length_append,List.length_cons] <;> exact (by have:=p0.2.2.2; omega))) 1 3 ([]:List Smp) s.mem [2,3,4,5,6] Z fun aK aL w Z=>GA.Do Z fun w Z=>RG.Ap (hs:=by (simp only [List.nil_append,List.length_nil,List.length_append,List.length_cons] <;> exact (by have:=p0.2.2.2; omega))) 0 0 ([]++s.mem) (⟨(BQ s.idx n).2.1,(⟨r.t,r.v⟩:Row)⟩:Smp) [] Z fun aM aN w Z=>.r 1<|RG.Ss 1 Z fun w Z=>.d<|.s<|.s<|.g<|RG.Ln 1 Z<|.r 1<|RG.CL (E1 (⟨(⟨(BQ s.idx n).1.names,((BQ s.idx n).1).AY⟩:Idx),s.parts,(([]++s.mem)++[(⟨(BQ s.idx n).2.1,(⟨r.t,r.v⟩:Row)⟩:Smp)])⟩:Sto) ((BQ s.idx n).2.1) (Z.a 0) (Z.a 1) (Z.a 4) (Z.oa 0) p0.2.1 p0.2.2.1 (by have:=p0.2.2.2; simp; omega)) Z fun aO aP w Z=>.r 1<|.bp ((((rowsOf (⟨(⟨(BQ s.idx n).1.names,((BQ s.idx n).1).AY⟩:Idx),s.parts,(([]++s.mem)++[(⟨(BQ s.idx n).2.1,(⟨r.t,r.v⟩:Row)⟩:Smp)])⟩:Sto) ((BQ s.idx n).2.1)).length):Int) > 24) (fun ab=>.d<|.ct<|.s<|.g<|RG.Ln 5 Z<|RG.Ss 3 Z fun w Z=>.r 1<|.d<|T.r2 func64 results64 (.B 3 Z) (.t (.bool false)) ⟨⟨_,(Bx rfl (AG (by rw [Fy ‹_› ‹_› ‹_› ‹_›]))),Z.rS (g:=1) s [7,6,5,4] (by rw [Fy ‹_› ‹_› ‹_› ‹_›])⟩,Z.xt⟩) fun ab=>.d<|.cf<|.sk<|.s<|.g<|RG.Ln 1 Z<|RG.Ss 3 Z fun w Z=>.r 1<|.d ?_
  have Z:=Z.sl 0
  exact T.r2 func64 results64 (.B 2 Z) (.t (.bool true)) ⟨⟨_,(Bx rfl (AG (by (rw [F0 ‹_› ‹_› ‹_› ‹_›] <;> rfl)))),Z.rS (g:=1) (⟨(⟨(BQ s.idx n).1.names,((BQ s.idx n).1).AY⟩:Idx),s.parts,(([]++s.mem)++[(⟨(BQ s.idx n).2.1,(⟨r.t,r.v⟩:Row)⟩:Smp)])⟩:Sto) [2,3,6,0] (by (rw [F0 ‹_› ‹_› ‹_› ‹_›] <;> rfl))⟩,Z.xt⟩
 refine GE.Nb 1 Z fun aQ w Z=>.go 0<|GE.N0 Smp 1 Z fun aR w Z=>.go 3<|GE.An (hs:=by (simp only [List.nil_append,List.length_nil,List.length_append,List.length_cons] <;> exact (by have:=p0.2.2.2; omega))) 0 3 ([]:List Smp) s.mem [2,3,4,5,6] Z fun aS aT w Z=>GA.Do Z fun w Z=>RG.Ap (hs:=by (simp only [List.nil_append,List.length_nil,List.length_append,List.length_cons] <;> exact (by have:=p0.2.2.2; omega))) 0 1 ([]++s.mem) (⟨(BQ s.idx n).2.1,(⟨r.t,r.v⟩:Row)⟩:Smp) [] Z fun aU aV w Z=>.r 1<|RG.Ss 1 Z fun w Z=>.d<|.s<|.s<|.g<|RG.Ln 1 Z<|.r 1<|RG.CL (E1 (⟨(⟨(BQ s.idx n).1.names,((BQ s.idx n).1).AY⟩:Idx),s.parts,(([]++s.mem)++[(⟨(BQ s.idx n).2.1,(⟨r.t,r.v⟩:Row)⟩:Smp)])⟩:Sto) ((BQ s.idx n).2.1) (Z.a 0) (Z.a 1) (Z.a 4) (Z.oa 0) p0.2.1 p0.2.2.1 (by have:=p0.2.2.2; simp; omega)) Z fun aW aX w Z=>.r 1<|.bp ((((rowsOf (⟨(⟨(BQ s.idx n).1.names,((BQ s.idx n).1).AY⟩:Idx),s.parts,(([]++s.mem)++[(⟨(BQ s.idx n).2.1,(⟨r.t,r.v⟩:Row)⟩:Smp)])⟩:Sto) ((BQ s.idx n).2.1)).length):Int) > 24) (fun ac=>.d<|.ct<|.s<|.g<|RG.Ln 5 Z<|RG.Ss 3 Z fun w Z=>.r 1<|.d<|T.r2 func64 results64 (.B 3 Z) (.t (.bool false)) ⟨⟨_,(Bx rfl (AG (by rw [Fy ‹_› ‹_› ‹_› ‹_›]))),Z.rS (g:=1) s [7,6,5,4] (by rw [Fy ‹_› ‹_› ‹_› ‹_›])⟩,Z.xt⟩) fun ac=>.d<|.cf<|.sk<|.s<|.g<|RG.Ln 1 Z<|RG.Ss 3 Z fun w Z=>.r 1<|.d ?_
 have Z:=Z.sl 0
 exact T.r2 func64 results64 (.B 2 Z) (.t (.bool true)) ⟨⟨_,(Bx rfl (AG (by (rw [F0 ‹_› ‹_› ‹_› ‹_›] <;> rfl)))),Z.rS (g:=1) (⟨(⟨(BQ s.idx n).1.names,((BQ s.idx n).1).AY⟩:Idx),s.parts,(([]++s.mem)++[(⟨(BQ s.idx n).2.1,(⟨r.t,r.v⟩:Row)⟩:Smp)])⟩:Sto) [2,3,6,0] (by (rw [F0 ‹_› ‹_› ‹_› ‹_›] <;> rfl))⟩,Z.xt⟩
end Go.Proofs.YtggnnidleedpaaaGreat
namespace Go.Proofs.YtggnnidleedpaaaGreat
def AZ (s:Sto):Sto:=⟨idxOf s.idx.names,s.parts,s.mem⟩
def BK (d:Dsk):Dsk:=⟨d.files.filter (fun f=>d.list.contains f.num),d.list,d.names,d.next⟩
def As (d:Dsk) (s:Sto):List Stp :=
 if s.mem.length=0∨d.list.length≥6∨d.next≥999∨d.files.length≥20 then []
 else [⟨1,d.next,Ai s.mem,[],[]⟩,⟨2,0,⟨[],[]⟩,d.list++[d.next],s.idx.names⟩]
theorem EK {d:Dsk}{s:Sto}(h:(s.mem.length:Int)=0∨(d.list.length:Int)≥6∨d.next≥999∨(d.files.length:Int)≥20):As d s=[]:=by unfold As; rw [if_pos AB]
theorem DJ {d:Dsk}{s:Sto}(h1:(s.mem.length:Int)≠0) (h2:¬ (d.list.length:Int)≥6) (h3:¬ d.next≥999) (h4:¬ (d.files.length:Int)≥20) :
 As d s=[⟨1,d.next,Ai s.mem,[],[]⟩,⟨2,0,⟨[],[]⟩,d.list++[d.next],s.idx.names⟩]:=by unfold As; rw [if_neg AB]
theorem PK {α:Type}{l:List (List α)}{i:Nat}{k:List (List α)}{q:List α}(h:k++l.drop i=l) (hd:l.drop i=q::l.drop (i+1)):(k++[[]++q])++l.drop (i+1)=l:=by
 rw [hd] at h
 simpa using h
theorem Q4 {l:List Prt}{i:Nat}{k:List Prt}{q:Prt}{a:List Int}{b:List (List Row)}(h:k++l.drop i=l) (hd:l.drop i=q::l.drop (i+1)) (ha:a=q.ids) (hb:b=q.blocks):(k++[⟨a,b⟩])++l.drop (i+1)=l:=by
 subst ha hb
 rw [hd] at h
 simpa using h
end Go.Proofs.YtggnnidleedpaaaGreat
namespace Go.Proofs.YtggnnidleedpaaaGreat
set_option maxRecDepth 100000
set_option maxHeartbeats 4000000
variable {w:World} {F:Nat→Prop} {a1 a2 a3 a4 a5 a6 a7:Option Addr} {n1 c1 n2 c2 n3 c3 n4 c4 n5 c5 n6 c6 n7 c7:Nat}
theorem Ka (d:Dsk) (h1:RepS w F a1 n1 c1 d.files) (h2:RepS w F a2 n2 c2 d.list) (h3:RepS w F a3 n3 c3 d.names) (p0:d.files.length≤1000):Calls Tryz.prog 114 [.agg #[.slice a1 n1 c1,.slice a2 n2 c2,.slice a3 n3 c3,.int .i64 d.next]].toArray w (Am fun rv w'=>VS (fo F w.heap.size) w' (BK d:Dsk) rv∧Ext w w'):=by
 cases h1.len
 cases h2.len
 cases h3.len
 refine goT func114 ?_
 have Z:=(((St.i0 F w).p h1).p h2).p h3
 refine .s<|.g<|RG.Np Z fun af w Z=>RG.Np Z fun ag w Z=>.d<|.s<|.g<|RG.N0 Fil 1 Z fun ah w Z=>.r 1<|.d<|.s<|.s<|.g<|.r 1<|.d<|.b 0<|T.Lp (([]:List Fil),ah,(0:Nat),(0:Nat)) (fun (files,r_files,c_files,i)=>([(1,vP af),(2,vP ag),(3,vS r_files files.length c_files),(4,vI (i:Int))],[(0,.own 1 r_files 50 c_files files)],[],d.files.length - i,(i≤d.files.length)∧(files.length≤i)∧(files++(d.files.drop i).filter (fun f=>d.list.contains f.num)=d.files.filter (fun f=>d.list.contains f.num)))) [] Z ⟨AD,AD,AD⟩ ?_
 rintro ⟨files,r_files,c_files,i⟩ ay w Z ⟨ao,aq,ar⟩ E
 refine .s<|.s<|.g<|.r 2<|RG.Lb 2 Z<|.r 1<|.bp ((i:Int)< (d.files.length:Int)) (fun ac=>?_) (fun ac=>?_)
 ·refine .d<|.ct<|.sk<|.s<|.b 1<|.s<|T.Gd 7 Z fun w Z=>GA.Ln 0 2 Z<|.r [1]<|GA.Lb 2 2 Z<|.r [3]<|gxd d.files i fun ab aa au=>GA.Ix 4 2 aa Z<|.r [5]<|Z.el 2 aa fun az aA aB aC Z=>GA.Lh 6 0 0 Z<|GA.Dn Z fun w Z=>RG.C0 (Fa d ab.num (Z.a 5) (Z.a 4) (Z.a 3)) Z fun w Z=>?_
  cases ax:(d.list.contains ab.num)
  ·exact .d<|.cf<|.sk<|.ib 1<|.g<|.r 1<|.it ((i:Int)+1)<|.r 1<|.d<|E (files,r_files,c_files,i+1) _ _ AA (Z.to 0 [] 3) ⟨AB,AB,(by grind)⟩ (by (simp only []; omega))
  exact .d<|.ct<|.g<|.r 2<|RG.Lb 2 Z<|.r 1<|RG.Ix 5 aa Z<|RG.Lg 0 0 Z<|RG.Nb 1 Z fun aD w Z=>RG.Ap 0 0 files ab [1,2] Z fun ai aj w Z=>.r 1<|.d<|.ib 1<|.g<|.r 1<|.it ((i:Int)+1)<|.r 1<|.d<|E ((files++[ab]),ai,aj,i+1) _ _ AA (Z.to 0 [] 3) ⟨AB,(by (simp; omega)),(by grind)⟩ (by (simp only []; omega))
 refine .d<|.cf<|.x 0 rfl<|.s<|.g<|.r 2<|RG.Ss 2 Z fun w Z=>.d<|.s<|.g<|RG.Ln 2 Z<|RG.Ss 1 Z fun w Z=>.d ?_
 have Z:=Z.sl 0
 exact T.Rb 0 func114 results114 Z ⟨Z.rS (g:=1) (⟨files,d.list,d.names,d.next⟩:Dsk) [0,2,1] (by grind [BK,Aa]),Z.xt⟩
theorem Jh (d:Dsk) (s:Sto) (h1:RepS w F a1 n1 c1 d.files) (h2:RepS w F a2 n2 c2 d.list) (h3:RepS w F a3 n3 c3 d.names) (h4:RepS w F a4 n4 c4 s.idx.names) (h5:RepS w F a5 n5 c5 s.idx.AY) (h6:RepS w F a6 n6 c6 s.parts) (h7:RepS w F a7 n7 c7 s.mem) (p0:s.mem.length≤1000) (p1:∀ m∈s.mem,1≤m.id∧m.id≤6) (p2:d.list.length≤1000) (p3:s.idx.names.length≤1000) (p4:∀ n∈s.idx.names,n.length≤1000):Calls Tryz.prog 67 [.agg #[.slice a1 n1 c1,.slice a2 n2 c2,.slice a3 n3 c3,.int .i64 d.next],.agg #[.slice a4 n4 c4,.slice a5 n5 c5,.slice a6 n6 c6,.slice a7 n7 c7]].toArray w (Am fun rv w'=>VL (ge w.heap.size) w' (As d s:List Stp) rv∧Ext w w'):=by
 cases h1.len
 cases h2.len
 cases h3.len
 cases h4.len
 cases h5.len
 cases h6.len
 cases h7.len
 refine goT func67 ?_
 have Z:=(((((((St.i0 F w).p h1).p h2).p h3).p h4).p h5).p h6).p h7
 have ag:=h1.max
 refine .s<|.g<|RG.Np Z fun ae w Z=>RG.Np Z fun af w Z=>.r 1<|.d<|.s<|.s<|.g<|.r 1<|RG.Lb 0 Z<|.r 1<|.eq (s.mem.length:Int) 0 (fun E=>.r 17<|.d<|.ct<|.s<|.g<|RG.N0 Stp 0 Z fun ao w Z=>.r 1<|.d<|T.Rt func67 results67 ⟨Z.rM 0 ([]:List Stp) (by rw [EK AB]),Z.xt⟩) fun E=>.r 2<|RG.Lb 1 Z<|.r 1<|.bp ((d.list.length:Int)≥6) (fun aa=>.r 12<|.d<|.ct<|.s<|.g<|RG.N0 Stp 0 Z fun aq w Z=>.r 1<|.d<|T.Rt func67 results67 ⟨Z.rM 0 ([]:List Stp) (by rw [EK AB]),Z.xt⟩) fun aa=>.r 3<|RG.Lb 1 Z<|.bp (d.next≥999) (fun ab=>.r 7<|.d<|.ct<|.s<|.g<|RG.N0 Stp 0 Z fun ar w Z=>.r 1<|.d<|T.Rt func67 results67 ⟨Z.rM 0 ([]:List Stp) (by rw [EK AB]),Z.xt⟩) fun ab=>.r 3<|RG.Lb 1 Z<|.r 1<|.bp ((d.files.length:Int)≥20) (fun ac=>.r 1<|.d<|.ct<|.s<|.g<|RG.N0 Stp 0 Z fun au w Z=>.r 1<|.d<|T.Rt func67 results67 ⟨Z.rM 0 ([]:List Stp) (by rw [EK AB]),Z.xt⟩) fun ac=>.r 1<|.d<|.cf<|.sk<|.s<|T.GS 7 [af,ae] Z fun _ w Z=>.r [1]<|GA.Lb (q:=1) 2 1 Z<|.r [4]<|GA.Lb (q:=1) 5 1 Z<|.tw 0 6 ?_ ?_
 ·refine GE.N0 Int 0 Z fun ax w Z=>.tw 3 6 ?_ ?_
  ·exact GE.An (hf:=.inr Aw) 0 5 ([]:List Int) d.list [1,2] Z fun ay az w Z=>.go 6<|GE.Nb 1 Z fun aA w Z=>GA.Do Z fun w Z=>RG.Ap 0 0 ([]++d.list) d.next [] Z fun aB aC w Z=>.r 1<|.d<|.s<|T.Gd 11 Z fun w Z=>.r [0]<|GA.Lb 1 2 Z<|GA.Ln 2 1 Z<|.r [5,6,7]<|GA.Lb 8 1 Z<|.go 3<|GE.CS (fun w Z=>EQ s (Z.a 3) (Z.a 2) (Z.a 1) (Z.a 0) p0 p1) Z fun aD aE aF aG w Z=>.r [4]<|.go 9<|GE.CO 0 (fun w Z=>BO s.idx.names (Z.a 5) AB (by intro n hn; have:=p4 n hn; omega)) Z fun aH aI w Z=>.r [10]<|GA.Dn Z fun w Z=>RG.Nl 0 ([(⟨1,d.next,(⟨(Ai s.mem).ids,(Ai s.mem).blocks⟩:Prt),([]:List Int),([]:List (List Tag))⟩:Stp),(⟨2,0,(⟨([]:List Int),([]:List (List Row))⟩:Prt),(([]++d.list)++[d.next]),s.idx.names⟩:Stp)]:List Stp) [[6,7,5,4],[1,0,3,2]] ((((((Z.nl Int).nl (List Tag)).sl 1).sl 0).nl Int).nl (List Row)) fun aJ w Z=>.r 1<|.d<|T.Rt func67 results67 ⟨Z.rM 0 ([(⟨1,d.next,(⟨(Ai s.mem).ids,(Ai s.mem).blocks⟩:Prt),([]:List Int),([]:List (List Tag))⟩:Stp),(⟨2,0,(⟨([]:List Int),([]:List (List Row))⟩:Prt),(([]++d.list)++[d.next]),s.idx.names⟩:Stp)]:List Stp) (by (rw [DJ ‹_› ‹_› ‹_› ‹_›] <;> simp)),Z.xt⟩
  exact GE.Nb 1 Z fun aK w Z=>.go 3<|GE.An (hf:=.inr Aw) 1 5 ([]:List Int) d.list [2,3] Z fun aL aM w Z=>GA.Do Z fun w Z=>RG.Ap 0 0 ([]++d.list) d.next [] Z fun aN aO w Z=>.r 1<|.d<|.s<|T.Gd 11 Z fun w Z=>.r [0]<|GA.Lb 1 2 Z<|GA.Ln 2 1 Z<|.r [5,6,7]<|GA.Lb 8 1 Z<|.go 3<|GE.CS (fun w Z=>EQ s (Z.a 3) (Z.a 2) (Z.a 1) (Z.a 0) p0 p1) Z fun aP aQ aR aS w Z=>.r [4]<|.go 9<|GE.CO 0 (fun w Z=>BO s.idx.names (Z.a 5) AB (by intro n hn; have:=p4 n hn; omega)) Z fun aT aU w Z=>.r [10]<|GA.Dn Z fun w Z=>RG.Nl 0 ([(⟨1,d.next,(⟨(Ai s.mem).ids,(Ai s.mem).blocks⟩:Prt),([]:List Int),([]:List (List Tag))⟩:Stp),(⟨2,0,(⟨([]:List Int),([]:List (List Row))⟩:Prt),(([]++d.list)++[d.next]),s.idx.names⟩:Stp)]:List Stp) [[6,7,5,4],[1,0,3,2]] ((((((Z.nl Int).nl (List Tag)).sl 1).sl 0).nl Int).nl (List Row)) fun aV w Z=>.r 1<|.d<|T.Rt func67 results67 ⟨Z.rM 0 ([(⟨1,d.next,(⟨(Ai s.mem).ids,(Ai s.mem).blocks⟩:Prt),([]:List Int),([]:List (List Tag))⟩:Stp),(⟨2,0,(⟨([]:List Int),([]:List (List Row))⟩:Prt),(([]++d.list)++[d.next]),s.idx.names⟩:Stp)]:List Stp) (by (rw [DJ ‹_› ‹_› ‹_› ‹_›] <;> simp)),Z.xt⟩
 exact GE.Nb 1 Z fun aW w Z=>.go 0<|GE.N0 Int 0 Z fun aX w Z=>.go 3<|GE.An (hf:=.inr Aw) 0 5 ([]:List Int) d.list [2,3] Z fun aY aZ w Z=>GA.Do Z fun w Z=>RG.Ap 0 1 ([]++d.list) d.next [] Z fun ba bd w Z=>.r 1<|.d<|.s<|T.Gd 11 Z fun w Z=>.r [0]<|GA.Lb 1 2 Z<|GA.Ln 2 1 Z<|.r [5,6,7]<|GA.Lb 8 1 Z<|.go 3<|GE.CS (fun w Z=>EQ s (Z.a 3) (Z.a 2) (Z.a 1) (Z.a 0) p0 p1) Z fun bg bh bi bj w Z=>.r [4]<|.go 9<|GE.CO 0 (fun w Z=>BO s.idx.names (Z.a 5) AB (by intro n hn; have:=p4 n hn; omega)) Z fun bk bm w Z=>.r [10]<|GA.Dn Z fun w Z=>RG.Nl 0 ([(⟨1,d.next,(⟨(Ai s.mem).ids,(Ai s.mem).blocks⟩:Prt),([]:List Int),([]:List (List Tag))⟩:Stp),(⟨2,0,(⟨([]:List Int),([]:List (List Row))⟩:Prt),(([]++d.list)++[d.next]),s.idx.names⟩:Stp)]:List Stp) [[6,7,5,4],[1,0,3,2]] ((((((Z.nl Int).nl (List Tag)).sl 1).sl 0).nl Int).nl (List Row)) fun bn w Z=>.r 1<|.d<|T.Rt func67 results67 ⟨Z.rM 0 ([(⟨1,d.next,(⟨(Ai s.mem).ids,(Ai s.mem).blocks⟩:Prt),([]:List Int),([]:List (List Tag))⟩:Stp),(⟨2,0,(⟨([]:List Int),([]:List (List Row))⟩:Prt),(([]++d.list)++[d.next]),s.idx.names⟩:Stp)]:List Stp) (by (rw [DJ ‹_› ‹_› ‹_› ‹_›] <;> simp)),Z.xt⟩
theorem Gf (s:Sto) (h1:RepS w F a1 n1 c1 s.idx.names) (h2:RepS w F a2 n2 c2 s.idx.AY) (h3:RepS w F a3 n3 c3 s.parts) (h4:RepS w F a4 n4 c4 s.mem) (p0:LX s):Calls Tryz.prog 71 [.agg #[.slice a1 n1 c1,.slice a2 n2 c2,.slice a3 n3 c3,.slice a4 n4 c4]].toArray w (Am fun rv w'=>(∃ (a0:Option Addr) (n0 c0:Nat) (a1:Option Addr) (n1 c1:Nat) (a2:Option Addr) (n2 c2:Nat) (r3 n3 c3:Nat),rv=.agg #[.slice a0 n0 c0,.slice a1 n1 c1,.slice a2 n2 c2,.slice (some ⟨r3,0,none⟩) n3 c3]∧RepS w' (nin (ge w.heap.size) [r3]) a0 n0 c0 ((((AZ s)).idx).names)∧RepS w' (nin (ge w.heap.size) [r3]) a1 n1 c1 ((((AZ s)).idx).AY)∧RepS w' (nin (ge w.heap.size) [r3]) a2 n2 c2 (((AZ s)).parts)∧Own w' r3 85 (nin (ge w.heap.size) [r3]) n3 c3 (((AZ s)).mem)∧w.heap.size≤r3)∧Ext w w'):=by
 cases h1.len
 cases h2.len
 cases h3.len
 cases h4.len
 refine goT func71 ?_
 have Z:=((((St.i0 F w).p h1).p h2).p h3).p h4
 have aZ:=h3.max
 have ba:=h4.max
 refine .s<|.g<|RG.Np Z fun au w Z=>RG.Np Z fun ax w Z=>.d<|.s<|.g<|RG.N0 Prt 0 Z fun aD w Z=>.r 1<|.d<|.s<|.s<|.g<|.r 1<|.d<|.b 0<|T.Lp (([]:List Prt),aD,(0:Nat),(0:Nat)) (fun (k,r_k,c_k,k1)=>([(1,vP au),(2,vP ax),(3,vS r_k k.length c_k),(4,vI (k1:Int))],[(0,.own 0 r_k 48 c_k k)],[],s.parts.length - k1,(k1≤s.parts.length)∧(k.length≤k1)∧(k++s.parts.drop k1=s.parts))) [] Z ⟨AD,AD,AD⟩ ?_
 rintro ⟨k,r_k,c_k,k1⟩ bJ w Z ⟨bd,bg,bh⟩ al
 have bi:=Z.mo 0 k
 refine .s<|.s<|.g<|.r 2<|RG.Lb 2 Z<|.r 1<|.bp ((k1:Int)< (s.parts.length:Int)) (fun az=>?_) (fun az=>?_)
 ·refine .d<|.ct<|.sk<|.s<|.b 1<|.s<|.g<|RG.N0 Int 0 Z fun bK w Z=>.r 1<|RG.Lb 3 Z<|.r 1<|gxb s.parts k1 fun aa ac bj aB=>RG.Ix 1 ac Z<|.r 1<|Z.el 1 ac fun bL bM bN bO Z=>?_
  have bm:=Z.mf 2 aa.blocks
  refine RG.Lh 0 0 Z<|RG.An (hs:=by (simp only [List.nil_append,List.length_nil,List.length_append,List.length_cons] <;> exact (by have q1:=p0.2.1; (have E:=p0.2.2.1 _ ‹_›; have q4:=E.1; have q5:=E.2.1; omega)))) (hf:=.inr Aw) 0 1 ([]:List Int) aa.ids Z fun aE aF w Z=>RG.N0 (List Row) 0 Z fun aG w Z=>.r 1<|RG.Np Z fun ay w Z=>RG.Ss 0 Z fun w Z=>.d<|.s<|.s<|.g<|.r 1<|.d<|.b 2<|T.Lp ((0:Nat),(([]++aa.ids):List Int),aE,aF,([]:List (List Row)),aG,(0:Nat)) (fun (k2,af,r_k_0,c_k_0,ab,r_k_1,c_k_1)=>([(1,vP au),(2,vP ax),(3,vS r_k k.length c_k),(4,vI (k1:Int)),(5,vP ay),(6,vI (k2:Int))],[(0,.box ay 48 [vS r_k_0 af.length c_k_0,vS r_k_1 ab.length c_k_1]),(1,.own 0 r_k_1 62 c_k_1 ab),(2,.own 0 r_k_0 3 c_k_0 af)],[],aa.blocks.length - k2,(k2≤aa.blocks.length)∧(af=aa.ids)∧(ab.length≤k2)∧(ab++aa.blocks.drop k2=aa.blocks))) [] Z ⟨AD,AD,AD,AD⟩ ?_
  rintro ⟨k2,af,r_k_0,c_k_0,ab,r_k_1,c_k_1⟩ bP w Z ⟨bo,bq,br,bt⟩ ar
  have bv:=Z.mo 1 ab
  refine .s<|.s<|.g<|.r 2<|RG.Lb 5 Z<|.r 1<|RG.Ix 4 ac Z<|.r 1<|RG.Lh 0 1 Z<|.r 1<|.bp ((k2:Int)< (aa.blocks.length:Int)) (fun aA=>?_) (fun aA=>?_)
  ·refine .d<|.ct<|.sk<|.s<|.b 3<|T.GS 14 [ay,ax,au] Z fun _ w Z=>.r [0]<|GA.Lb 1 0 Z<|.r [3]<|GA.Lb (q:=2) 4 5 Z<|.r [5]<|GA.Ix 6 4 ac Z<|.r [7]<|GA.Lh 8 0 1 Z<|.r [9]<|gxb aa.blocks k2 fun aj ai bw aC=>GA.Ix 10 2 ai Z<|Z.el 2 ai fun bQ bR Z=>?_
   have bz:=Z.mf 1 aj
   exact GA.Lh 11 0 0 Z<|.go 2<|GE.N0 Row 0 Z fun bS w Z=>.go 12<|GE.An (hs:=by (simp only [List.nil_append,List.length_nil,List.length_append,List.length_cons] <;> exact (by have q1:=p0.2.1; (have E:=p0.2.2.1 _ ‹_›; (have q6:=E.2.2 _ ‹_›; omega))))) (hf:=.inr Bm) 0 1 ([]:List Row) aj [1,5,6] Z fun bT bU w Z=>.go 13<|GE.Nb 1 Z fun bV w Z=>GA.Do Z fun w Z=>RG.Ap (hs:=by exact (by have q1:=p0.2.1; (have E:=p0.2.2.1 _ ‹_›; have q5:=E.2.1; omega))) 1 0 ab ([]++aj) [0] (Z.sl 1) fun aH aI w Z=>.r 1<|RG.Ss 0 Z fun w Z=>.d<|.ib 3<|.g<|.r 1<|.it ((k2:Int)+1)<|.r 1<|.d<|ar (k2+1,af,r_k_0,c_k_0,(ab++[([]++aj)]),aH,aI) _ _ AA (Z.to 0 [] 3) ⟨AB,‹_›,(by simp; omega),(by exact PK ‹_› ‹_›)⟩ (by (simp only []; omega))
  exact .d<|.cf<|.x 2 rfl<|.g<|.r 1<|RG.Ln 0 Z<|RG.Nb 1 Z fun bW w Z=>RG.Ap (hs:=by exact (by have q1:=p0.2.1; omega)) 1 0 k (⟨af,ab⟩:Prt) [1,0] ((Z.sl 3).sl 2) fun aJ aK w Z=>.r 1<|.d<|.ib 1<|.g<|.r 1<|.it ((k1:Int)+1)<|.r 1<|.d<|al ((k++[(⟨af,ab⟩:Prt)]),aJ,aK,k1+1) _ _ AA (Z.to 1 [] 5) ⟨AB,(by simp; omega),(by exact Q4 ‹_› ‹_› ‹_› (by have q1:=Aa (xs:=aa.blocks) (k:=k2) AB; have q2:ab++aa.blocks.drop k2=aa.blocks:=‹_›; rw [q1,List.append_nil] at q2; exact q2))⟩ (by (simp only []; omega))
 refine .d<|.cf<|.x 0 rfl<|.s<|T.GS 9 [ax,au] Z fun _ w Z=>.r [0,1]<|GA.Lb (q:=1) 2 2 Z<|.r [4,6]<|GA.Lb (q:=1) 7 2 Z<|.tw 3 5 ?_ ?_
 ·refine GE.CS (fun w Z=>Eo s.idx.names (Z.a 3) p0.1.1 p0.1.2) Z fun aL aM aN aO w Z=>.go 5<|GE.N0 Smp 0 Z fun bX w Z=>.go 8<|GE.An (hs:=by (simp only [List.nil_append,List.length_nil,List.length_append,List.length_cons] <;> exact (by have q1:=p0.2.1; have q2:=p0.2.2.2; omega))) (hf:=.inr ER) 0 2 ([]:List Smp) s.mem [2,3] Z fun aP aQ w Z=>GA.Do Z fun w Z=>.r 1<|RG.Ss 2 Z fun w Z=>.d ?_
  have Z:=Z.sl 1
  exact T.Rb 1 func71 results71 Z ⟨⟨aL,((idxOf s.idx.names).names.length),aM,aN,((idxOf s.idx.names).AY.length),aO,(some ⟨r_k,0,none⟩),k.length,c_k,aP,(([]++s.mem).length),aQ,AA,Z.qr [0] 1 ((idxOf s.idx.names).names) AF,Z.qr [0] 2 ((idxOf s.idx.names).AY) AF,Z.qr [0] 0 k (by have q1:=Aa (xs:=s.parts) (k:=k1) AB; have q2:k++s.parts.drop k1=s.parts:=‹_›; rw [q1,List.append_nil] at q2; exact q2),Z.qo [0] 0 ([]++s.mem) AF,Z.qb 0⟩,Z.xt⟩
 refine GE.N0 Smp 0 Z fun bY w Z=>.go 3<|GE.CS (fun w Z=>Eo s.idx.names (Z.a 3) p0.1.1 p0.1.2) Z fun aR aS aT aU w Z=>.go 8<|GE.An (hs:=by (simp only [List.nil_append,List.length_nil,List.length_append,List.length_cons] <;> exact (by have q1:=p0.2.1; have q2:=p0.2.2.2; omega))) (hf:=.inr ER) 0 2 ([]:List Smp) s.mem [2,3] Z fun aV aW w Z=>GA.Do Z fun w Z=>.r 1<|RG.Ss 2 Z fun w Z=>.d ?_
 have Z:=Z.sl 1
 exact T.Rb 1 func71 results71 Z ⟨⟨aR,((idxOf s.idx.names).names.length),aS,aT,((idxOf s.idx.names).AY.length),aU,(some ⟨r_k,0,none⟩),k.length,c_k,aV,(([]++s.mem).length),aW,AA,Z.qr [0] 1 ((idxOf s.idx.names).names) AF,Z.qr [0] 2 ((idxOf s.idx.names).AY) AF,Z.qr [0] 0 k (by have q1:=Aa (xs:=s.parts) (k:=k1) AB; have q2:k++s.parts.drop k1=s.parts:=‹_›; rw [q1,List.append_nil] at q2; exact q2),Z.qo [0] 0 ([]++s.mem) AF,Z.qb 0⟩,Z.xt⟩
end Go.Proofs.YtggnnidleedpaaaGreat
namespace Go.Proofs.YtggnnidleedpaaaGreat
def Av (d:Dsk) (n:Int):Prt:=(d.files.getD (At d n).toNat default).part
def Al (d:Dsk):Sto:=⟨idxOf d.names,d.list.map (Av d),[]⟩
def Kb (f:Fil):Fil:=⟨f.num,BC f.part ⟨[],[]⟩⟩
def BH (d:Dsk):Dsk:=⟨d.files.map Kb,d.list,d.names,d.next⟩
def Ds (d:Dsk) (n:Int):List Fil:=if At d n≥0∧d.list.contains n=false then d.files.take (At d n).toNat++d.files.drop ((At d n).toNat+1) else d.files
def doD (d:Dsk) (x:Stp):Dsk :=
 if x.kind=1 then ⟨d.files++[⟨x.num,x.part⟩],d.list,d.names,x.num+1⟩
 else if x.kind=2 then ⟨d.files,x.list,x.names,d.next⟩
 else if x.kind=3 then ⟨Ds d x.num,d.list,d.names,d.next⟩
 else d
def toD (d:Dsk) (steps:List Stp) (cut:Int):Dsk:=(steps.take cut.toNat).foldl doD d
def Aj (d:Dsk) (at_:Int):List Stp :=
 if !(inR at_ 0 ((d.list.length:Int) - 2)) || decide (d.next≥999) || decide (d.files.length≥20) then []
 else
  let a:=d.list.getD at_.toNat 0
  let b:=d.list.getD (at_.toNat+1) 0
  [⟨1,d.next,BC (Av d a) (Av d b),[],[]⟩,⟨2,0,⟨[],[]⟩,d.list.take at_.toNat++[d.next]++d.list.drop (at_.toNat+2),d.names⟩,⟨3,a,⟨[],[]⟩,[],[]⟩,⟨3,b,⟨[],[]⟩,[],[]⟩]
def BB (w:Wld):Wld:=⟨AZ (Al (BH (BK w.disk))),BH (BK w.disk)⟩
def Bi (w:Wld) (steps:List Stp) (cut:Int) (s:Sto):Wld :=
 if steps.length=0∨cut< 0 then w
 else if cut< steps.length then BB ⟨w.store,toD w.disk steps cut⟩ else ⟨s,toD w.disk steps cut⟩
def doW (w:Wld) (e:Evt):Wld :=
 if e.kind=1 then (if Aq e.name then ⟨(CA w.store e.name e.row).1,w.disk⟩ else w)
 else if e.kind=2 then Bi w (As w.disk w.store) e.cut (BE w.store).1
 else if e.kind=3 then Bi w (Aj w.disk e.at_) e.cut (BD w.store e.at_).1
 else if e.kind=4 then BB w
 else w
def Ce (w:Wld):Wld:=⟨AZ w.store,BH w.disk⟩
theorem J7 (n:Int):∀ (fs:List Fil) (i:Nat),DB n i fs< (i:Int)+fs.length∧(DB n i fs = -1∨(i:Int)≤DB n i fs):=by
 intro fs
 induction fs with
 | nil=>intro i; simp [DB]; omega
 | cons f fs ih =>
   intro i
   have h:=ih (i+1)
   simp only [DB,List.length_cons]
   split <;> omega
theorem Cf (d:Dsk) (n:Int):At d n< d.files.length:=by have:=J7 n d.files 0; unfold At; omega
theorem H4 (d:Dsk) (n:Int):At d n ≥ -1:=by have:=J7 n d.files 0; unfold At; omega
theorem Im {d:Dsk}{n:Int}(h:∀ n∈d.list,0≤At d n) (hm:n∈d.list):(At d n).toNat< d.files.length:=by
 have h1:=h n hm
 have h2:=Cf d n
 omega
theorem Ip {d:Dsk}{n:Int}(h:∀ n∈d.list,0≤At d n) (hm:n∈d.list):At d n=((At d n).toNat:Int):=by
 have h1:=h n hm
 omega
theorem Er {d:Dsk}{n:Int}{f:Fil}(h:d.files[(At d n).toNat]? = some f):Av d n=f.part:=by
 unfold Av; rw [List.getD_eq_getElem?_getD,h]; rfl
theorem mapStep {α β:Type}{l:List α}{f:α→β}{i:Nat}{k:List β}{q:α}{y:β}(h:k++(l.drop i).map f=l.map f) (hd:l.drop i=q::l.drop (i+1)) (hy:y=f q):(k++[y])++(l.drop (i+1)).map f=l.map f:=by
 subst hy
 rw [hd] at h
 simpa using h
theorem Q5 {α β:Type}{l:List α}{f:α→β}{i:Nat}{k:List β}(h:k++(l.drop i).map f=l.map f) (hi:l.length≤i):k=l.map f:=by
 rw [Aa hi] at h
 simpa using h
theorem toStep {l:List Stp}{c:Nat}{i:Nat}{d:Dsk}{q:Stp}{Y:Dsk}(h:((l.take c).drop i).foldl doD d=Y) (hd:l.drop i=q::l.drop (i+1)) (hc:i< c):((l.take c).drop (i+1)).foldl doD (doD d q)=Y:=by
 have h1:(l.take c).drop i=q::(l.take c).drop (i+1):=by
  rw [List.drop_take,List.drop_take,hd,show c - i=(c - (i+1))+1 by omega]
  rfl
 rw [h1] at h
 exact h
theorem toEnd {l:List Stp}{c:Nat}{i:Nat}{d:Dsk}{Y:Dsk}(h:((l.take c).drop i).foldl doD d=Y) (hc:l.length≤i∨c≤i):d=Y:=by
 rw [List.drop_of_length_le (by rw [List.length_take]; omega)] at h
 exact h
theorem E2 {d:Dsk}{x:Stp}(h:x.kind=1):doD d x=⟨d.files++[⟨x.num,x.part⟩],d.list,d.names,x.num+1⟩:=by unfold doD; rw [if_pos h]
theorem Gg {d:Dsk}{x:Stp}(h:x.kind=2):doD d x=⟨d.files,x.list,x.names,d.next⟩:=by unfold doD; rw [if_neg AB,if_pos h]
theorem FC {d:Dsk}{x:Stp}(h:x.kind=3):doD d x=⟨Ds d x.num,d.list,d.names,d.next⟩:=by unfold doD; rw [if_neg AB,if_neg AB,if_pos h]
theorem UN {d:Dsk}{x:Stp}(h:x.kind≠1) (h2:x.kind≠2) (h3:x.kind≠3):doD d x=d:=by unfold doD; rw [if_neg h,if_neg h2,if_neg h3]
theorem OO {d:Dsk}{n:Int}(h:At d n≥0) (h2:d.list.contains n=false):Ds d n=d.files.take (At d n).toNat++d.files.drop ((At d n).toNat+1):=by unfold Ds; rw [if_pos ⟨h,h2⟩]
theorem MS {d:Dsk}{n:Int}(h:¬ At d n≥0∨d.list.contains n=true):Ds d n=d.files:=by unfold Ds; rw [if_neg]; rintro ⟨h1,h2⟩; rcases h with h | h; exact h h1; rw [h2] at h; cases h
theorem H5 {d:Dsk}{a:Int}(h:inR a 0 ((d.list.length:Int) - 2)=false∨d.next≥999∨(d.files.length:Int)≥20):Aj d a=[]:=by
 unfold Aj
 rw [if_pos]
 rcases h with h | h | h
 ·simp [h]
 ·simp [h]
 ·have h:d.files.length≥20:=by omega
  simp [h]
theorem EL {d:Dsk}{at_ a b:Int}{f g:Fil}(h:inR at_ 0 ((d.list.length:Int) - 2)=true) (h2:¬ d.next≥999) (h3:¬ (d.files.length:Int)≥20) (ha:d.list[at_.toNat]? = some a) (hb:d.list[(at_+1).toNat]? = some b)
 (hf:d.files[(At d a).toNat]? = some f) (hg:d.files[(At d b).toNat]? = some g) :
 Aj d at_=[⟨1,d.next,BC f.part g.part,[],[]⟩,⟨2,0,⟨[],[]⟩,(([]++(d.list.take at_.toNat).drop 0)++[d.next])++(d.list.take d.list.length).drop (at_+2).toNat,d.names⟩,⟨3,a,⟨[],[]⟩,[],[]⟩,⟨3,b,⟨[],[]⟩,[],[]⟩]:=by
 have h0:=By h
 have e1:(at_+1).toNat=at_.toNat+1:=by omega
 have e2:(at_+2).toNat=at_.toNat+2:=by omega
 rw [e1] at hb
 have h4:¬ d.files.length≥20:=by omega
 unfold Aj
 rw [if_neg (by simp [h]; omega),← Er hf,← Er hg,e2,List.getD_eq_getElem?_getD,List.getD_eq_getElem?_getD,ha,hb]
 simp
theorem PL {d:Dsk}{x:Stp}(h:x.list.length≤1000) (hd:d.list.length≤1000):(doD d x).files.length≤d.files.length+1∧(doD d x).list.length≤1000:=by
 unfold doD Ds
 split
 ·simp; exact hd
 ·split
  ·simp; exact h
  ·split
   ·simp only
    split <;> simp <;> omega
   ·omega
def JQ (x:Stp):Prop:=x.list.length≤1000∧x.names.length≤1000∧(∀ n∈x.names,n.length≤1000) ∧ -9000000≤x.num∧x.num≤9000000
end Go.Proofs.YtggnnidleedpaaaGreat
namespace Go.Proofs.YtggnnidleedpaaaGreat
set_option maxRecDepth 100000
set_option maxHeartbeats 4000000
variable {w:World} {F:Nat→Prop} {a1 a2 a3 a4 a5 a6 a7:Option Addr} {n1 c1 n2 c2 n3 c3 n4 c4 n5 c5 n6 c6 n7 c7:Nat}
theorem Kc (d:Dsk) (h1:RepS w F a1 n1 c1 d.files) (h2:RepS w F a2 n2 c2 d.list) (h3:RepS w F a3 n3 c3 d.names) (p0:d.names.length≤1000) (p1:∀ n∈d.names,FZ n) (p2:d.list.length≤1000) (p3:∀ n∈d.list,0≤At d n):Calls Tryz.prog 115 [.agg #[.slice a1 n1 c1,.slice a2 n2 c2,.slice a3 n3 c3,.int .i64 d.next]].toArray w (Am fun rv w'=>VS (fo F w.heap.size) w' (Al d:Sto) rv∧Ext w w'):=by
 cases h1.len
 cases h2.len
 cases h3.len
 refine goT func115 ?_
 have Z:=(((St.i0 F w).p h1).p h2).p h3
 refine .s<|.g<|RG.Np Z fun aj w Z=>RG.Np Z fun ak w Z=>.d<|.s<|.g<|.r 1<|RG.Lb 1 Z<|RG.CS (Eo d.names (Z.a 0) p0 p1) Z fun ar au ax ay w Z=>RG.N0 Prt 1 Z fun az w Z=>RG.N0 Smp 1 Z fun aA w Z=>.r 1<|RG.Np Z fun ah w Z=>RG.Ss 0 Z fun w Z=>.d<|.s<|.s<|.g<|.r 1<|.d<|.b 0<|T.Lp ((0:Nat),((idxOf d.names).names:List (List Tag)),ar,au,((idxOf d.names).AY:List Pst),ax,ay,([]:List Prt),az,(0:Nat),([]:List Smp),aA,(0:Nat)) (fun (i,ac,a_s_0,c_s_0,ae,a_s_1,c_s_1,E,r_s_2,c_s_2,af,r_s_3,c_s_3)=>([(1,vP aj),(2,vP ak),(3,vP ah),(4,vI (i:Int))],[(0,.box ah 32 [.slice a_s_0 ac.length c_s_0,.slice a_s_1 ae.length c_s_1,vS r_s_2 E.length c_s_2,vS r_s_3 af.length c_s_3]),(1,.own 1 r_s_3 85 c_s_3 af),(2,.own 1 r_s_2 48 c_s_2 E)],[⟨0,none,.rep a_s_0 c_s_0 ac⟩,⟨0,none,.rep a_s_1 c_s_1 ae⟩],d.list.length - i,(i≤d.list.length)∧(ac=d.names)∧(ae=Dg d.names)∧(af=[])∧(E.length≤i)∧(E++(d.list.drop i).map (Av d)=d.list.map (Av d)))) [0,1] Z ⟨AD,AF,AF,AF,AD,AF⟩ ?_
 rintro ⟨i,ac,a_s_0,c_s_0,ae,a_s_1,c_s_1,E,r_s_2,c_s_2,af,r_s_3,c_s_3⟩ aO w Z ⟨aG,aH,aI,aJ,aK,aL⟩ ag
 refine .s<|.s<|.g<|.r 2<|RG.Lb 4 Z<|.r 1<|.bp ((i:Int)< (d.list.length:Int)) (fun al=>?_) (fun al=>?_)
 ·exact .d<|.ct<|.sk<|.s<|.b 1<|T.GS 15 [ah,ak,aj] Z fun _ w Z=>.r [0]<|GA.Lb 1 0 Z<|.r [2]<|GA.Lb (q:=2) 3 4 Z<|GA.Ln (q:=2) 4 4 Z<|.r [5]<|GA.Lb (q:=2) 6 4 Z<|.r [7]<|gxb (h:=AB) d.list i fun ai aa aM ao=>GA.Ix 8 5 aa Z<|Z.el 5 aa fun Z=>GA.Lh 9 0 0 Z<|GA.D0 10 Z (fun w Y=>En d ai (Y.a 7) (Y.a 6) (Y.a 5))<|gx (h:=(by exact Im p3 ‹_›)) d.files ((At d ai).toNat) fun am ab=>GA.Jx (hz:=(by exact Ip p3 ‹_›)) 11 7 (At d ai) ab Z<|.r [12]<|Z.el 7 ab fun aP aQ aR aS Z=>GA.Lg 13 0 1 Z<|.go 14<|GE.Nb 1 Z fun aT w Z=>GA.Do Z fun w Z=>RG.Ap 2 0 E am.part [1,2] Z fun aB aC w Z=>.r 1<|RG.Ss 0 Z fun w Z=>.d<|.ib 1<|.g<|.r 1<|.it ((i:Int)+1)<|.r 1<|.d<|ag (i+1,ac,a_s_0,c_s_0,ae,a_s_1,c_s_1,(E++[am.part]),aB,aC,af,r_s_3,c_s_3) _ _ AA (Z.to 0 [4,5] 6) ⟨AB,‹_›,‹_›,‹_›,(by simp; omega),(by exact mapStep ‹_› ‹_› (Er ‹_›).symm)⟩ (by (simp only []; omega))
 refine .d<|.cf<|.x 0 rfl<|.s<|.g<|RG.Ln 0 Z<|RG.Ss 3 Z fun w Z=>.d ?_
 have Z:=(Z.sl 2).sl 1
 exact T.Rb 1 func115 results115 Z ⟨Z.rS (g:=1) (⟨(⟨ac,ae⟩:Idx),E,af⟩:Sto) [2,3,1,0] (by have q1:E=_:=Q5 ‹_› AB; subst_vars; rfl),Z.xt⟩
theorem Gh (d:Dsk) (h1:RepS w F a1 n1 c1 d.files) (h2:RepS w F a2 n2 c2 d.list) (h3:RepS w F a3 n3 c3 d.names) (p0:d.names.length≤1000) (p1:∀ n∈d.names,n.length≤1000) (p2:d.list.length≤1000) (p3:d.files.length≤1000) (p4:∀ f∈d.files,Cv f.part):Calls Tryz.prog 72 [.agg #[.slice a1 n1 c1,.slice a2 n2 c2,.slice a3 n3 c3,.int .i64 d.next]].toArray w (Am fun rv w'=>(∃ (r0 n0 c0:Nat) (r1 n1 c1:Nat) (r2 n2 c2:Nat),rv=.agg #[.slice (some ⟨r0,0,none⟩) n0 c0,.slice (some ⟨r1,0,none⟩) n1 c1,.slice (some ⟨r2,0,none⟩) n2 c2,.int .i64 (((BH d)).next)]∧Own w' r0 50 (nin (ge w.heap.size) [r0,r1,r2]) n0 c0 (((BH d)).files)∧w.heap.size≤r0∧Own w' r1 3 (nin (ge w.heap.size) [r0,r1,r2]) n1 c1 (((BH d)).list)∧w.heap.size≤r1∧Nb r1 r0∧Own w' r2 43 (nin (ge w.heap.size) [r0,r1,r2]) n2 c2 (((BH d)).names)∧w.heap.size≤r2∧Nb r2 r0∧Nb r2 r1)∧Ext w w'):=by
 cases h1.len
 cases h2.len
 cases h3.len
 refine goT func72 ?_
 have Z:=(((St.i0 F w).p h1).p h2).p h3
 refine .s<|.g<|RG.Np Z fun ac w Z=>RG.Np Z fun ae w Z=>.d<|.s<|.g<|RG.N0 Fil 0 Z fun ah w Z=>.r 1<|.d<|.s<|.s<|.g<|.r 1<|.d<|.b 0<|T.Lp (([]:List Fil),ah,(0:Nat),(0:Nat)) (fun (files,r_files,c_files,i)=>([(1,vP ac),(2,vP ae),(3,vS r_files files.length c_files),(4,vI (i:Int))],[(0,.own 0 r_files 50 c_files files)],[],d.files.length - i,(i≤d.files.length)∧(files.length≤i)∧(files++(d.files.drop i).map Kb=d.files.map Kb))) [] Z ⟨AD,AD,AD⟩ ?_
 rintro ⟨files,r_files,c_files,i⟩ aB w Z ⟨ax,ay,az⟩ ab
 refine .s<|.s<|.g<|.r 2<|RG.Lb 2 Z<|.r 1<|.bp ((i:Int)< (d.files.length:Int)) (fun af=>?_) (fun af=>.d<|.cf<|.x 0 rfl<|.s<|T.GS 10 [ae,ac] Z fun _ w Z=>.r [0,2]<|GA.Lb (q:=1) 3 2 Z<|.r [5]<|GA.Lb (q:=1) 6 2 Z<|.r [8]<|GA.Lb (q:=1) 9 2 Z<|.go 1<|GE.N0 Int 0 Z fun aC w Z=>.go 4<|GE.An (hs:=by exact (by (simp; omega))) (hf:=.inr Aw) 0 1 ([]:List Int) d.list [2,3] Z fun ai aj w Z=>.go 7<|GE.CO 0 (fun w Z=>BO d.names (Z.a 0) AB (by intro n hn; have:=p1 n hn; omega)) Z fun ak al w Z=>GA.Do Z fun w Z=>.r 1<|RG.Ss 3 Z fun w Z=>.d<|T.Rb 3 func72 results72 Z ⟨⟨r_files,files.length,c_files,ai,(([]++d.list).length),aj,ak,d.names.length,al,(by rw [show (((BH d)).next)=d.next from Eq.symm AF]; kernel_rfl),Z.qo [2,1,0] 2 files (by exact Q5 ‹_› AB),Z.qb 2,Z.qo [2,1,0] 1 ([]++d.list) AF,Z.qb 1,Z.qn 1 2,Z.qo [2,1,0] 0 d.names AF,Z.qb 0,Z.qn 0 2,Z.qn 0 1⟩,Z.xt⟩)
 exact .d<|.ct<|.sk<|.s<|.b 1<|T.GS 17 [ae,ac] Z fun _ w Z=>.r [0,1]<|GA.Lb (q:=1) 2 2 Z<|.r [3]<|gxb d.files i fun aa E aA ag=>GA.Ix 4 2 E Z<|.r [5]<|Z.el 2 E fun aD aE aF aG Z=>GA.Lh 6 0 0 Z<|.r [7]<|GA.Lb (q:=1) 8 2 Z<|.r [9]<|GA.Ix 10 5 E Z<|.r [11]<|GA.Lg 12 0 1 Z<|.r [13]<|.go 14<|GE.CS (fun w Z=>Df aa.part (⟨([]:List Int),([]:List (List Row))⟩:Prt) (Z.a 1) (Z.a 2) Z.na Z.na (p4 _ ‹_›) (by simp [Cv])) Z fun aH aI aJ aK w Z=>.r [15]<|.go 16<|GE.Nb 1 Z fun aL w Z=>GA.Do Z fun w Z=>RG.Ap (hs:=by exact AB) 0 0 files (⟨aa.num,(⟨(BC aa.part (⟨([]:List Int),([]:List (List Row))⟩:Prt)).ids,(BC aa.part (⟨([]:List Int),([]:List (List Row))⟩:Prt)).blocks⟩:Prt)⟩:Fil) [0,1] Z fun am ao w Z=>.r 1<|.d<|.ib 1<|.g<|.r 1<|.it ((i:Int)+1)<|.r 1<|.d<|ab ((files++[(⟨aa.num,(⟨(BC aa.part (⟨([]:List Int),([]:List (List Row))⟩:Prt)).ids,(BC aa.part (⟨([]:List Int),([]:List (List Row))⟩:Prt)).blocks⟩:Prt)⟩:Fil)]),am,ao,i+1) _ _ AA (Z.to 0 [] 5) ⟨AB,(by simp; omega),(by exact mapStep ‹_› ‹_› rfl)⟩ (by (simp only []; omega))
theorem MU (d:Dsk) (x:Stp) (h1:RepS w F a1 n1 c1 d.files) (h2:RepS w F a2 n2 c2 d.list) (h3:RepS w F a3 n3 c3 d.names) (h4:RepS w F a4 n4 c4 x.part.ids) (h5:RepS w F a5 n5 c5 x.part.blocks) (h6:RepS w F a6 n6 c6 x.list) (h7:RepS w F a7 n7 c7 x.names) (p0:d.files.length≤2000) (p1:d.list.length≤2000) (p2:JQ x):Calls Tryz.prog 149 [.agg #[.slice a1 n1 c1,.slice a2 n2 c2,.slice a3 n3 c3,.int .i64 d.next],.agg #[.int .i64 x.kind,.int .i64 x.num,.slice a4 n4 c4,.slice a5 n5 c5,.slice a6 n6 c6,.slice a7 n7 c7]].toArray w (Am fun rv w'=>VS (fo F w.heap.size) w' (doD d x:Dsk) rv∧Ext w w'):=by
 cases h1.len
 cases h2.len
 cases h3.len
 cases h4.len
 cases h5.len
 cases h6.len
 cases h7.len
 refine goT func149 ?_
 have Z:=(((((((St.i0 F w).p h1).p h2).p h3).p h4).p h5).p h6).p h7
 have ar:=h6.max
 have au:=h7.max
 refine .s<|.g<|RG.Np Z fun ab w Z=>RG.Np Z fun ac w Z=>RG.Np Z fun ae w Z=>.d<|.s<|.s<|.g<|.r 1<|RG.Lb 1 Z<|.d<|.b 0<|.s<|.g<|.eq x.kind 1 (fun af=>?_) (fun af=>?_)
 ·refine .r 1<|.d<|.ct<|.s<|T.GS 10 [ae,ac,ab] Z fun _ w Z=>.r [1]<|GA.Lb (q:=2) 2 2 Z<|.r [4]<|GA.Lb (q:=1) 5 1 Z<|.r [6]<|GA.Ln (q:=1) 7 1 Z<|.r [8]<|.tw 0 9 ?_ ?_
  ·refine GE.N0 Fil 1 Z fun ay w Z=>.tw 3 9 ?_ ?_
   ·refine GE.An (hs:=by (simp only [List.nil_append,List.length_nil,List.length_append,List.length_cons] <;> exact (by have:=p2.1; omega))) 0 6 ([]:List Fil) d.files [1,2,3] Z fun az aA w Z=>.go 9<|GE.Nb 1 Z fun aB w Z=>GA.Do Z fun w Z=>RG.Ap (hs:=by (simp only [List.nil_append,List.length_nil,List.length_append,List.length_cons] <;> exact (by have:=p2.1; omega))) 0 0 ([]++d.files) (⟨x.num,(⟨x.part.ids,x.part.blocks⟩:Prt)⟩:Fil) [3,2] Z fun aC aD w Z=>.r 1<|RG.Ss 3 Z fun w Z=>.d<|.g<|.r 1<|RG.Lb 2 Z<|RG.int (x.num+1) AA (by have E:=Cf d x.num; have q2:=p2.2.2.2; omega)<|.r 1<|RG.Ss 3 Z fun w Z=>.d<|.ib 0<|.s<|.g<|RG.Ln 3 Z<|RG.Ss 1 Z fun w Z=>.d ?_
    have Z:=Z.sl 0
    exact T.Rb 0 func149 results149 Z ⟨Z.rS (g:=1) (⟨(([]++d.files)++[(⟨x.num,(⟨x.part.ids,x.part.blocks⟩:Prt)⟩:Fil)]),d.list,d.names,x.num+1⟩:Dsk) [0,6,5] (by (rw [E2 ‹_›]; simp; done)),Z.xt⟩
   refine GE.Nb 1 Z fun aE w Z=>.go 3<|GE.An (hs:=by (simp only [List.nil_append,List.length_nil,List.length_append,List.length_cons] <;> exact (by have:=p2.1; omega))) 1 6 ([]:List Fil) d.files [2,3,4] Z fun aF aG w Z=>GA.Do Z fun w Z=>RG.Ap (hs:=by (simp only [List.nil_append,List.length_nil,List.length_append,List.length_cons] <;> exact (by have:=p2.1; omega))) 0 0 ([]++d.files) (⟨x.num,(⟨x.part.ids,x.part.blocks⟩:Prt)⟩:Fil) [3,2] Z fun aH aI w Z=>.r 1<|RG.Ss 3 Z fun w Z=>.d<|.g<|.r 1<|RG.Lb 2 Z<|RG.int (x.num+1) AA (by have E:=Cf d x.num; have q2:=p2.2.2.2; omega)<|.r 1<|RG.Ss 3 Z fun w Z=>.d<|.ib 0<|.s<|.g<|RG.Ln 3 Z<|RG.Ss 1 Z fun w Z=>.d ?_
   have Z:=Z.sl 0
   exact T.Rb 0 func149 results149 Z ⟨Z.rS (g:=1) (⟨(([]++d.files)++[(⟨x.num,(⟨x.part.ids,x.part.blocks⟩:Prt)⟩:Fil)]),d.list,d.names,x.num+1⟩:Dsk) [0,6,5] (by (rw [E2 ‹_›]; simp; done)),Z.xt⟩
  refine GE.Nb 1 Z fun aJ w Z=>.go 0<|GE.N0 Fil 1 Z fun aK w Z=>.go 3<|GE.An (hs:=by (simp only [List.nil_append,List.length_nil,List.length_append,List.length_cons] <;> exact (by have:=p2.1; omega))) 0 6 ([]:List Fil) d.files [2,3,4] Z fun aL aM w Z=>GA.Do Z fun w Z=>RG.Ap (hs:=by (simp only [List.nil_append,List.length_nil,List.length_append,List.length_cons] <;> exact (by have:=p2.1; omega))) 0 1 ([]++d.files) (⟨x.num,(⟨x.part.ids,x.part.blocks⟩:Prt)⟩:Fil) [3,2] Z fun aN aO w Z=>.r 1<|RG.Ss 3 Z fun w Z=>.d<|.g<|.r 1<|RG.Lb 2 Z<|RG.int (x.num+1) AA (by have E:=Cf d x.num; have q2:=p2.2.2.2; omega)<|.r 1<|RG.Ss 3 Z fun w Z=>.d<|.ib 0<|.s<|.g<|RG.Ln 3 Z<|RG.Ss 1 Z fun w Z=>.d ?_
  have Z:=Z.sl 0
  exact T.Rb 0 func149 results149 Z ⟨Z.rS (g:=1) (⟨(([]++d.files)++[(⟨x.num,(⟨x.part.ids,x.part.blocks⟩:Prt)⟩:Fil)]),d.list,d.names,x.num+1⟩:Dsk) [0,6,5] (by (rw [E2 ‹_›]; simp; done)),Z.xt⟩
 refine .r 1<|.d<|.cf<|.s<|.g<|.eq x.kind 2 (fun ag=>?_) (fun ag=>?_)
 ·refine .r 1<|.d<|.ct<|.s<|.g<|RG.N0 Int 1 Z fun aP w Z=>.r 1<|RG.Lb 2 Z<|RG.An (hs:=by (simp only [List.nil_append,List.length_nil,List.length_append,List.length_cons] <;> exact (by have:=p2.1; omega))) 0 1 ([]:List Int) x.list Z fun aQ aR w Z=>.r 1<|RG.Ss 3 Z fun w Z=>.d<|.g<|.r 1<|RG.Lb 2 Z<|RG.CO 1 (BO x.names (Z.a 0) (by have:=p2.2.1; omega) (by intro n hn; have:=p2.2.2.1 n hn; omega)) Z fun aS aT w Z=>.r 1<|RG.Ss 4 Z fun w Z=>.d<|.ib 0<|.s<|.g<|RG.Ln 4 Z<|RG.Ss 2 Z fun w Z=>.d ?_
  have Z:=(Z.sl 1).sl 0
  exact T.Rb 0 func149 results149 Z ⟨Z.rS (g:=1) (⟨d.files,([]++x.list),x.names,d.next⟩:Dsk) [8,1,0] (by (rw [Gg ‹_›]; simp; done)),Z.xt⟩
 refine .r 1<|.d<|.cf<|.s<|.g<|.eq x.kind 3 (fun ah=>?_) (fun ah=>.r 1<|.d<|.cf<|.sk<|.ib 0<|.s<|.g<|RG.Ln 2 Z<|RG.Ss 0 Z fun w Z=>.d<|T.Rb 0 func149 results149 Z ⟨Z.rS (g:=1) d [6,5,4] (by rw [UN ‹_› ‹_› ‹_›]),Z.xt⟩)
 refine .r 1<|.d<|.ct<|.s<|.g<|RG.Ln 2 Z<|.r 1<|RG.Lb 1 Z<|RG.C0 (En d x.num (Z.a 6) (Z.a 5) (Z.a 4)) Z fun w Z=>.r 1<|.d<|.s<|.g<|.r 1<|.bp (At d x.num≥0) (fun ai=>?_) (fun ai=>.r 7<|.d<|.cf<|.sk<|.ib 0<|.s<|.g<|RG.Ln 2 Z<|RG.Ss 0 Z fun w Z=>.d<|T.Rb 0 func149 results149 Z ⟨Z.rS (g:=1) d [6,5,4] (by (rw [FC ‹_›,MS (.inl ‹_›)])),Z.xt⟩)
 refine .r 1<|RG.Ln 2 Z<|.r 1<|RG.Lb 1 Z<|RG.C0 (Fa d x.num (Z.a 6) (Z.a 5) (Z.a 4)) Z fun w Z=>?_
 cases ax:(d.list.contains x.num)
 ·refine .r 2<|.d<|.ct<|T.GS 11 [ae,ac,ab] Z fun _ w Z=>.r [1]<|GA.Lb (q:=2) 2 2 Z<|.r [3]<|GA.Sb (hlh:=(by have E:=Cf d x.num; omega)) (hh:=(by have E:=Cf d x.num; omega)) (hhi:=bdI (At d x.num)) 4 6 0 ((At d x.num).toNat) d.files Z fun aU aV Z=>.r [6]<|GA.Lb (q:=2) 7 2 Z<|.r [8]<|GA.int (i:=9) (At d x.num+1) AA (by have E:=Cf d x.num; omega)<|GA.Sb (hlh:=(by have E:=Cf d x.num; omega)) (hh:=(by have E:=Cf d x.num; omega)) (hlo:=bdI (At d x.num+1)) 10 7 ((At d x.num+1).toNat) d.files.length d.files Z fun aW aX Z=>.go 0<|GE.N0 Fil 1 Z fun aY w Z=>.go 5<|GE.An (hs:=by (simp <;> omega)) 0 1 ([]:List Fil) ((d.files.take ((At d x.num).toNat)).drop 0) [1,2,3] Z fun aZ ba w Z=>GA.Do Z fun w Z=>RG.An (hs:=by (simp <;> omega)) 0 0 ([]++((d.files.take ((At d x.num).toNat)).drop 0)) ((d.files.take d.files.length).drop ((At d x.num+1).toNat)) Z fun bd bg w Z=>.r 1<|RG.Ss 3 Z fun w Z=>.d<|.ib 0<|.s<|.g<|RG.Ln 3 Z<|RG.Ss 1 Z fun w Z=>.d ?_
  have Z:=Z.sl 0
  exact T.Rb 0 func149 results149 Z ⟨Z.rS (g:=1) (⟨(([]++((d.files.take ((At d x.num).toNat)).drop 0))++((d.files.take d.files.length).drop ((At d x.num+1).toNat))),d.list,d.names,d.next⟩:Dsk) [0,8,7] (by (rw [FC ‹_›,OO ‹_› ‹_›]; have e1:(At d x.num+1).toNat=(At d x.num).toNat+1:=AB; simp [e1]; done)),Z.xt⟩
 exact .r 2<|.d<|.cf<|.sk<|.ib 0<|.s<|.g<|RG.Ln 2 Z<|RG.Ss 0 Z fun w Z=>.d<|T.Rb 0 func149 results149 Z ⟨Z.rS (g:=1) d [6,5,4] (by (rw [FC ‹_›,MS (.inr ‹_›)])),Z.xt⟩
theorem MV (d:Dsk) (steps:List Stp) (cut:Int) (h1:RepS w F a1 n1 c1 d.files) (h2:RepS w F a2 n2 c2 d.list) (h3:RepS w F a3 n3 c3 d.names) (h4:RepS w F a4 n4 c4 steps) (p0:d.files.length≤1000) (p1:steps.length≤1000) (p2:d.list.length≤1000) (p3:∀ x∈steps,JQ x):Calls Tryz.prog 110 [.agg #[.slice a1 n1 c1,.slice a2 n2 c2,.slice a3 n3 c3,.int .i64 d.next],.slice a4 n4 c4,.int .i64 cut].toArray w (Am fun rv w'=>VS (fo F w.heap.size) w' (toD d steps cut:Dsk) rv∧Ext w w'):=by
 cases h1.len
 cases h2.len
 cases h3.len
 cases h4.len
 refine goT func110 ?_
 have Z:=((((St.i0 F w).p h1).p h2).p h3).p h4
 refine .s<|.g<|RG.Np Z fun ah w Z=>RG.Np Z fun al w Z=>.d<|.s<|.s<|.g<|.r 1<|.d<|.b 0<|T.Lp ((0:Nat),(d.files:List Fil),a1,c1,(d.list:List Int),a2,c2,(d.names:List (List Tag)),a3,c3,d.next) (fun (i,E,a_d_0,c_d_0,aa,a_d_1,c_d_1,ab,a_d_2,c_d_2,ac)=>([(1,.slice a4 steps.length c4),(2,vI cut),(3,vP ah),(6,vP al),(7,vI (i:Int))],[(1,.box ah 36 [.slice a_d_0 E.length c_d_0,.slice a_d_1 aa.length c_d_1,.slice a_d_2 ab.length c_d_2,vI ac])],[⟨1,none,.rep a_d_0 c_d_0 E⟩,⟨1,none,.rep a_d_1 c_d_1 aa⟩,⟨1,none,.rep a_d_2 c_d_2 ab⟩],steps.length - i,(i≤steps.length)∧(E.length≤d.files.length+i)∧(aa.length≤1000)∧(((steps.take cut.toNat).drop i).foldl doD ⟨E,aa,ab,ac⟩=toD d steps cut))) [3,2,1] Z ⟨AB,AB,AB,AF⟩ ?_
 rintro ⟨i,E,a_d_0,c_d_0,aa,a_d_1,c_d_1,ab,a_d_2,c_d_2,ac⟩ aJ w Z ⟨aE,aF,aG,aH⟩ af
 refine .s<|.s<|.g<|.r 3<|.bp ((i:Int)< (steps.length:Int)) (fun ai=>?_) (fun ai=>.r 5<|.d<|.cf<|.x 0 rfl<|.s<|.g<|RG.Ln 1 Z<|RG.Ss 0 Z fun w Z=>.d<|T.Rb 0 func110 results110 Z ⟨Z.rS (g:=1) (⟨E,aa,ab,ac⟩:Dsk) [0,1,2] (by exact toEnd ‹_› AB),Z.xt⟩)
 refine .r 3<|.bp ((i:Int)< cut) (fun aj=>?_) (fun aj=>.r 1<|.d<|.cf<|.x 0 rfl<|.s<|.g<|RG.Ln 1 Z<|RG.Ss 0 Z fun w Z=>.d<|T.Rb 0 func110 results110 Z ⟨Z.rS (g:=1) (⟨E,aa,ab,ac⟩:Dsk) [0,1,2] (by exact toEnd ‹_› AB),Z.xt⟩)
 exact .r 1<|.d<|.ct<|.sk<|.s<|.b 1<|T.Gd 5 Z fun w Z=>GA.Ln 0 1 Z<|.r [1,2]<|gxb steps i fun ag ae aI ak=>GA.Ix 3 3 ae Z<|Z.el 3 ae fun aK aL aM aN aO aP aQ aR Z=>GA.Lg 4 0 0 Z<|GA.Dn Z fun w Z=>RG.CS (MU (⟨E,aa,ab,ac⟩:Dsk) ag (Z.mg 1 5) (Z.mg 1 6) (Z.mg 1 7) (Z.mg 1 1) (Z.mg 1 2) (Z.mg 1 3) (Z.mg 1 4) (by simp only; omega) (by simp only; omega) (p3 _ ‹_›)) Z fun am ao aq ar au ax w Z=>RG.Ss 1 Z fun w Z=>.d<|.ib 1<|.g<|.r 1<|.it ((i:Int)+1)<|.r 1<|.d<|af (i+1,(doD (⟨E,aa,ab,ac⟩:Dsk) ag).files,am,ao,(doD (⟨E,aa,ab,ac⟩:Dsk) ag).list,aq,ar,(doD (⟨E,aa,ab,ac⟩:Dsk) ag).names,au,ax,(doD (⟨E,aa,ab,ac⟩:Dsk) ag).next) _ _ AA (Z.to 0 [0,1,2] 11) ⟨AB,(by have q1:=p3 _ ‹_›; have q2:=PL (d:=⟨E,aa,ab,ac⟩) q1.1 ‹_›; dsimp only at q2; omega),(by have q1:=p3 _ ‹_›; have q2:=PL (d:=⟨E,aa,ab,ac⟩) q1.1 ‹_›; dsimp only at q2; omega),(by exact toStep ‹_› ‹_› AB)⟩ (by (simp only []; omega))
theorem Ji (d:Dsk) (at_:Int) (h1:RepS w F a1 n1 c1 d.files) (h2:RepS w F a2 n2 c2 d.list) (h3:RepS w F a3 n3 c3 d.names) (p0:d.names.length≤1000) (p1:∀ n∈d.names,n.length≤1000) (p2:d.list.length≤1000) (p3:∀ n∈d.list,0≤At d n) (p4:∀ f∈d.files,Cv f.part):Calls Tryz.prog 69 [.agg #[.slice a1 n1 c1,.slice a2 n2 c2,.slice a3 n3 c3,.int .i64 d.next],.int .i64 at_].toArray w (Am fun rv w'=>VL (ge w.heap.size) w' (Aj d at_:List Stp) rv∧Ext w w'):=by
 cases h1.len
 cases h2.len
 cases h3.len
 refine goT func69 ?_
 have Z:=(((St.i0 F w).p h1).p h2).p h3
 refine .s<|.g<|RG.Np Z fun aj w Z=>.r 1<|.d<|.s<|.s<|.g<|.r 2<|RG.Lb 0 Z<|.r 1<|.it ((d.list.length:Int) - 2)<|RG.C0 (DH at_ 0 ((d.list.length:Int) - 2) (F:=all)) Z fun w Z=>?_
 cases ai:(inR at_ 0 ((d.list.length:Int) - 2))
 ·exact .r 12<|.d<|.ct<|.s<|.g<|RG.N0 Stp 0 Z fun bH w Z=>.r 1<|.d<|T.Rt func69 results69 ⟨Z.rM 0 ([]:List Stp) (by rw [H5 (.inl ‹_›)]),Z.xt⟩
 have aC:=By ai
 refine .r 3<|RG.Lb 0 Z<|.bp (d.next≥999) (fun ak=>.r 7<|.d<|.ct<|.s<|.g<|RG.N0 Stp 0 Z fun bI w Z=>.r 1<|.d<|T.Rt func69 results69 ⟨Z.rM 0 ([]:List Stp) (by rw [H5 (.inr (.inl ‹_›))]),Z.xt⟩) fun ak=>.r 3<|RG.Lb 0 Z<|.r 1<|.bp ((d.files.length:Int)≥20) (fun al=>.r 1<|.d<|.ct<|.s<|.g<|RG.N0 Stp 0 Z fun bJ w Z=>.r 1<|.d<|T.Rt func69 results69 ⟨Z.rM 0 ([]:List Stp) (by rw [H5 (.inr (.inr ‹_›))]),Z.xt⟩) fun al=>.r 1<|.d<|.cf<|.sk<|.s<|.g<|.r 1<|RG.Lb 0 Z<|.r 1<|gxm (h:=AB) d.list (at_.toNat) fun ab ae ao=>RG.Jx (hz:=AB) 1 at_ ae Z<|Z.el 1 ae fun Z=>RG.Lh 0 0 Z<|.r 1<|.d<|.s<|.g<|.r 1<|RG.Lb 0 Z<|.r 1<|.it (at_+1)<|gxm (h:=AB) d.list ((at_+1).toNat) fun ac af aq=>RG.Jx (hz:=AB) 2 (at_+1) af Z<|Z.el 2 af fun Z=>RG.Lh 0 0 Z<|.r 1<|.d<|.s<|T.Gd 18 Z fun w Z=>.r [0]<|GA.Lb 1 0 Z<|GA.Ln 2 0 Z<|.r [3]<|GA.C0 4 Z (fun w Z=>En d ab (Z.a 4) (Z.a 3) (Z.a 2))<|gxm (h:=(by exact Im p3 ‹_›)) d.files ((At d ab).toNat) fun E ag ar=>GA.Jx (hz:=(by exact Ip p3 ‹_›)) 5 4 (At d ab) ag Z<|.r [6]<|Z.el 4 ag fun bK bL bM bN Z=>GA.Lg 7 0 1 Z<|.r [8]<|GA.Lb 9 0 Z<|GA.Ln 10 0 Z<|.r [11]<|GA.C0 12 Z (fun w Z=>En d ac (Z.a 7) (Z.a 6) (Z.a 5))<|gxm (h:=(by exact Im p3 ‹_›)) d.files ((At d ac).toNat) fun aa ah au=>GA.Jx (hz:=(by exact Ip p3 ‹_›)) 13 7 (At d ac) ah Z<|.r [14]<|Z.el 7 ah fun bO bP bQ bR Z=>GA.Lg 15 0 1 Z<|.tw 16 17 ?_ ?_
 ·refine GE.CS (fun w Z=>Df E.part aa.part (Z.a 4) (Z.a 5) (Z.a 1) (Z.a 2) (p4 _ ‹_›) (p4 _ ‹_›)) Z fun bS bT bU bV w Z=>.go 17<|GE.Np Z fun ax w Z=>GA.Dn Z fun w Z=>RG.Ss 0 Z fun w Z=>.d<|.s<|T.GS 15 [ax,aj] Z fun _ w Z=>.r [1]<|GA.Lb (q:=1) 2 1 Z<|.r [3]<|GA.Sb (hhi:=bdI at_) 4 11 0 (at_.toNat) d.list Z fun bW bX Z=>.r [6]<|GA.Lb (q:=1) 7 1 Z<|.r [10]<|GA.Lb (q:=1) 11 1 Z<|.r [12]<|GA.int (i:=13) (at_+2) AA AB<|GA.Sb (hlo:=bdI (at_+2)) 14 12 ((at_+2).toNat) d.list.length d.list Z fun bY bZ Z=>.tw 0 8 ?_ ?_
  ·refine GE.N0 Int 0 Z fun b0 w Z=>.tw 5 8 ?_ ?_
   ·exact GE.An (hf:=.inr Aw) 0 1 ([]:List Int) ((d.list.take (at_.toNat)).drop 0) [1,2] Z fun b6 b7 w Z=>.go 8<|GE.Nb 1 Z fun b8 w Z=>.go 9<|GE.Ap 0 0 ([]++((d.list.take (at_.toNat)).drop 0)) d.next [] [1,2] Z fun b9 cd w Z=>GA.Do Z fun w Z=>RG.An (hf:=.inr Aw) 0 0 (([]++((d.list.take (at_.toNat)).drop 0))++[d.next]) ((d.list.take d.list.length).drop ((at_+2).toNat)) Z fun ce cg w Z=>.r 1<|.d<|.s<|T.Gd 13 Z fun w Z=>.r [0]<|GA.Lb 1 2 Z<|GA.Ln 2 1 Z<|.r [3,4,5]<|GA.Lb 6 2 Z<|.r [9,10,11,12]<|.go 7<|GE.CO 0 (fun w Z=>BO d.names (Z.a 12) AB (by intro n hn; have:=p1 n hn; omega)) Z fun ci cj w Z=>.r [8]<|GA.Dn Z fun w Z=>RG.Nl 0 ([(⟨1,d.next,(⟨(BC E.part aa.part).ids,(BC E.part aa.part).blocks⟩:Prt),([]:List Int),([]:List (List Tag))⟩:Stp),(⟨2,0,(⟨([]:List Int),([]:List (List Row))⟩:Prt),((([]++((d.list.take (at_.toNat)).drop 0))++[d.next])++((d.list.take d.list.length).drop ((at_+2).toNat))),d.names⟩:Stp),(⟨3,ab,(⟨([]:List Int),([]:List (List Row))⟩:Prt),([]:List Int),([]:List (List Tag))⟩:Stp),(⟨3,ac,(⟨([]:List Int),([]:List (List Row))⟩:Prt),([]:List Int),([]:List (List Tag))⟩:Stp)]:List Stp) [[16,17,13,12],[9,8,11,10],[7,6,5,4],[3,2,1,0]] ((((((((((((((Z.nl Int).nl (List Tag)).sl 1).sl 0).nl Int).nl (List Row)).nl Int).nl (List Row)).nl Int).nl (List Tag)).nl Int).nl (List Row)).nl Int).nl (List Tag)) fun ck w Z=>.r 1<|.d<|T.Rt func69 results69 ⟨Z.rM 0 ([(⟨1,d.next,(⟨(BC E.part aa.part).ids,(BC E.part aa.part).blocks⟩:Prt),([]:List Int),([]:List (List Tag))⟩:Stp),(⟨2,0,(⟨([]:List Int),([]:List (List Row))⟩:Prt),((([]++((d.list.take (at_.toNat)).drop 0))++[d.next])++((d.list.take d.list.length).drop ((at_+2).toNat))),d.names⟩:Stp),(⟨3,ab,(⟨([]:List Int),([]:List (List Row))⟩:Prt),([]:List Int),([]:List (List Tag))⟩:Stp),(⟨3,ac,(⟨([]:List Int),([]:List (List Row))⟩:Prt),([]:List Int),([]:List (List Tag))⟩:Stp)]:List Stp) (by rw [EL ‹_› ‹_› ‹_› ‹_› ‹_› ‹_› ‹_›]),Z.xt⟩
   exact GE.Nb 1 Z fun cm w Z=>.go 5<|GE.An (hf:=.inr Aw) 1 1 ([]:List Int) ((d.list.take (at_.toNat)).drop 0) [2,3] Z fun co cp w Z=>.go 9<|GE.Ap 0 0 ([]++((d.list.take (at_.toNat)).drop 0)) d.next [] [1,2] Z fun cq cr w Z=>GA.Do Z fun w Z=>RG.An (hf:=.inr Aw) 0 0 (([]++((d.list.take (at_.toNat)).drop 0))++[d.next]) ((d.list.take d.list.length).drop ((at_+2).toNat)) Z fun cu cw w Z=>.r 1<|.d<|.s<|T.Gd 13 Z fun w Z=>.r [0]<|GA.Lb 1 2 Z<|GA.Ln 2 1 Z<|.r [3,4,5]<|GA.Lb 6 2 Z<|.r [9,10,11,12]<|.go 7<|GE.CO 0 (fun w Z=>BO d.names (Z.a 12) AB (by intro n hn; have:=p1 n hn; omega)) Z fun cx cy w Z=>.r [8]<|GA.Dn Z fun w Z=>RG.Nl 0 ([(⟨1,d.next,(⟨(BC E.part aa.part).ids,(BC E.part aa.part).blocks⟩:Prt),([]:List Int),([]:List (List Tag))⟩:Stp),(⟨2,0,(⟨([]:List Int),([]:List (List Row))⟩:Prt),((([]++((d.list.take (at_.toNat)).drop 0))++[d.next])++((d.list.take d.list.length).drop ((at_+2).toNat))),d.names⟩:Stp),(⟨3,ab,(⟨([]:List Int),([]:List (List Row))⟩:Prt),([]:List Int),([]:List (List Tag))⟩:Stp),(⟨3,ac,(⟨([]:List Int),([]:List (List Row))⟩:Prt),([]:List Int),([]:List (List Tag))⟩:Stp)]:List Stp) [[16,17,13,12],[9,8,11,10],[7,6,5,4],[3,2,1,0]] ((((((((((((((Z.nl Int).nl (List Tag)).sl 1).sl 0).nl Int).nl (List Row)).nl Int).nl (List Row)).nl Int).nl (List Tag)).nl Int).nl (List Row)).nl Int).nl (List Tag)) fun cz w Z=>.r 1<|.d<|T.Rt func69 results69 ⟨Z.rM 0 ([(⟨1,d.next,(⟨(BC E.part aa.part).ids,(BC E.part aa.part).blocks⟩:Prt),([]:List Int),([]:List (List Tag))⟩:Stp),(⟨2,0,(⟨([]:List Int),([]:List (List Row))⟩:Prt),((([]++((d.list.take (at_.toNat)).drop 0))++[d.next])++((d.list.take d.list.length).drop ((at_+2).toNat))),d.names⟩:Stp),(⟨3,ab,(⟨([]:List Int),([]:List (List Row))⟩:Prt),([]:List Int),([]:List (List Tag))⟩:Stp),(⟨3,ac,(⟨([]:List Int),([]:List (List Row))⟩:Prt),([]:List Int),([]:List (List Tag))⟩:Stp)]:List Stp) (by rw [EL ‹_› ‹_› ‹_› ‹_› ‹_› ‹_› ‹_›]),Z.xt⟩
  exact GE.Nb 1 Z fun cA w Z=>.go 0<|GE.N0 Int 0 Z fun cB w Z=>.go 5<|GE.An (hf:=.inr Aw) 0 1 ([]:List Int) ((d.list.take (at_.toNat)).drop 0) [2,3] Z fun cC cD w Z=>.go 9<|GE.Ap 0 1 ([]++((d.list.take (at_.toNat)).drop 0)) d.next [] [1,2] Z fun cE cF w Z=>GA.Do Z fun w Z=>RG.An (hf:=.inr Aw) 0 0 (([]++((d.list.take (at_.toNat)).drop 0))++[d.next]) ((d.list.take d.list.length).drop ((at_+2).toNat)) Z fun cG cH w Z=>.r 1<|.d<|.s<|T.Gd 13 Z fun w Z=>.r [0]<|GA.Lb 1 2 Z<|GA.Ln 2 1 Z<|.r [3,4,5]<|GA.Lb 6 2 Z<|.r [9,10,11,12]<|.go 7<|GE.CO 0 (fun w Z=>BO d.names (Z.a 12) AB (by intro n hn; have:=p1 n hn; omega)) Z fun aH aI w Z=>.r [8]<|GA.Dn Z fun w Z=>RG.Nl 0 ([(⟨1,d.next,(⟨(BC E.part aa.part).ids,(BC E.part aa.part).blocks⟩:Prt),([]:List Int),([]:List (List Tag))⟩:Stp),(⟨2,0,(⟨([]:List Int),([]:List (List Row))⟩:Prt),((([]++((d.list.take (at_.toNat)).drop 0))++[d.next])++((d.list.take d.list.length).drop ((at_+2).toNat))),d.names⟩:Stp),(⟨3,ab,(⟨([]:List Int),([]:List (List Row))⟩:Prt),([]:List Int),([]:List (List Tag))⟩:Stp),(⟨3,ac,(⟨([]:List Int),([]:List (List Row))⟩:Prt),([]:List Int),([]:List (List Tag))⟩:Stp)]:List Stp) [[16,17,13,12],[9,8,11,10],[7,6,5,4],[3,2,1,0]] ((((((((((((((Z.nl Int).nl (List Tag)).sl 1).sl 0).nl Int).nl (List Row)).nl Int).nl (List Row)).nl Int).nl (List Tag)).nl Int).nl (List Row)).nl Int).nl (List Tag)) fun aJ w Z=>.r 1<|.d<|T.Rt func69 results69 ⟨Z.rM 0 ([(⟨1,d.next,(⟨(BC E.part aa.part).ids,(BC E.part aa.part).blocks⟩:Prt),([]:List Int),([]:List (List Tag))⟩:Stp),(⟨2,0,(⟨([]:List Int),([]:List (List Row))⟩:Prt),((([]++((d.list.take (at_.toNat)).drop 0))++[d.next])++((d.list.take d.list.length).drop ((at_+2).toNat))),d.names⟩:Stp),(⟨3,ab,(⟨([]:List Int),([]:List (List Row))⟩:Prt),([]:List Int),([]:List (List Tag))⟩:Stp),(⟨3,ac,(⟨([]:List Int),([]:List (List Row))⟩:Prt),([]:List Int),([]:List (List Tag))⟩:Stp)]:List Stp) (by rw [EL ‹_› ‹_› ‹_› ‹_› ‹_› ‹_› ‹_›]),Z.xt⟩
 refine GE.Np Z fun am w Z=>.go 16<|GE.CS (fun w Z=>Df E.part aa.part (Z.a 4) (Z.a 5) (Z.a 1) (Z.a 2) (p4 _ ‹_›) (p4 _ ‹_›)) Z fun aK aL aM aN w Z=>GA.Dn Z fun w Z=>RG.Ss 0 Z fun w Z=>.d<|.s<|T.GS 15 [am,aj] Z fun _ w Z=>.r [1]<|GA.Lb (q:=1) 2 1 Z<|.r [3]<|GA.Sb (hhi:=bdI at_) 4 11 0 (at_.toNat) d.list Z fun aO aP Z=>.r [6]<|GA.Lb (q:=1) 7 1 Z<|.r [10]<|GA.Lb (q:=1) 11 1 Z<|.r [12]<|GA.int (i:=13) (at_+2) AA AB<|GA.Sb (hlo:=bdI (at_+2)) 14 12 ((at_+2).toNat) d.list.length d.list Z fun aQ aR Z=>.tw 0 8 ?_ ?_
 ·refine GE.N0 Int 0 Z fun aS w Z=>.tw 5 8 ?_ ?_
  ·exact GE.An (hf:=.inr Aw) 0 1 ([]:List Int) ((d.list.take (at_.toNat)).drop 0) [1,2] Z fun aT aU w Z=>.go 8<|GE.Nb 1 Z fun aV w Z=>.go 9<|GE.Ap 0 0 ([]++((d.list.take (at_.toNat)).drop 0)) d.next [] [1,2] Z fun aW aX w Z=>GA.Do Z fun w Z=>RG.An (hf:=.inr Aw) 0 0 (([]++((d.list.take (at_.toNat)).drop 0))++[d.next]) ((d.list.take d.list.length).drop ((at_+2).toNat)) Z fun aY aZ w Z=>.r 1<|.d<|.s<|T.Gd 13 Z fun w Z=>.r [0]<|GA.Lb 1 2 Z<|GA.Ln 2 1 Z<|.r [3,4,5]<|GA.Lb 6 2 Z<|.r [9,10,11,12]<|.go 7<|GE.CO 0 (fun w Z=>BO d.names (Z.a 12) AB (by intro n hn; have:=p1 n hn; omega)) Z fun ba bd w Z=>.r [8]<|GA.Dn Z fun w Z=>RG.Nl 0 ([(⟨1,d.next,(⟨(BC E.part aa.part).ids,(BC E.part aa.part).blocks⟩:Prt),([]:List Int),([]:List (List Tag))⟩:Stp),(⟨2,0,(⟨([]:List Int),([]:List (List Row))⟩:Prt),((([]++((d.list.take (at_.toNat)).drop 0))++[d.next])++((d.list.take d.list.length).drop ((at_+2).toNat))),d.names⟩:Stp),(⟨3,ab,(⟨([]:List Int),([]:List (List Row))⟩:Prt),([]:List Int),([]:List (List Tag))⟩:Stp),(⟨3,ac,(⟨([]:List Int),([]:List (List Row))⟩:Prt),([]:List Int),([]:List (List Tag))⟩:Stp)]:List Stp) [[16,17,13,12],[9,8,11,10],[7,6,5,4],[3,2,1,0]] ((((((((((((((Z.nl Int).nl (List Tag)).sl 1).sl 0).nl Int).nl (List Row)).nl Int).nl (List Row)).nl Int).nl (List Tag)).nl Int).nl (List Row)).nl Int).nl (List Tag)) fun bg w Z=>.r 1<|.d<|T.Rt func69 results69 ⟨Z.rM 0 ([(⟨1,d.next,(⟨(BC E.part aa.part).ids,(BC E.part aa.part).blocks⟩:Prt),([]:List Int),([]:List (List Tag))⟩:Stp),(⟨2,0,(⟨([]:List Int),([]:List (List Row))⟩:Prt),((([]++((d.list.take (at_.toNat)).drop 0))++[d.next])++((d.list.take d.list.length).drop ((at_+2).toNat))),d.names⟩:Stp),(⟨3,ab,(⟨([]:List Int),([]:List (List Row))⟩:Prt),([]:List Int),([]:List (List Tag))⟩:Stp),(⟨3,ac,(⟨([]:List Int),([]:List (List Row))⟩:Prt),([]:List Int),([]:List (List Tag))⟩:Stp)]:List Stp) (by rw [EL ‹_› ‹_› ‹_› ‹_› ‹_› ‹_› ‹_›]),Z.xt⟩
  exact GE.Nb 1 Z fun bh w Z=>.go 5<|GE.An (hf:=.inr Aw) 1 1 ([]:List Int) ((d.list.take (at_.toNat)).drop 0) [2,3] Z fun bi bj w Z=>.go 9<|GE.Ap 0 0 ([]++((d.list.take (at_.toNat)).drop 0)) d.next [] [1,2] Z fun bk bm w Z=>GA.Do Z fun w Z=>RG.An (hf:=.inr Aw) 0 0 (([]++((d.list.take (at_.toNat)).drop 0))++[d.next]) ((d.list.take d.list.length).drop ((at_+2).toNat)) Z fun bn bo w Z=>.r 1<|.d<|.s<|T.Gd 13 Z fun w Z=>.r [0]<|GA.Lb 1 2 Z<|GA.Ln 2 1 Z<|.r [3,4,5]<|GA.Lb 6 2 Z<|.r [9,10,11,12]<|.go 7<|GE.CO 0 (fun w Z=>BO d.names (Z.a 12) AB (by intro n hn; have:=p1 n hn; omega)) Z fun bq br w Z=>.r [8]<|GA.Dn Z fun w Z=>RG.Nl 0 ([(⟨1,d.next,(⟨(BC E.part aa.part).ids,(BC E.part aa.part).blocks⟩:Prt),([]:List Int),([]:List (List Tag))⟩:Stp),(⟨2,0,(⟨([]:List Int),([]:List (List Row))⟩:Prt),((([]++((d.list.take (at_.toNat)).drop 0))++[d.next])++((d.list.take d.list.length).drop ((at_+2).toNat))),d.names⟩:Stp),(⟨3,ab,(⟨([]:List Int),([]:List (List Row))⟩:Prt),([]:List Int),([]:List (List Tag))⟩:Stp),(⟨3,ac,(⟨([]:List Int),([]:List (List Row))⟩:Prt),([]:List Int),([]:List (List Tag))⟩:Stp)]:List Stp) [[16,17,13,12],[9,8,11,10],[7,6,5,4],[3,2,1,0]] ((((((((((((((Z.nl Int).nl (List Tag)).sl 1).sl 0).nl Int).nl (List Row)).nl Int).nl (List Row)).nl Int).nl (List Tag)).nl Int).nl (List Row)).nl Int).nl (List Tag)) fun bt w Z=>.r 1<|.d<|T.Rt func69 results69 ⟨Z.rM 0 ([(⟨1,d.next,(⟨(BC E.part aa.part).ids,(BC E.part aa.part).blocks⟩:Prt),([]:List Int),([]:List (List Tag))⟩:Stp),(⟨2,0,(⟨([]:List Int),([]:List (List Row))⟩:Prt),((([]++((d.list.take (at_.toNat)).drop 0))++[d.next])++((d.list.take d.list.length).drop ((at_+2).toNat))),d.names⟩:Stp),(⟨3,ab,(⟨([]:List Int),([]:List (List Row))⟩:Prt),([]:List Int),([]:List (List Tag))⟩:Stp),(⟨3,ac,(⟨([]:List Int),([]:List (List Row))⟩:Prt),([]:List Int),([]:List (List Tag))⟩:Stp)]:List Stp) (by rw [EL ‹_› ‹_› ‹_› ‹_› ‹_› ‹_› ‹_›]),Z.xt⟩
 exact GE.Nb 1 Z fun bu w Z=>.go 0<|GE.N0 Int 0 Z fun bv w Z=>.go 5<|GE.An (hf:=.inr Aw) 0 1 ([]:List Int) ((d.list.take (at_.toNat)).drop 0) [2,3] Z fun bw bz w Z=>.go 9<|GE.Ap 0 1 ([]++((d.list.take (at_.toNat)).drop 0)) d.next [] [1,2] Z fun bA bB w Z=>GA.Do Z fun w Z=>RG.An (hf:=.inr Aw) 0 0 (([]++((d.list.take (at_.toNat)).drop 0))++[d.next]) ((d.list.take d.list.length).drop ((at_+2).toNat)) Z fun bC bD w Z=>.r 1<|.d<|.s<|T.Gd 13 Z fun w Z=>.r [0]<|GA.Lb 1 2 Z<|GA.Ln 2 1 Z<|.r [3,4,5]<|GA.Lb 6 2 Z<|.r [9,10,11,12]<|.go 7<|GE.CO 0 (fun w Z=>BO d.names (Z.a 12) AB (by intro n hn; have:=p1 n hn; omega)) Z fun bE bF w Z=>.r [8]<|GA.Dn Z fun w Z=>RG.Nl 0 ([(⟨1,d.next,(⟨(BC E.part aa.part).ids,(BC E.part aa.part).blocks⟩:Prt),([]:List Int),([]:List (List Tag))⟩:Stp),(⟨2,0,(⟨([]:List Int),([]:List (List Row))⟩:Prt),((([]++((d.list.take (at_.toNat)).drop 0))++[d.next])++((d.list.take d.list.length).drop ((at_+2).toNat))),d.names⟩:Stp),(⟨3,ab,(⟨([]:List Int),([]:List (List Row))⟩:Prt),([]:List Int),([]:List (List Tag))⟩:Stp),(⟨3,ac,(⟨([]:List Int),([]:List (List Row))⟩:Prt),([]:List Int),([]:List (List Tag))⟩:Stp)]:List Stp) [[16,17,13,12],[9,8,11,10],[7,6,5,4],[3,2,1,0]] ((((((((((((((Z.nl Int).nl (List Tag)).sl 1).sl 0).nl Int).nl (List Row)).nl Int).nl (List Row)).nl Int).nl (List Tag)).nl Int).nl (List Row)).nl Int).nl (List Tag)) fun bG w Z=>.r 1<|.d<|T.Rt func69 results69 ⟨Z.rM 0 ([(⟨1,d.next,(⟨(BC E.part aa.part).ids,(BC E.part aa.part).blocks⟩:Prt),([]:List Int),([]:List (List Tag))⟩:Stp),(⟨2,0,(⟨([]:List Int),([]:List (List Row))⟩:Prt),((([]++((d.list.take (at_.toNat)).drop 0))++[d.next])++((d.list.take d.list.length).drop ((at_+2).toNat))),d.names⟩:Stp),(⟨3,ab,(⟨([]:List Int),([]:List (List Row))⟩:Prt),([]:List Int),([]:List (List Tag))⟩:Stp),(⟨3,ac,(⟨([]:List Int),([]:List (List Row))⟩:Prt),([]:List Int),([]:List (List Tag))⟩:Stp)]:List Stp) (by rw [EL ‹_› ‹_› ‹_› ‹_› ‹_› ‹_› ‹_›]),Z.xt⟩
end Go.Proofs.YtggnnidleedpaaaGreat
namespace Go.Proofs.YtggnnidleedpaaaGreat
def Blk (b:List Row):Prop:=Ca none b=true
theorem BX {o:Option Row}{r:Row}{rs:List Row}:Ca o (r::rs)=true↔BU r=true∧(∀ q,o=some q→q.t< r.t)∧Ca (some r) rs=true:=by
 simp only [Ca,AW]
 cases o <;> simp [and_assoc]
theorem ND {o:Option Row}{b:List Row}(h:Ca o b=true):Blk b:=by
 cases b with
 | nil=>rfl
 | cons r rs=>exact BX.2 ⟨(BX.1 h).1,by simp,(BX.1 h).2.2⟩
theorem MW {r:Row}(h:BU r=true):0≤r.t∧r.t≤99:=by
 simp only [BU,AW] at h
 exact By h.1
theorem TF {r:Row}(h:BU r=true):-99≤r.v∧r.v≤99:=by
 simp only [BU,AW] at h
 exact By h.2
theorem OP:∀ (b:List Row) (q:Row),Ca (some q) b=true→q.t≤99→(b.length:Int)≤99 - q.t:=by
 intro b
 induction b with
 | nil=>intro q _ h; simp; omega
 | cons r rs ih =>
   intro q h hq
   obtain ⟨h1,h2,h3⟩:=BX.1 h
   have h4:=h2 q rfl
   have h5:=MW h1
   have h6:=ih r h3 AB
   simp only [List.length_cons]
   omega
theorem Blk.len {b:List Row}(h:Blk b):b.length≤100:=by
 cases b with
 | nil=>simp
 | cons r rs =>
   obtain ⟨h1,_,h3⟩:=BX.1 h
   have h5:=MW h1
   have h6:=OP rs r h3 AB
   simp only [List.length_cons]
   omega
theorem NE:∀ (b:List Row) (o:Option Row),Ca o b=true→∀ r∈b,BU r=true:=by
 intro b
 induction b with
 | nil=>intro o _ r hr; cases hr
 | cons x xs ih =>
   intro o h r hr
   obtain ⟨h1,_,h3⟩:=BX.1 h
   rcases List.mem_cons.1 hr with rfl | hr
   ·exact h1
   ·exact ih _ h3 r hr
theorem Blk.rows {b:List Row}(h:Blk b):∀ r∈b,BU r=true:=NE b none h
theorem LY:∀ (b:List Row) (q:Row),Ca (some q) b=true→∀ r∈b,q.t< r.t:=by
 intro b
 induction b with
 | nil=>intro q _ r hr; cases hr
 | cons x xs ih =>
   intro q h r hr
   obtain ⟨_,h2,h3⟩:=BX.1 h
   have h4:=h2 q rfl
   rcases List.mem_cons.1 hr with rfl | hr
   ·exact h4
   ·have:=ih x h3 r hr; omega
def DK (r:Row):List Row→List Row
 | []=>[r]
 | x::xs=>if r.t< x.t then r::x::xs else if r.t=x.t then r::xs else x::DK r xs
theorem LZ (r:Row):∀ (b out:List Row),(∀ x∈b,r.t< x.t)→Cl out r true b=out++b:=by
 intro b
 induction b with
 | nil=>intro out _; simp [Cl]
 | cons x xs ih =>
   intro out h
   have h1:=h x AD
   have h2:(x.t != r.t)=true:=by simp; omega
   unfold Cl
   simp only [Bool.not_true,Bool.false_and,if_neg,h2,if_true]
   rw [if_neg AD,ih _ (fun y hy=>h y (by simp [hy]))]
   simp
theorem Q6 (r:Row):∀ (b out:List Row) (o:Option Row),Ca o b=true→Cl out r false b=out++DK r b:=by
 intro b
 induction b with
 | nil=>intro out o _; simp [Cl,DK]
 | cons x xs ih =>
   intro out o h
   obtain ⟨_,_,h3⟩:=BX.1 h
   have hg:=LY xs x h3
   unfold Cl DK
   by_cases h1:r.t< x.t
   ·have e1:(x.t != r.t)=true:=by simp; omega
    have e2:(!false&&decide (x.t≥r.t))=true:=by simp; omega
    rw [if_pos e2,if_pos e1,if_pos h1,LZ r xs _ (fun y hy=>by have:=hg y hy; omega)]
    simp
   ·by_cases h2:r.t=x.t
    ·have e1:¬ (x.t != r.t)=true:=by simp; omega
     have e2:(!false&&decide (x.t≥r.t))=true:=by simp; omega
     rw [if_pos e2,if_neg e1,if_neg h1,if_pos h2,LZ r xs _ (fun y hy=>by have:=hg y hy; omega)]
     simp
    ·have e1:(x.t != r.t)=true:=by simp; omega
     have e2:¬ (!false&&decide (x.t≥r.t))=true:=by simp; omega
     rw [if_neg e2,if_pos e1,if_neg h1,if_neg h2,ih _ _ h3]
     simp
theorem Fc {b:List Row}(h:Blk b) (r:Row):ED b r=DK r b:=by
 unfold ED
 rw [Q6 r b [] none h]
 rfl
theorem TG {r:Row}(hr:BU r=true):∀ (b:List Row) (o:Option Row),Ca o b=true→(∀ q,o=some q→q.t< r.t)→Ca o (DK r b)=true:=by
 intro b
 induction b with
 | nil=>intro o _ ho; exact BX.2 ⟨hr,ho,rfl⟩
 | cons x xs ih =>
   intro o h ho
   obtain ⟨h1,h2,h3⟩:=BX.1 h
   unfold DK
   split
   ·exact BX.2 ⟨hr,ho,BX.2 ⟨h1,fun q hq=>by cases hq; assumption,h3⟩⟩
   ·split
    ·rename_i _ he
     refine BX.2 ⟨hr,ho,?_⟩
     cases xs with
     | nil=>rfl
     | cons y ys =>
       obtain ⟨g1,g2,g3⟩:=BX.1 h3
       exact BX.2 ⟨g1,fun q hq=>by cases hq; have:=g2 x rfl; omega,g3⟩
    ·exact BX.2 ⟨h1,h2,ih _ h3 (fun q hq=>by cases hq; omega)⟩
theorem Blk.put {b:List Row}(h:Blk b){r:Row}(hr:BU r=true):Blk (ED b r):=by
 rw [Fc h]
 exact TG hr b none h AD
theorem Blk.nil:Blk []:=rfl
theorem Blk.foldl {b:List Row}:∀ {a:List Row},Blk a→(∀ r∈b,BU r=true)→Blk (b.foldl ED a):=by
 induction b with
 | nil=>intro a h _; exact h
 | cons x xs ih=>intro a h hr; exact ih (h.put (hr x AD)) (fun r hr'=>hr r (by simp [hr']))
theorem Blk.merge {a b:List Row}(ha:Blk a) (hb:Blk b):Blk (Bb a b):=Blk.foldl ha hb.rows
structure PrtI (p:Prt):Prop where
 len:p.ids.length=p.blocks.length
 le:p.blocks.length≤6
 blk:∀ b∈p.blocks,Blk b
theorem PrtI.sz {p:Prt}(h:PrtI p):Cv p:=⟨h.len,by have:=h.le; omega,fun b hb=>by have:=(h.blk b hb).len; omega⟩
theorem PrtI.nil:PrtI ⟨[],[]⟩:=⟨rfl,by simp,by simp⟩
theorem PrtI.of {p:Prt}(h:PrtI p) (id:Int):Blk (partOf p id):=by
 rcases Ij id p.ids p.blocks with h1 | h1
 ·unfold partOf; rw [h1]; exact Blk.nil
 ·exact h.blk _ h1
theorem La:∀ (bs:List (List Row)) (i:Nat),(BJ i bs).1.length=(BJ i bs).2.length∧(BJ i bs).2.length≤bs.length∧∀ b∈(BJ i bs).2,b∈bs:=by
 intro bs
 induction bs with
 | nil=>intro i; simp [BJ]
 | cons b bs ih =>
   intro i
   obtain ⟨h1,h2,h3⟩:=ih (i+1)
   unfold BJ
   split
   ·refine ⟨by simp [h1],by simp; omega,fun x hx=>?_⟩
    rcases List.mem_cons.1 hx with rfl | hx
    ·simp
    ·exact List.mem_cons_of_mem _ (h3 x hx)
   ·exact ⟨h1,by simp; omega,fun x hx=>List.mem_cons_of_mem _ (h3 x hx)⟩
theorem PrtI.make {bs:List (List Row)}(hl:bs.length≤6) (h:∀ b∈bs,Blk b):PrtI (Dx bs):=by
 obtain ⟨h1,h2,h3⟩:=La bs 0
 exact ⟨h1,by unfold Dx; dsimp only; omega,fun b hb=>h b (h3 b hb)⟩
theorem PrtI.merge {p q:Prt}(hp:PrtI p) (hq:PrtI q):PrtI (BC p q):=by
 refine PrtI.make (by rw [Dr]; omega) (fun b hb=>?_)
 simp only [BT,List.mem_map] at hb
 obtain ⟨i,_,rfl⟩:=hb
 exact (hp.of _).merge (hq.of _)
theorem Q7:∀ (mem:List Smp) (bl:List (List Row)),bl.length=6→(∀ b∈bl,Blk b)→(∀ m∈mem,BU m.row=true)→(mem.foldl GQ bl).length=6∧∀ b∈mem.foldl GQ bl,Blk b:=by
 intro mem
 induction mem with
 | nil=>intro bl h1 h2 _; exact ⟨h1,h2⟩
 | cons m ms ih =>
   intro bl h1 h2 h3
   refine ih (GQ bl m) (by rw [Q2,h1]) (fun b hb=>?_) (fun x hx=>h3 x (by simp [hx]))
   unfold GQ at hb
   rcases List.mem_or_eq_of_mem_set hb with hb | rfl
   ·exact h2 b hb
   ·refine Blk.put ?_ (h3 m AD)
    rw [List.getD_eq_getElem?_getD]
    cases hx:bl[(m.id - 1).toNat]? with
    | none=>exact Blk.nil
    | some y=>exact h2 y (AV hx)
theorem PrtI.mem {mem:List Smp}(h:∀ m∈mem,BU m.row=true):PrtI (Ai mem):=by
 obtain ⟨h1,h2⟩:=Q7 mem [[],[],[],[],[],[]] rfl (by simp [Blk.nil]) h
 exact PrtI.make AB h2
structure NmI (names:List (List Tag)):Prop where
 len:names.length≤6
 ok:∀ n∈names,Aq n=true
 nodup:(names.map text).Nodup
theorem D1 {lo hi:Int}{s:Str}(h:KQ lo hi s=true):s.length=1:=by
 match s,h with
 | [x],_=>rfl
 | [],h=>simp [KQ] at h
 | x::y::r,h=>simp [KQ] at h
theorem E3:∀ (n:List Tag) (o:Option Tag),Dp o n=true→∀ t∈n,BZ t=true:=by
 intro n
 induction n with
 | nil=>intro o _ t ht; cases ht
 | cons x xs ih =>
   intro o h t ht
   simp only [Dp,AW] at h
   rcases List.mem_cons.1 ht with rfl | ht
   ·exact h.1.1
   ·exact ih _ h.2 t ht
theorem P0 {n:List Tag}(h:Aq n=true):n.length≤3∧FZ n:=by
 simp only [Aq,AW] at h
 have h1:=By h.2
 refine ⟨by omega,by omega,fun t ht=>?_⟩
 have h2:=E3 n none h.1 t ht
 simp only [BZ,AW] at h2
 have h3:=D1 h2.1
 have h4:=D1 h2.2
 omega
theorem NmI.sz {names:List (List Tag)}(h:NmI names):∀ n∈names,FZ n:=fun n hn=>(P0 (h.ok n hn)).2
theorem NF (t:Str):∀ (ns:List (List Tag)) (i:Nat),(nmF t i ns=0∧t∉ns.map text)∨((i:Int)< nmF t i ns∧nmF t i ns≤i+ns.length∧t∈ns.map text):=by
 intro ns
 induction ns with
 | nil=>intro i; simp [nmF]
 | cons x xs ih =>
   intro i
   unfold nmF
   by_cases h:text x=t
   ·right
    simp [h]
    omega
   ·have h1:¬ (text x==t)=true:=by simpa using h
    rw [if_neg h1]
    rcases ih (i+1) with ⟨h2,h3⟩ | ⟨h2,h3,h4⟩
    ·left
     refine ⟨h2,?_⟩
     simp only [List.map_cons,List.mem_cons,not_or]
     exact ⟨fun e=>h e.symm,h3⟩
    ·right
     refine ⟨by omega,by simp only [List.length_cons]; omega,?_⟩
     simp only [List.map_cons,List.mem_cons]
     exact .inr h4
theorem NmI.add {names:List (List Tag)}{ps:List Pst}(h:NmI names){n:List Tag}(hn:Aq n=true) (h0:¬ GP ⟨names,ps⟩ n > 0) (hl:names.length< 6):NmI (names++[n]):=by
 refine ⟨by simp; omega,fun m hm=>?_,?_⟩
 ·rcases List.mem_append.1 hm with hm | hm
  ·exact h.ok m hm
  ·simp at hm; rw [hm]; exact hn
 ·rw [List.map_append]
  refine List.nodup_append.2 ⟨h.nodup,by simp,fun a ha b hb=>?_⟩
  simp at hb
  subst hb
  rintro rfl
  rcases NF (text n) names 0 with ⟨h2,h3⟩ | ⟨h2,_,_⟩
  ·exact h3 ha
  ·exact h0 (by unfold GP; simpa using h2)
structure StoI (s:Sto):Prop where
 idx:s.idx=idxOf s.idx.names
 nm:NmI s.idx.names
 np:s.parts.length≤6
 part:∀ p∈s.parts,PrtI p
 nm2:s.mem.length≤20
 mem:∀ m∈s.mem,1≤m.id∧m.id≤s.idx.names.length∧BU m.row=true
theorem StoI.sz {s:Sto}(h:StoI s):LX s:=⟨⟨by have:=h.nm.len; omega,h.nm.sz⟩,by have:=h.np; omega,fun p hp=>(h.part p hp).sz,by have:=h.nm2; omega⟩
theorem StoI.copy {s:Sto}(h:StoI s):AZ s=s:=by
 have:=h.idx
 unfold AZ
 rw [← this]
theorem StoI.Iq {s:Sto}(h:StoI s):∀ m∈s.mem,1≤m.id∧m.id≤6:=fun m hm=>by
 have h1:=h.mem m hm
 have h2:=h.nm.len
 omega
theorem StoI.new:StoI ⟨⟨[],[]⟩,[],[]⟩:=⟨by rfl,⟨by simp,by simp,by simp⟩,by simp,by simp,by simp,by simp⟩
theorem OQ {ix:Idx}(h:ix=idxOf ix.names) (hn:NmI ix.names) (n:List Tag) :
 (BQ ix n).1=idxOf (BQ ix n).1.names∧NmI (BQ ix n).1.names∧ix.names.length≤(BQ ix n).1.names.length∧((BQ ix n).2.2=true→1≤(BQ ix n).2.1∧(BQ ix n).2.1≤(BQ ix n).1.names.length):=by
 by_cases h1:GP ix n > 0
 ·rw [Gc h1]
  refine ⟨h,hn,Nat.le_refl _,fun _=>?_⟩
  rcases NF (text n) ix.names 0 with ⟨h2,_⟩ | ⟨h2,h3,_⟩
  ·unfold GP at h1; omega
  ·unfold GP at h1 ⊢; simp only; omega
 ·by_cases h2:Aq n=false∨(ix.names.length:Int)≥6
  ·rw [FB h1 h2]
   exact ⟨h,hn,Nat.le_refl _,by simp⟩
  ·have h3:Aq n=true:=by
    cases h4:Aq n
    ·exact absurd (.inl h4) h2
    ·rfl
   have h4:¬ (ix.names.length:Int)≥6:=fun h=>h2 (.inr h)
   rw [Ge h1 h3 h4]
   refine ⟨rfl,?_,by simp [idxOf],fun _=>by simp [idxOf]; omega⟩
   exact NmI.add (ps:=ix.AY) hn h3 h1 AB
theorem StoI.add {s:Sto}(h:StoI s) (n:List Tag) (r:Row):StoI (CA s n r).1:=by
 unfold CA
 split
 ·exact h
 ·rename_i h1
  split
  ·exact h
  ·simp only [Bool.or_eq_true,not_or] at h1
   obtain ⟨⟨h1,h2⟩,h3⟩:=h1
   obtain ⟨g1,g2,g3,g4⟩:=OQ h.idx h.nm n
   have h5:=g4 (by simpa using h1)
   refine ⟨g1,g2,h.np,h.part,?_,fun m hm=>?_⟩
   ·have:¬ s.mem.length≥20:=by simpa using h3
    simp only [FN,List.length_append,List.length_cons,List.length_nil]; omega
   ·rcases List.mem_append.1 hm with hm | hm
    ·have:=h.mem m hm
     refine ⟨this.1,?_,this.2.2⟩
     have h6:=this.2.1
     show m.id≤((BQ s.idx n).1.names.length:Int)
     omega
    ·simp at hm
     subst hm
     exact ⟨h5.1,h5.2,by simpa using h2⟩
theorem StoI.flush {s:Sto}(h:StoI s):StoI (BE s).1:=by
 unfold BE
 split
 ·exact h
 ·rename_i h1
  refine ⟨h.idx,h.nm,by simp; omega,fun p hp=>?_,by simp,by simp⟩
  rcases List.mem_append.1 hp with hp | hp
  ·exact h.part p hp
  ·simp at hp; subst hp; exact PrtI.mem (fun m hm=>(h.mem m hm).2.2)
theorem StoI.merge {s:Sto}(h:StoI s) (a:Int):StoI (BD s a).1:=by
 unfold BD
 split
 ·rename_i h1
  have h2:=By h1
  have h3:a.toNat+1< s.parts.length:=by omega
  refine ⟨h.idx,h.nm,?_,fun p hp=>?_,h.nm2,h.mem⟩
  ·show (Fx s.parts a.toNat).length≤6
   rw [G7 (AU AB) (AU h3)]
   have:=h.np
   simp only [List.length_append,List.length_take,List.length_drop,List.length_cons,List.length_nil]
   omega
  ·change p∈Fx s.parts a.toNat at hp
   rw [G7 (AU AB) (AU h3)] at hp
   rcases List.mem_append.1 hp with hp | hp
   ·rcases List.mem_append.1 hp with hp | hp
    ·exact h.part p (List.mem_of_mem_take hp)
    ·simp at hp; subst hp
     exact (h.part _ (List.getElem_mem _)).merge (h.part _ (List.getElem_mem _))
   ·exact h.part p (List.mem_of_mem_drop hp)
 ·exact h
structure DskI (d:Dsk):Prop where
 nm:NmI d.names
 nf:d.files.length≤20
 file:∀ f∈d.files,PrtI f.part
 nl:d.list.length≤6
 there:∀ n∈d.list,∃ f∈d.files,f.num=n
 num:∀ n∈d.list,0≤n∧n≤999
 next:1≤d.next∧d.next≤999
theorem P1 (n:Int):∀ (fs:List Fil) (i:Nat),0≤DB n i fs↔∃ f∈fs,f.num=n:=by
 intro fs
 induction fs with
 | nil=>intro i; simp [DB]
 | cons f fs ih =>
   intro i
   unfold DB
   by_cases h:f.num=n
   ·simp [h]
   ·have h1:¬ (f.num==n)=true:=by simpa using h
    rw [if_neg h1,ih]
    simp [h]
theorem E4 (d:Dsk) (n:Int):0≤At d n↔∃ f∈d.files,f.num=n:=P1 n d.files 0
theorem DskI.at {d:Dsk}(h:DskI d):∀ n∈d.list,0≤At d n:=fun n hn=>(E4 d n).2 (h.there n hn)
theorem DskI.new:DskI ⟨[],[],[],1⟩:=⟨⟨by simp,by simp,by simp⟩,by simp,by simp,by simp,by simp,by simp,by simp⟩
theorem DskI.part {d:Dsk}(h:DskI d) (n:Int):PrtI (Av d n):=by
 unfold Av
 rw [List.getD_eq_getElem?_getD]
 cases hx:d.files[(At d n).toNat]? with
 | none=>exact PrtI.nil
 | some f=>exact h.file f (AV hx)
theorem DskI.copy {d:Dsk}(h:DskI d):DskI (BH d):=by
 refine ⟨h.nm,by simp [BH]; exact h.nf,fun f hf=>?_,h.nl,fun n hn=>?_,h.num,h.next⟩
 ·simp only [BH,List.mem_map] at hf
  obtain ⟨g,hg,rfl⟩:=hf
  exact (h.file g hg).merge PrtI.nil
 ·obtain ⟨f,hf,he⟩:=h.there n hn
  exact ⟨Kb f,by simp only [BH,List.mem_map]; exact ⟨f,hf,rfl⟩,he⟩
theorem DskI.tidy {d:Dsk}(h:DskI d):DskI (BK d):=by
 refine ⟨h.nm,Nat.le_trans (List.length_filter_le _ _) h.nf,fun f hf=>h.file f (List.mem_filter.1 hf).1,h.nl,fun n hn=>?_,h.num,h.next⟩
 obtain ⟨f,hf,he⟩:=h.there n hn
 exact ⟨f,List.mem_filter.2 ⟨hf,by rw [he]; have h1:n∈d.list:=hn; simpa using h1⟩,he⟩
theorem DskI.open {d:Dsk}(h:DskI d):StoI (Al d):=by
 refine ⟨rfl,h.nm,by simp [Al]; exact h.nl,fun p hp=>?_,by simp [Al],by simp [Al]⟩
 simp only [Al,List.mem_map] at hp
 obtain ⟨n,_,rfl⟩:=hp
 exact h.part n
theorem DskI.gone {d:Dsk}(h:DskI d) (n:Int):DskI ⟨Ds d n,d.list,d.names,d.next⟩:=by
 unfold Ds
 split
 ·rename_i h1
  refine ⟨h.nm,?_,fun f hf=>?_,h.nl,fun k hk=>?_,h.num,h.next⟩
  ·have:=h.nf
   simp only [List.length_append,List.length_take,List.length_drop]; omega
  ·rcases List.mem_append.1 hf with hf | hf
   ·exact h.file f (List.mem_of_mem_take hf)
   ·exact h.file f (List.mem_of_mem_drop hf)
  ·obtain ⟨f,hf,he⟩:=h.there k hk
   obtain ⟨i,hi,hif⟩:=List.mem_iff_getElem.1 hf
   have hne:k≠n:=by rintro rfl; have:=h1.2; simp at this; exact this hk
   have hat:∀ (fs:List Fil) (j:Nat) (g:Fil),0≤DB n j fs→fs[(DB n j fs).toNat - j]? = some g→g.num=n:=by
    intro fs
    induction fs with
    | nil=>intro j g hj; simp [DB] at hj
    | cons y ys ih =>
      intro j g hj hg
      unfold DB at hj hg
      by_cases hy:(y.num==n)=true
      ·rw [if_pos hy] at hg
       simp at hg
       subst hg
       simpa using hy
      ·rw [if_neg hy] at hj hg
       have h3:=J7 n ys (j+1)
       have h4:(DB n (j+1) ys).toNat - j=((DB n (j+1) ys).toNat - (j+1))+1:=by omega
       rw [h4,List.getElem?_cons_succ] at hg
       exact ih _ _ hj hg
   have hin:i≠(At d n).toNat:=by
    rintro rfl
    have:=hat d.files 0 f h1.1 (by show d.files[(At d n).toNat - 0]? = _; rw [Nat.sub_zero,AU hi,hif])
    exact hne (he▸this)
   refine ⟨f,?_,he⟩
   rcases Nat.lt_or_gt_of_ne hin with hlt | hgt
   ·refine List.mem_append.2 (.inl (List.mem_iff_getElem.2 ⟨i,by simp; omega,?_⟩))
    rw [List.getElem_take]; exact hif
   ·refine List.mem_append.2 (.inr (List.mem_iff_getElem.2 ⟨i - ((At d n).toNat+1),by simp; omega,?_⟩))
    rw [List.getElem_drop]
    simp only [show (At d n).toNat+1+(i - ((At d n).toNat+1))=i by omega]
    exact hif
 ·exact h
theorem DskI.UO {d:Dsk}(h:DskI d){p:Prt}(hp:PrtI p) (hf:d.files.length< 20) (hn:d.next< 999):DskI ⟨d.files++[⟨d.next,p⟩],d.list,d.names,d.next+1⟩:=by
 refine ⟨h.nm,by simp; omega,fun f hf=>?_,h.nl,fun n hn=>?_,h.num,by have:=h.next; simp only; omega⟩
 ·rcases List.mem_append.1 hf with hf | hf
  ·exact h.file f hf
  ·simp at hf; subst hf; exact hp
 ·obtain ⟨f,hf,he⟩:=h.there n hn
  exact ⟨f,List.mem_append.2 (.inl hf),he⟩
structure WI (w:Wld):Prop where
 sto:StoI w.store
 dsk:DskI w.disk
theorem WI.new:WI ⟨⟨⟨[],[]⟩,[],[]⟩,⟨[],[],[],1⟩⟩:=⟨StoI.new,DskI.new⟩
theorem WI.S0 {w:Wld}(h:DskI w.disk):WI (BB w):=by
 have h1:=h.tidy.copy
 refine ⟨?_,h1⟩
 show StoI (AZ (Al (BH (BK w.disk))))
 rw [h1.open.copy]
 exact h1.open
theorem WI.copy {w:Wld}(h:WI w):WI (Ce w):=⟨by show StoI (AZ w.store); rw [h.sto.copy]; exact h.sto,h.dsk.copy⟩
structure StI (d:Dsk) (st:List Stp):Prop where
 len:st.length≤4
 sz:∀ x∈st,JQ x
 ok:∀ k:Nat,DskI ((st.take k).foldl doD d)
theorem StI.nil {d:Dsk}(h:DskI d):StI d []:=⟨by simp,by simp,by simpa using h⟩
theorem Ir {d:Dsk}{x:Stp}{xs:List Stp}(h0:DskI d) (h:∀ k:Nat,DskI ((xs.take k).foldl doD (doD d x))):∀ k:Nat,DskI (((x::xs).take k).foldl doD d):=by
 intro k
 cases k with
 | zero=>exact h0
 | succ k=>exact h k
theorem PM {d:Dsk}(h0:DskI d):∀ k:Nat,DskI ((([]:List Stp).take k).foldl doD d):=by intro k; simpa using h0
theorem StI.flush {w:Wld}(h:WI w):StI w.disk (As w.disk w.store):=by
 unfold As
 split
 ·exact StI.nil h.dsk
 ·rename_i h1
  have hd:=h.dsk
  have hs:=h.sto
  have hp:PrtI (Ai w.store.mem):=PrtI.mem (fun m hm=>(hs.mem m hm).2.2)
  have h2:=hd.UO hp AB AB
  have hn:=hd.next
  refine ⟨by simp,fun x hx=>?_,?_⟩
  ·simp only [List.mem_cons,List.not_mem_nil,or_false] at hx
   rcases hx with rfl | rfl
   ·exact ⟨by simp,by simp,by simp,by simp only; omega,by simp only; omega⟩
   ·refine ⟨?_,?_,fun n hn=>?_,by simp,by simp⟩
    ·have:=hd.nl; simp; omega
    ·have:=hs.nm.len; simp only; omega
    ·have:=(hs.nm.sz n hn).1; omega
  ·refine Ir hd (Ir ?_ (PM ?_))
   ·rw [E2 rfl]; exact h2
   ·rw [Gg rfl,E2 rfl]
    refine ⟨hs.nm,h2.nf,h2.file,by simp only [List.length_append,List.length_cons,List.length_nil]; omega,fun n hn'=>?_,fun n hn'=>?_,h2.next⟩
    ·rcases List.mem_append.1 hn' with hn' | hn'
     ·exact h2.there n hn'
     ·simp at hn'; subst hn'
      exact ⟨⟨w.disk.next,Ai w.store.mem⟩,by simp,rfl⟩
    ·rcases List.mem_append.1 hn' with hn' | hn'
     ·exact h2.num n hn'
     ·simp at hn'; omega
theorem StI.merge {d:Dsk}(hd:DskI d) (at_:Int):StI d (Aj d at_):=by
 unfold Aj
 split
 ·exact StI.nil hd
 ·rename_i h1
  simp only [Bool.or_eq_true,not_or,Bool.not_eq_true,Bool.not_eq_false',decide_eq_true_eq] at h1
  obtain ⟨⟨h1,h3⟩,h4⟩:=h1
  have h0:=By (by simpa using h1)
  have hl:at_.toNat+1< d.list.length:=by omega
  have ha:d.list.getD at_.toNat 0∈d.list:=by rw [List.getD_eq_getElem?_getD,AU AB]; exact List.getElem_mem _
  have hb:d.list.getD (at_.toNat+1) 0∈d.list:=by rw [List.getD_eq_getElem?_getD,AU hl]; exact List.getElem_mem _
  have na:=hd.num _ ha
  have nb:=hd.num _ hb
  generalize d.list.getD at_.toNat 0=a at *
  generalize d.list.getD (at_.toNat+1) 0=b at *
  have hp:PrtI (BC (Av d a) (Av d b)):=(hd.part a).merge (hd.part b)
  have h2:=hd.UO hp AB AB
  have hn:=hd.next
  have hlen:(d.list.take at_.toNat++[d.next]++d.list.drop (at_.toNat+2)).length≤6:=by
   have:=hd.nl
   simp only [List.length_append,List.length_take,List.length_drop,List.length_cons,List.length_nil]; omega
  have hm:∀ n∈d.list.take at_.toNat++[d.next]++d.list.drop (at_.toNat+2),n∈d.list∨n=d.next:=by
   intro n hn
   rcases List.mem_append.1 hn with hn | hn
   ·rcases List.mem_append.1 hn with hn | hn
    ·exact .inl (List.mem_of_mem_take hn)
    ·simp at hn; exact .inr hn
   ·exact .inl (List.mem_of_mem_drop hn)
  have h5:DskI ⟨d.files++[⟨d.next,BC (Av d a) (Av d b)⟩],d.list.take at_.toNat++[d.next]++d.list.drop (at_.toNat+2),d.names,d.next+1⟩:=by
   refine ⟨h2.nm,h2.nf,h2.file,hlen,fun n hn'=>?_,fun n hn'=>?_,h2.next⟩
   ·rcases hm n hn' with hn' | rfl
    ·exact h2.there n hn'
    ·exact ⟨⟨d.next,BC (Av d a) (Av d b)⟩,by simp,rfl⟩
   ·rcases hm n hn' with hn' | rfl
    ·exact h2.num n hn'
    ·omega
  refine ⟨by simp,fun x hx=>?_,?_⟩
  ·simp only [List.mem_cons,List.not_mem_nil,or_false] at hx
   rcases hx with rfl | rfl | rfl | rfl
   ·exact ⟨by simp,by simp,by simp,by simp only; omega,by simp only; omega⟩
   ·refine ⟨by simp only; omega,by have:=hd.nm.len; simp only; omega,fun n hn=>?_,by simp,by simp⟩
    have:=(hd.nm.sz n hn).1; omega
   ·exact ⟨by simp,by simp,by simp,by simp only; omega,by simp only; omega⟩
   ·exact ⟨by simp,by simp,by simp,by simp only; omega,by simp only; omega⟩
  ·refine Ir hd (Ir ?_ (Ir ?_ (Ir ?_ (PM ?_))))
   ·rw [E2 rfl]; exact h2
   ·rw [Gg rfl,E2 rfl]; exact h5
   ·rw [FC rfl,Gg rfl,E2 rfl]; exact h5.gone a
   ·rw [FC rfl,FC rfl,Gg rfl,E2 rfl]; exact (h5.gone a).gone b
theorem WI.steps {w:Wld}(h:WI w){st:List Stp}(hs:StI w.disk st) (cut:Int){s:Sto}(h2:StoI s):WI (Bi w st cut s):=by
 unfold Bi
 split
 ·exact h
 ·split
  ·exact WI.S0 (hs.ok _)
  ·exact ⟨h2,hs.ok _⟩
theorem WI.do {w:Wld}(h:WI w) (e:Evt):WI (doW w e):=by
 unfold doW
 split
 ·split
  ·exact ⟨h.sto.add _ _,h.dsk⟩
  ·exact h
 ·split
  ·exact h.steps (StI.flush h) _ h.sto.flush
  ·split
   ·exact h.steps (StI.merge h.dsk _) _ (h.sto.merge _)
   ·split
    ·exact WI.S0 h.dsk
    ·exact h
theorem Co {w:Wld}{st:List Stp}{c:Int}{s:Sto}(h:(st.length:Int)=0∨c< 0):Bi w st c s=w:=by unfold Bi; rw [if_pos AB]
theorem DL {w:Wld}{st:List Stp}{c:Int}{s:Sto}(h:(st.length:Int)≠0) (h2:¬ c< 0) (h3:c< st.length):Bi w st c s=BB ⟨w.store,toD w.disk st c⟩:=by unfold Bi; rw [if_neg AB,if_pos h3]
theorem DM {w:Wld}{st:List Stp}{c:Int}{s:Sto}(h:(st.length:Int)≠0) (h2:¬ c< 0) (h3:¬ c< st.length):Bi w st c s=⟨s,toD w.disk st c⟩:=by unfold Bi; rw [if_neg AB,if_neg h3]
theorem Gi {w:Wld}{e:Evt}(h:e.kind=1) (h2:Aq e.name=true):doW w e=⟨(CA w.store e.name e.row).1,w.disk⟩:=by unfold doW; rw [if_pos h,if_pos h2]
theorem Gj {w:Wld}{e:Evt}(h:e.kind=1) (h2:Aq e.name=false):doW w e=w:=by unfold doW; rw [if_pos h,if_neg (by simp [h2])]
theorem Gk {w:Wld}{e:Evt}(h:e.kind=2):doW w e=Bi w (As w.disk w.store) e.cut (BE w.store).1:=by unfold doW; rw [if_neg AB,if_pos h]
theorem GC {w:Wld}{e:Evt}(h:e.kind=3):doW w e=Bi w (Aj w.disk e.at_) e.cut (BD w.store e.at_).1:=by unfold doW; rw [if_neg AB,if_neg AB,if_pos h]
theorem Lc {w:Wld}{e:Evt}(h:e.kind=4):doW w e=BB w:=by unfold doW; rw [if_neg AB,if_neg AB,if_neg AB,if_pos h]
theorem Ld {w:Wld}{e:Evt}(h:e.kind≠1) (h2:e.kind≠2) (h3:e.kind≠3) (h4:e.kind≠4):doW w e=w:=by unfold doW; rw [if_neg h,if_neg h2,if_neg h3,if_neg h4]
end Go.Proofs.YtggnnidleedpaaaGreat
namespace Go.Proofs.YtggnnidleedpaaaGreat
set_option maxRecDepth 100000
set_option maxHeartbeats 4000000
variable {w:World} {F:Nat→Prop} {a1 a2 a3 a4 a5 a6 a7 a8 a9 a10 a11 a12:Option Addr} {n1 c1 n2 c2 n3 c3 n4 c4 n5 c5 n6 c6 n7 c7 n8 c8 n9 c9 n10 c10 n11 c11 n12 c12:Nat}
theorem Gl (w_:Wld) (h1:RepS w F a1 n1 c1 w_.store.idx.names) (h2:RepS w F a2 n2 c2 w_.store.idx.AY) (h3:RepS w F a3 n3 c3 w_.store.parts) (h4:RepS w F a4 n4 c4 w_.store.mem) (h5:RepS w F a5 n5 c5 w_.disk.files) (h6:RepS w F a6 n6 c6 w_.disk.list) (h7:RepS w F a7 n7 c7 w_.disk.names) (p0:WI w_):Calls Tryz.prog 37 [.agg #[.slice a1 n1 c1,.slice a2 n2 c2,.slice a3 n3 c3,.slice a4 n4 c4,.slice a5 n5 c5,.slice a6 n6 c6,.slice a7 n7 c7,.int .i64 w_.disk.next]].toArray w (Am fun rv w'=>(∃ (a0:Option Addr) (n0 c0:Nat) (a1:Option Addr) (n1 c1:Nat) (a2:Option Addr) (n2 c2:Nat) (r3 n3 c3:Nat) (r4 n4 c4:Nat) (r5 n5 c5:Nat) (r6 n6 c6:Nat),rv=.agg #[.slice a0 n0 c0,.slice a1 n1 c1,.slice a2 n2 c2,.slice (some ⟨r3,0,none⟩) n3 c3,.slice (some ⟨r4,0,none⟩) n4 c4,.slice (some ⟨r5,0,none⟩) n5 c5,.slice (some ⟨r6,0,none⟩) n6 c6,.int .i64 ((((Ce w_)).disk).next)]∧RepS w' (nin (ge w.heap.size) [r3,r4,r5,r6]) a0 n0 c0 (((((Ce w_)).store).idx).names)∧RepS w' (nin (ge w.heap.size) [r3,r4,r5,r6]) a1 n1 c1 (((((Ce w_)).store).idx).AY)∧RepS w' (nin (ge w.heap.size) [r3,r4,r5,r6]) a2 n2 c2 ((((Ce w_)).store).parts)∧Own w' r3 85 (nin (ge w.heap.size) [r3,r4,r5,r6]) n3 c3 ((((Ce w_)).store).mem)∧w.heap.size≤r3∧Own w' r4 50 (nin (ge w.heap.size) [r3,r4,r5,r6]) n4 c4 ((((Ce w_)).disk).files)∧w.heap.size≤r4∧Nb r4 r3∧Own w' r5 3 (nin (ge w.heap.size) [r3,r4,r5,r6]) n5 c5 ((((Ce w_)).disk).list)∧w.heap.size≤r5∧Nb r5 r3∧Nb r5 r4∧Own w' r6 43 (nin (ge w.heap.size) [r3,r4,r5,r6]) n6 c6 ((((Ce w_)).disk).names)∧w.heap.size≤r6∧Nb r6 r3∧Nb r6 r4∧Nb r6 r5)∧Ext w w'):=by
 cases h1.len
 cases h2.len
 cases h3.len
 cases h4.len
 cases h5.len
 cases h6.len
 cases h7.len
 refine goT func37 ?_
 have Z:=(((((((St.i0 F w).p h1).p h2).p h3).p h4).p h5).p h6).p h7
 have aO:=h5.max
 have aP:=h6.max
 have aQ:=h7.max
 refine .s<|.g<|RG.Np Z fun aR w Z=>RG.Np Z fun aS w Z=>.d<|.s<|T.Gd 5 Z fun w Z=>.r [0]<|GA.Ln 1 1 Z<|.r [3]<|GA.Ln 4 1 Z<|.go 2<|GE.Cg (fun w Z=>Gf w_.store (Z.a 6) (Z.a 5) (Z.a 4) (Z.a 3) p0.sto.sz) Z ?_
 rintro w _ w Z ⟨⟨af,aT,ag,ah,aU,ai,aj,aV,ak,al,aW,am,rfl,ao,aq,ar,E,au⟩,aa⟩
 refine ⟨Ext.chg aa,?_⟩
 cases ao.len
 cases aq.len
 cases ar.len
 cases E.len
 have Z:=Z.so aa [.own 0 al 85 am (((AZ w_.store)).mem)] [.rep af ag ((((AZ w_.store)).idx).names),.rep ah ai ((((AZ w_.store)).idx).AY),.rep aj ak (((AZ w_.store)).parts)] nd1 (oN E au o0) (fc ao (fc aq (fc ar fn_)))
 refine GA.Dn Z fun w Z=>RG.cl (Gh w_.disk (Z.a 5) (Z.a 4) (Z.a 3) (by have:=p0.dsk.nm.len; omega) (fun n hn=>by have:=(p0.dsk.nm.sz n hn).1; omega) (by have:=p0.dsk.nl; omega) (by have:=p0.dsk.nf; omega) (fun f hf=>(p0.dsk.file f hf).sz)) ?_
 rintro _ w ⟨⟨ax,aX,ay,az,aY,aA,aB,aZ,aC,rfl,ab,aD,ac,aE,aF,ae,aG,aH,aI⟩,aJ⟩
 cases ab.len
 cases ac.len
 cases ae.len
 have Z:=Z.so aJ [.own 0 ax 50 ay (((BH w_.disk)).files),.own 0 az 3 aA (((BH w_.disk)).list),.own 0 aB 43 aC (((BH w_.disk)).names)] [] (nd3 aF aH aI) (oN ab aD (oN ac aE (oN ae aG o0))) fn_
 exact .r 1<|RG.Ss 4 Z fun w Z=>.d<|T.Rb 4 func37 results37 Z ⟨⟨af,(((((AZ w_.store)).idx).names).length),ag,ah,(((((AZ w_.store)).idx).AY).length),ai,aj,((((AZ w_.store)).parts).length),ak,al,((((AZ w_.store)).mem).length),am,ax,((((BH w_.disk)).files).length),ay,az,((((BH w_.disk)).list).length),aA,aB,((((BH w_.disk)).names).length),aC,(by rw [show ((((Ce w_)).disk).next)=(((BH w_.disk)).next) from Eq.symm AF]; kernel_rfl),Z.qr [3,0,1,2] 0 ((((AZ w_.store)).idx).names) AF,Z.qr [3,0,1,2] 1 ((((AZ w_.store)).idx).AY) AF,Z.qr [3,0,1,2] 2 (((AZ w_.store)).parts) AF,Z.qo [3,0,1,2] 3 (((AZ w_.store)).mem) AF,Z.qb 3,Z.qo [3,0,1,2] 0 (((BH w_.disk)).files) AF,Z.qb 0,Z.qn 0 3,Z.qo [3,0,1,2] 1 (((BH w_.disk)).list) AF,Z.qb 1,Z.qn 1 3,Z.qn 1 0,Z.qo [3,0,1,2] 2 (((BH w_.disk)).names) AF,Z.qb 2,Z.qn 2 3,Z.qn 2 0,Z.qn 2 1⟩,Z.xt⟩
theorem Gm (w_:Wld) (h1:RepS w F a1 n1 c1 w_.store.idx.names) (h2:RepS w F a2 n2 c2 w_.store.idx.AY) (h3:RepS w F a3 n3 c3 w_.store.parts) (h4:RepS w F a4 n4 c4 w_.store.mem) (h5:RepS w F a5 n5 c5 w_.disk.files) (h6:RepS w F a6 n6 c6 w_.disk.list) (h7:RepS w F a7 n7 c7 w_.disk.names) (p0:DskI w_.disk):Calls Tryz.prog 70 [.agg #[.slice a1 n1 c1,.slice a2 n2 c2,.slice a3 n3 c3,.slice a4 n4 c4,.slice a5 n5 c5,.slice a6 n6 c6,.slice a7 n7 c7,.int .i64 w_.disk.next]].toArray w (Am fun rv w'=>VS (ge w.heap.size) w' (BB w_:Wld) rv∧Ext w w'):=by
 cases h1.len
 cases h2.len
 cases h3.len
 cases h4.len
 cases h5.len
 cases h6.len
 cases h7.len
 refine goT func70 ?_
 have Z:=(((((((St.i0 F w).p h1).p h2).p h3).p h4).p h5).p h6).p h7
 have aO:=h5.max
 refine .s<|.g<|RG.Np Z fun aR w Z=>RG.Np Z fun aS w Z=>.d<|.s<|.g<|.r 1<|RG.Ln 1 Z<|RG.CS (Ka w_.disk (Z.mg 1 2) (Z.mg 1 1) (Z.mg 1 0) (by have:=p0.nf; omega)) Z fun aT aU aV aW aX aY w Z=>RG.cl (Gh (BK w_.disk) (Z.a 0) (Z.a 1) (Z.a 2) (by have:=p0.tidy.nm.len; omega) (fun n hn=>by have:=(p0.tidy.nm.sz n hn).1; omega) (by have:=p0.tidy.nl; omega) (by have:=p0.tidy.nf; omega) (fun f hf=>(p0.tidy.file f hf).sz)) ?_
 rintro _ w ⟨⟨au,aZ,ax,ay,ba,az,aA,bd,aB,rfl,E,ae,aa,af,ag,ab,ah,ai,aj⟩,ak⟩
 cases E.len
 cases aa.len
 cases ab.len
 have Z:=Z.so ak [.own 0 au 50 ax (((BH (BK w_.disk))).files),.own 0 ay 3 az (((BH (BK w_.disk))).list),.own 0 aA 43 aB (((BH (BK w_.disk))).names)] [] (nd3 ag ai aj) (oN E ae (oN aa af (oN ab ah o0))) fn_
 refine .r 1<|RG.Ss 4 Z fun w Z=>.d<|.s<|.g<|.r 1<|RG.Ln 4 Z ?_
 have Z:=((Z.sl 0).sl 0).sl 0
 refine RG.CS (Kc ((BH (BK w_.disk))) (Z.mg 1 2) (Z.mg 1 1) (Z.mg 1 0) (by have:=p0.tidy.copy.nm.len; omega) p0.tidy.copy.nm.sz (by have:=p0.tidy.copy.nl; omega) p0.tidy.copy.at) Z fun bg bh bi bj bk bm bn bo w Z=>RG.cl (Gf (⟨(⟨((Al ((BH (BK w_.disk)))).idx).names,((Al ((BH (BK w_.disk)))).idx).AY⟩:Idx),(Al ((BH (BK w_.disk)))).parts,(Al ((BH (BK w_.disk)))).mem⟩:Sto) (Z.a 0) (Z.a 1) (Z.a 2) (Z.a 3) p0.tidy.copy.open.sz) ?_
 rintro _ w ⟨⟨aC,bq,aD,aE,br,aF,aG,bt,aH,aI,bu,aJ,rfl,al,am,ao,ac,aq⟩,ar⟩
 cases al.len
 cases am.len
 cases ao.len
 cases ac.len
 have Z:=Z.so ar [.own 0 aI 85 aJ (((AZ (⟨(⟨((Al ((BH (BK w_.disk)))).idx).names,((Al ((BH (BK w_.disk)))).idx).AY⟩:Idx),(Al ((BH (BK w_.disk)))).parts,(Al ((BH (BK w_.disk)))).mem⟩:Sto))).mem)] [.rep aC aD ((((AZ (⟨(⟨((Al ((BH (BK w_.disk)))).idx).names,((Al ((BH (BK w_.disk)))).idx).AY⟩:Idx),(Al ((BH (BK w_.disk)))).parts,(Al ((BH (BK w_.disk)))).mem⟩:Sto))).idx).names),.rep aE aF ((((AZ (⟨(⟨((Al ((BH (BK w_.disk)))).idx).names,((Al ((BH (BK w_.disk)))).idx).AY⟩:Idx),(Al ((BH (BK w_.disk)))).parts,(Al ((BH (BK w_.disk)))).mem⟩:Sto))).idx).AY),.rep aG aH (((AZ (⟨(⟨((Al ((BH (BK w_.disk)))).idx).names,((Al ((BH (BK w_.disk)))).idx).AY⟩:Idx),(Al ((BH (BK w_.disk)))).parts,(Al ((BH (BK w_.disk)))).mem⟩:Sto))).parts)] nd1 (oN ac aq o0) (fc al (fc am (fc ao fn_)))
 refine .r 1<|RG.Ss 2 Z fun w Z=>.d<|.s<|.g<|RG.Ln 2 Z<|RG.Ss 1 Z fun w Z=>.d ?_
 have Z:=Z.sl 0
 exact T.Rb 0 func70 results70 Z ⟨Z.rS (⟨(⟨(⟨(((AZ (⟨(⟨((Al ((BH (BK w_.disk)))).idx).names,((Al ((BH (BK w_.disk)))).idx).AY⟩:Idx),(Al ((BH (BK w_.disk)))).parts,(Al ((BH (BK w_.disk)))).mem⟩:Sto))).idx).names,(((AZ (⟨(⟨((Al ((BH (BK w_.disk)))).idx).names,((Al ((BH (BK w_.disk)))).idx).AY⟩:Idx),(Al ((BH (BK w_.disk)))).parts,(Al ((BH (BK w_.disk)))).mem⟩:Sto))).idx).AY⟩:Idx),((AZ (⟨(⟨((Al ((BH (BK w_.disk)))).idx).names,((Al ((BH (BK w_.disk)))).idx).AY⟩:Idx),(Al ((BH (BK w_.disk)))).parts,(Al ((BH (BK w_.disk)))).mem⟩:Sto))).parts,((AZ (⟨(⟨((Al ((BH (BK w_.disk)))).idx).names,((Al ((BH (BK w_.disk)))).idx).AY⟩:Idx),(Al ((BH (BK w_.disk)))).parts,(Al ((BH (BK w_.disk)))).mem⟩:Sto))).mem⟩:Sto),(⟨((BH (BK w_.disk))).files,((BH (BK w_.disk))).list,((BH (BK w_.disk))).names,((BH (BK w_.disk))).next⟩:Dsk)⟩:Wld) [1,2,3,0,10,9,8] AF,Z.xt⟩
theorem GD (w_:Wld) (steps:List Stp) (cut:Int) (s:Sto) (h1:RepS w F a1 n1 c1 w_.store.idx.names) (h2:RepS w F a2 n2 c2 w_.store.idx.AY) (h3:RepS w F a3 n3 c3 w_.store.parts) (h4:RepS w F a4 n4 c4 w_.store.mem) (h5:RepS w F a5 n5 c5 w_.disk.files) (h6:RepS w F a6 n6 c6 w_.disk.list) (h7:RepS w F a7 n7 c7 w_.disk.names) (h8:RepS w F a8 n8 c8 steps) (h9:RepS w F a9 n9 c9 s.idx.names) (h10:RepS w F a10 n10 c10 s.idx.AY) (h11:RepS w F a11 n11 c11 s.parts) (h12:RepS w F a12 n12 c12 s.mem) (p0:WI w_) (p1:StI w_.disk steps) (p2:StoI s):Calls Tryz.prog 66 [.agg #[.slice a1 n1 c1,.slice a2 n2 c2,.slice a3 n3 c3,.slice a4 n4 c4,.slice a5 n5 c5,.slice a6 n6 c6,.slice a7 n7 c7,.int .i64 w_.disk.next],.slice a8 n8 c8,.int .i64 cut,.agg #[.slice a9 n9 c9,.slice a10 n10 c10,.slice a11 n11 c11,.slice a12 n12 c12]].toArray w (Am fun rv w'=>VS (fo F w.heap.size) w' (Bi w_ steps cut s:Wld) rv∧Ext w w'):=by
 cases h1.len
 cases h2.len
 cases h3.len
 cases h4.len
 cases h5.len
 cases h6.len
 cases h7.len
 cases h8.len
 cases h9.len
 cases h10.len
 cases h11.len
 cases h12.len
 refine goT func66 ?_
 have Z:=((((((((((((St.i0 F w).p h1).p h2).p h3).p h4).p h5).p h6).p h7).p h8).p h9).p h10).p h11).p h12
 have ah:=h5.max
 have ai:=h6.max
 have ak:=h8.max
 exact .s<|.g<|RG.Np Z fun ar w Z=>RG.Np Z fun au w Z=>RG.Np Z fun ax w Z=>.d<|.s<|.s<|.g<|.r 2<|.eq (steps.length:Int) 0 (fun E=>.r 4<|.d<|.ct<|.s<|.g<|RG.Ln 2 Z<|RG.Ss 0 Z fun w Z=>.d<|T.Rb 0 func66 results66 Z ⟨Z.rS (g:=1) w_ [11,10,9,8,7,6,5] (by rw [Co AB]),Z.xt⟩) fun E=>.r 2<|.bp (cut< 0) (fun aa=>.r 1<|.d<|.ct<|.s<|.g<|RG.Ln 2 Z<|RG.Ss 0 Z fun w Z=>.d<|T.Rb 0 func66 results66 Z ⟨Z.rS (g:=1) w_ [11,10,9,8,7,6,5] (by rw [Co AB]),Z.xt⟩) fun aa=>.r 1<|.d<|.cf<|.sk<|.s<|.g<|.r 1<|RG.Ln 2 Z<|.r 2<|RG.CS (MV w_.disk steps cut (Z.mg 1 7) (Z.mg 1 6) (Z.mg 1 5) (Z.mg 1 4) (by have:=p0.dsk.nf; omega) (by have:=p1.len; omega) (by have:=p0.dsk.nl; omega) p1.sz) Z fun ay az aA aB aC aD w Z=>.r 1<|RG.Ss 2 Z fun w Z=>.d<|.s<|.s<|.g<|.r 3<|.bp (cut< (steps.length:Int)) (fun ab=>.d<|.ct<|.s<|.g<|RG.Ln 2 Z<|RG.CS (Gm (⟨(⟨(⟨w_.store.idx.names,w_.store.idx.AY⟩:Idx),w_.store.parts,w_.store.mem⟩:Sto),(⟨(toD w_.disk steps cut).files,(toD w_.disk steps cut).list,(toD w_.disk steps cut).names,(toD w_.disk steps cut).next⟩:Dsk)⟩:Wld) (Z.a 14) (Z.a 13) (Z.a 12) (Z.a 11) (Z.a 0) (Z.a 1) (Z.a 2) (p1.ok _)) Z fun aE aF aG aH aI aJ aK aL aM aN aO aP aQ aR w Z=>RG.Ss 0 Z fun w Z=>.d<|T.Rb 0 func66 results66 Z ⟨Z.rS (g:=1) (⟨(⟨(⟨(((BB (⟨(⟨(⟨w_.store.idx.names,w_.store.idx.AY⟩:Idx),w_.store.parts,w_.store.mem⟩:Sto),(⟨(toD w_.disk steps cut).files,(toD w_.disk steps cut).list,(toD w_.disk steps cut).names,(toD w_.disk steps cut).next⟩:Dsk)⟩:Wld)).store).idx).names,(((BB (⟨(⟨(⟨w_.store.idx.names,w_.store.idx.AY⟩:Idx),w_.store.parts,w_.store.mem⟩:Sto),(⟨(toD w_.disk steps cut).files,(toD w_.disk steps cut).list,(toD w_.disk steps cut).names,(toD w_.disk steps cut).next⟩:Dsk)⟩:Wld)).store).idx).AY⟩:Idx),((BB (⟨(⟨(⟨w_.store.idx.names,w_.store.idx.AY⟩:Idx),w_.store.parts,w_.store.mem⟩:Sto),(⟨(toD w_.disk steps cut).files,(toD w_.disk steps cut).list,(toD w_.disk steps cut).names,(toD w_.disk steps cut).next⟩:Dsk)⟩:Wld)).store).parts,((BB (⟨(⟨(⟨w_.store.idx.names,w_.store.idx.AY⟩:Idx),w_.store.parts,w_.store.mem⟩:Sto),(⟨(toD w_.disk steps cut).files,(toD w_.disk steps cut).list,(toD w_.disk steps cut).names,(toD w_.disk steps cut).next⟩:Dsk)⟩:Wld)).store).mem⟩:Sto),(⟨((BB (⟨(⟨(⟨w_.store.idx.names,w_.store.idx.AY⟩:Idx),w_.store.parts,w_.store.mem⟩:Sto),(⟨(toD w_.disk steps cut).files,(toD w_.disk steps cut).list,(toD w_.disk steps cut).names,(toD w_.disk steps cut).next⟩:Dsk)⟩:Wld)).disk).files,((BB (⟨(⟨(⟨w_.store.idx.names,w_.store.idx.AY⟩:Idx),w_.store.parts,w_.store.mem⟩:Sto),(⟨(toD w_.disk steps cut).files,(toD w_.disk steps cut).list,(toD w_.disk steps cut).names,(toD w_.disk steps cut).next⟩:Dsk)⟩:Wld)).disk).list,((BB (⟨(⟨(⟨w_.store.idx.names,w_.store.idx.AY⟩:Idx),w_.store.parts,w_.store.mem⟩:Sto),(⟨(toD w_.disk steps cut).files,(toD w_.disk steps cut).list,(toD w_.disk steps cut).names,(toD w_.disk steps cut).next⟩:Dsk)⟩:Wld)).disk).names,((BB (⟨(⟨(⟨w_.store.idx.names,w_.store.idx.AY⟩:Idx),w_.store.parts,w_.store.mem⟩:Sto),(⟨(toD w_.disk steps cut).files,(toD w_.disk steps cut).list,(toD w_.disk steps cut).names,(toD w_.disk steps cut).next⟩:Dsk)⟩:Wld)).disk).next⟩:Dsk)⟩:Wld) [0,1,2,3,4,5,6] (by rw [DL AB AB AB]),Z.xt⟩) fun ab=>.d<|.cf<|.sk<|.s<|.g<|RG.Ln 1 Z<|.r 1<|RG.Ss 2 Z fun w Z=>.d<|.s<|.g<|RG.Ln 2 Z<|RG.Ss 0 Z fun w Z=>.d<|T.Rb 0 func66 results66 Z ⟨Z.rS (g:=1) (⟨(⟨(⟨s.idx.names,s.idx.AY⟩:Idx),s.parts,s.mem⟩:Sto),(⟨(toD w_.disk steps cut).files,(toD w_.disk steps cut).list,(toD w_.disk steps cut).names,(toD w_.disk steps cut).next⟩:Dsk)⟩:Wld) [6,5,4,3,0,1,2] (by rw [DM AB AB AB]),Z.xt⟩
theorem H6 (w_:Wld) (e:Evt) (h1:RepS w F a1 n1 c1 w_.store.idx.names) (h2:RepS w F a2 n2 c2 w_.store.idx.AY) (h3:RepS w F a3 n3 c3 w_.store.parts) (h4:RepS w F a4 n4 c4 w_.store.mem) (h5:RepS w F a5 n5 c5 w_.disk.files) (h6:RepS w F a6 n6 c6 w_.disk.list) (h7:RepS w F a7 n7 c7 w_.disk.names) (h8:RepS w F a8 n8 c8 e.name) (p0:WI w_) (p1:FZ e.name):Calls Tryz.prog 36 [.agg #[.slice a1 n1 c1,.slice a2 n2 c2,.slice a3 n3 c3,.slice a4 n4 c4,.slice a5 n5 c5,.slice a6 n6 c6,.slice a7 n7 c7,.int .i64 w_.disk.next],.agg #[.int .i64 e.kind,.int .i64 e.at_,.int .i64 e.cut,.slice a8 n8 c8,.int .i64 e.row.t,.int .i64 e.row.v]].toArray w (Am fun rv w'=>VS (fo F w.heap.size) w' (doW w_ e:Wld) rv∧Ext w w'):=by
 cases h1.len
 cases h2.len
 cases h3.len
 cases h4.len
 cases h5.len
 cases h6.len
 cases h7.len
 cases h8.len
 refine goT func36 ?_
 have Z:=((((((((St.i0 F w).p h1).p h2).p h3).p h4).p h5).p h6).p h7).p h8
 have ae:=h1.max
 have ag:=h3.max
 have ah:=h4.max
 have aj:=h6.max
 have ak:=h7.max
 refine .s<|.g<|RG.Np Z fun aF w Z=>RG.Np Z fun aG w Z=>RG.Np Z fun aH w Z=>.d<|.s<|.s<|.g<|.r 1<|RG.Lb 1 Z<|.d<|.b 0<|.s<|.g<|.eq e.kind 1 (fun E=>?_) (fun E=>.r 1<|.d<|.cf<|.s<|.g<|.eq e.kind 2 (fun aa=>.r 1<|.d<|.ct<|.s<|.g<|.r 1<|RG.Ln 2 Z<|RG.CT (us:=[.bool ((BE w_.store).2)]) (Jf w_.store (Z.mg 1 7) (Z.mg 1 6) (Z.mg 1 5) (Z.mg 1 4) (by have:=p0.sto.nm2; omega) p0.sto.Iq) Z fun aI aJ aK aL aM aN aO aP w Z=>.r 3<|RG.Np Z fun aQ w Z=>RG.Ss 0 Z fun w Z=>.r 1<|.d<|.s<|T.Gd 9 Z fun w Z=>GA.Ln 0 3 Z<|.r [1]<|GA.Ln 2 3 Z<|.r [3]<|GA.Ln 4 3 Z<|.r [6]<|GA.Lb 7 2 Z<|GA.Ln 8 0 Z<|.go 5<|GE.CL (fun w Z=>Jh w_.disk w_.store (Z.a 7) (Z.a 6) (Z.a 5) (Z.a 11) (Z.a 10) (Z.a 9) (Z.a 8) (by have:=p0.sto.nm2; omega) p0.sto.Iq (by have:=p0.dsk.nl; omega) (by have:=p0.sto.nm.len; omega) (fun n hn=>(p0.sto.nm.sz n hn).1)) Z fun aR aS w Z=>GA.Dn Z fun w Z=>RG.CS (GD w_ (As w_.disk w_.store) e.cut (⟨(⟨(BE w_.store).1.idx.names,((BE w_.store).1.idx).AY⟩:Idx),(BE w_.store).1.parts,(BE w_.store).1.mem⟩:Sto) (Z.mg 1 12) (Z.mg 1 11) (Z.mg 1 10) (Z.mg 1 9) (Z.mg 1 8) (Z.mg 1 7) (Z.mg 1 6) (Z.mg 1 0) (Z.mg 1 1) (Z.mg 1 2) (Z.mg 1 3) (Z.mg 1 4) p0 (by exact StI.flush p0) (by exact p0.sto.flush)) Z fun aT aU aV aW aX aY aZ ba bd bg bh bi bj bk w Z=>RG.Ss 1 Z fun w Z=>.d<|T.Rb 1 func36 results36 Z ⟨Z.rS (g:=1) (⟨(⟨(⟨(((Bi w_ (As w_.disk w_.store) e.cut (⟨(⟨(BE w_.store).1.idx.names,((BE w_.store).1.idx).AY⟩:Idx),(BE w_.store).1.parts,(BE w_.store).1.mem⟩:Sto)).store).idx).names,(((Bi w_ (As w_.disk w_.store) e.cut (⟨(⟨(BE w_.store).1.idx.names,((BE w_.store).1.idx).AY⟩:Idx),(BE w_.store).1.parts,(BE w_.store).1.mem⟩:Sto)).store).idx).AY⟩:Idx),((Bi w_ (As w_.disk w_.store) e.cut (⟨(⟨(BE w_.store).1.idx.names,((BE w_.store).1.idx).AY⟩:Idx),(BE w_.store).1.parts,(BE w_.store).1.mem⟩:Sto)).store).parts,((Bi w_ (As w_.disk w_.store) e.cut (⟨(⟨(BE w_.store).1.idx.names,((BE w_.store).1.idx).AY⟩:Idx),(BE w_.store).1.parts,(BE w_.store).1.mem⟩:Sto)).store).mem⟩:Sto),(⟨((Bi w_ (As w_.disk w_.store) e.cut (⟨(⟨(BE w_.store).1.idx.names,((BE w_.store).1.idx).AY⟩:Idx),(BE w_.store).1.parts,(BE w_.store).1.mem⟩:Sto)).disk).files,((Bi w_ (As w_.disk w_.store) e.cut (⟨(⟨(BE w_.store).1.idx.names,((BE w_.store).1.idx).AY⟩:Idx),(BE w_.store).1.parts,(BE w_.store).1.mem⟩:Sto)).disk).list,((Bi w_ (As w_.disk w_.store) e.cut (⟨(⟨(BE w_.store).1.idx.names,((BE w_.store).1.idx).AY⟩:Idx),(BE w_.store).1.parts,(BE w_.store).1.mem⟩:Sto)).disk).names,((Bi w_ (As w_.disk w_.store) e.cut (⟨(⟨(BE w_.store).1.idx.names,((BE w_.store).1.idx).AY⟩:Idx),(BE w_.store).1.parts,(BE w_.store).1.mem⟩:Sto)).disk).next⟩:Dsk)⟩:Wld) [0,1,2,3,4,5,6] (by (rw [Gk ‹_›])),Z.xt⟩) fun aa=>.r 1<|.d<|.cf<|.s<|.g<|.eq e.kind 3 (fun ab=>.r 1<|.d<|.ct<|.s<|.g<|.r 1<|RG.Ln 2 Z<|.r 1<|RG.Lb 1 Z<|RG.CT (us:=[.bool ((BD w_.store e.at_).2)]) (Jg w_.store e.at_ (Z.mg 1 7) (Z.mg 1 6) (Z.mg 1 5) (Z.mg 1 4) (by have:=p0.sto.np; omega) (fun p hp=>(p0.sto.part p hp).sz)) Z fun bm bn bo bq br bt bu bv w Z=>.r 3<|RG.Np Z fun bw w Z=>RG.Ss 0 Z fun w Z=>.r 1<|.d<|.s<|T.Gd 9 Z fun w Z=>GA.Ln 0 3 Z<|.r [1]<|GA.Ln 2 3 Z<|.r [3]<|GA.Lb 4 2 Z<|.r [6]<|GA.Lb 7 2 Z<|GA.Ln 8 0 Z<|.go 5<|GE.CL (fun w Z=>Ji w_.disk e.at_ (Z.a 7) (Z.a 6) (Z.a 5) (by have:=p0.dsk.nm.len; omega) (fun n hn=>(p0.dsk.nm.sz n hn).1) (by have:=p0.dsk.nl; omega) p0.dsk.at (fun f hf=>(p0.dsk.file f hf).sz)) Z fun bz bA w Z=>GA.Dn Z fun w Z=>RG.CS (GD w_ (Aj w_.disk e.at_) e.cut (⟨(⟨(BD w_.store e.at_).1.idx.names,((BD w_.store e.at_).1.idx).AY⟩:Idx),(BD w_.store e.at_).1.parts,(BD w_.store e.at_).1.mem⟩:Sto) (Z.mg 1 12) (Z.mg 1 11) (Z.mg 1 10) (Z.mg 1 9) (Z.mg 1 8) (Z.mg 1 7) (Z.mg 1 6) (Z.mg 1 0) (Z.mg 1 1) (Z.mg 1 2) (Z.mg 1 3) (Z.mg 1 4) p0 (by exact StI.merge p0.dsk _) (by exact p0.sto.merge _)) Z fun bB bC bD bE bF bG bH bI bJ bK bL bM bN bO w Z=>RG.Ss 1 Z fun w Z=>.d<|T.Rb 1 func36 results36 Z ⟨Z.rS (g:=1) (⟨(⟨(⟨(((Bi w_ (Aj w_.disk e.at_) e.cut (⟨(⟨(BD w_.store e.at_).1.idx.names,((BD w_.store e.at_).1.idx).AY⟩:Idx),(BD w_.store e.at_).1.parts,(BD w_.store e.at_).1.mem⟩:Sto)).store).idx).names,(((Bi w_ (Aj w_.disk e.at_) e.cut (⟨(⟨(BD w_.store e.at_).1.idx.names,((BD w_.store e.at_).1.idx).AY⟩:Idx),(BD w_.store e.at_).1.parts,(BD w_.store e.at_).1.mem⟩:Sto)).store).idx).AY⟩:Idx),((Bi w_ (Aj w_.disk e.at_) e.cut (⟨(⟨(BD w_.store e.at_).1.idx.names,((BD w_.store e.at_).1.idx).AY⟩:Idx),(BD w_.store e.at_).1.parts,(BD w_.store e.at_).1.mem⟩:Sto)).store).parts,((Bi w_ (Aj w_.disk e.at_) e.cut (⟨(⟨(BD w_.store e.at_).1.idx.names,((BD w_.store e.at_).1.idx).AY⟩:Idx),(BD w_.store e.at_).1.parts,(BD w_.store e.at_).1.mem⟩:Sto)).store).mem⟩:Sto),(⟨((Bi w_ (Aj w_.disk e.at_) e.cut (⟨(⟨(BD w_.store e.at_).1.idx.names,((BD w_.store e.at_).1.idx).AY⟩:Idx),(BD w_.store e.at_).1.parts,(BD w_.store e.at_).1.mem⟩:Sto)).disk).files,((Bi w_ (Aj w_.disk e.at_) e.cut (⟨(⟨(BD w_.store e.at_).1.idx.names,((BD w_.store e.at_).1.idx).AY⟩:Idx),(BD w_.store e.at_).1.parts,(BD w_.store e.at_).1.mem⟩:Sto)).disk).list,((Bi w_ (Aj w_.disk e.at_) e.cut (⟨(⟨(BD w_.store e.at_).1.idx.names,((BD w_.store e.at_).1.idx).AY⟩:Idx),(BD w_.store e.at_).1.parts,(BD w_.store e.at_).1.mem⟩:Sto)).disk).names,((Bi w_ (Aj w_.disk e.at_) e.cut (⟨(⟨(BD w_.store e.at_).1.idx.names,((BD w_.store e.at_).1.idx).AY⟩:Idx),(BD w_.store e.at_).1.parts,(BD w_.store e.at_).1.mem⟩:Sto)).disk).next⟩:Dsk)⟩:Wld) [0,1,2,3,4,5,6] (by (rw [GC ‹_›])),Z.xt⟩) fun ab=>.r 1<|.d<|.cf<|.s<|.g<|.eq e.kind 4 (fun ac=>.r 1<|.d<|.ct<|.s<|.g<|RG.Ln 2 Z<|RG.CS (Gm w_ (Z.a 7) (Z.a 6) (Z.a 5) (Z.a 4) (Z.a 3) (Z.a 2) (Z.a 1) p0.dsk) Z fun bP bQ am ao aq ar au ax ay az aA aB aC aD w Z=>RG.Ss 0 Z fun w Z=>.d<|T.Rb 0 func36 results36 Z ⟨Z.rS (g:=1) (⟨(⟨(⟨(BB w_).store.idx.names,((BB w_).store.idx).AY⟩:Idx),(BB w_).store.parts,(BB w_).store.mem⟩:Sto),(⟨(BB w_).disk.files,(BB w_).disk.list,(BB w_).disk.names,(BB w_).disk.next⟩:Dsk)⟩:Wld) [0,1,2,3,4,5,6] (by (rw [Lc ‹_›])),Z.xt⟩) fun ac=>.r 1<|.d<|.cf<|.sk<|.ib 0<|.s<|.g<|RG.Ln 2 Z<|RG.Ss 0 Z fun w Z=>.d<|T.Rb 0 func36 results36 Z ⟨Z.rS (g:=1) w_ [7,6,5,4,3,2,1] (by (rw [Ld ‹_› ‹_› ‹_› ‹_›])),Z.xt⟩)
 refine .r 1<|.d<|.ct<|.s<|.g<|.r 1<|RG.Lb 1 Z<|RG.C0 (FM e.name (Z.a 0)) Z fun w Z=>?_
 cases aE:(Aq e.name)
 ·exact .d<|.cf<|.sk<|.ib 0<|.s<|.g<|RG.Ln 2 Z<|RG.Ss 0 Z fun w Z=>.d<|T.Rb 0 func36 results36 Z ⟨Z.rS (g:=1) w_ [7,6,5,4,3,2,1] (by (rw [Gj ‹_› ‹_›])),Z.xt⟩
 exact .d<|.ct<|.s<|.g<|.r 1<|RG.Ln 2 Z<|.r 1<|RG.Lb 1 Z<|.r 1<|RG.Ln 1 Z<|RG.CT (us:=[.bool ((CA w_.store e.name e.row).2)]) (LF w_.store e.name e.row (Z.mg 1 7) (Z.mg 1 6) (Z.mg 1 5) (Z.mg 1 4) (Z.mg 1 0) p0.sto.sz p1) Z fun bR bS bT bU bV bW bX bY w Z=>.r 3<|RG.Np Z fun bZ w Z=>RG.Ss 0 Z fun w Z=>.r 1<|.d<|.g<|RG.Ln 0 Z<|.r 1<|RG.Ss 3 Z fun w Z=>.d<|.ib 0<|.s<|.g<|RG.Ln 3 Z<|RG.Ss 1 Z fun w Z=>.d<|T.Rb 1 func36 results36 Z ⟨Z.rS (g:=1) (⟨(⟨(⟨(CA w_.store e.name e.row).1.idx.names,((CA w_.store e.name e.row).1.idx).AY⟩:Idx),(CA w_.store e.name e.row).1.parts,(CA w_.store e.name e.row).1.mem⟩:Sto),(⟨w_.disk.files,w_.disk.list,w_.disk.names,w_.disk.next⟩:Dsk)⟩:Wld) [0,1,2,3,7,6,5] (by (rw [Gi ‹_› ‹_›])),Z.xt⟩
end Go.Proofs.YtggnnidleedpaaaGreat
namespace Go.Proofs.YtggnnidleedpaaaGreat
def UP (n m:Nat) (ops:Array Oper) (l is:List Nat) (e:Env):Bool :=
 is.all (fun i=>DW n m ops l i&&CP n ops i e)&&decide (KI ops l=is) && !is.isEmpty
section
variable {P:Program} {S:Nat→Prop} {n m:Nat} {L:Env→World→Prop} {ops:Array Oper} {l:List Nat} {e:Env} {w:World}
theorem GE.many (is:List Nat) (h:UP n m ops l is e=true) (H:∀ i∈is,GE P S n m L ops l i e w):GA P S n m L ops l e w:=by
 intro hB f a hf ha inv
 simp only [UP,AW,decide_eq_true_eq,List.all_eq_true] at h
 obtain ⟨⟨h1,hready⟩,hne⟩:=h
 rw [Ih] at hready
 have hne:is≠[]:=by rintro rfl; simp at hne
 obtain ⟨i0,hi0⟩:=List.exists_mem_of_ne_nil is hne
 have hlm:=(EG (h1 i0 hi0).1).1
 obtain ⟨f,rfl⟩:∃ g,f=g+1:=⟨f - 1,by omega⟩
 have key:∀ k,DW n m ops l k=true→CP n ops k e=true→GE P S n m L ops l k e w→∀ w1,Ext w w1→k< m∧gOp P S ops k (Ja P S ops m (fun listed a' w'=>listed=fin ops m∧∃ e',Sees n a' e'∧L e' w') f ((lst ops.size l).setIfInBounds k true)) a w1:=by
  intro k hk1 hk2 HK w1 hx
  obtain ⟨_,him,hd,hi,hr⟩:=EG hk1
  refine ⟨him,?_⟩
  simp only [CP,AW] at hk2
  unfold gOp
  simp only [hi]
  rw [ha.want,hk2.2,if_pos rfl,ha.eval]
  refine EF (fun v w2 _ hq=>?_) (HK w1 hx)
  have:=hq hB f (a.put (Ad ops k).dst v) (by simp only [List.length_cons]; omega) (ha.L4 hd v) (by rw [DX]; exact inv.set hr him)
  rwa [DX] at this
 refine ⟨by rw [hready]; exact hne,fun w1 hx k hk=>?_⟩
 rw [hready] at hk
 exact key k (h1 k hk).1 (h1 k hk).2 (H k hk) w1 hx
end
theorem PN {a b:Int}(ha:0≤a∧a< 4611686018427387904) (hb:0≤b∧b< 4611686018427387904) :
 IntKind.i64.wrap ((BitVec.ofInt 64 a ^^^ BitVec.ofInt 64 b).toNat:Int)=((a.toNat ^^^ b.toNat:Nat):Int)∧a.toNat ^^^ b.toNat< 4611686018427387904:=by
 have h1:(BitVec.ofInt 64 a).toNat=a.toNat:=by rw [BitVec.toNat_ofInt]; omega
 have h2:(BitVec.ofInt 64 b).toNat=b.toNat:=by rw [BitVec.toNat_ofInt]; omega
 have h3:a.toNat ^^^ b.toNat< 2 ^ 62:=Nat.xor_lt_two_pow AB AB
 rw [BitVec.toNat_xor,h1,h2]
 exact ⟨IntWalk.i64_in _ AB,by omega⟩
theorem TH {P:Program}{t:TypeId}{x y:Operand}{a b:Int}(ha:0≤a∧a< 4611686018427387904) (hb:0≤b∧b< 4611686018427387904) (w:World) :
 (do eqGuard .xor t x y (.int .i64 a) (.int .i64 b); binOp .xor t (.int .i64 a) (.int .i64 b)).run P w=.ok (.int .i64 ((a.toNat ^^^ b.toNat:Nat):Int)) w:=by
 have h1:(eqGuard .xor t x y (.int .i64 a) (.int .i64 b)).run P w=.ok () w:=rfl
 rw [AX h1,← (PN ha hb).1]
 rfl
section
variable {P:Program} {n:Nat} {K:Env→World→Prop} {ops:Array Oper} {j:Nat} {e:Env} {w:World}
theorem RG.xor {t:TypeId}{a b:Int}(h:Eg n ops j e=some (.xor,t,.int .i64 a,.int .i64 b)) (ha:0≤a∧a< 4611686018427387904) (hb:0≤b∧b< 4611686018427387904)
 (H:RG P n K ops (j+1) (Ah e (Ad ops j).dst (.int .i64 ((a.toNat ^^^ b.toNat:Nat):Int))) w):RG P n K ops j e w :=
 have h1:=Cw (P:=P) (w:=w) h (fun _ _=>TH ha hb w)
 RG.val h1.1 h1.2 H
end
theorem GA.quo {P:Program}{S:Nat→Prop}{n m:Nat}{L:Env→World→Prop}{ops:Array Oper}{l:List Nat}{e:Env}{w:World}{i:Nat}{t:TypeId}{a b:Int}(hb:gB n m ops l i=true) (h:Eg n ops i e=some (.quo,t,.int .i64 a,.int .i64 b)) (hb0:b≠0) (hr:-9223372036854775808≤a.tdiv b∧a.tdiv b≤9223372036854775807)
 (H:GA P S n m L ops (i::l) (Ah e (Ad ops i).dst (.int .i64 (a.tdiv b))) w):GA P S n m L ops l e w :=
 GA.Jd hb (fun w=>Cw h (fun _ _=>PC hb0 hr w)) H
section
variable {α:Type} [Rep α] {w:World} {G F:Nat→Prop} {M:List Nat} {o:Option Addr} {n c r b s:Nat} {t:TypeId} {xs:List α}
theorem RepS.CU (h:RepS w (nin G M) o n c xs) (hb:b∈M):RepS w (nin all [b]) o n c xs:=h.Bl fun k _ hk=>⟨trivial,fun e=>hk.2 (by simp at e; exact e▸hb)⟩
theorem Own.CU (h:Own w r t (nin G M) n c xs) (hb:b∈M) (hr:Nb r b):RepS w (nin all [b]) (some ⟨r,0,none⟩) n c xs :=
 h.Mz (fun k _ hk=>⟨trivial,fun e=>hk.2 (by simp at e; exact e▸hb)⟩) ⟨trivial,fun e=>hr.ne (by simpa using e)⟩
theorem RepS.Vx (h:RepS w (nin G M) o n c xs) (hb:b∈M):RepS w (nin G [b]) o n c xs:=h.Bl fun k _ hk=>⟨hk.1,fun e=>hk.2 (by simp at e; exact e▸hb)⟩
end
theorem Cov.mk1 (w:World) (b:Nat):Cov (Go.Proofs.YtggnnidleedpaaaGreat.one b) w b:=⟨.inl rfl⟩
instance {w:World}{b:Nat}:Cov (Go.Proofs.YtggnnidleedpaaaGreat.one b) w b:=⟨.inl rfl⟩
variable {w:World} {F:Nat→Prop}
theorem RepS.Ux {α:Type}[Rep α] {M:List Nat}{b s s' n c:Nat}{o:Option Addr}{xs:List α}(h:RepS w (nin (fo (nin (fo F s') M) s) [b]) o n c xs) (hM:∀ k∈M,k< s) (hs:s'≤s):RepS w (nin (fo F s') (b::M)) o n c xs :=
 h.Bl fun k _ hF=>by
  have hb:k≠b:=fun e=>hF.2 (by simp [e])
  rcases hF.1 with h1 | h1
  ·exact ⟨h1.1,by simp [hb]; exact h1.2⟩
  ·exact ⟨.inr AB,by
    intro hm
    rcases List.mem_cons.1 hm with hm | hm
    ·exact hb hm
    ·have:=hM k hm; omega⟩
theorem Q8 {a:Int}{n:Nat}(ha:0≤a) (hn:(n:Int)≠0):(Int.tmod a n).toNat< n:=by
 have h1:=Int.tmod_nonneg (n:Int) ha
 have h2:=Int.tmod_lt_of_pos a (show (0:Int)< n by omega)
 omega
theorem Q9 {a:Int}{n:Nat}(ha:0≤a):Int.tmod a n=((Int.tmod a n).toNat:Int):=by
 have h1:=Int.tmod_nonneg (n:Int) ha
 omega
theorem UQ {a n:Int}(ha:0≤a) (hn:¬ n< 1):0≤Int.tmod a n∧(Int.tmod a n< n∨Int.tmod a n=0):=by
 have h1:=Int.tmod_nonneg n ha
 have h2:=Int.tmod_lt_of_pos a (show (0:Int)< n by omega)
 omega
theorem UR {a n:Int}(ha:0≤a) (hn:0≤n):0≤Int.tdiv a n∧Int.tdiv a n≤a:=by
 refine ⟨Int.tdiv_nonneg ha hn,?_⟩
 rw [Int.tdiv_eq_ediv_of_nonneg ha]
 exact Int.ediv_le_self n ha
section
variable {α:Type} [Rep α] {w:World} {G:Nat→Prop} {M rs:List Nat} {o:Option Addr} {n c r s:Nat} {t:TypeId} {xs:List α}
theorem OR {k:Nat}(h:nin (fo (nin G M) s) rs k) (hM:∀ b∈M,b< s) (hG:∀ b,s≤b→G b):nin G (rs++M) k:=by
 refine ⟨?_,fun hm=>?_⟩
 ·rcases h.1 with h1 | h1
  ·exact h1.1
  ·exact hG _ h1
 ·rcases List.mem_append.1 hm with hm | hm
  ·exact h.2 hm
  ·rcases h.1 with h1 | h1
   ·exact h1.2 hm
   ·have h2:=hM k hm
    omega
theorem RepS.Hb (h:RepS w (fo (nin G M) s) o n c xs) (hM:∀ b∈M,b< s) (hG:∀ b,s≤b→G b):RepS w (nin G M) o n c xs:=h.Bl fun k _ hk=>OR (rs:=[]) ⟨hk,by simp⟩ hM hG
end
def HG (t:Tag):Prop:=t.key∈[[97],[98],[99]]∧t.val∈[[112],[113],[122],[],[111],[112,112]]
def NmD (n:List Tag):Prop:=n.length≤5∧∀ t∈n,HG t
def FD (r:Row):Prop:=-1≤r.t∧r.t≤100 ∧ -100≤r.v∧r.v≤100
def TI (n:List Tag):Nat:=(n.filter (fun t=>!BZ t)).length
def NmX (n:List Tag):Prop:=NmD n∧TI n≤1
theorem PO {n:List Tag}(h:∀ t∈n,BZ t=true):TI n=0:=by
 unfold TI
 rw [List.length_eq_zero_iff,List.filter_eq_nil_iff]
 intro t ht
 rw [h t ht]
 simp
theorem J8 {n:List Tag}(hl:n.length≤5) (hd:∀ t∈n,HG t) (h:∀ t∈n,BZ t=true):NmX n:=⟨⟨hl,hd⟩,by rw [PO h]; omega⟩
theorem PQ {n:List Tag}{i:Nat}{u:Tag}(hl:n.length≤5) (hd:∀ t∈n.set i u,HG t) (h:∀ t∈n,BZ t=true):NmX (n.set i u):=by
 refine ⟨⟨by rw [List.length_set]; exact hl,hd⟩,?_⟩
 by_cases hi:i< n.length
 ·rw [List.set_eq_take_append_cons_drop,if_pos hi]
  unfold TI
  rw [List.filter_append,List.filter_cons]
  have h1:((n.take i).filter (fun t=>!BZ t))=[]:=List.filter_eq_nil_iff.2 (fun t ht=>by rw [h t (List.mem_of_mem_take ht)]; simp)
  have h2:((n.drop (i+1)).filter (fun t=>!BZ t))=[]:=List.filter_eq_nil_iff.2 (fun t ht=>by rw [h t (List.mem_of_mem_drop ht)]; simp)
  rw [h1,h2]
  split <;> simp
 ·rw [List.set_eq_of_length_le AB,PO h]
  omega
theorem TJ {k v:Str}(hk:k∈[[97],[98],[99]]) (hv:v∈[[112],[113],[122]]):BZ ⟨k,v⟩=true:=by
 simp only [List.mem_cons,List.not_mem_nil,or_false] at hk hv
 rcases hk with rfl | rfl | rfl <;> rcases hv with rfl | rfl | rfl <;> decide
theorem RA {k v:Str}(hk:(⟨k⟩:Txt)∈([⟨[97]⟩,⟨[98]⟩,⟨[99]⟩]:List Txt)) (hv:(⟨v⟩:Txt)∈([⟨[112]⟩,⟨[113]⟩,⟨[122]⟩]:List Txt)):HG ⟨k,v⟩∧BZ ⟨k,v⟩=true:=by
 simp only [List.mem_cons,List.not_mem_nil,or_false,Txt.mk.injEq] at hk hv
 refine ⟨⟨?_,?_⟩,TJ (by simpa using hk) (by simpa using hv)⟩
 ·simpa using hk
 ·rcases hv with rfl | rfl | rfl <;> simp
theorem RB {b:Txt}{v:Str}(hk:b=⟨[97]⟩∨b=⟨[98]⟩∨b=⟨[99]⟩) (hv:(⟨v⟩:Txt)∈([⟨[112]⟩,⟨[113]⟩,⟨[122]⟩]:List Txt)):HG ⟨b.s,v⟩∧BZ ⟨b.s,v⟩=true:=RA (by rcases hk with rfl | rfl | rfl <;> simp) hv
theorem NG {α:Type}{P:α→Prop}{l:List α}{x:α}(h:∀ t∈l,P t) (hx:P x):∀ t∈l++[x],P t:=fun t ht=>by
 rcases List.mem_append.1 ht with ht | ht
 ·exact h t ht
 ·simp at ht
  subst ht
  exact hx
end Go.Proofs.YtggnnidleedpaaaGreat
