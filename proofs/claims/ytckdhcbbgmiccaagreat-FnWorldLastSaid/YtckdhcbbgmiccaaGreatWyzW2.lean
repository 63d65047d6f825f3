/- walks; pruned haves; hints pruned; squeezed -/
import Derived.Test.YtckdhcbbgmiccaaGreatWyzMem
open Go.Proofs.Tryz
set_option linter.unusedVariables false
set_option linter.unusedSimpArgs false
namespace Go.Proofs.YtckdhcbbgmiccaaGreat
set_option maxRecDepth 100000
set_option maxHeartbeats 4000000
variable {w:World} {F:Nat→Prop} {a1 a2:Option Addr} {n1 c1 n2 c2:Nat}
theorem Bm (n:Int) (low:Int) (high:Int){F:Nat→Prop}   : Calls Tryz.prog 50 [.int .i64 n,.int .i64 low,.int .i64 high].toArray w (Al fun rv w'=>rv=.bool (inR n low high)∧Ext w w'):=by
 refine goT func50 ?_
 have Z:=St.i0 F w
 exact .s<|.g<|.r 1<|.d<|.s<|.g<|.r 2<|.bp (n≥low) (fun E=>.r 6<|.d<|T.rt func50 results50 (.bool (decide (n≤high))) ⟨(AG (by simp [inR]; omega)),Z.xt⟩) fun E=>.r 6<|.d<|T.rt func50 results50 (.bool false) ⟨(AG (by simp [inR]; omega)),Z.xt⟩
theorem DG (n:Int) (low:Int) (high:Int){F:Nat→Prop}   : Calls Tryz.prog 125 [.int .i64 n,.int .i64 low,.int .i64 high].toArray w (Al fun rv w'=>rv=.bool (inR n low high)∧Ext w w'):=by
 refine goT func125 ?_
 have Z:=St.i0 F w
 exact .s<|.g<|.r 1<|.d<|.s<|.g<|.r 2<|.bp (n≥low) (fun E=>.r 6<|.d<|T.rt func125 results125 (.bool (decide (n≤high))) ⟨(AG (by simp [inR]; omega)),Z.xt⟩) fun E=>.r 6<|.d<|T.rt func125 results125 (.bool false) ⟨(AG (by simp [inR]; omega)),Z.xt⟩
theorem Fs (r:Row){F:Nat→Prop}   : Calls Tryz.prog 60 [.agg #[.int .i64 r.t,.int .i64 r.v]].toArray w (Al fun rv w'=>rv=.bool (BS r)∧Ext w w'):=by
 refine goT func60 ?_
 have Z:=St.i0 F w
 refine .s<|.g<|RG.Np Z fun ac w Z=>.r 1<|.d<|.s<|.g<|.r 1<|RG.Lb 0 Z<|RG.C0 (Bm r.t 0 99 (F:=all)) Z fun w Z=>?_
 cases E:(inR r.t 0 99)
 ·exact .r 6<|.d<|T.rt func60 results60 (.bool false) ⟨(AG (by simp_all [BS])),Z.xt⟩
 exact .r 2<|RG.Lb 0 Z<|RG.C0 (Bm r.v (-99) 99 (F:=all)) Z fun w Z=>.r 2<|.d<|T.rt func60 results60 (.bool (inR r.v (-99) 99)) ⟨(AG (by simp_all [BS])),Z.xt⟩
theorem MK (r:Row){F:Nat→Prop}   : Calls Tryz.prog 127 [.agg #[.int .i64 r.t,.int .i64 r.v]].toArray w (Al fun rv w'=>rv=.bool (BS r)∧Ext w w'):=by
 refine goT func127 ?_
 have Z:=St.i0 F w
 refine .s<|.g<|RG.Np Z fun ac w Z=>.r 1<|.d<|.s<|.g<|.r 1<|RG.Lb 0 Z<|RG.C0 (DG r.t 0 99 (F:=all)) Z fun w Z=>?_
 cases E:(inR r.t 0 99)
 ·exact .r 6<|.d<|T.rt func127 results127 (.bool false) ⟨(AG (by simp_all [BS])),Z.xt⟩
 exact .r 2<|RG.Lb 0 Z<|RG.C0 (DG r.v (-99) 99 (F:=all)) Z fun w Z=>.r 2<|.d<|T.rt func127 results127 (.bool (inR r.v (-99) 99)) ⟨(AG (by simp_all [BS])),Z.xt⟩
theorem BN (names:List (List Tag)) (h1:RepS w F a1 n1 c1 names) (p0:names.length≤1000000) (p1:∀ n∈names,n.length≤1000000):Calls Tryz.prog 131 [.slice a1 n1 c1].toArray w (Al fun rv w'=>VO 42 w.heap.size w' (names:List (List Tag)) rv∧Ext w w'):=by
 cases h1.len
 refine goT func131 ?_
 have Z:=(St.i0 F w).p h1
 refine .s<|.g<|.r 1<|.d<|.s<|.g<|RG.N0 (List Tag) 0 Z fun af w Z=>.r 1<|.d<|.s<|.s<|.g<|.r 1<|.d<|.b 0<|T.Lp (([]:List (List Tag)),af,(0:Nat),(0:Nat)) (fun (out,r_out,c_out,i)=>([(0,.slice a1 names.length c1),(3,vS r_out out.length c_out),(4,vI (i:Int))],[(0,.own 0 r_out 42 c_out out)],[],names.length - i,(i≤names.length)∧(out++names.drop i=names))) [] Z ⟨AB,AF⟩ ?_
 rintro ⟨out,r_out,c_out,i⟩ am w Z ⟨aj,ak⟩ aa
 refine .s<|.s<|.g<|.r 3<|.bp ((i:Int)< (names.length:Int)) (fun ac=>?_) (fun ac=>.d<|.cf<|.x 0 rfl<|.s<|.g<|.r 2<|.d<|T.Rt func131 results131 ⟨Z.rO 0 out (by grind),Z.xt⟩)
 exact .d<|.ct<|.sk<|.s<|.b 1<|.g<|.r 1<|RG.N0 Tag 0 Z fun ao w Z=>.r 2<|gxb names i fun ab E al ae=>RG.Ix 0 E Z<|Z.el 0 E fun aq ar Z=>RG.Lh 0 0 Z<|RG.An (hs:=by exact (by grind)) (hf:=.inr Mw) 0 1 ([]:List Tag) ab Z fun ax ay w Z=>RG.Nb 1 Z fun az w Z=>RG.Ap (hs:=by exact (by grind)) 0 0 out ([]++ab) [0] (Z.sl 1) fun ag ah w Z=>.r 1<|.d<|.ib 1<|.g<|.r 1<|.it ((i:Int)+1)<|.r 1<|.d<|aa ((out++[([]++ab)]),ag,ah,i+1) _ _ AA (Z.to 0 [] 3) ⟨AB,(by grind)⟩ (by (simp only []; omega))
theorem Ae (names:List (List Tag)) (h1:RepS w F a1 n1 c1 names) (p0:names.length≤1000000) (p1:∀ n∈names,n.length≤1000000):Calls Tryz.prog 48 [.slice a1 n1 c1].toArray w (Al fun rv w'=>VO 42 w.heap.size w' (names:List (List Tag)) rv∧Ext w w'):=by
 cases h1.len
 refine goT func48 ?_
 have Z:=(St.i0 F w).p h1
 refine .s<|.g<|.r 1<|.d<|.s<|.g<|RG.N0 (List Tag) 0 Z fun af w Z=>.r 1<|.d<|.s<|.s<|.g<|.r 3<|.d<|.b 0<|T.Lp (([]:List (List Tag)),af,(0:Nat),(0:Nat)) (fun (out,r_out,c_out,k)=>([(3,vS r_out out.length c_out),(7,.slice a1 names.length c1),(8,vI (names.length:Int)),(9,vI (k:Int))],[(0,.own 0 r_out 42 c_out out)],[],names.length - k,(k≤names.length)∧(out++names.drop k=names))) [] Z ⟨AB,AF⟩ ?_
 rintro ⟨out,r_out,c_out,k⟩ am w Z ⟨aj,ak⟩ aa
 refine .s<|.g<|.bp ((k:Int)< (names.length:Int)) (fun ac=>?_) (fun ac=>.d<|.s<|.cf<|.x 0 rfl<|.s<|.g<|.r 2<|.d<|T.Rt func48 results48 ⟨Z.rO 0 out (by grind),Z.xt⟩)
 exact .d<|.s<|.ct<|.sk<|.s<|.b 1<|.s<|.g<|gxb names k fun ab E al ae=>RG.Ix 0 E Z<|Z.el 0 E fun ao aq Z=>RG.Lh 0 0 Z<|.r 1<|.d<|.g<|.r 1<|RG.N0 Tag 0 Z fun ar w Z=>.r 1<|RG.An (hs:=by exact (by grind)) (hf:=.inr Mw) 0 1 ([]:List Tag) ab Z fun ax ay w Z=>RG.Nb 1 Z fun az w Z=>RG.Ap (hs:=by exact (by grind)) 0 0 out ([]++ab) [0] (Z.sl 1) fun ag ah w Z=>.r 1<|.d<|.ib 1<|.g<|.it ((k:Int)+1)<|.r 1<|.d<|aa ((out++[([]++ab)]),ag,ah,k+1) _ _ AA (Z.to 0 [] 3) ⟨AB,(by grind)⟩ (by (simp only []; omega))
theorem Ft (b:List Row) (r:Row) (h1:RepS w F a1 n1 c1 b) (p0:b.length≤1000000):Calls Tryz.prog 159 [.slice a1 n1 c1,.agg #[.int .i64 r.t,.int .i64 r.v]].toArray w (Al fun rv w'=>VL (ge w.heap.size) w' (EA b r:List Row) rv∧Ext w w'):=by
 cases h1.len
 refine goT func159 ?_
 have Z:=(St.i0 F w).p h1
 refine .s<|.g<|RG.Np Z fun am w Z=>.r 1<|.d<|.s<|.g<|RG.N0 Row 0 Z fun ao w Z=>.r 1<|.d<|.s<|.g<|.r 1<|.d<|.s<|.s<|.g<|.r 1<|.d<|.b 0<|T.Lp (([]:List Row),ao,(0:Nat),false,(0:Nat)) (fun (out,r_out,c_out,put,i)=>([(0,.slice a1 b.length c1),(3,vP am),(5,vS r_out out.length c_out),(6,.bool put),(7,vI (i:Int))],[(0,.own 0 r_out 44 c_out out)],[],b.length - i,(i≤b.length)∧(out.length≤i+1)∧(put=false→out.length≤i)∧(Cj out r put (b.drop i)=EA b r))) [] Z ⟨(by simp [EA]),(by simp [EA]),(by simp [EA]),(by simp [EA])⟩ ?_
 rintro ⟨out,r_out,c_out,put,i⟩ aM w Z ⟨aE,aF,aG,aH⟩ E
 refine .s<|.s<|.g<|.r 3<|.bp ((i:Int)< (b.length:Int)) (fun af=>?_) (fun af=>?_)
 ·refine .d<|.ct<|.sk<|.s<|.b 1<|.s<|.s<|T.Gd 10 Z fun w Z=>?_
  cases aI:put
  ·exact .r [0,1,2,3,4]<|gxd b i fun ac aa aJ=>GA.Ix 5 0 aa Z<|.r [6]<|Z.el 0 aa fun Z=>GA.Lh 7 0 0 Z<|.r [8]<|GA.Lb 9 1 Z<|GA.Dn Z fun w Z=>.bp (ac.t≥r.t) (fun ag=>.r 1<|.d<|.ct<|.s<|.g<|.r 1<|RG.Ln 1 Z<|RG.Nb 1 Z fun aN w Z=>RG.Ap 0 0 out r [] Z fun aq ar w Z=>.r 1<|.d<|.g<|.r 1<|.d<|.s<|T.Gd 7 Z fun w Z=>.r [0,1]<|GA.Ix 2 1 aa Z<|.r [3]<|GA.Lh 4 0 0 Z<|.r [5]<|GA.Lb 6 1 Z<|GA.Dn Z fun w Z=>.ne ac.t r.t (fun ah=>.d<|.ct<|.g<|.r 3<|RG.Ix 1 aa Z<|RG.Lg 0 0 Z<|RG.Nb 1 Z fun aO w Z=>RG.Ap 0 0 (out++[r]) ac [] Z fun ax ay w Z=>.r 1<|.d<|.ib 1<|.g<|.r 1<|.it ((i:Int)+1)<|.r 1<|.d<|E (((out++[r])++[ac]),ax,ay,true,i+1) _ _ AA (Z.to 0 [] 1) ⟨(by grind [Cj]),(by grind [Cj]),(by grind [Cj]),(by grind [Cj])⟩ (by (simp only []; omega))) fun ah=>.d<|.cf<|.sk<|.ib 1<|.g<|.r 1<|.it ((i:Int)+1)<|.r 1<|.d<|E ((out++[r]),aq,ar,true,i+1) _ _ AA (Z.to 0 [] 1) ⟨(by grind [Cj]),(by grind [Cj]),(by grind [Cj]),(by grind [Cj])⟩ (by (simp only []; omega))) fun ag=>.r 1<|.d<|.cf<|.sk<|.s<|T.Gd 7 Z fun w Z=>.r [0,1]<|GA.Ix 2 1 aa Z<|.r [3]<|GA.Lh 4 0 0 Z<|.r [5]<|GA.Lb 6 1 Z<|GA.Dn Z fun w Z=>.ne ac.t r.t (fun ai=>.d<|.ct<|.g<|.r 3<|RG.Ix 1 aa Z<|RG.Lg 0 0 Z<|RG.Nb 1 Z fun aP w Z=>RG.Ap 0 0 out ac [] Z fun az aA w Z=>.r 1<|.d<|.ib 1<|.g<|.r 1<|.it ((i:Int)+1)<|.r 1<|.d<|E ((out++[ac]),az,aA,false,i+1) _ _ AA (Z.to 0 [] 1) ⟨(by grind [Cj]),(by grind [Cj]),(by grind [Cj]),(by grind [Cj])⟩ (by (simp only []; omega))) fun ai=>.d<|.cf<|.sk<|.ib 1<|.g<|.r 1<|.it ((i:Int)+1)<|.r 1<|.d<|E (out,r_out,c_out,false,i+1) _ _ AA (Z.to 0 [] 1) ⟨(by grind [Cj]),(by grind [Cj]),(by grind [Cj]),(by grind [Cj])⟩ AB
  exact .r [0,1,2]<|GA.Sk Z fun w Z=>.r 2<|.d<|.cf<|.sk<|.s<|T.Gd 7 Z fun w Z=>.r [0,1]<|gxd b i fun ae ab aK=>GA.Ix 2 0 ab Z<|.r [3]<|Z.el 0 ab fun Z=>GA.Lh 4 0 0 Z<|.r [5]<|GA.Lb 6 1 Z<|GA.Dn Z fun w Z=>.ne ae.t r.t (fun aj=>.d<|.ct<|.g<|.r 3<|RG.Ix 1 ab Z<|RG.Lg 0 0 Z<|RG.Nb 1 Z fun aQ w Z=>RG.Ap 0 0 out ae [] Z fun aB aC w Z=>.r 1<|.d<|.ib 1<|.g<|.r 1<|.it ((i:Int)+1)<|.r 1<|.d<|E ((out++[ae]),aB,aC,true,i+1) _ _ AA (Z.to 0 [] 1) ⟨(by grind [Cj]),(by grind [Cj]),(by grind [Cj]),(by grind [Cj])⟩ (by (simp only []; omega))) fun aj=>.d<|.cf<|.sk<|.ib 1<|.g<|.r 1<|.it ((i:Int)+1)<|.r 1<|.d<|E (out,r_out,c_out,true,i+1) _ _ AA (Z.to 0 [] 1) ⟨(by grind [Cj]),(by grind [Cj]),(by grind [Cj]),(by grind [Cj])⟩ (by (simp only []; omega))
 refine .d<|.cf<|.x 0 rfl<|.s<|.s<|.g ?_
 cases aL:put
 ·exact .r 2<|.d<|.ct<|.g<|.r 1<|RG.Ln 1 Z<|RG.Nb 1 Z fun aR w Z=>RG.Ap 0 0 out r [] Z fun aS aT w Z=>.r 1<|.d<|.s<|.g<|.r 2<|.d<|T.Rt func159 results159 ⟨Z.rM 0 (out++[r]) (by grind [Cj]),Z.xt⟩
 exact .r 2<|.d<|.cf<|.sk<|.s<|.g<|.r 2<|.d<|T.Rt func159 results159 ⟨Z.rM 0 out (by grind [Cj]),Z.xt⟩
theorem Eh (t:Tag){F:Nat→Prop}   : Calls Tryz.prog 124 [.agg #[.string (bs t.key),.string (bs t.val)]].toArray w (Al fun rv w'=>rv=.bool (BX t)∧Ext w w'):=by
 refine goT func124 ?_
 have Z:=St.i0 F w
 refine .s<|.g<|RG.Np Z fun ao w Z=>.r 1<|.d<|.s<|.g<|.r 1<|RG.Lb 0 Z<|RG.eqv (v:=vI (t.key.length:Int)) AA (Hv t.key)<|.eq (t.key.length:Int) 1 (fun af=>?_) (fun af=>.r 21<|.d<|T.rt func124 results124 (.bool false) ⟨(AG (by grind [EL,Db,G5,J3])),Z.xt⟩)
 refine .r 2<|RG.Lb 0 Z<|RG.eqv (v:=vI (t.val.length:Int)) AA (Hv t.val)<|.eq (t.val.length:Int) 1 (fun ag=>?_) (fun ag=>.r 16<|.d<|T.rt func124 results124 (.bool false) ⟨(AG (by grind [EL,Db,G5,J3])),Z.xt⟩)
 refine .r 3<|RG.Lb 0 Z ?_
 obtain ⟨E,ab⟩:∃ y,t.key[0]? = some y:=⟨_,AU AB⟩
 have ah:=UInt8.toNat_lt E
 refine RG.ME (t:=9) (s:=t.key) (k:=.i64) (i:=0) 0 AA AA AB ab<|.it ((E.toNat:Int))<|RG.C0 (DG (E.toNat:Int) 97 100 (F:=all)) Z fun w Z=>?_
 cases ac:(inR (E.toNat:Int) 97 100)
 ·exact .r 9<|.d<|T.rt func124 results124 (.bool false) ⟨(AG (by grind [EL,Db,G5,J3])),Z.xt⟩
 refine .r 3<|RG.Lb 0 Z ?_
 obtain ⟨aa,ae⟩:∃ y,t.val[0]? = some y:=⟨_,AU AB⟩
 have al:=UInt8.toNat_lt aa
 exact RG.ME (t:=9) (s:=t.val) (k:=.i64) (i:=0) 0 AA AA AB ae<|.it ((aa.toNat:Int))<|RG.C0 (DG (aa.toNat:Int) 112 122 (F:=all)) Z fun w Z=>.r 2<|.d<|T.rt func124 results124 (.bool (inR (aa.toNat:Int) 112 122)) ⟨(AG (by grind [EL,Db,G5,J3])),Z.xt⟩
theorem H2 (t:Tag){F:Nat→Prop}   : Calls Tryz.prog 91 [.agg #[.string (bs t.key),.string (bs t.val)]].toArray w (Al fun rv w'=>rv=.bool (BX t)∧Ext w w'):=by
 refine goT func91 ?_
 have Z:=St.i0 F w
 refine .s<|.g<|RG.Np Z fun af w Z=>.r 1<|.d<|.s<|.g<|.r 1<|RG.Lb 0 Z<|RG.eqv (v:=vI (t.key.length:Int)) AA (Hv t.key)<|.eq (t.key.length:Int) 1 (fun E=>?_) (fun E=>.r 27<|.d<|T.rt func91 results91 (.bool false) ⟨(AG (by grind [EL,Db,Dk,FV,FW])),Z.xt⟩)
 refine .r 2<|RG.Lb 0 Z<|RG.eqv (v:=.bool (!(Bk t.key [97]))) AA (Sz t.key [97]) ?_
 cases ab:(Bk t.key [97])
 ·refine .r 3<|RG.Lb 0 Z<|RG.eqv (v:=.bool ((Es t.key [100]))) AA (Vk t.key [100]) ?_
  cases ac:(Es t.key [100])
  ·exact .r 18<|.d<|T.rt func91 results91 (.bool false) ⟨(AG (by grind [EL,Db,Dk,FV,FW])),Z.xt⟩
  refine .r 3<|RG.Lb 0 Z<|RG.eqv (v:=vI (t.val.length:Int)) AA (Hv t.val)<|.eq (t.val.length:Int) 1 (fun aa=>?_) (fun aa=>.r 12<|.d<|T.rt func91 results91 (.bool false) ⟨(AG (by grind [EL,Db,Dk,FV,FW])),Z.xt⟩)
  refine .r 3<|RG.Lb 0 Z<|RG.eqv (v:=.bool (!(Bk t.val [112]))) AA (Sz t.val [112]) ?_
  cases ae:(Bk t.val [112])
  ·exact .r 3<|RG.Lb 0 Z<|RG.eqv (v:=.bool ((Es t.val [122]))) AA (Vk t.val [122])<|.r 2<|.d<|T.rt func91 results91 (.bool (Es t.val [122])) ⟨(AG (by grind [EL,Db,Dk,FV,FW])),Z.xt⟩
  exact .r 7<|.d<|T.rt func91 results91 (.bool false) ⟨(AG (by grind [EL,Db,Dk,FV,FW])),Z.xt⟩
 exact .r 23<|.d<|T.rt func91 results91 (.bool false) ⟨(AG (by grind [EL,Db,Dk,FV,FW])),Z.xt⟩
theorem Dw (a:List Int) (b:List Int) (h1:RepS w F a1 n1 c1 a) (h2:RepS w F a2 n2 c2 b)  : Calls Tryz.prog 90 [.slice a1 n1 c1,.slice a2 n2 c2].toArray w (Al fun rv w'=>rv=.bool ((a==b))∧Ext w w'):=by
 cases h1.len
 cases h2.len
 refine goT func90 ?_
 have Z:=((St.i0 F w).p h1).p h2
 have ak:=h1.max
 refine .s<|.g<|.r 1<|.d<|.s<|.s<|.g<|.r 4<|.ne (a.length:Int) (b.length:Int) (fun ac=>.d<|.ct<|.s<|.g<|.r 1<|.d<|T.rt func90 results90 (.bool false) ⟨(AG (by grind [Aa])),Z.xt⟩) fun ac=>.d<|.cf<|.sk<|.s<|.s<|.g<|.r 3<|.d<|.b 0<|T.Lp (0:Nat) (fun k=>([(0,.slice a1 a.length c1),(1,.slice a2 b.length c2),(12,vI (a.length:Int)),(13,vI (k:Int))],[],[],a.length - k,(k≤a.length)∧(a.drop k=b.drop k↔a=b))) [] Z ⟨AD,AD⟩ ?_
 rintro k ax w Z ⟨am,ao⟩ ab
 refine .s<|.g<|.bp ((k:Int)< (a.length:Int)) (fun ae=>?_) (fun ae=>.d<|.s<|.cf<|.x 0 rfl<|.s<|.g<|.r 1<|.d<|T.rt func90 results90 (.bool true) ⟨(AG (by grind [Aa])),Z.xt⟩)
 exact .d<|.s<|.ct<|.sk<|.s<|.b 1<|.s<|.g<|.r 2<|.d<|.s<|T.Gd 8 Z fun w Z=>.r [0,1]<|gxd a k fun ai E aq=>GA.Ix 2 1 E Z<|Z.el 1 E fun Z=>GA.Lh 3 0 0 Z<|.r [4,5]<|gxd b k fun aj aa ar=>GA.Ix 6 1 aa Z<|Z.el 1 aa fun Z=>GA.Lh 7 0 0 Z<|GA.Dn Z fun w Z=>.ne ai aj (fun af=>.d<|.ct<|.s<|.g<|.r 1<|.d<|T.rt func90 results90 (.bool false) ⟨(AG (by grind [Aa])),Z.xt⟩) fun af=>.d<|.cf<|.sk<|.ib 1<|.g<|.it ((k:Int)+1)<|.r 1<|.d<|ab (k+1) _ _ AA (Z.to 0 [] 2) ⟨AB,(by grind)⟩ (by (simp only []; omega))
theorem FK (a:List Int) (b:List Int) (h1:RepS w F a1 n1 c1 a) (h2:RepS w F a2 n2 c2 b)  : Calls Tryz.prog 58 [.slice a1 n1 c1,.slice a2 n2 c2].toArray w (Al fun rv w'=>rv=.bool ((a==b))∧Ext w w'):=by
 cases h1.len
 cases h2.len
 refine goT func58 ?_
 have Z:=((St.i0 F w).p h1).p h2
 have ak:=h1.max
 refine .s<|.g<|.r 1<|.d<|.s<|.s<|.g<|.r 4<|.ne (a.length:Int) (b.length:Int) (fun ac=>.d<|.ct<|.s<|.g<|.r 1<|.d<|T.rt func58 results58 (.bool false) ⟨(AG (by grind [Aa])),Z.xt⟩) fun ac=>.d<|.cf<|.sk<|.s<|.s<|.g<|.r 1<|.d<|.b 0<|T.Lp (0:Nat) (fun i=>([(0,.slice a1 a.length c1),(1,.slice a2 b.length c2),(5,vI (i:Int))],[],[],a.length - i,(i≤a.length)∧(a.drop i=b.drop i↔a=b))) [] Z ⟨AD,AD⟩ ?_
 rintro i ax w Z ⟨am,ao⟩ ab
 refine .s<|.s<|.g<|.r 3<|.bp ((i:Int)< (a.length:Int)) (fun ae=>?_) (fun ae=>.d<|.cf<|.x 0 rfl<|.s<|.g<|.r 1<|.d<|T.rt func58 results58 (.bool true) ⟨(AG (by grind [Aa])),Z.xt⟩)
 exact .d<|.ct<|.sk<|.s<|.b 1<|.s<|T.Gd 8 Z fun w Z=>.r [0,1]<|gxd a i fun ai E aq=>GA.Ix 2 1 E Z<|Z.el 1 E fun Z=>GA.Lh 3 0 0 Z<|.r [4,5]<|gxd b i fun aj aa ar=>GA.Ix 6 1 aa Z<|Z.el 1 aa fun Z=>GA.Lh 7 0 0 Z<|GA.Dn Z fun w Z=>.ne ai aj (fun af=>.d<|.ct<|.s<|.g<|.r 1<|.d<|T.rt func58 results58 (.bool false) ⟨(AG (by grind [Aa])),Z.xt⟩) fun af=>.d<|.cf<|.sk<|.ib 1<|.g<|.r 1<|.it ((i:Int)+1)<|.r 1<|.d<|ab (i+1) _ _ AA (Z.to 0 [] 2) ⟨AB,(by grind)⟩ (by (simp only []; omega))
theorem Ca (a:List Tag) (b:List Tag) (h1:RepS w F a1 n1 c1 a) (h2:RepS w F a2 n2 c2 b)  : Calls Tryz.prog 94 [.slice a1 n1 c1,.slice a2 n2 c2].toArray w (Al fun rv w'=>rv=.bool ((a==b))∧Ext w w'):=by
 cases h1.len
 cases h2.len
 refine goT func94 ?_
 have Z:=((St.i0 F w).p h1).p h2
 have aj:=h1.max
 refine .s<|.g<|.r 1<|.d<|.s<|.s<|.g<|.r 4<|.ne (a.length:Int) (b.length:Int) (fun ac=>.d<|.ct<|.s<|.g<|.r 1<|.d<|T.rt func94 results94 (.bool false) ⟨(AG (by grind [Aa])),Z.xt⟩) fun ac=>.d<|.cf<|.sk<|.s<|.s<|.g<|.r 3<|.d<|.b 0<|T.Lp (0:Nat) (fun k=>([(0,.slice a1 a.length c1),(1,.slice a2 b.length c2),(12,vI (a.length:Int)),(13,vI (k:Int))],[],[],a.length - k,(k≤a.length)∧(a.drop k=b.drop k↔a=b))) [] Z ⟨AD,AD⟩ ?_
 rintro k ax w Z ⟨al,am⟩ ab
 refine .s<|.g<|.bp ((k:Int)< (a.length:Int)) (fun ae=>?_) (fun ae=>.d<|.s<|.cf<|.x 0 rfl<|.s<|.g<|.r 1<|.d<|T.rt func94 results94 (.bool true) ⟨(AG (by grind [Aa])),Z.xt⟩)
 refine .d<|.s<|.ct<|.sk<|.s<|.b 1<|.s<|.g<|.r 2<|.d<|.s<|T.Gd 8 Z fun w Z=>.r [0,1]<|gxd a k fun af E ao=>GA.Ix 2 1 E Z<|Z.el 1 E fun Z=>GA.Lg 3 0 0 Z<|.r [4,5]<|gxd b k fun ag aa aq=>GA.Ix 6 1 aa Z<|Z.el 1 aa fun Z=>GA.Lg 7 0 0 Z<|GA.Dn Z fun w Z=>RG.O8 (t:=61) (x:=af) (y:=ag) AA AA ?_
 cases ar:(af==ag)
 ·exact .d<|.ct<|.s<|.g<|.r 1<|.d<|T.rt func94 results94 (.bool false) ⟨(AG (by grind [Aa])),Z.xt⟩
 exact .d<|.cf<|.sk<|.ib 1<|.g<|.it ((k:Int)+1)<|.r 1<|.d<|ab (k+1) _ _ AA (Z.to 0 [] 2) ⟨AB,(by grind)⟩ (by (simp only []; omega))
theorem HN (a:List Tag) (b:List Tag) (h1:RepS w F a1 n1 c1 a) (h2:RepS w F a2 n2 c2 b)  : Calls Tryz.prog 62 [.slice a1 n1 c1,.slice a2 n2 c2].toArray w (Al fun rv w'=>rv=.bool ((a==b))∧Ext w w'):=by
 cases h1.len
 cases h2.len
 refine goT func62 ?_
 have Z:=((St.i0 F w).p h1).p h2
 have aj:=h1.max
 refine .s<|.g<|.r 1<|.d<|.s<|.s<|.g<|.r 4<|.ne (a.length:Int) (b.length:Int) (fun ac=>.d<|.ct<|.s<|.g<|.r 1<|.d<|T.rt func62 results62 (.bool false) ⟨(AG (by grind [Aa])),Z.xt⟩) fun ac=>.d<|.cf<|.sk<|.s<|.s<|.g<|.r 1<|.d<|.b 0<|T.Lp (0:Nat) (fun i=>([(0,.slice a1 a.length c1),(1,.slice a2 b.length c2),(5,vI (i:Int))],[],[],a.length - i,(i≤a.length)∧(a.drop i=b.drop i↔a=b))) [] Z ⟨AD,AD⟩ ?_
 rintro i ax w Z ⟨al,am⟩ ab
 refine .s<|.s<|.g<|.r 3<|.bp ((i:Int)< (a.length:Int)) (fun ae=>?_) (fun ae=>.d<|.cf<|.x 0 rfl<|.s<|.g<|.r 1<|.d<|T.rt func62 results62 (.bool true) ⟨(AG (by grind [Aa])),Z.xt⟩)
 refine .d<|.ct<|.sk<|.s<|.b 1<|.s<|T.Gd 8 Z fun w Z=>.r [0,1]<|gxd a i fun af E ao=>GA.Ix 2 1 E Z<|Z.el 1 E fun Z=>GA.Lg 3 0 0 Z<|.r [4,5]<|gxd b i fun ag aa aq=>GA.Ix 6 1 aa Z<|Z.el 1 aa fun Z=>GA.Lg 7 0 0 Z<|GA.Dn Z fun w Z=>RG.O8 (t:=61) (x:=af) (y:=ag) AA AA ?_
 cases ar:(af==ag)
 ·exact .d<|.ct<|.s<|.g<|.r 1<|.d<|T.rt func62 results62 (.bool false) ⟨(AG (by grind [Aa])),Z.xt⟩
 exact .d<|.cf<|.sk<|.ib 1<|.g<|.r 1<|.it ((i:Int)+1)<|.r 1<|.d<|ab (i+1) _ _ AA (Z.to 0 [] 2) ⟨AB,(by grind)⟩ (by (simp only []; omega))
theorem HO (a:List Row) (b:List Row) (h1:RepS w F a1 n1 c1 a) (h2:RepS w F a2 n2 c2 b)  : Calls Tryz.prog 59 [.slice a1 n1 c1,.slice a2 n2 c2].toArray w (Al fun rv w'=>rv=.bool ((a==b))∧Ext w w'):=by
 cases h1.len
 cases h2.len
 refine goT func59 ?_
 have Z:=((St.i0 F w).p h1).p h2
 have aj:=h1.max
 refine .s<|.g<|.r 1<|.d<|.s<|.s<|.g<|.r 4<|.ne (a.length:Int) (b.length:Int) (fun ac=>.d<|.ct<|.s<|.g<|.r 1<|.d<|T.rt func59 results59 (.bool false) ⟨(AG (by grind [Aa])),Z.xt⟩) fun ac=>.d<|.cf<|.sk<|.s<|.s<|.g<|.r 1<|.d<|.b 0<|T.Lp (0:Nat) (fun i=>([(0,.slice a1 a.length c1),(1,.slice a2 b.length c2),(5,vI (i:Int))],[],[],a.length - i,(i≤a.length)∧(a.drop i=b.drop i↔a=b))) [] Z ⟨AD,AD⟩ ?_
 rintro i ax w Z ⟨al,am⟩ ab
 refine .s<|.s<|.g<|.r 3<|.bp ((i:Int)< (a.length:Int)) (fun ae=>?_) (fun ae=>.d<|.cf<|.x 0 rfl<|.s<|.g<|.r 1<|.d<|T.rt func59 results59 (.bool true) ⟨(AG (by grind [Aa])),Z.xt⟩)
 refine .d<|.ct<|.sk<|.s<|.b 1<|.s<|T.Gd 8 Z fun w Z=>.r [0,1]<|gxd a i fun af E ao=>GA.Ix 2 1 E Z<|Z.el 1 E fun Z=>GA.Lg 3 0 0 Z<|.r [4,5]<|gxd b i fun ag aa aq=>GA.Ix 6 1 aa Z<|Z.el 1 aa fun Z=>GA.Lg 7 0 0 Z<|GA.Dn Z fun w Z=>RG.Qk (t:=44) (x:=af) (y:=ag) AA AA ?_
 cases ar:(af==ag)
 ·exact .d<|.ct<|.s<|.g<|.r 1<|.d<|T.rt func59 results59 (.bool false) ⟨(AG (by grind [Aa])),Z.xt⟩
 exact .d<|.cf<|.sk<|.ib 1<|.g<|.r 1<|.it ((i:Int)+1)<|.r 1<|.d<|ab (i+1) _ _ AA (Z.to 0 [] 2) ⟨AB,(by grind)⟩ (by (simp only []; omega))
theorem MM (n:List Tag) (t:Tag) (h1:RepS w F a1 n1 c1 n)  : Calls Tryz.prog 186 [.slice a1 n1 c1,.agg #[.string (bs t.key),.string (bs t.val)]].toArray w (Al fun rv w'=>rv=.bool (has n t)∧Ext w w'):=by
 cases h1.len
 refine goT func186 ?_
 have Z:=(St.i0 F w).p h1
 have ag:=h1.max
 refine .s<|.g<|RG.Np Z fun af w Z=>.r 1<|.d<|.s<|.s<|.g<|.r 1<|.d<|.b 0<|T.Lp (0:Nat) (fun i=>([(0,.slice a1 n.length c1),(3,vP af),(5,vI (i:Int))],[],[],n.length - i,(i≤n.length)∧(has (n.drop i) t=has n t))) [] Z ⟨AD,AD⟩ ?_
 rintro i al w Z ⟨ah,ai⟩ aa
 refine .s<|.s<|.g<|.r 3<|.bp ((i:Int)< (n.length:Int)) (fun ab=>?_) (fun ab=>.d<|.cf<|.x 0 rfl<|.s<|.g<|.r 1<|.d<|T.rt func186 results186 (.bool false) ⟨(AG (by grind [has])),Z.xt⟩)
 refine .d<|.ct<|.sk<|.s<|.b 1<|.s<|T.Gd 5 Z fun w Z=>.r [0,1]<|gxd n i fun ac E aj=>GA.Ix 2 0 E Z<|Z.el 0 E fun Z=>GA.Lg 3 0 0 Z<|GA.Ln 4 0 Z<|GA.Dn Z fun w Z=>RG.M3 (t:=61) (x:=ac) (y:=t) AA AA ?_
 cases ak:(ac==t)
 ·exact .d<|.cf<|.sk<|.ib 1<|.g<|.r 1<|.it ((i:Int)+1)<|.r 1<|.d<|aa (i+1) _ _ AA (Z.to 0 [] 1) ⟨AB,(by grind [has])⟩ (by (simp only []; omega))
 exact .d<|.ct<|.s<|.g<|.r 1<|.d<|T.rt func186 results186 (.bool true) ⟨(AG (by grind [has])),Z.xt⟩
theorem K8 (names:List (List Tag)) (t:Tag) (h1:RepS w F a1 n1 c1 names) (p0:names.length≤1000000):Calls Tryz.prog 163 [.slice a1 n1 c1,.agg #[.string (bs t.key),.string (bs t.val)]].toArray w (Al fun rv w'=>VL (ge w.heap.size) w' (ids names t:List Int) rv∧Ext w w'):=by
 cases h1.len
 refine goT func163 ?_
 have Z:=(St.i0 F w).p h1
 refine .s<|.g<|RG.Np Z fun af w Z=>.r 1<|.d<|.s<|.g<|RG.N0 Int 0 Z fun ag w Z=>.r 1<|.d<|.s<|.s<|.g<|.r 1<|.d<|.b 0<|T.Lp (([]:List Int),ag,(0:Nat),(0:Nat)) (fun (out,r_out,c_out,i)=>([(0,.slice a1 names.length c1),(3,vP af),(5,vS r_out out.length c_out),(6,vI (i:Int))],[(0,.own 0 r_out 3 c_out out)],[],names.length - i,(i≤names.length)∧(out.length≤i)∧(out++HD t i (names.drop i)=ids names t))) [] Z ⟨(by simp [ids]),(by simp [ids]),(by simp [ids])⟩ ?_
 rintro ⟨out,r_out,c_out,i⟩ ar w Z ⟨ak,al,am⟩ E
 refine .s<|.s<|.g<|.r 3<|.bp ((i:Int)< (names.length:Int)) (fun ab=>?_) (fun ab=>.d<|.cf<|.x 0 rfl<|.s<|.g<|.r 2<|.d<|T.Rt func163 results163 ⟨Z.rM 0 out (by grind [HD]),Z.xt⟩)
 refine .d<|.ct<|.sk<|.s<|.b 1<|.s<|T.Gd 5 Z fun w Z=>.r [0,1]<|gxd names i fun ac aa ao=>GA.Ix 2 0 aa Z<|Z.el 0 aa fun ax ay Z=>GA.Lh 3 0 0 Z<|GA.Ln 4 1 Z<|GA.Dn Z fun w Z=>RG.C0 (MM ac t (Z.a 1)) Z fun w Z=>?_
 cases aq:(has ac t)
 ·exact .d<|.cf<|.sk<|.ib 1<|.g<|.r 1<|.it ((i:Int)+1)<|.r 1<|.d<|E (out,r_out,c_out,i+1) _ _ AA (Z.to 0 [] 2) ⟨(by grind [HD]),(by grind [HD]),(by grind [HD])⟩ (by (simp only []; omega))
 exact .d<|.ct<|.g<|.r 2<|.it ((i:Int)+1)<|RG.Nb 1 Z fun az w Z=>RG.Ap 0 0 out ((i:Int)+1) [] Z fun ah ai w Z=>.r 1<|.d<|.ib 1<|.g<|.r 1<|.it ((i:Int)+1)<|.r 1<|.d<|E ((out++[(i:Int)+1]),ah,ai,i+1) _ _ AA (Z.to 0 [] 2) ⟨(by grind [HD]),(by grind [HD]),(by grind [HD])⟩ (by (simp only []; omega))
theorem GX (a:List Row) (b:List Row) (h1:RepS w F a1 n1 c1 a) (h2:RepS w F a2 n2 c2 b) (p0:a.length+b.length≤1000000):Calls Tryz.prog 158 [.slice a1 n1 c1,.slice a2 n2 c2].toArray w (Al fun rv w'=>VL (ge w.heap.size) w' (BZ a b:List Row) rv∧Ext w w'):=by
 cases h1.len
 cases h2.len
 refine goT func158 ?_
 have Z:=((St.i0 F w).p h1).p h2
 have aj:=h1.max
 have ak:=h2.max
 refine .s<|.g<|.r 1<|.d<|.s<|.g<|RG.N0 Row 0 Z fun ar w Z=>.r 1<|RG.An (hf:=.inr Bj) 0 1 ([]:List Row) a Z fun af ag w Z=>.r 1<|.d<|.s<|.s<|.g<|.r 1<|.d<|.b 0 ?_
 have Z:=Z.sl 0
 refine T.Lp ((([]++a):List Row),sA af,ag,(0:Nat)) (fun (out,a_out,c_out,i)=>([(1,.slice a2 b.length c2),(5,.slice a_out out.length c_out),(6,vI (i:Int))],[],[⟨0,none,.rep a_out c_out out⟩],b.length - i,(i≤b.length)∧(out.length≤a.length+i)∧((b.drop i).foldl EA out=BZ a b))) [0] Z ⟨(by simp [BZ]),(by simp [BZ]),(by simp [BZ])⟩ ?_
 rintro ⟨out,a_out,c_out,i⟩ ax w Z ⟨al,am,ao⟩ aa
 refine .s<|.s<|.g<|.r 3<|.bp ((i:Int)< (b.length:Int)) (fun ab=>?_) (fun ab=>.d<|.cf<|.x 0 rfl<|.s<|.g<|.r 2<|.d<|T.Rt func158 results158 ⟨Z.rL 0 out (by grind [Aa]),Z.xt⟩)
 exact .d<|.ct<|.sk<|.s<|.b 1<|.g<|.r 3<|gxd b i fun ac E aq=>RG.Ix 2 E Z<|Z.el 2 E fun Z=>RG.Lg 0 0 Z<|RG.CL (Ft out ac (Z.a 1) AB) Z fun ah ai w Z=>.r 1<|.d<|.ib 1<|.g<|.r 1<|.it ((i:Int)+1)<|.r 1<|.d<|aa (EA out ac,ah,ai,i+1) _ _ AA (Z.to 0 [0] 3) ⟨(by grind [DE]),(by grind [DE]),(by grind [DE])⟩ (by (simp only []; omega))
theorem Fu (p:Prt) (id:Int) (h1:RepS w F a1 n1 c1 p.ids) (h2:RepS w F a2 n2 c2 p.blocks) (p0:p.ids.length≤p.blocks.length):Calls Tryz.prog 116 [.agg #[.slice a1 n1 c1,.slice a2 n2 c2],.int .i64 id].toArray w (Al fun rv w'=>VL (fo F w.heap.size) w' (partOf p id:List Row) rv∧Ext w w'):=by
 cases h1.len
 cases h2.len
 refine goT func116 ?_
 have Z:=((St.i0 F w).p h1).p h2
 have ak:=h1.max
 refine .s<|.g<|RG.Np Z fun ah w Z=>.r 1<|.d<|.s<|.s<|.g<|.r 1<|.d<|.b 0<|T.Lp (0:Nat) (fun i=>([(1,vI id),(2,vP ah),(5,vI (i:Int))],[],[],p.ids.length - i,(i≤p.ids.length)∧(BY id (p.ids.drop i) (p.blocks.drop i)=partOf p id))) [] Z ⟨(by simp [partOf]),(by simp [partOf])⟩ ?_
 rintro i ax w Z ⟨am,ao⟩ ab
 refine .s<|.s<|.g<|.r 2<|RG.Lb 0 Z<|.r 1<|.bp ((i:Int)< (p.ids.length:Int)) (fun ac=>?_) (fun ac=>.d<|.cf<|.x 0 rfl<|.s<|.g<|RG.N0 Row 1 Z fun ay w Z=>.r 1<|.d<|T.Rt func116 results116 ⟨Z.rM (g:=1) 0 ([]:List Row) (by grind [BY,Aa]),Z.xt⟩)
 refine .d<|.ct<|.sk<|.s<|.b 1<|.s<|.g<|.r 1<|RG.Lb 0 Z<|.r 1<|gxd p.ids i fun ai E aq=>RG.Ix 1 E Z<|Z.el 1 E fun Z=>RG.Lh 0 0 Z<|.r 1<|.eq ai id (fun ae=>?_) (fun ae=>.d<|.cf<|.sk<|.ib 1<|.g<|.r 1<|.it ((i:Int)+1)<|.r 1<|.d<|ab (i+1) _ _ AA (Z.to 0 [] 1) ⟨(by have:=List.drop_eq_getElem_cons (l:=p.blocks) (i:=i) AB; grind [BY]),(by have:=List.drop_eq_getElem_cons (l:=p.blocks) (i:=i) AB; grind [BY])⟩ (by (simp only []; omega)))
 exact .d<|.ct<|.s<|.g<|.r 1<|RG.Lb 0 Z<|.r 1<|gxd p.blocks i fun aj aa ar=>RG.Ix 1 aa Z<|Z.el 1 aa fun az aA Z=>RG.Lh 0 0 Z<|.r 1<|.d<|T.Rt func116 results116 ⟨Z.rL (g:=1) 1 aj (by grind [BY,Aa]),Z.xt⟩
theorem GY (blocks:List (List Row)) (h1:RepS w F a1 n1 c1 blocks) (p0:blocks.length≤1000000) (p1:∀ b∈blocks,b.length≤1000000):Calls Tryz.prog 160 [.slice a1 n1 c1].toArray w (Al fun rv w'=>VS (ge w.heap.size) w' (Dv blocks:Prt) rv∧Ext w w'):=by
 cases h1.len
 refine goT func160 ?_
 have Z:=(St.i0 F w).p h1
 refine .s<|.g<|RG.Np Z fun ag w Z=>.d<|.s<|.g<|RG.N0 Int 0 Z fun ak w Z=>RG.N0 (List Row) 0 Z fun al w Z=>.r 1<|RG.Np Z fun af w Z=>RG.Ss 0 Z fun w Z=>.d<|.s<|.s<|.g<|.r 1<|.d<|.b 0<|T.Lp ((0:Nat),([]:List Int),ak,(0:Nat),([]:List (List Row)),al,(0:Nat)) (fun (i,E,r_p_0,c_p_0,aa,r_p_1,c_p_1)=>([(0,.slice a1 blocks.length c1),(2,vP ag),(3,vP af),(4,vI (i:Int))],[(0,.box af 66 [vS r_p_0 E.length c_p_0,vS r_p_1 aa.length c_p_1]),(1,.own 0 r_p_1 55 c_p_1 aa),(2,.own 0 r_p_0 3 c_p_0 E)],[],blocks.length - i,(i≤blocks.length)∧(E.length≤i)∧(aa.length≤i)∧(E++(BI i (blocks.drop i)).1=(BI 0 blocks).1)∧(aa++(BI i (blocks.drop i)).2=(BI 0 blocks).2))) [] Z ⟨AD,AD,AD,AD,AD⟩ ?_
 rintro ⟨i,E,r_p_0,c_p_0,aa,r_p_1,c_p_1⟩ aE w Z ⟨ay,az,aA,aB,aC⟩ ab
 refine .s<|.s<|.g<|.r 3<|.bp ((i:Int)< (blocks.length:Int)) (fun ah=>?_) (fun ah=>?_)
 ·exact .d<|.ct<|.sk<|.s<|.b 1<|.s<|.g<|.r 2<|gxb blocks i fun ae ac aD aj=>RG.Ix 0 ac Z<|Z.el 0 ac fun aF aG Z=>RG.Lh 0 0 Z<|.r 1<|.bp ((ae.length:Int) > 0) (fun ai=>.d<|.ct<|.s<|.g<|.r 1<|RG.Lb 0 Z<|.r 1<|.it ((i:Int)+1)<|RG.Nb 1 Z fun aH w Z=>RG.Ap (hs:=by exact (by grind)) 2 0 E ((i:Int)+1) [] Z fun am ao w Z=>.r 1<|RG.Ss 0 Z fun w Z=>.d<|T.GS 9 [af,ag] Z fun _ w Z=>.r [0]<|GA.Lb 1 0 Z<|.r [3,4]<|GA.Ix 5 2 ac Z<|GA.Lh 6 0 0 Z<|.go 2<|GE.N0 Row 0 Z fun aI w Z=>.go 7<|GE.An (hs:=by exact (by grind)) (hf:=.inr Bj) 0 1 ([]:List Row) ae [1,4] Z fun aJ aK w Z=>.go 8<|GE.Nb 1 Z fun aL w Z=>GA.Do Z fun w Z=>RG.Ap (hs:=by exact (by grind)) 1 0 aa ([]++ae) [0] (Z.sl 1) fun aq ar w Z=>.r 1<|RG.Ss 0 Z fun w Z=>.d<|.ib 1<|.g<|.r 1<|.it ((i:Int)+1)<|.r 1<|.d<|ab (i+1,(E++[(i:Int)+1]),am,ao,(aa++[([]++ae)]),aq,ar) _ _ AA (Z.to 0 [] 3) ⟨(by grind [BI]),(by grind [BI]),(by grind [BI]),(by grind [BI]),(by grind [BI])⟩ (by (simp only []; omega))) fun ai=>.d<|.cf<|.sk<|.ib 1<|.g<|.r 1<|.it ((i:Int)+1)<|.r 1<|.d<|ab (i+1,E,r_p_0,c_p_0,aa,r_p_1,c_p_1) _ _ AA (Z.to 0 [] 2) ⟨(by grind [BI]),(by grind [BI]),(by grind [BI]),(by grind [BI]),(by grind [BI])⟩ (by (simp only []; omega))
 refine .d<|.cf<|.x 0 rfl<|.s<|.g<|RG.Ln 0 Z<|RG.Ss 3 Z fun w Z=>.d ?_
 have Z:=(Z.sl 2).sl 1
 exact T.Rb 1 func160 results160 Z ⟨Z.rS (⟨E,aa⟩:Prt) [1,0] (by grind [BI,Dv]),Z.xt⟩
end Go.Proofs.YtckdhcbbgmiccaaGreat
namespace Go.Proofs.YtckdhcbbgmiccaaGreat
set_option maxRecDepth 100000
set_option maxHeartbeats 4000000
variable {w:World} {F:Nat→Prop} {a1 a2:Option Addr} {n1 c1 n2 c2:Nat}
theorem FL (n:List Tag) (h1:RepS w F a1 n1 c1 n)  : Calls Tryz.prog 72 [.slice a1 n1 c1].toArray w (Al fun rv w'=>rv=.bool (Aq n)∧Ext w w'):=by
 cases h1.len
 refine goT func72 ?_
 have Z:=(St.i0 F w).p h1
 have aj:=h1.max
 refine .s<|.g<|.r 1<|.d<|.s<|.s<|.g<|.r 1<|.d<|.b 0<|T.Lp (0:Nat) (fun i=>([(0,.slice a1 n.length c1),(3,vI (i:Int))],[],[],n.length - i,(i≤n.length)∧(Dj (prev n i) (n.drop i)=Dj none n))) [] Z ⟨(by simp [prev]),(by simp [prev])⟩ ?_
 rintro i ax w Z ⟨ak,al⟩ E
 refine .s<|.s<|.g<|.r 3<|.bp ((i:Int)< (n.length:Int)) (fun af=>?_) (fun af=>.d<|.cf<|.x 0 rfl<|.s<|.g<|.r 2<|RG.C0 (DG (n.length:Int) 1 3 (F:=all)) Z fun w Z=>.r 1<|.d<|T.rt func72 results72 (.bool (inR (n.length:Int) 1 3)) ⟨(AG (by grind [Dj,Aq,prev,Aa])),Z.xt⟩)
 refine .d<|.ct<|.sk<|.s<|.b 1<|.s<|T.Gd 21 Z fun w Z=>.r [0,1]<|gxb n i fun ac aa am ah=>GA.Ix 2 0 aa Z<|Z.el 0 aa fun Z=>GA.Lg 3 0 0 Z<|GA.C0 4 Z (fun w Z=>Eh ac (F:=all)) ?_
 cases ao:(BX ac)
 ·exact .r [5,6]<|GA.Sk Z fun w Z=>.r 3<|.d<|.ct<|.s<|.g<|.r 1<|.d<|T.rt func72 results72 (.bool false) ⟨(AG (by grind [Dj,Aq,prev,Aa])),Z.xt⟩
 refine .r [5,6,7]<|GA.F6 (i:=8) ((i:Int) > 0) AA (fun ag=>?_) (fun ag=>.r [9]<|GA.Sk Z fun w Z=>.r 3<|.d<|.cf<|.sk<|.ib 1<|.g<|.r 1<|.it ((i:Int)+1)<|.r 1<|.d<|E (i+1) _ _ AA (Z.to 0 [] 1) ⟨AB,(by grind [Dj,prev])⟩ (by (simp only []; omega)))
 refine .r [9,10,11]<|GA.int (i:=12) ((i:Int) - 1) AA AB<|gx n (i - 1) fun ae ab=>GA.Jx 13 1 ((i:Int) - 1) ab Z<|.r [14]<|Z.el 1 ab fun Z=>GA.Lh 15 0 0 Z<|.r [16,17]<|GA.Ix 18 2 aa Z<|.r [19]<|GA.Lh 20 1 0 Z<|GA.Dn Z fun w Z=>RG.eqv (v:=.bool (!(Bk ae.key ac.key))) AA (Sz ae.key ac.key) ?_
 cases ar:(Bk ae.key ac.key)
 ·exact .r 2<|.d<|.ct<|.s<|.g<|.r 1<|.d<|T.rt func72 results72 (.bool false) ⟨(AG (by grind [Dj,Aq,prev,Aa])),Z.xt⟩
 exact .r 2<|.d<|.cf<|.sk<|.ib 1<|.g<|.r 1<|.it ((i:Int)+1)<|.r 1<|.d<|E (i+1) _ _ AA (Z.to 0 [] 2) ⟨AB,(by grind [Dj,prev])⟩ (by (simp only []; omega))
theorem DV (n:List Tag) (h1:RepS w F a1 n1 c1 n)  : Calls Tryz.prog 45 [.slice a1 n1 c1].toArray w (Al fun rv w'=>rv=.bool (Aq n)∧Ext w w'):=by
 cases h1.len
 refine goT func45 ?_
 have Z:=(St.i0 F w).p h1
 have aj:=h1.max
 refine .s<|.g<|.r 1<|.d<|.s<|.s<|.g<|.r 3<|.d<|.b 0<|T.Lp (0:Nat) (fun k=>([(0,.slice a1 n.length c1),(5,.slice a1 n.length c1),(6,vI (n.length:Int)),(7,vI (k:Int))],[],[],n.length - k,(k≤n.length)∧(Dj (prev n k) (n.drop k)=Dj none n))) [] Z ⟨(by simp [prev]),(by simp [prev])⟩ ?_
 rintro k ax w Z ⟨ak,al⟩ E
 refine .s<|.g<|.bp ((k:Int)< (n.length:Int)) (fun af=>?_) (fun af=>.d<|.s<|.cf<|.x 0 rfl<|.s<|.g<|.r 2<|RG.C0 (Bm (n.length:Int) 1 3 (F:=all)) Z fun w Z=>.r 1<|.d<|T.rt func45 results45 (.bool (inR (n.length:Int) 1 3)) ⟨(AG (by grind [Dj,Aq,prev,Aa])),Z.xt⟩)
 refine .d<|.s<|.ct<|.sk<|.s<|.b 1<|.s<|.g<|.r 1<|gxb n k fun ac aa am ah=>RG.Ix 0 aa Z<|Z.el 0 aa fun Z=>RG.Lg 0 0 Z<|RG.Np Z fun ay w Z=>.r 1<|RG.Ss 0 Z fun w Z=>.d<|.s<|T.Gd 15 Z fun w Z=>GA.Ln 0 0 Z<|GA.C0 1 Z (fun w Z=>H2 ac (F:=all)) ?_
 cases ao:(BX ac)
 ·exact .r [2,3]<|GA.Sk Z fun w Z=>.r 3<|.d<|.ct<|.s<|.g<|.r 1<|.d<|T.rt func45 results45 (.bool false) ⟨(AG (by grind [Dj,Aq,prev,Aa])),Z.xt⟩
 refine .r [2,3,4]<|GA.F6 (i:=5) ((k:Int) > 0) AA (fun ag=>?_) (fun ag=>.r [6]<|GA.Sk Z fun w Z=>.r 3<|.d<|.cf<|.sk<|.ib 1<|.g<|.it ((k:Int)+1)<|.r 1<|.d<|E (k+1) _ _ AA (Z.to 1 [] 1) ⟨AB,(by grind [Dj,prev])⟩ (by (simp only []; omega)))
 refine .r [6,7,8]<|GA.int (i:=9) ((k:Int) - 1) AA AB<|gx n (k - 1) fun ae ab=>GA.Jx 10 1 ((k:Int) - 1) ab Z<|.r [11]<|Z.el 1 ab fun Z=>GA.Lh 12 0 0 Z<|.r [13]<|GA.Lb 14 0 Z<|GA.Dn Z fun w Z=>RG.eqv (v:=.bool (!(Bk ae.key ac.key))) AA (Sz ae.key ac.key) ?_
 cases ar:(Bk ae.key ac.key)
 ·exact .r 2<|.d<|.ct<|.s<|.g<|.r 1<|.d<|T.rt func45 results45 (.bool false) ⟨(AG (by grind [Dj,Aq,prev,Aa])),Z.xt⟩
 exact .r 2<|.d<|.cf<|.sk<|.ib 1<|.g<|.it ((k:Int)+1)<|.r 1<|.d<|E (k+1) _ _ AA (Z.to 1 [] 2) ⟨AB,(by grind [Dj,prev])⟩ (by (simp only []; omega))
theorem DH (b:List Row) (h1:RepS w F a1 n1 c1 b)  : Calls Tryz.prog 137 [.slice a1 n1 c1].toArray w (Al fun rv w'=>rv=.bool (Bc b)∧Ext w w'):=by
 cases h1.len
 refine goT func137 ?_
 have Z:=(St.i0 F w).p h1
 have ak:=h1.max
 refine .s<|.g<|.r 1<|.d<|.s<|.s<|.g<|.r 3<|.d<|.b 0<|T.Lp (0:Nat) (fun k=>([(0,.slice a1 b.length c1),(5,.slice a1 b.length c1),(6,vI (b.length:Int)),(7,vI (k:Int))],[],[],b.length - k,(k≤b.length)∧(CX (prev b k) (b.drop k)=CX none b))) [] Z ⟨(by simp [prev]),(by simp [prev])⟩ ?_
 rintro k ax w Z ⟨al,am⟩ E
 refine .s<|.g<|.bp ((k:Int)< (b.length:Int)) (fun ae=>?_) (fun ae=>.d<|.s<|.cf<|.x 0 rfl<|.s<|.g<|.r 4<|.d<|T.rt func137 results137 (.bool (decide ((b.length:Int)≤24))) ⟨(AG (by grind [CX,Bc,prev,Aa])),Z.xt⟩)
 refine .d<|.s<|.ct<|.sk<|.s<|.b 1<|.s<|.g<|.r 1<|gxb b k fun ac aa ao ah=>RG.Ix 0 aa Z<|Z.el 0 aa fun Z=>RG.Lg 0 0 Z<|RG.Np Z fun ay w Z=>.r 1<|RG.Ss 0 Z fun w Z=>.d<|.s<|T.Gd 15 Z fun w Z=>GA.Ln 0 0 Z<|GA.C0 1 Z (fun w Z=>Fs ac (F:=all)) ?_
 cases aq:(BS ac)
 ·exact .r [2,3]<|GA.Sk Z fun w Z=>.r 3<|.d<|.ct<|.s<|.g<|.r 1<|.d<|T.rt func137 results137 (.bool false) ⟨(AG (by grind [CX,Bc,prev,Aa])),Z.xt⟩
 refine .r [2,3,4]<|GA.F6 (i:=5) ((k:Int) > 0) AA (fun af=>?_) (fun af=>.r [6]<|GA.Sk Z fun w Z=>.r 3<|.d<|.cf<|.sk<|.ib 1<|.g<|.it ((k:Int)+1)<|.r 1<|.d<|E (k+1) _ _ AA (Z.to 1 [] 1) ⟨AB,(by grind [CX,prev])⟩ (by (simp only []; omega)))
 exact .r [6,7,8]<|GA.int (i:=9) ((k:Int) - 1) AA AB<|gx b (k - 1) fun aj ab=>GA.Jx 10 1 ((k:Int) - 1) ab Z<|.r [11]<|Z.el 1 ab fun Z=>GA.Lh 12 0 0 Z<|.r [13]<|GA.Lb 14 0 Z<|GA.Dn Z fun w Z=>.bp (aj.t≥ac.t) (fun ag=>.r 2<|.d<|.ct<|.s<|.g<|.r 1<|.d<|T.rt func137 results137 (.bool false) ⟨(AG (by grind [CX,Bc,prev,Aa])),Z.xt⟩) fun ag=>.r 2<|.d<|.cf<|.sk<|.ib 1<|.g<|.it ((k:Int)+1)<|.r 1<|.d<|E (k+1) _ _ AA (Z.to 1 [] 2) ⟨AB,(by grind [CX,prev])⟩ (by (simp only []; omega))
theorem C4 (p:Prt) (h1:RepS w F a1 n1 c1 p.ids) (h2:RepS w F a2 n2 c2 p.blocks)  : Calls Tryz.prog 101 [.agg #[.slice a1 n1 c1,.slice a2 n2 c2]].toArray w (Al fun rv w'=>rv=.bool (At p)∧Ext w w'):=by
 cases h1.len
 cases h2.len
 refine goT func101 ?_
 have Z:=((St.i0 F w).p h1).p h2
 have aC:=h1.max
 refine .s<|.g<|RG.Np Z fun aA w Z=>.r 1<|.d<|.s<|.s<|.g<|.r 1<|RG.Lb 0 Z<|.r 2<|RG.Lb 0 Z<|.r 1<|.ne (p.ids.length:Int) (p.blocks.length:Int) (fun aj=>.d<|.ct<|.s<|.g<|.r 1<|.d<|T.rt func101 results101 (.bool false) ⟨(AG (by grind [Bl,At,prev,Aa])),Z.xt⟩) fun aj=>.d<|.cf<|.sk<|.s<|.s<|.g<|.r 1<|RG.Lb 0 Z<|.r 2<|.d<|.b 0<|T.Lp (0:Nat) (fun k=>([(1,vP aA),(13,.slice a1 p.ids.length c1),(14,vI (p.ids.length:Int)),(15,vI (k:Int))],[],[],p.ids.length - k,(k≤p.ids.length)∧(Bl (prev p.ids k) (p.ids.drop k) (p.blocks.drop k)=Bl none p.ids p.blocks))) [] Z ⟨(by simp [prev]),(by simp [prev])⟩ ?_
 rintro k aO w Z ⟨aE,aF⟩ E
 refine .s<|.g<|.bp ((k:Int)< (p.ids.length:Int)) (fun ak=>?_) (fun ak=>.d<|.s<|.cf<|.x 0 rfl<|.s<|.g<|.r 1<|.d<|T.rt func101 results101 (.bool true) ⟨(AG (by grind [Bl,At,prev,Aa])),Z.xt⟩)
 refine .d<|.s<|.ct<|.sk<|.s<|.b 1<|.s<|.g<|.r 1<|gxb p.ids k fun ag ac aG ar=>RG.Ix 1 ac Z<|Z.el 1 ac fun Z=>RG.Lh 0 0 Z<|.r 2<|.d<|.s<|.g<|.r 1<|RG.C0 (Bm ag 1 6 (F:=all)) Z fun w Z=>?_
 cases af:(inR ag 1 6)
 ·exact .r 33<|.d<|.ct<|.s<|.g<|.r 1<|.d<|T.rt func101 results101 (.bool false) ⟨(AG (by (have hdd:=List.drop_eq_getElem_cons (l:=p.blocks) (i:=k) AB; grind [Bl,At,prev,Aa]))),Z.xt⟩
 refine .r 3<|.bp ((k:Int) > 0) (fun al=>?_) (fun al=>?_)
 ·refine .r 2<|RG.Lb 0 Z<|.r 1<|.it ((k:Int) - 1)<|gx p.ids (k - 1) fun aB ae=>RG.Jx 2 ((k:Int) - 1) ae Z<|Z.el 2 ae fun Z=>RG.Lh 0 0 Z<|.r 1<|.bp (aB≥ag) (fun am=>.r 20<|.d<|.ct<|.s<|.g<|.r 1<|.d<|T.rt func101 results101 (.bool false) ⟨(AG (by (have hdd:=List.drop_eq_getElem_cons (l:=p.blocks) (i:=k) AB; grind [Bl,At,prev,Aa]))),Z.xt⟩) fun am=>.r 4<|RG.Lb 0 Z<|.r 1<|gxd p.blocks k fun ah aa aK=>RG.Ix 2 aa Z<|Z.el 2 aa fun aP aQ Z=>RG.Lh 0 0 Z<|RG.C0 (DH ah (Z.a 1)) Z fun w Z=>?_
  cases aL:(Bc ah)
  ·exact .r 11<|.d<|.ct<|.s<|.g<|.r 1<|.d<|T.rt func101 results101 (.bool false) ⟨(AG (by grind [Bl,At,prev,Aa])),Z.xt⟩
  exact .r 4<|RG.Lb 0 Z<|.r 1<|RG.Ix 4 aa Z<|RG.Lh 0 0 Z<|.r 1<|.eq (ah.length:Int) 0 (fun ao=>.r 1<|.d<|.ct<|.s<|.g<|.r 1<|.d<|T.rt func101 results101 (.bool false) ⟨(AG (by grind [Bl,At,prev,Aa])),Z.xt⟩) fun ao=>.r 1<|.d<|.cf<|.sk<|.ib 1<|.g<|.it ((k:Int)+1)<|.r 1<|.d<|E (k+1) _ _ AA (Z.to 0 [] 4) ⟨AB,(by grind [Bl,prev])⟩ (by (simp only []; omega))
 refine .r 13<|RG.Lb 0 Z<|.r 1<|gxd p.blocks k fun ai ab aM=>RG.Ix 1 ab Z<|Z.el 1 ab fun aR aS Z=>RG.Lh 0 0 Z<|RG.C0 (DH ai (Z.a 1)) Z fun w Z=>?_
 cases aN:(Bc ai)
 ·exact .r 11<|.d<|.ct<|.s<|.g<|.r 1<|.d<|T.rt func101 results101 (.bool false) ⟨(AG (by grind [Bl,At,prev,Aa])),Z.xt⟩
 exact .r 4<|RG.Lb 0 Z<|.r 1<|RG.Ix 3 ab Z<|RG.Lh 0 0 Z<|.r 1<|.eq (ai.length:Int) 0 (fun aq=>.r 1<|.d<|.ct<|.s<|.g<|.r 1<|.d<|T.rt func101 results101 (.bool false) ⟨(AG (by grind [Bl,At,prev,Aa])),Z.xt⟩) fun aq=>.r 1<|.d<|.cf<|.sk<|.ib 1<|.g<|.it ((k:Int)+1)<|.r 1<|.d<|E (k+1) _ _ AA (Z.to 0 [] 3) ⟨AB,(by grind [Bl,prev])⟩ (by (simp only []; omega))
theorem Dx (s:List Int) (v:Int) (h1:RepS w F a1 n1 c1 s)  : Calls Tryz.prog 142 [.slice a1 n1 c1,.int .i64 v].toArray w (Al fun rv w'=>rv=.int .i64 (EG v 0 s)∧Ext w w'):=by
 cases h1.len
 refine goT func142 ?_
 have Z:=(St.i0 F w).p h1
 have ag:=h1.max
 refine .s<|.g<|.r 1<|.d<|.s<|.s<|.g<|.r 3<|.d<|.b 0<|T.Lp (0:Nat) (fun k=>([(0,.slice a1 s.length c1),(1,vI v),(7,vI (s.length:Int)),(8,vI (k:Int))],[],[],s.length - k,(k≤s.length)∧(EG v k (s.drop k)=EG v 0 s))) [] Z ⟨AD,AD⟩ ?_
 rintro k ak w Z ⟨ah,ai⟩ aa
 refine .s<|.g<|.bp ((k:Int)< (s.length:Int)) (fun ab=>?_) (fun ab=>.d<|.s<|.cf<|.x 0 rfl<|.s<|.g<|.r 1<|.d<|T.rt func142 results142 (vI (-1)) ⟨(congrArg (Value.int .i64) (by grind [EG,Aa])),Z.xt⟩)
 exact .d<|.s<|.ct<|.sk<|.s<|.b 1<|.s<|.g<|.r 2<|.d<|.s<|.g<|.r 3<|gxd s k fun af E aj=>RG.Ix 0 E Z<|Z.el 0 E fun Z=>RG.Lh 0 0 Z<|.eq v af (fun ac=>.d<|.ct<|.s<|.g<|.r 2<|.d<|T.rt func142 results142 (vI (k:Int)) ⟨(congrArg (Value.int .i64) (by grind [EG,Aa])),Z.xt⟩) fun ac=>.d<|.cf<|.sk<|.ib 1<|.g<|.it ((k:Int)+1)<|.r 1<|.d<|aa (k+1) _ _ AA (Z.to 0 [] 1) ⟨AB,(by grind [EG])⟩ (by (simp only []; omega))
theorem GZ (x:List Int) (h1:RepS w F a1 n1 c1 x) (p0:0< x.length):Calls Tryz.prog 102 [.slice a1 n1 c1].toArray w (Al fun rv w'=>rv=.int .i64 (maxOf x)∧Ext w w'):=by
 cases h1.len
 refine goT func102 ?_
 have Z:=(St.i0 F w).p h1
 have aj:=h1.max
 refine .s<|.g<|.r 1<|.d<|.s<|.s<|.g<|.r 2<|.bp ((x.length:Int)< 1) (fun ac=>.d<|.ct<|.g<|absurd (show False by omega) id) fun ac=>.d<|.cf<|.sk<|.s<|.g<|.r 1<|gxd x 0 fun ai E ak=>RG.Ix 0 E Z<|Z.el 0 E fun Z=>RG.Lh 0 0 Z<|.r 1<|.d<|.s<|.s<|.g<|.r 1<|.d<|.b 0<|T.Lp (ai,(1:Nat)) (fun (m,i)=>([(0,.slice a1 x.length c1),(3,vI m),(4,vI (i:Int))],[],[],x.length - i,(i≤x.length)∧(K7 m (x.drop i)=maxOf x))) [] Z ⟨AB,(by grind [maxOf])⟩ ?_
 rintro ⟨m,i⟩ aq w Z ⟨al,am⟩ ab
 refine .s<|.s<|.g<|.r 3<|.bp ((i:Int)< (x.length:Int)) (fun ae=>?_) (fun ae=>.d<|.cf<|.x 0 rfl<|.s<|.g<|.r 2<|.d<|T.rt func102 results102 (vI m) ⟨(congrArg (Value.int .i64) (by grind [K7,Aa])),Z.xt⟩)
 exact .d<|.ct<|.sk<|.s<|.b 1<|.g<|.r 3<|gxd x i fun af aa ao=>RG.Ix 1 aa Z<|Z.el 1 aa fun Z=>RG.Lh 0 0 Z<|.r 2<|.d<|.ib 1<|.g<|.r 1<|.it ((i:Int)+1)<|.r 1<|.d<|ab ((if af > m then af else m),i+1) _ _ AA (Z.to 0 [] 1) ⟨AB,(by grind [K7])⟩ (by (simp only []; omega))
theorem HP (n:List Tag) (h1:RepS w F a1 n1 c1 n) (p0:n.length≤1000000) (p1:∀ t∈n,t.key.length≤1000000∧t.val.length≤1000000):Calls Tryz.prog 113 [.slice a1 n1 c1].toArray w (Al fun rv w'=>rv=.string (bs (text n))∧Ext w w'):=by
 cases h1.len
 refine goT func113 ?_
 have Z:=(St.i0 F w).p h1
 refine .s<|.g<|.r 1<|.d<|.s<|.g<|.r 1<|.d<|.s<|.s<|.g<|.r 1<|.d<|.b 0<|T.Lp ([],(0:Nat)) (fun (out,i)=>([(0,.slice a1 n.length c1),(3,vT out),(4,vI (i:Int))],[],[],n.length - i,(i≤n.length)∧(out.length≤3000000 * i)∧(out++EQ i (n.drop i)=text n))) [] Z ⟨(by simp [text]),(by simp [text]),(by simp [text])⟩ ?_
 rintro ⟨out,i⟩ ar w Z ⟨ak,al,am⟩ E
 refine .s<|.s<|.g<|.r 3<|.bp ((i:Int)< (n.length:Int)) (fun af=>?_) (fun af=>.d<|.cf<|.x 0 rfl<|.s<|.g<|.r 2<|.d<|T.rt func113 results113 (vT out) ⟨(congrArg (fun s=>Value.string (bs s)) (by grind [EQ,Aa])),Z.xt⟩)
 refine .d<|.ct<|.sk<|.s<|.b 1<|.s<|.s<|.g<|.r 1<|.bp ((i:Int) > 0) (fun ag=>?_) (fun ag=>?_)
 ·exact .d<|.ct<|.g<|.r 1<|RG.cat (t:=9) (s:=out) (u:=[44]) AA (by grind)<|.r 1<|.d<|T.Gd 13 Z fun w Z=>.r [0,1,2]<|gxb n i fun ac aa ao ah=>GA.Ix 3 0 aa Z<|.r [4]<|Z.el 0 aa fun Z=>GA.Lh 5 0 0 Z<|GA.cat (i:=6) (t:=9) (s:=(out++[44])) (u:=ac.key) AA AA (by grind)<|GA.cat (i:=7) (t:=9) (s:=((out++[44])++ac.key)) (u:=[61]) AA AA (by grind)<|.r [8,9]<|GA.Ix 10 1 aa Z<|.r [11]<|GA.Lh 12 0 1 Z<|GA.Dn Z fun w Z=>RG.cat (t:=9) (s:=(((out++[44])++ac.key)++[61])) (u:=ac.val) AA (by grind)<|.r 1<|.d<|.ib 1<|.g<|.r 1<|.it ((i:Int)+1)<|.r 1<|.d<|E (((((out++[44])++ac.key)++[61])++ac.val),i+1) _ _ AA (Z.to 0 [] 1) ⟨AB,(by grind),(by grind [EQ,HM])⟩ (by (simp only []; omega))
 exact .d<|.cf<|.sk<|T.Gd 13 Z fun w Z=>.r [0,1,2]<|gxb n i fun ae ab aq ai=>GA.Ix 3 0 ab Z<|.r [4]<|Z.el 0 ab fun Z=>GA.Lh 5 0 0 Z<|GA.cat (i:=6) (t:=9) (s:=out) (u:=ae.key) AA AA (by grind)<|GA.cat (i:=7) (t:=9) (s:=(out++ae.key)) (u:=[61]) AA AA (by grind)<|.r [8,9]<|GA.Ix 10 1 ab Z<|.r [11]<|GA.Lh 12 0 1 Z<|GA.Dn Z fun w Z=>RG.cat (t:=9) (s:=((out++ae.key)++[61])) (u:=ae.val) AA (by grind)<|.r 1<|.d<|.ib 1<|.g<|.r 1<|.it ((i:Int)+1)<|.r 1<|.d<|E ((((out++ae.key)++[61])++ae.val),i+1) _ _ AA (Z.to 0 [] 1) ⟨AB,(by grind),(by grind [EQ,HM])⟩ (by (simp only []; omega))
theorem E8 (b:List Row) (t:Int) (h1:RepS w F a1 n1 c1 b)  : Calls Tryz.prog 16 [.slice a1 n1 c1,.int .i64 t].toArray w (Al fun rv w'=>rv=.tuple #[.int .i64 (atV t b),.bool (atB t b)]∧Ext w w'):=by
 cases h1.len
 refine goT func16 ?_
 have Z:=(St.i0 F w).p h1
 have ag:=h1.max
 refine .s<|.g<|.r 2<|.d<|.s<|.s<|.g<|.r 1<|.d<|.b 0<|T.Lp (0:Nat) (fun i=>([(0,.slice a1 b.length c1),(1,vI t),(6,vI (i:Int))],[],[],b.length - i,(i≤b.length)∧(atV t (b.drop i)=atV t b)∧(atB t (b.drop i)=atB t b))) [] Z ⟨AD,AD,AD⟩ ?_
 rintro i al w Z ⟨ah,ai,aj⟩ aa
 refine .s<|.s<|.g<|.r 3<|.bp ((i:Int)< (b.length:Int)) (fun ab=>?_) (fun ab=>.d<|.cf<|.x 0 rfl<|.s<|.g<|.r 2<|.d<|T.r2 func16 results16 (.t (vI 0)) (.t (.bool false)) ⟨(Br (congrArg (Value.int .i64) (by grind [atV,atB,Aa])) (AG (by grind [atV,atB,Aa]))),Z.xt⟩)
 exact .d<|.ct<|.sk<|.s<|.b 1<|.s<|.g<|.r 2<|gxd b i fun ac E ak=>RG.Ix 0 E Z<|.r 1<|Z.el 0 E fun Z=>RG.Lh 0 0 Z<|.r 1<|.eq ac.t t (fun ae=>.d<|.ct<|.s<|.g<|.r 2<|RG.Ix 1 E Z<|.r 1<|RG.Lh 0 1 Z<|.r 2<|.d<|T.r2 func16 results16 (.t (vI ac.v)) (.t (.bool true)) ⟨(Br (congrArg (Value.int .i64) (by grind [atV,atB,Aa])) (AG (by grind [atV,atB,Aa]))),Z.xt⟩) fun ae=>.d<|.cf<|.sk<|.ib 1<|.g<|.r 1<|.it ((i:Int)+1)<|.r 1<|.d<|aa (i+1) _ _ AA (Z.to 0 [] 1) ⟨AB,(by grind [atV,atB]),(by grind [atV,atB])⟩ (by (simp only []; omega))
end Go.Proofs.YtckdhcbbgmiccaaGreat
namespace Go.Proofs.YtckdhcbbgmiccaaGreat
set_option maxRecDepth 100000
set_option maxHeartbeats 4000000
variable {w:World} {F:Nat→Prop} {a1 a2 a3 a4 a5 a6 a7 a8:Option Addr} {n1 c1 n2 c2 n3 c3 n4 c4 n5 c5 n6 c6 n7 c7 n8 c8:Nat}
theorem K9  {F:Nat→Prop}   : Calls Tryz.prog 123 [].toArray w (Al fun rv w'=>VS (ge w.heap.size) w' ((⟨[],[]⟩:Idx):Idx) rv∧Ext w w'):=by
 refine goT func123 ?_
 have Z:=St.i0 F w
 refine .s<|.g<|RG.Np Z fun E w Z=>.d<|.s<|.g<|RG.N0 (List Tag) 0 Z fun aa w Z=>RG.N0 Pst 0 Z fun ab w Z=>.r 1<|RG.Ss 2 Z fun w Z=>.d ?_
 have Z:=(Z.sl 1).sl 0
 exact T.Rb 0 func123 results123 Z ⟨Z.rS (⟨([]:List (List Tag)),([]:List Pst)⟩:Idx) [1,0] AF,Z.xt⟩
theorem LA  {F:Nat→Prop}   : Calls Tryz.prog 70 [].toArray w (Al fun rv w'=>VS (ge w.heap.size) w' ((⟨⟨[],[]⟩,[],[]⟩:Sto):Sto) rv∧Ext w w'):=by
 refine goT func70 ?_
 have Z:=St.i0 F w
 refine .s<|.g<|RG.Np Z fun E w Z=>.d<|.s<|.g<|RG.CS (K9 (F:=all)) Z fun aa ab ac ae w Z=>RG.N0 Prt 0 Z fun af w Z=>RG.N0 Smp 0 Z fun ag w Z=>.r 1<|RG.Ss 2 Z fun w Z=>.d ?_
 have Z:=(Z.sl 1).sl 0
 exact T.Rb 0 func70 results70 Z ⟨Z.rS (⟨(⟨((⟨[],[]⟩:Idx)).names,((⟨[],[]⟩:Idx)).AY⟩:Idx),([]:List Prt),([]:List Smp)⟩:Sto) [2,3,1,0] AF,Z.xt⟩
theorem KT  {F:Nat→Prop}   : Calls Tryz.prog 71 [].toArray w (Al fun rv w'=>VS (ge w.heap.size) w' ((⟨[],[],[],1⟩:Dsk):Dsk) rv∧Ext w w'):=by
 refine goT func71 ?_
 have Z:=St.i0 F w
 refine .s<|.g<|RG.Np Z fun E w Z=>.d<|.s<|.g<|RG.N0 Fil 0 Z fun aa w Z=>RG.N0 Int 0 Z fun ab w Z=>RG.N0 (List Tag) 0 Z fun ac w Z=>.r 1<|RG.Ss 3 Z fun w Z=>.d ?_
 have Z:=((Z.sl 2).sl 1).sl 0
 exact T.Rb 0 func71 results71 Z ⟨Z.rS (⟨([]:List Fil),([]:List Int),([]:List (List Tag)),1⟩:Dsk) [2,1,0] AF,Z.xt⟩
theorem GB  {F:Nat→Prop}   : Calls Tryz.prog 36 [].toArray w (Al fun rv w'=>VS (ge w.heap.size) w' ((⟨⟨⟨[],[]⟩,[],[]⟩,⟨[],[],[],1⟩⟩:Wld):Wld) rv∧Ext w w'):=by
 refine goT func36 ?_
 have Z:=St.i0 F w
 exact .s<|.g<|RG.Np Z fun E w Z=>.d<|.s<|.g<|RG.CS (LA (F:=all)) Z fun aa ab ac ae af ag ah ai w Z=>RG.CS (KT (F:=all)) Z fun aj ak al am ao aq w Z=>.r 1<|RG.Ss 0 Z fun w Z=>.d<|T.Rb 0 func36 results36 Z ⟨Z.rS (⟨(⟨(⟨(((⟨⟨[],[]⟩,[],[]⟩:Sto)).idx).names,(((⟨⟨[],[]⟩,[],[]⟩:Sto)).idx).AY⟩:Idx),((⟨⟨[],[]⟩,[],[]⟩:Sto)).parts,((⟨⟨[],[]⟩,[],[]⟩:Sto)).mem⟩:Sto),(⟨((⟨[],[],[],1⟩:Dsk)).files,((⟨[],[],[],1⟩:Dsk)).list,((⟨[],[],[],1⟩:Dsk)).names,((⟨[],[],[],1⟩:Dsk)).next⟩:Dsk)⟩:Wld) [3,4,5,6,0,1,2] AF,Z.xt⟩
theorem HQ (a:Prt) (b:Prt) (h1:RepS w F a1 n1 c1 a.ids) (h2:RepS w F a2 n2 c2 a.blocks) (h3:RepS w F a3 n3 c3 b.ids) (h4:RepS w F a4 n4 c4 b.blocks)  : Calls Tryz.prog 23 [.agg #[.slice a1 n1 c1,.slice a2 n2 c2],.agg #[.slice a3 n3 c3,.slice a4 n4 c4]].toArray w (Al fun rv w'=>rv=.bool ((a==b))∧Ext w w'):=by
 cases h1.len
 cases h2.len
 cases h3.len
 cases h4.len
 refine goT func23 ?_
 have Z:=((((St.i0 F w).p h1).p h2).p h3).p h4
 have al:=h1.max
 have am:=h2.max
 have ao:=h3.max
 have aq:=h4.max
 refine .s<|.g<|RG.Np Z fun aj w Z=>RG.Np Z fun ak w Z=>.r 1<|.d<|.s<|.s<|.g<|.r 1<|RG.Lb 1 Z<|.r 1<|RG.Lb 0 Z<|RG.C0 (FK a.ids b.ids (Z.a 3) (Z.a 1)) Z fun w Z=>?_
 cases ar:(a.ids==b.ids)
 ·exact .r 10<|.d<|.ct<|.s<|.g<|.r 1<|.d<|T.rt func23 results23 (.bool false) ⟨(AG (by cases a; cases b; grind [Aa])),Z.xt⟩
 refine .r 3<|RG.Lb 1 Z<|.r 2<|RG.Lb 0 Z<|.r 1<|.ne (a.blocks.length:Int) (b.blocks.length:Int) (fun ac=>.r 1<|.d<|.ct<|.s<|.g<|.r 1<|.d<|T.rt func23 results23 (.bool false) ⟨(AG (by cases a; cases b; grind [Aa])),Z.xt⟩) fun ac=>.r 1<|.d<|.cf<|.sk<|.s<|.s<|.g<|.r 1<|.d<|.b 0<|T.Lp (0:Nat) (fun i=>([(2,vP aj),(3,vP ak),(5,vI (i:Int))],[],[],a.blocks.length - i,(i≤a.blocks.length)∧(a.blocks.drop i=b.blocks.drop i↔a.blocks=b.blocks))) [] Z ⟨AD,AD⟩ ?_
 rintro i aC w Z ⟨ax,ay⟩ ab
 refine .s<|.s<|.g<|.r 2<|RG.Lb 1 Z<|.r 1<|.bp ((i:Int)< (a.blocks.length:Int)) (fun ae=>?_) (fun ae=>.d<|.cf<|.x 0 rfl<|.s<|.g<|.r 1<|.d<|T.rt func23 results23 (.bool true) ⟨(AG (by cases a; cases b; grind [Aa])),Z.xt⟩)
 refine .d<|.ct<|.sk<|.s<|.b 1<|.s<|T.Gd 10 Z fun w Z=>.r [0]<|GA.Lb 1 1 Z<|.r [2]<|gxb a.blocks i fun af E az ah=>GA.Ix 3 2 E Z<|Z.el 2 E fun aD aE Z=>GA.Lh 4 0 0 Z<|.r [5]<|GA.Lb 6 0 Z<|.r [7]<|gxb b.blocks i fun ag aa aA ai=>GA.Ix 8 2 aa Z<|Z.el 2 aa fun aF aG Z=>GA.Lh 9 0 0 Z<|GA.Dn Z fun w Z=>RG.C0 (HO af ag (Z.a 3) (Z.a 1)) Z fun w Z=>?_
 cases aB:(af==ag)
 ·exact .r 1<|.d<|.ct<|.s<|.g<|.r 1<|.d<|T.rt func23 results23 (.bool false) ⟨(AG (by cases a; cases b; grind [Aa])),Z.xt⟩
 exact .r 1<|.d<|.cf<|.sk<|.ib 1<|.g<|.r 1<|.it ((i:Int)+1)<|.r 1<|.d<|ab (i+1) _ _ AA (Z.to 0 [] 4) ⟨AB,(by grind)⟩ (by (simp only []; omega))
theorem Dc (a:Prt) (b:Prt) (h1:RepS w F a1 n1 c1 a.ids) (h2:RepS w F a2 n2 c2 a.blocks) (h3:RepS w F a3 n3 c3 b.ids) (h4:RepS w F a4 n4 c4 b.blocks) (p0:Cs a) (p1:Cs b):Calls Tryz.prog 132 [.agg #[.slice a1 n1 c1,.slice a2 n2 c2],.agg #[.slice a3 n3 c3,.slice a4 n4 c4]].toArray w (Al fun rv w'=>VS (ge w.heap.size) w' (BB a b:Prt) rv∧Ext w w'):=by
 cases h1.len
 cases h2.len
 cases h3.len
 cases h4.len
 refine goT func132 ?_
 have Z:=((((St.i0 F w).p h1).p h2).p h3).p h4
 refine .s<|.g<|RG.Np Z fun aa w Z=>RG.Np Z fun ab w Z=>RG.Np Z fun ac w Z=>.d<|.s<|.g<|RG.N0 (List Row) 0 Z fun af w Z=>.r 1<|.d<|.s<|.s<|.g<|.r 1<|.d<|.b 0<|T.Lp (([]:List (List Row)),af,(0:Nat),(1:Nat)) (fun (blocks,r_blocks,c_blocks,id)=>([(2,vP aa),(3,vP ab),(4,vP ac),(5,vS r_blocks blocks.length c_blocks),(6,vI (id:Int))],[(0,.own 0 r_blocks 55 c_blocks blocks)],[],7 - id,(1≤id)∧(id≤7)∧(blocks=BR a b (id - 1)))) [] Z ⟨(by simp [BR]),(by simp [BR]),(by simp [BR])⟩ ?_
 rintro ⟨blocks,r_blocks,c_blocks,id⟩ ar w Z ⟨am,ao,aq⟩ E
 exact .s<|.s<|.g<|.r 1<|.bp ((id:Int)≤6) (fun ae=>.d<|.ct<|.sk<|.s<|.b 1<|T.GS 9 [ac,ab,aa] Z fun _ w Z=>.r [0]<|GA.Ln (q:=2) 1 3 Z<|.r [2]<|GA.Ln (q:=1) 4 2 Z<|.r [5]<|.go 3<|GE.CL (fun w Z=>Fu a (id:Int) (Z.mg 1 3) (Z.mg 1 2) (by grind [Cs])) Z fun ax ay w Z=>.go 6<|GE.CL (fun w Z=>Fu b (id:Int) (Z.mg 1 2) (Z.mg 1 1) (by grind [Cs])) Z fun az aA w Z=>.go 7<|GE.CL (fun w Z=>GX (partOf a (id:Int)) (partOf b (id:Int)) (Z.a 1) (Z.a 0) (by have q1:=DF p0 id; have q2:=DF p1 id; omega)) Z fun aB aC w Z=>.go 8<|GE.Nb 1 Z fun aD w Z=>GA.Do Z fun w Z=>RG.Ap (hs:=by exact (by grind [Dl])) 0 0 blocks (BZ (partOf a (id:Int)) (partOf b (id:Int))) [0] Z fun ag ah w Z=>.r 1<|.d<|.ib 1<|.g<|.r 1<|.it ((id:Int)+1)<|.r 1<|.d<|E ((blocks++[BZ (partOf a (id:Int)) (partOf b (id:Int))]),ag,ah,id+1) _ _ AA (Z.to 0 [] 3) ⟨AB,AB,(by obtain ⟨q,rfl⟩:∃ q,id=q+1:=⟨id - 1,by omega⟩; have:=Hx a b q; grind)⟩ (by (simp only []; omega))) fun ae=>.d<|.cf<|.x 0 rfl<|.s<|.g<|.r 1<|RG.CS (GY blocks (Z.oa 0) (by grind [Dl]) (by have q:=M5 p0 p1 6; grind)) Z fun aE aF aG aH w Z=>RG.Ss 1 Z fun w Z=>.d<|T.Rb 1 func132 results132 Z ⟨Z.rS (Dv blocks) [0,1] (by grind [BB]),Z.xt⟩
theorem Ew (s:Sto) (id:Int) (h1:RepS w F a1 n1 c1 s.idx.names) (h2:RepS w F a2 n2 c2 s.idx.AY) (h3:RepS w F a3 n3 c3 s.parts) (h4:RepS w F a4 n4 c4 s.mem) (p0:s.parts.length≤100) (p1:∀ p∈s.parts,Cs p) (p2:s.mem.length≤1000):Calls Tryz.prog 128 [.agg #[.slice a1 n1 c1,.slice a2 n2 c2,.slice a3 n3 c3,.slice a4 n4 c4],.int .i64 id].toArray w (Al fun rv w'=>VL (ge w.heap.size) w' (rowsOf s id:List Row) rv∧Ext w w'):=by
 cases h1.len
 cases h2.len
 cases h3.len
 cases h4.len
 refine goT func128 ?_
 have Z:=((((St.i0 F w).p h1).p h2).p h3).p h4
 refine .s<|.g<|RG.Np Z fun ag w Z=>.r 1<|.d<|.s<|.g<|RG.N0 Row 0 Z fun am w Z=>.r 1<|.d<|.s<|.s<|.g<|.r 1<|.d<|.b 0 ?_
 have Z:=Z.sl 0
 refine T.Lp (([]:List Row),sA am,(0:Nat),(0:Nat)) (fun (out,a_out,c_out,i)=>([(1,vI id),(2,vP ag),(5,.slice a_out out.length c_out),(6,vI (i:Int))],[],[⟨0,none,.rep a_out c_out out⟩],s.parts.length - i,(i≤s.parts.length)∧(out.length≤1000 * i)∧((s.parts.drop i).foldl (Bo id) out=s.parts.foldl (Bo id) []))) [0] Z ⟨AD,AD,AD⟩ ?_
 rintro ⟨out,a_out,c_out,i⟩ aK w Z ⟨aC,aD,aE⟩ ac
 refine .s<|.s<|.g<|.r 2<|RG.Lb 0 Z<|.r 1<|.bp ((i:Int)< (s.parts.length:Int)) (fun ah=>?_) (fun ah=>?_)
 ·exact .d<|.ct<|.sk<|.s<|.b 1<|.g<|.r 2<|RG.Lb 0 Z<|.r 1<|gxb s.parts i fun ae ab aF ak=>RG.Ix 3 ab Z<|Z.el 3 ab fun aL aM aN aO Z=>RG.Lg 0 0 Z<|.r 1<|RG.CL (Fu ae id (Z.mg 1 1) (Z.mg 1 2) (by grind [Cs])) Z fun aP aQ w Z=>RG.CL (GX out (partOf ae id) (Z.a 4) (Z.a 0) (by grind [DF])) Z fun ao aq w Z=>.r 1<|.d<|.ib 1<|.g<|.r 1<|.it ((i:Int)+1)<|.r 1<|.d<|ac (BZ out (partOf ae id),ao,aq,i+1) _ _ AA (Z.to 0 [0] 6) ⟨AB,(by grind [HY,DF]),(by grind [Bo,HY,DF])⟩ (by (simp only []; omega))
 refine .d<|.cf<|.x 0 rfl<|.s<|.s<|.g<|.r 1<|.d<|.b 2<|T.Lp ((out:List Row),a_out,c_out,(0:Nat)) (fun (out,a_out,c_out,i)=>([(1,vI id),(2,vP ag),(5,.slice a_out out.length c_out),(7,vI (i:Int))],[],[⟨0,none,.rep a_out c_out out⟩],s.mem.length - i,(i≤s.mem.length)∧(out.length≤100000+i)∧((s.mem.drop i).foldl (CM id) out=rowsOf s id))) [0] Z ⟨(by grind [rowsOf,Aa]),(by grind [rowsOf,Aa]),(by grind [rowsOf,Aa])⟩ ?_
 rintro ⟨out,a_out,c_out,i⟩ aR w Z ⟨aG,aH,aI⟩ E
 refine .s<|.s<|.g<|.r 2<|RG.Lb 0 Z<|.r 1<|.bp ((i:Int)< (s.mem.length:Int)) (fun ai=>?_) (fun ai=>.d<|.cf<|.x 2 rfl<|.s<|.g<|.r 2<|.d<|T.Rt func128 results128 ⟨Z.rL 0 out (by grind [Aa]),Z.xt⟩)
 exact .d<|.ct<|.sk<|.s<|.b 3<|.s<|.g<|.r 1<|RG.Lb 0 Z<|.r 1<|gxd s.mem i fun af aa aJ=>RG.Ix 3 aa Z<|.r 1<|Z.el 3 aa fun Z=>RG.Lh 0 0 Z<|.r 1<|.eq af.id id (fun aj=>.d<|.ct<|.g<|.r 2<|RG.Lb 0 Z<|.r 1<|RG.Ix 4 aa Z<|.r 1<|RG.Lg 0 1 Z<|RG.CL (Ft out af.row (Z.a 1) AB) Z fun ar ax w Z=>.r 1<|.d<|.ib 3<|.g<|.r 1<|.it ((i:Int)+1)<|.r 1<|.d<|E (EA out af.row,ar,ax,i+1) _ _ AA (Z.to 0 [0] 3) ⟨(by grind [CM,DE]),(by grind [CM,DE]),(by grind [CM,DE])⟩ (by (simp only []; omega))) fun aj=>.d<|.cf<|.sk<|.ib 3<|.g<|.r 1<|.it ((i:Int)+1)<|.r 1<|.d<|E (out,a_out,c_out,i+1) _ _ AA (Z.to 0 [1] 2) ⟨(by grind [CM,DE]),(by grind [CM,DE]),(by grind [CM,DE])⟩ (by (simp only []; omega))
theorem Ei (d:Dsk) (num:Int) (h1:RepS w F a1 n1 c1 d.files) (h2:RepS w F a2 n2 c2 d.list) (h3:RepS w F a3 n3 c3 d.names)  : Calls Tryz.prog 114 [.agg #[.slice a1 n1 c1,.slice a2 n2 c2,.slice a3 n3 c3,.int .i64 d.next],.int .i64 num].toArray w (Al fun rv w'=>rv=.int .i64 (As d num)∧Ext w w'):=by
 cases h1.len
 cases h2.len
 cases h3.len
 refine goT func114 ?_
 have Z:=(((St.i0 F w).p h1).p h2).p h3
 have ah:=h1.max
 refine .s<|.g<|RG.Np Z fun af w Z=>.r 1<|.d<|.s<|.s<|.g<|.r 1<|.d<|.b 0<|T.Lp (0:Nat) (fun i=>([(1,vI num),(2,vP af),(5,vI (i:Int))],[],[],d.files.length - i,(i≤d.files.length)∧(DA num i (d.files.drop i)=As d num))) [] Z ⟨(by simp [As]),(by simp [As])⟩ ?_
 rintro i ao w Z ⟨ak,al⟩ aa
 refine .s<|.s<|.g<|.r 2<|RG.Lb 0 Z<|.r 1<|.bp ((i:Int)< (d.files.length:Int)) (fun ab=>?_) (fun ab=>.d<|.cf<|.x 0 rfl<|.s<|.g<|.r 1<|.d<|T.rt func114 results114 (vI (-1)) ⟨(congrArg (Value.int .i64) (by grind [DA,Aa])),Z.xt⟩)
 exact .d<|.ct<|.sk<|.s<|.b 1<|.s<|.g<|.r 1<|RG.Lb 0 Z<|.r 1<|gxd d.files i fun ag E am=>RG.Ix 2 E Z<|.r 1<|Z.el 2 E fun aq ar ax ay Z=>RG.Lh 0 0 Z<|.r 1<|.eq ag.num num (fun ac=>.d<|.ct<|.s<|.g<|.r 2<|.d<|T.rt func114 results114 (vI (i:Int)) ⟨(congrArg (Value.int .i64) (by grind [DA,Aa])),Z.xt⟩) fun ac=>.d<|.cf<|.sk<|.ib 1<|.g<|.r 1<|.it ((i:Int)+1)<|.r 1<|.d<|aa (i+1) _ _ AA (Z.to 0 [] 3) ⟨AB,(by grind [DA])⟩ (by (simp only []; omega))
theorem MN (ix:Idx) (n:List Tag) (h1:RepS w F a1 n1 c1 ix.names) (h2:RepS w F a2 n2 c2 ix.AY) (h3:RepS w F a3 n3 c3 n) (p0:ix.names.length≤1000) (p1:∀ n∈ix.names,FX n) (p2:FX n):Calls Tryz.prog 157 [.agg #[.slice a1 n1 c1,.slice a2 n2 c2],.slice a3 n3 c3].toArray w (Al fun rv w'=>rv=.int .i64 (GO ix n)∧Ext w w'):=by
 cases h1.len
 cases h2.len
 cases h3.len
 refine goT func157 ?_
 have Z:=(((St.i0 F w).p h1).p h2).p h3
 refine .s<|.g<|RG.Np Z fun af w Z=>.r 1<|.d<|.s<|.s<|.g<|.r 1<|.d<|.b 0<|T.Lp (0:Nat) (fun i=>([(1,.slice a3 n.length c3),(2,vP af),(5,vI (i:Int))],[],[],ix.names.length - i,(i≤ix.names.length)∧(nmF (text n) i (ix.names.drop i)=GO ix n))) [] Z ⟨(by simp [GO]),(by simp [GO])⟩ ?_
 rintro i ao w Z ⟨aj,ak⟩ aa
 refine .s<|.s<|.g<|.r 2<|RG.Lb 0 Z<|.r 1<|.bp ((i:Int)< (ix.names.length:Int)) (fun ac=>?_) (fun ac=>.d<|.cf<|.x 0 rfl<|.s<|.g<|.r 1<|.d<|T.rt func157 results157 (vI 0) ⟨(congrArg (Value.int .i64) (by grind [nmF,Aa])),Z.xt⟩)
 refine .d<|.ct<|.sk<|.s<|.b 1<|.s<|.g<|.r 1<|RG.Lb 0 Z<|.r 1<|gxb ix.names i fun ab E al ae=>RG.Ix 2 E Z<|Z.el 2 E fun aq ar Z=>RG.Lh 0 0 Z<|RG.C0 (HP ab (Z.a 1) (by grind [FX]) (by grind [FX])) Z fun w Z=>.r 1<|RG.C0 (HP n (Z.a 2) (by grind [FX]) (by grind [FX])) Z fun w Z=>RG.eqv (v:=.bool ((text ab==text n))) AA (Vi (text ab) (text n)) ?_
 cases am:(text ab==text n)
 ·exact .d<|.cf<|.sk<|.ib 1<|.g<|.r 1<|.it ((i:Int)+1)<|.r 1<|.d<|aa (i+1) _ _ AA (Z.to 0 [] 2) ⟨AB,(by grind [nmF])⟩ (by (simp only []; omega))
 exact .d<|.ct<|.s<|.g<|.r 1<|.it ((i:Int)+1)<|.r 1<|.d<|T.rt func157 results157 (vI ((i:Int)+1)) ⟨(congrArg (Value.int .i64) (by grind [nmF,Aa])),Z.xt⟩
theorem FY (d:Dsk) (num:Int) (h1:RepS w F a1 n1 c1 d.files) (h2:RepS w F a2 n2 c2 d.list) (h3:RepS w F a3 n3 c3 d.names)  : Calls Tryz.prog 162 [.agg #[.slice a1 n1 c1,.slice a2 n2 c2,.slice a3 n3 c3,.int .i64 d.next],.int .i64 num].toArray w (Al fun rv w'=>rv=.bool ((d.list.contains num))∧Ext w w'):=by
 cases h1.len
 cases h2.len
 cases h3.len
 refine goT func162 ?_
 have Z:=(((St.i0 F w).p h1).p h2).p h3
 have ai:=h2.max
 refine .s<|.g<|RG.Np Z fun af w Z=>.r 1<|.d<|.s<|.s<|.g<|.r 1<|.d<|.b 0<|T.Lp (0:Nat) (fun i=>([(1,vI num),(2,vP af),(5,vI (i:Int))],[],[],d.list.length - i,(i≤d.list.length)∧((d.list.drop i).contains num=d.list.contains num))) [] Z ⟨AD,AD⟩ ?_
 rintro i ao w Z ⟨ak,al⟩ aa
 refine .s<|.s<|.g<|.r 2<|RG.Lb 0 Z<|.r 1<|.bp ((i:Int)< (d.list.length:Int)) (fun ab=>?_) (fun ab=>.d<|.cf<|.x 0 rfl<|.s<|.g<|.r 1<|.d<|T.rt func162 results162 (.bool false) ⟨(AG (by grind [Aa])),Z.xt⟩)
 exact .d<|.ct<|.sk<|.s<|.b 1<|.s<|.g<|.r 1<|RG.Lb 0 Z<|.r 1<|gxd d.list i fun ag E am=>RG.Ix 1 E Z<|Z.el 1 E fun Z=>RG.Lh 0 0 Z<|.r 1<|.eq ag num (fun ac=>.d<|.ct<|.s<|.g<|.r 1<|.d<|T.rt func162 results162 (.bool true) ⟨(AG (by grind [Aa])),Z.xt⟩) fun ac=>.d<|.cf<|.sk<|.ib 1<|.g<|.r 1<|.it ((i:Int)+1)<|.r 1<|.d<|aa (i+1) _ _ AA (Z.to 0 [] 1) ⟨AB,(by grind)⟩ (by (simp only []; omega))
theorem KU (a:Idx) (b:Idx) (h1:RepS w F a1 n1 c1 a.names) (h2:RepS w F a2 n2 c2 a.AY) (h3:RepS w F a3 n3 c3 b.names) (h4:RepS w F a4 n4 c4 b.AY)  : Calls Tryz.prog 61 [.agg #[.slice a1 n1 c1,.slice a2 n2 c2],.agg #[.slice a3 n3 c3,.slice a4 n4 c4]].toArray w (Al fun rv w'=>rv=.bool ((a==b))∧Ext w w'):=by
 cases h1.len
 cases h2.len
 cases h3.len
 cases h4.len
 refine goT func61 ?_
 have Z:=((((St.i0 F w).p h1).p h2).p h3).p h4
 have aB:=h1.max
 have aC:=h2.max
 have aD:=h3.max
 have aE:=h4.max
 refine .s<|.g<|RG.Np Z fun ai w Z=>RG.Np Z fun aj w Z=>.r 1<|.d<|.s<|.s<|.g<|.r 1<|RG.Lb 1 Z<|.r 2<|RG.Lb 0 Z<|.r 1<|.ne (a.names.length:Int) (b.names.length:Int) (fun ak=>.r 9<|.d<|.ct<|.s<|.g<|.r 1<|.d<|T.rt func61 results61 (.bool false) ⟨(AG (by cases a; cases b; grind [Aa,Et])),Z.xt⟩) fun ak=>.r 2<|RG.Lb 1 Z<|.r 2<|RG.Lb 0 Z<|.r 1<|.ne (a.AY.length:Int) (b.AY.length:Int) (fun al=>.r 1<|.d<|.ct<|.s<|.g<|.r 1<|.d<|T.rt func61 results61 (.bool false) ⟨(AG (by cases a; cases b; grind [Aa,Et])),Z.xt⟩) fun al=>.r 1<|.d<|.cf<|.sk<|.s<|.s<|.g<|.r 1<|.d<|.b 0<|T.Lp (0:Nat) (fun k=>([(2,vP ai),(3,vP aj),(5,vI (k:Int))],[],[],a.names.length - k,(k≤a.names.length)∧(a.names.drop k=b.names.drop k↔a.names=b.names))) [] Z ⟨AD,AD⟩ ?_
 rintro k aR w Z ⟨aF,aG⟩ ae
 refine .s<|.s<|.g<|.r 2<|RG.Lb 1 Z<|.r 1<|.bp ((k:Int)< (a.names.length:Int)) (fun am=>?_) (fun am=>?_)
 ·refine .d<|.ct<|.sk<|.s<|.b 1<|.s<|T.Gd 10 Z fun w Z=>.r [0]<|GA.Lb 1 1 Z<|.r [2]<|gxb a.names k fun ao ab aH ax=>GA.Ix 3 3 ab Z<|Z.el 3 ab fun aS aT Z=>GA.Lh 4 0 0 Z<|.r [5]<|GA.Lb 6 0 Z<|.r [7]<|gxb b.names k fun aq ac aI ay=>GA.Ix 8 3 ac Z<|Z.el 3 ac fun aU aV Z=>GA.Lh 9 0 0 Z<|GA.Dn Z fun w Z=>RG.C0 (HN ao aq (Z.a 3) (Z.a 1)) Z fun w Z=>?_
  cases aJ:(ao==aq)
  ·exact .r 1<|.d<|.ct<|.s<|.g<|.r 1<|.d<|T.rt func61 results61 (.bool false) ⟨(AG (by cases a; cases b; grind [Aa,Et])),Z.xt⟩
  exact .r 1<|.d<|.cf<|.sk<|.ib 1<|.g<|.r 1<|.it ((k:Int)+1)<|.r 1<|.d<|ae (k+1) _ _ AA (Z.to 0 [] 4) ⟨AB,(by grind)⟩ (by (simp only []; omega))
 refine .d<|.cf<|.x 0 rfl<|.s<|.s<|.g<|.r 1<|.d<|.b 2<|T.Lp (0:Nat) (fun k=>([(2,vP ai),(3,vP aj),(6,vI (k:Int))],[],[],a.AY.length - k,(k≤a.AY.length)∧(a.names=b.names)∧(a.AY.drop k=b.AY.drop k↔a.AY=b.AY))) [] Z ⟨(by grind [Aa]),(by grind [Aa]),(by grind [Aa])⟩ ?_
 rintro k aW w Z ⟨aK,aL,aM⟩ af
 refine .s<|.s<|.g<|.r 2<|RG.Lb 1 Z<|.r 1<|.bp ((k:Int)< (a.AY.length:Int)) (fun ar=>?_) (fun ar=>.d<|.cf<|.x 2 rfl<|.s<|.g<|.r 1<|.d<|T.rt func61 results61 (.bool true) ⟨(AG (by cases a; cases b; grind [Aa,Et])),Z.xt⟩)
 refine .d<|.ct<|.sk<|.s<|.b 3<|.s<|T.Gd 26 Z fun w Z=>.r [0]<|GA.Lb 1 1 Z<|.r [2]<|gxb a.AY k fun ag E aN az=>GA.Ix 3 2 E Z<|.r [4]<|Z.el 2 E fun aX aY Z=>GA.Lg 5 0 0 Z<|.r [6]<|GA.Lb 7 0 Z<|.r [8]<|gxb b.AY k fun ah aa aO aA=>GA.Ix 9 2 aa Z<|.r [10]<|Z.el 2 aa fun aZ ba Z=>GA.Lg 11 0 0 Z<|GA.O8 (i:=12) (t:=61) (x:=ag.tag) (y:=ah.tag) AA AA AA ?_
 cases aP:(ag.tag==ah.tag)
 ·exact .r [13]<|GA.Sk Z fun w Z=>.r 3<|.d<|.ct<|.s<|.g<|.r 1<|.d<|T.rt func61 results61 (.bool false) ⟨(AG (by cases a; cases b; grind [Aa,Et])),Z.xt⟩
 refine .r [13,14]<|GA.Lb 15 1 Z<|.r [16]<|GA.Ix 17 6 E Z<|.r [18]<|GA.Lh 19 2 2 Z<|.r [20]<|GA.Lb 21 0 Z<|.r [22]<|GA.Ix 23 4 aa Z<|.r [24]<|GA.Lh 25 0 2 Z<|GA.Dn Z fun w Z=>RG.C0 (FK ag.ids ah.ids (Z.a 3) (Z.a 1)) Z fun w Z=>?_
 cases aQ:(ag.ids==ah.ids)
 ·exact .r 2<|.d<|.ct<|.s<|.g<|.r 1<|.d<|T.rt func61 results61 (.bool false) ⟨(AG (by cases a; cases b; grind [Aa,Et])),Z.xt⟩
 exact .r 2<|.d<|.cf<|.sk<|.ib 3<|.g<|.r 1<|.it ((k:Int)+1)<|.r 1<|.d<|af (k+1) _ _ AA (Z.to 0 [] 4) ⟨(by grind [Et]),(by grind [Et]),(by grind [Et])⟩ (by (simp only []; omega))
theorem KV (a:Sto) (b:Sto) (h1:RepS w F a1 n1 c1 a.idx.names) (h2:RepS w F a2 n2 c2 a.idx.AY) (h3:RepS w F a3 n3 c3 a.parts) (h4:RepS w F a4 n4 c4 a.mem) (h5:RepS w F a5 n5 c5 b.idx.names) (h6:RepS w F a6 n6 c6 b.idx.AY) (h7:RepS w F a7 n7 c7 b.parts) (h8:RepS w F a8 n8 c8 b.mem)  : Calls Tryz.prog 25 [.agg #[.slice a1 n1 c1,.slice a2 n2 c2,.slice a3 n3 c3,.slice a4 n4 c4],.agg #[.slice a5 n5 c5,.slice a6 n6 c6,.slice a7 n7 c7,.slice a8 n8 c8]].toArray w (Al fun rv w'=>rv=.bool ((a==b))∧Ext w w'):=by
 cases h1.len
 cases h2.len
 cases h3.len
 cases h4.len
 cases h5.len
 cases h6.len
 cases h7.len
 cases h8.len
 refine goT func25 ?_
 have Z:=((((((((St.i0 F w).p h1).p h2).p h3).p h4).p h5).p h6).p h7).p h8
 have aB:=h1.max
 have aC:=h2.max
 have aD:=h3.max
 have aE:=h4.max
 have aF:=h5.max
 have aG:=h6.max
 have aH:=h7.max
 have aI:=h8.max
 refine .s<|.g<|RG.Np Z fun ag w Z=>RG.Np Z fun ah w Z=>.r 1<|.d<|.s<|.s<|.g<|.r 1<|RG.Ln 1 Z<|.r 1<|RG.Ln 0 Z<|RG.C0 (KU a.idx b.idx (Z.a 7) (Z.a 6) (Z.a 3) (Z.a 2)) Z fun w Z=>?_
 cases aJ:(a.idx==b.idx)
 ·exact .r 19<|.d<|.ct<|.s<|.g<|.r 1<|.d<|T.rt func25 results25 (.bool false) ⟨(AG (by cases a; cases b; grind [Aa])),Z.xt⟩
 refine .r 3<|RG.Lb 1 Z<|.r 2<|RG.Lb 0 Z<|.r 1<|.ne (a.parts.length:Int) (b.parts.length:Int) (fun ai=>.r 10<|.d<|.ct<|.s<|.g<|.r 1<|.d<|T.rt func25 results25 (.bool false) ⟨(AG (by cases a; cases b; grind [Aa])),Z.xt⟩) fun ai=>.r 3<|RG.Lb 1 Z<|.r 2<|RG.Lb 0 Z<|.r 1<|.ne (a.mem.length:Int) (b.mem.length:Int) (fun aj=>.r 1<|.d<|.ct<|.s<|.g<|.r 1<|.d<|T.rt func25 results25 (.bool false) ⟨(AG (by cases a; cases b; grind [Aa])),Z.xt⟩) fun aj=>.r 1<|.d<|.cf<|.sk<|.s<|.s<|.g<|.r 1<|.d<|.b 0<|T.Lp (0:Nat) (fun k=>([(2,vP ag),(3,vP ah),(5,vI (k:Int))],[],[],a.parts.length - k,(k≤a.parts.length)∧(a.idx=b.idx)∧(a.parts.drop k=b.parts.drop k↔a.parts=b.parts))) [] Z ⟨(by grind),(by grind),(by grind)⟩ ?_
 rintro k aX w Z ⟨aK,aL,aM⟩ ae
 refine .s<|.s<|.g<|.r 2<|RG.Lb 1 Z<|.r 1<|.bp ((k:Int)< (a.parts.length:Int)) (fun ak=>?_) (fun ak=>?_)
 ·refine .d<|.ct<|.sk<|.s<|.b 1<|.s<|T.Gd 10 Z fun w Z=>.r [0]<|GA.Lb 1 1 Z<|.r [2]<|gxb a.parts k fun al E aN ax=>GA.Ix 3 5 E Z<|Z.el 5 E fun aY aZ ba bd Z=>GA.Lg 4 0 0 Z<|.r [5]<|GA.Lb 6 0 Z<|.r [7]<|gxb b.parts k fun am aa aO ay=>GA.Ix 8 4 aa Z<|Z.el 4 aa fun bg bh bi bj Z=>GA.Lg 9 0 0 Z<|GA.Dn Z fun w Z=>RG.C0 (HQ al am (Z.a 4) (Z.a 5) (Z.a 1) (Z.a 2)) Z fun w Z=>?_
  cases aP:(al==am)
  ·exact .r 1<|.d<|.ct<|.s<|.g<|.r 1<|.d<|T.rt func25 results25 (.bool false) ⟨(AG (by cases a; cases b; grind [Aa])),Z.xt⟩
  exact .r 1<|.d<|.cf<|.sk<|.ib 1<|.g<|.r 1<|.it ((k:Int)+1)<|.r 1<|.d<|ae (k+1) _ _ AA (Z.to 0 [] 6) ⟨(by grind),(by grind),(by grind)⟩ (by (simp only []; omega))
 refine .d<|.cf<|.x 0 rfl<|.s<|.s<|.g<|.r 1<|.d<|.b 2<|T.Lp (0:Nat) (fun k=>([(2,vP ag),(3,vP ah),(6,vI (k:Int))],[],[],a.mem.length - k,(k≤a.mem.length)∧(a.idx=b.idx)∧(a.parts=b.parts)∧(a.mem.drop k=b.mem.drop k↔a.mem=b.mem))) [] Z ⟨(by grind [Aa]),(by grind [Aa]),(by grind [Aa]),(by grind [Aa])⟩ ?_
 rintro k bk w Z ⟨aQ,aR,aS,aT⟩ af
 refine .s<|.s<|.g<|.r 2<|RG.Lb 1 Z<|.r 1<|.bp ((k:Int)< (a.mem.length:Int)) (fun ao=>?_) (fun ao=>.d<|.cf<|.x 2 rfl<|.s<|.g<|.r 1<|.d<|T.rt func25 results25 (.bool true) ⟨(AG (by cases a; cases b; grind [Aa])),Z.xt⟩)
 refine .d<|.ct<|.sk<|.s<|.b 3<|.s<|T.Gd 10 Z fun w Z=>.r [0]<|GA.Lb 1 1 Z<|.r [2]<|gxb a.mem k fun aq ab aU az=>GA.Ix 3 4 ab Z<|Z.el 4 ab fun Z=>GA.Lg 4 0 0 Z<|.r [5]<|GA.Lb 6 0 Z<|.r [7]<|gxb b.mem k fun ar ac aV aA=>GA.Ix 8 1 ac Z<|Z.el 1 ac fun Z=>GA.Lg 9 0 0 Z<|GA.Dn Z fun w Z=>RG.UA (t:=107) (x:=aq) (y:=ar) AA AA ?_
 cases aW:(aq==ar)
 ·exact .d<|.ct<|.s<|.g<|.r 1<|.d<|T.rt func25 results25 (.bool false) ⟨(AG (by cases a; cases b; grind [Aa])),Z.xt⟩
 exact .d<|.cf<|.sk<|.ib 3<|.g<|.r 1<|.it ((k:Int)+1)<|.r 1<|.d<|af (k+1) _ _ AA (Z.to 0 [] 2) ⟨(by grind),(by grind),(by grind),(by grind)⟩ (by (simp only []; omega))
end Go.Proofs.YtckdhcbbgmiccaaGreat
namespace Go.Proofs.YtckdhcbbgmiccaaGreat
def H3 (k v:Nat):Tag:=⟨[UInt8.ofNat k],[UInt8.ofNat v]⟩
def FZ (names:List (List Tag)) (t:Tag):List Pst:=if (ids names t).length > 0 then [⟨t,ids names t⟩] else []
def Fv (names:List (List Tag)) (k:Nat):Nat→Nat→List Pst
 | 0,_=>[]
 | f+1,v=>FZ names (H3 k v)++Fv names k f (v+1)
def Fw (names:List (List Tag)):Nat→Nat→List Pst
 | 0,_=>[]
 | f+1,k=>Fv names k 11 112++Fw names f (k+1)
def Dd (names:List (List Tag)):List Pst:=Fw names 4 97
def idxOf (names:List (List Tag)):Idx:=⟨names,Dd names⟩
def BO (ix:Idx) (n:List Tag):Idx × Int × Bool :=
 if GO ix n > 0 then (ix,GO ix n,true)
 else if !Aq n || decide (ix.names.length≥6) then (ix,0,false)
 else (idxOf (ix.names++[n]),(ix.names.length:Int)+1,true)
def GP (bl:List (List Row)) (m:Smp):List (List Row):=bl.set (m.id - 1).toNat (EA (bl.getD (m.id - 1).toNat []) m.row)
def Ai (mem:List Smp):Prt:=Dv (mem.foldl GP [[],[],[],[],[],[]])
theorem Qu (bl:List (List Row)) (m:Smp):(GP bl m).length=bl.length:=by simp [GP]
theorem S3 {l:List Smp}{i:Nat}{xs:List (List Row)}{m:Smp}{x:List Row}{Y:List (List Row)}(hi:(l.drop i).foldl GP xs=Y) (hd:l.drop i=m::l.drop (i+1)) (hx:xs[(m.id - 1).toNat]? = some x) :
 (l.drop (i+1)).foldl GP (xs.set (m.id - 1).toNat (EA x m.row))=Y:=by
 rw [hd,List.foldl_cons] at hi
 have:GP xs m=xs.set (m.id - 1).toNat (EA x m.row):=by unfold GP; rw [List.getD_eq_getElem?_getD,hx]; rfl
 rw [this] at hi
 exact hi
theorem Um {xs:List (List Row)}{j i:Nat}{x:List Row}{r:Row}(h:∀ b∈xs,b.length≤i) (hx:xs[j]? = some x):∀ b∈xs.set j (EA x r),b.length≤i+1:=by
 intro b hb
 rcases List.mem_or_eq_of_mem_set hb with hb | rfl
 ·have:=h b hb; omega
 ·have h1:=h x (AV hx)
  have h2:=DE x r
  omega
theorem Ik (names:List (List Tag)) (k v:Nat) (h:v≤122):Fv names k (123 - v) v=FZ names (H3 k v)++Fv names k (123 - (v+1)) (v+1):=by
 rw [show 123 - v=(123 - (v+1))+1 by omega]
 rfl
theorem Pr (names:List (List Tag)) (k:Nat) (h:k≤100):Fw names (101 - k) k=Fv names k 11 112++Fw names (101 - (k+1)) (k+1):=by
 rw [show 101 - k=(101 - (k+1))+1 by omega]
 rfl
theorem OF (names:List (List Tag)) (k v:Nat) (h:123≤v):Fv names k (123 - v) v=[]:=by
 rw [show 123 - v=0 by omega]; rfl
theorem OG (names:List (List Tag)) (k:Nat) (h:101≤k):Fw names (101 - k) k=[]:=by
 rw [show 101 - k=0 by omega]; rfl
end Go.Proofs.YtckdhcbbgmiccaaGreat
namespace Go.Proofs.YtckdhcbbgmiccaaGreat
set_option maxRecDepth 100000
set_option maxHeartbeats 4000000
variable {w:World} {F:Nat→Prop} {a1 a2 a3 a4:Option Addr} {n1 c1 n2 c2 n3 c3 n4 c4:Nat}
theorem Ej (names:List (List Tag)) (h1:RepS w F a1 n1 c1 names) (p0:names.length≤1000) (p1:∀ n∈names,FX n):Calls Tryz.prog 135 [.slice a1 n1 c1].toArray w (Al fun rv w'=>VS (ge w.heap.size) w' (idxOf names:Idx) rv∧Ext w w'):=by
 cases h1.len
 refine goT func135 ?_
 have Z:=(St.i0 F w).p h1
 refine .s<|.g<|RG.Np Z fun ac w Z=>.d<|.s<|.g<|RG.N0 Pst 0 Z fun ah w Z=>.r 1<|.d<|.s<|.s<|.g<|.r 1<|.d<|.b 0<|T.Lp (([]:List Pst),ah,(0:Nat),(97:Nat)) (fun (AY,r_posts,c_posts,k)=>([(0,.slice a1 names.length c1),(2,vP ac),(3,vS r_posts AY.length c_posts),(4,.int .i32 (k:Int))],[(0,.own 0 r_posts 135 c_posts AY)],[],101 - k,(97≤k)∧(k≤101)∧(AY.length≤11 * (k - 97))∧(AY++Fw names (101 - k) k=Dd names))) [] Z ⟨AB,AB,(by simp [Dd]),(by simp [Dd])⟩ ?_
 rintro ⟨AY,r_posts,c_posts,k⟩ aC w Z ⟨al,am,ao,aq⟩ ab
 refine .s<|.s<|.g<|.r 1<|.bp ((k:Int)≤100) (fun ae=>?_) (fun ae=>?_)
 ·refine .d<|.ct<|.sk<|.s<|.b 1<|.s<|.g<|.r 1<|.d<|.b 2<|T.Lp ((AY:List Pst),r_posts,c_posts,(112:Nat)) (fun (E,r_posts1,c_posts1,v)=>([(0,.slice a1 names.length c1),(2,vP ac),(3,vS r_posts1 E.length c_posts1),(4,.int .i32 (k:Int)),(5,.int .i32 (v:Int))],[(0,.own 0 r_posts1 135 c_posts1 E)],[],123 - v,(112≤v)∧(v≤123)∧(97≤k)∧(k≤100)∧(E.length≤11 * (k - 97)+(v - 112))∧(E++Fv names k (123 - v) v++Fw names (101 - (k+1)) (k+1)=Dd names))) [] Z ⟨AB,AB,AB,AB,AB,(by grind [Pr])⟩ ?_
  rintro ⟨E,r_posts1,c_posts1,v⟩ aD w Z ⟨ar,ax,ay,az,aA,aB⟩ aa
  exact .s<|.s<|.g<|.r 1<|.bp ((v:Int)≤122) (fun af=>.d<|.ct<|.sk<|.s<|.b 3<|.s<|.g<|.r 1<|RG.eqv (v:=.string (bs [UInt8.ofNat k])) AA (UB k AB)<|.r 1<|RG.eqv (v:=.string (bs [UInt8.ofNat v])) AA (UB v AB)<|.r 1<|RG.Np Z fun aE w Z=>RG.Ss 0 Z fun w Z=>.d<|.s<|.g<|.r 1<|RG.Ln 0 Z<|RG.CL (K8 names (⟨[UInt8.ofNat k],[UInt8.ofNat v]⟩:Tag) (Z.a 0) AB) Z fun aF aG w Z=>.r 1<|.d<|.s<|.g<|.r 2<|.bp ((((ids names (⟨[UInt8.ofNat k],[UInt8.ofNat v]⟩:Tag)).length):Int) > 0) (fun ag=>.d<|.ct<|.g<|.r 1<|RG.Ln 0 Z<|.r 2<|RG.Nb 1 Z fun aH w Z=>RG.Ap 1 0 E (⟨(⟨[UInt8.ofNat k],[UInt8.ofNat v]⟩:Tag),ids names (⟨[UInt8.ofNat k],[UInt8.ofNat v]⟩:Tag)⟩:Pst) [0] Z fun ai aj w Z=>.r 1<|.d<|.ib 3<|.g<|.r 1<|RG.int32 ((v:Int)+1) AA AB<|.r 1<|.d<|aa ((E++[(⟨(⟨[UInt8.ofNat k],[UInt8.ofNat v]⟩:Tag),ids names (⟨[UInt8.ofNat k],[UInt8.ofNat v]⟩:Tag)⟩:Pst)]),ai,aj,v+1) _ _ AA (Z.to 1 [] 1) ⟨AB,AB,AB,AB,(by grind [Ik,FZ,H3]),(by grind [Ik,FZ,H3])⟩ (by (simp only []; omega))) fun ag=>.d<|.cf<|.sk<|.ib 3<|.g<|.r 1<|RG.int32 ((v:Int)+1) AA AB<|.r 1<|.d<|aa (E,r_posts1,c_posts1,v+1) _ _ AA (Z.to 1 [] 1) ⟨AB,AB,AB,AB,AB,(by grind [Ik,FZ,H3])⟩ (by (simp only []; omega))) fun af=>.d<|.cf<|.x 2 rfl<|.ib 1<|.g<|.r 1<|RG.int32 ((k:Int)+1) AA AB<|.r 1<|.d<|ab (E,r_posts1,c_posts1,k+1) _ _ AA (Z.to 0 [] 0) ⟨AB,AB,AB,(by grind [OF])⟩ (by (simp only []; omega))
 refine .d<|.cf<|.x 0 rfl<|.s<|.g<|.r 1<|RG.CO 0 (BN names (Z.a 0) (by grind [FX]) (by grind [FX])) Z fun aI aJ w Z=>.r 2<|RG.Ss 2 Z fun w Z=>.d ?_
 have Z:=(Z.sl 0).sl 0
 exact T.Rb 0 func135 results135 Z ⟨Z.rS (⟨names,AY⟩:Idx) [1,0] (by grind [idxOf,OG]),Z.xt⟩
theorem EM (s:Sto) (h1:RepS w F a1 n1 c1 s.idx.names) (h2:RepS w F a2 n2 c2 s.idx.AY) (h3:RepS w F a3 n3 c3 s.parts) (h4:RepS w F a4 n4 c4 s.mem) (p0:s.mem.length≤1000) (p1:∀ m∈s.mem,1≤m.id∧m.id≤6):Calls Tryz.prog 129 [.agg #[.slice a1 n1 c1,.slice a2 n2 c2,.slice a3 n3 c3,.slice a4 n4 c4]].toArray w (Al fun rv w'=>VS (ge w.heap.size) w' (Ai s.mem:Prt) rv∧Ext w w'):=by
 cases h1.len
 cases h2.len
 cases h3.len
 cases h4.len
 refine goT func129 ?_
 have Z:=((((St.i0 F w).p h1).p h2).p h3).p h4
 refine .s<|.g<|RG.Np Z fun al w Z=>RG.Np Z fun am w Z=>.d<|.s<|.g<|RG.Nl 0 ([([]:List Row),([]:List Row),([]:List Row),([]:List Row),([]:List Row),([]:List Row)]:List (List Row)) [[5],[4],[3],[2],[1],[0]] ((((((Z.nl Row).nl Row).nl Row).nl Row).nl Row).nl Row) fun ag w Z=>.r 1<|.d<|.s<|.s<|.g<|.r 1<|.d<|.b 0<|T.Lp ((0:Nat),([([]:List Row),([]:List Row),([]:List Row),([]:List Row),([]:List Row),([]:List Row)]:List (List Row))) (fun (i,xs)=>([(1,vP al),(2,vP am),(3,vS ag 6 6),(4,vI (i:Int))],[(0,.own 0 ag 55 6 xs)],[],s.mem.length - i,(i≤s.mem.length)∧(xs.length=6)∧(∀ b∈xs,b.length≤i)∧((s.mem.drop i).foldl GP xs=s.mem.foldl GP [[],[],[],[],[],[]]))) [] Z ⟨AD,AD,AD,AD⟩ ?_
 rintro ⟨i,xs⟩ aE w Z ⟨ay,az,aA,aB⟩ ac
 refine .s<|.s<|.g<|.r 2<|RG.Lb 2 Z<|.r 1<|.bp ((i:Int)< (s.mem.length:Int)) (fun ah=>?_) (fun ah=>.d<|.cf<|.x 0 rfl<|.s<|.g<|.r 1<|RG.CS (GY xs (Z.ob' 0 6) AB (by intro b hb; have ae:=‹∀ b∈xs,b.length≤i› _ hb; omega)) Z fun aF aG aH aI w Z=>RG.Ss 1 Z fun w Z=>.d<|T.Rb 1 func129 results129 Z ⟨Z.rS (Dv xs) [0,1] (by have ae:=Aa (xs:=s.mem) (k:=i) AB; have ai:List.foldl GP xs (s.mem.drop i)=_:=‹_›; rw [ae] at ai; unfold Ai; rw [← ai]; rfl),Z.xt⟩)
 exact .d<|.ct<|.sk<|.s<|.b 1<|.s<|.g<|.r 1<|RG.Lb 2 Z<|.r 1<|gxb (h:=AB) s.mem i fun aa ab aC aj=>RG.Ix 6 ab Z<|.r 1<|Z.el 6 ab fun Z=>RG.Lh 0 0 Z<|.r 1<|.d<|T.Gd 15 Z fun w Z=>.r [0,1]<|GA.int (i:=2) (aa.id - 1) AA (by (have:=p1 _ ‹_›; omega))<|.r [3,4]<|GA.int (i:=5) (aa.id - 1) AA (by (have:=p1 _ ‹_›; omega))<|gxm (h:=(by (have:=p1 _ ‹_›; omega))) xs ((aa.id - 1).toNat) fun af E ak=>GA.Ko (hz:=(by (have:=p1 _ ‹_›; omega))) (hn:=(by (have:=p1 _ ‹_›; omega))) 6 0 6 (aa.id - 1) E Z<|Z.eo 0 E fun aJ aK Z=>GA.Lt 7 0 0 Z<|.r [8]<|GA.Lb 9 2 Z<|.r [10]<|GA.Ix 11 8 ab Z<|.r [12]<|GA.Lg 13 1 1 Z<|.go 14<|GE.CL (fun w Z=>Ft af aa.row (Z.a 0) (by have ae:=‹∀ b∈xs,b.length≤i› _ ‹_›; omega)) Z fun aL aM w Z=>GA.Dn Z fun w Z=>RG.Ko (hz:=(by (have:=p1 _ ‹_›; omega))) (hn:=(by (have:=p1 _ ‹_›; omega))) 0 6 (aa.id - 1) E Z<|RG.Se 0 0 0 E (EA af aa.row) [0] Z fun w Z=>.d<|.ib 1<|.g<|.r 1<|RG.int ((i:Int)+1) AA AB<|.r 1<|.d<|ac (i+1,(xs.set ((aa.id - 1).toNat) (EA af aa.row))) _ _ AA (Z.to 0 [] 3) ⟨AB,(by simp; omega),(by exact Um ‹_› ‹_›),(by exact S3 ‹_› ‹_› ‹_›)⟩ (by (simp only []; omega))
end Go.Proofs.YtckdhcbbgmiccaaGreat
namespace Go.Proofs.YtckdhcbbgmiccaaGreat
def Qv (x:Idx):Prop:=x.names.length≤1000∧∀ n∈x.names,FX n
def LV (s:Sto):Prop:=Qv s.idx∧s.parts.length≤100∧(∀ p∈s.parts,Cs p)∧s.mem.length≤900
def BD (s:Sto):Sto × Bool :=
 if s.mem.length=0∨s.parts.length≥6 then (s,false) else (⟨s.idx,s.parts++[Ai s.mem],[]⟩,true)
def Fx (ps:List Prt) (at_:Nat):List Prt:=match ps[at_]?,ps[at_+1]? with
 | some x,some y=>ps.take at_++[BB x y]++ps.drop (at_+2)
 | _,_=>ps
def BC (s:Sto) (at_:Int):Sto × Bool :=
 if inR at_ 0 ((s.parts.length:Int) - 2) then (⟨s.idx,Fx s.parts at_.toNat,s.mem⟩,true) else (s,false)
def E4 (s:Sto) (n:List Tag) (r:Row):Sto:=⟨(BO s.idx n).1,s.parts,s.mem++[⟨(BO s.idx n).2.1,r⟩]⟩
def By (s:Sto) (n:List Tag) (r:Row):Sto × Bool :=
 if !(BO s.idx n).2.2 || !BS r || decide (s.mem.length≥20) then (s,false)
 else if (rowsOf (E4 s n r) (BO s.idx n).2.1).length > 24 then (s,false) else (E4 s n r,true)
theorem Ga {ix:Idx}{n:List Tag}(h:GO ix n > 0):BO ix n=(ix,GO ix n,true):=by unfold BO; rw [if_pos h]
theorem E9 {ix:Idx}{n:List Tag}(h:¬ GO ix n > 0) (h2:Aq n=false∨(ix.names.length:Int)≥6):BO ix n=(ix,0,false):=by
 unfold BO
 rw [if_neg h,if_pos]
 rcases h2 with h2 | h2
 ·simp [h2]
 ·simp; omega
theorem Gc {ix:Idx}{n:List Tag}(h:¬ GO ix n > 0) (h2:Aq n=true) (h3:¬ (ix.names.length:Int)≥6):BO ix n=(idxOf (ix.names++[n]),(ix.names.length:Int)+1,true):=by
 unfold BO
 rw [if_neg h,if_neg]
 simp [h2]
 omega
theorem G6 {ps:List Prt}{i:Nat}{x y:Prt}(hx:ps[i]? = some x) (hy:ps[i+1]? = some y):Fx ps i=ps.take i++[BB x y]++ps.drop (i+2):=by
 simp [Fx,hx,hy]
theorem KW {s:Sto}{n:List Tag}{r:Row}(h:(BO s.idx n).2.2=false):By s n r=(s,false):=by unfold By; rw [if_pos (by simp [h])]
theorem KX {s:Sto}{n:List Tag}{r:Row}(h:BS r=false):By s n r=(s,false):=by unfold By; rw [if_pos (by simp [h])]
theorem OH {s:Sto}{n:List Tag}{r:Row}(h:(s.mem.length:Int)≥20):By s n r=(s,false):=by unfold By; rw [if_pos (by simp; omega)]
theorem Fy {s:Sto}{n:List Tag}{r:Row}(h1:(BO s.idx n).2.2=true) (h2:BS r=true) (h3:¬ (s.mem.length:Int)≥20) (h:((rowsOf (E4 s n r) (BO s.idx n).2.1).length:Int) > 24):By s n r=(s,false):=by
 unfold By; rw [if_neg (by simp [h1,h2]; omega),if_pos AB]
theorem F0 {s:Sto}{n:List Tag}{r:Row}(h1:(BO s.idx n).2.2=true) (h2:BS r=true) (h3:¬ (s.mem.length:Int)≥20) (h:¬ ((rowsOf (E4 s n r) (BO s.idx n).2.1).length:Int) > 24):By s n r=(E4 s n r,true):=by
 unfold By; rw [if_neg (by simp [h1,h2]; omega),if_neg AB]
theorem KY {s:Sto}{a:Int}(h:inR a 0 ((s.parts.length:Int) - 2)=false):BC s a=(s,false):=by unfold BC; rw [if_neg (by simp [h])]
theorem KZ {s:Sto}{a:Int}{x y:Prt}(h:inR a 0 ((s.parts.length:Int) - 2)=true) (hx:s.parts[a.toNat]? = some x) (hy:s.parts[(a+1).toNat]? = some y) :
 BC s a=(⟨s.idx,(([]++(s.parts.take a.toNat).drop 0)++[BB x y])++((s.parts.take s.parts.length).drop (a+2).toNat),s.mem⟩,true):=by
 have h1:=Bu h
 have e1:(a+1).toNat=a.toNat+1:=by omega
 have e2:(a+2).toNat=a.toNat+2:=by omega
 rw [e1] at hy
 unfold BC
 rw [if_pos h,G6 hx hy,e2]
 simp
end Go.Proofs.YtckdhcbbgmiccaaGreat
namespace Go.Proofs.YtckdhcbbgmiccaaGreat
set_option maxRecDepth 100000
set_option maxHeartbeats 4000000
variable {w:World} {F:Nat→Prop} {a1 a2 a3 a4 a5:Option Addr} {n1 c1 n2 c2 n3 c3 n4 c4 n5 c5:Nat}
theorem LB (ix:Idx) (n:List Tag) (h1:RepS w F a1 n1 c1 ix.names) (h2:RepS w F a2 n2 c2 ix.AY) (h3:RepS w F a3 n3 c3 n) (p0:Qv ix) (p1:FX n):Calls Tryz.prog 126 [.agg #[.slice a1 n1 c1,.slice a2 n2 c2],.slice a3 n3 c3].toArray w (Al fun rv w'=>(∃ v0,rv=.tuple #[v0,.int .i64 ((BO ix n).2.1),.bool ((BO ix n).2.2)]∧VS (fo F w.heap.size) w' ((BO ix n).1:Idx) v0)∧Ext w w'):=by
 cases h1.len
 cases h2.len
 cases h3.len
 refine goT func126 ?_
 have Z:=(((St.i0 F w).p h1).p h2).p h3
 have ae:=h1.max
 have ag:=h3.max
 refine .s<|.g<|RG.Np Z fun ab w Z=>RG.Np Z fun ai w Z=>.r 2<|.d<|.s<|.g<|RG.Ln 1 Z<|.r 1<|RG.C0 (MN ix n (Z.a 2) (Z.a 1) (Z.a 0) p0.1 p0.2 p1) Z fun w Z=>.r 1<|.d<|.s<|.s<|.g<|.r 1<|.bp (GO ix n > 0) (fun E=>.d<|.ct<|.s<|.g<|RG.Ln 1 Z<|.r 1<|RG.Ss 0 Z fun w Z=>.r 2<|.d<|T.r3 func126 results126 (.B 0 Z) (.t (vI (GO ix n))) (.t (.bool true)) ⟨⟨_,(MH rfl (congrArg (Value.int .i64) (by (rw [Ga ‹_›]))) (AG (by (rw [Ga ‹_›])))),Z.rS (g:=1) ix [2,1] (by (rw [Ga ‹_›]))⟩,Z.xt⟩) fun E=>.d<|.cf<|.sk<|.s<|.s<|.g<|.r 1<|RG.C0 (FL n (Z.a 0)) Z fun w Z=>?_
 cases ah:(Aq n)
 ·exact .r 7<|.d<|.ct<|.s<|.g<|RG.Ln 1 Z<|RG.Ss 0 Z fun w Z=>.r 2<|.d<|T.r3 func126 results126 (.B 0 Z) (.t (vI 0)) (.t (.bool false)) ⟨⟨_,(MH rfl (congrArg (Value.int .i64) (by (rw [E9 ‹_› (.inl ‹_›)]))) (AG (by (rw [E9 ‹_› (.inl ‹_›)])))),Z.rS (g:=1) ix [2,1] (by (rw [E9 ‹_› (.inl ‹_›)]))⟩,Z.xt⟩
 exact .r 3<|RG.Lb 1 Z<|.r 1<|.bp ((ix.names.length:Int)≥6) (fun aa=>.r 1<|.d<|.ct<|.s<|.g<|RG.Ln 1 Z<|RG.Ss 0 Z fun w Z=>.r 2<|.d<|T.r3 func126 results126 (.B 0 Z) (.t (vI 0)) (.t (.bool false)) ⟨⟨_,(MH rfl (congrArg (Value.int .i64) (by (rw [E9 ‹_› (.inr ‹_›)]))) (AG (by (rw [E9 ‹_› (.inr ‹_›)])))),Z.rS (g:=1) ix [2,1] (by (rw [E9 ‹_› (.inr ‹_›)]))⟩,Z.xt⟩) fun aa=>.r 1<|.d<|.cf<|.sk<|.s<|.g<|.r 1<|RG.Lb 1 Z<|RG.CO 1 (BN ix.names (Z.a 2) (by have:=p0.1; omega) (by intro n hn; have:=(p0.2 n hn).1; omega)) Z fun aj ak w Z=>RG.N0 Tag 1 Z fun al w Z=>.r 1<|RG.An (hs:=by (simp only [List.nil_append,List.length_nil,List.length_append,List.length_cons] <;> exact (by have:=p0.1; have:=p1.1; omega))) 0 0 ([]:List Tag) n Z fun am ao w Z=>RG.Nb 1 Z fun aq w Z=>RG.Ap (hs:=by exact (by have:=p0.1; have:=p1.1; omega)) 0 0 ix.names ([]++n) [0] (Z.sl 1) fun ar ax w Z=>RG.CS (Ej (ix.names++[([]++n)]) (Z.oa 0) (by have:=p0.1; simp; omega) (by intro m hm; simp at hm; rcases hm with hm | rfl; exact p0.2 m hm; exact p1)) Z fun ay az aA aB w Z=>RG.Np Z fun ac w Z=>RG.Ss 0 Z fun w Z=>.d<|.s<|T.GS 5 [ac,ab] Z fun _ w Z=>GA.Ln 0 0 Z<|.r [1]<|GA.Lb 2 0 Z<|.r [3]<|.go 4<|GE.Ss 2 [0,3] Z fun w Z=>GA.Do Z fun w Z=>.r 2<|.d<|T.r3 func126 results126 (.B 2 Z) (.t (vI ((((idxOf (ix.names++[([]++n)])).names).length):Int))) (.t (.bool true)) ⟨⟨_,(MH rfl (congrArg (Value.int .i64) (by (rw [Gc ‹_› ‹_› ‹_›] <;> simp [idxOf]))) (AG (by (rw [Gc ‹_› ‹_› ‹_›] <;> simp [idxOf])))),Z.rS (g:=1) (idxOf (ix.names++[([]++n)])) [0,1] (by (rw [Gc ‹_› ‹_› ‹_›] <;> simp [idxOf]))⟩,Z.xt⟩
theorem Jg (s:Sto) (h1:RepS w F a1 n1 c1 s.idx.names) (h2:RepS w F a2 n2 c2 s.idx.AY) (h3:RepS w F a3 n3 c3 s.parts) (h4:RepS w F a4 n4 c4 s.mem) (p0:s.mem.length≤1000) (p1:∀ m∈s.mem,1≤m.id∧m.id≤6):Calls Tryz.prog 74 [.agg #[.slice a1 n1 c1,.slice a2 n2 c2,.slice a3 n3 c3,.slice a4 n4 c4]].toArray w (Al fun rv w'=>(∃ v0,rv=.tuple #[v0,.bool ((BD s).2)]∧VS (fo F w.heap.size) w' ((BD s).1:Sto) v0)∧Ext w w'):=by
 cases h1.len
 cases h2.len
 cases h3.len
 cases h4.len
 refine goT func74 ?_
 have Z:=((((St.i0 F w).p h1).p h2).p h3).p h4
 have ag:=h3.max
 refine .s<|.g<|RG.Np Z fun ab w Z=>RG.Np Z fun ac w Z=>.r 1<|.d<|.s<|.s<|.g<|.r 1<|RG.Lb 1 Z<|.r 1<|.eq (s.mem.length:Int) 0 (fun E=>.r 6<|.d<|.ct<|.s<|.g<|RG.Ln 1 Z<|RG.Ss 0 Z fun w Z=>.r 1<|.d<|T.r2 func74 results74 (.B 0 Z) (.t (.bool false)) ⟨⟨_,(Br rfl (AG (by (unfold BD; (rw [if_pos AB]))))),Z.rS (g:=1) s [3,2,1,0] (by (unfold BD; (rw [if_pos AB])))⟩,Z.xt⟩) fun E=>.r 2<|RG.Lb 1 Z<|.r 1<|.bp ((s.parts.length:Int)≥6) (fun aa=>.r 1<|.d<|.ct<|.s<|.g<|RG.Ln 1 Z<|RG.Ss 0 Z fun w Z=>.r 1<|.d<|T.r2 func74 results74 (.B 0 Z) (.t (.bool false)) ⟨⟨_,(Br rfl (AG (by (unfold BD; (rw [if_pos AB]))))),Z.rS (g:=1) s [3,2,1,0] (by (unfold BD; (rw [if_pos AB])))⟩,Z.xt⟩) fun aa=>.r 1<|.d<|.cf<|.sk<|.s<|T.GS 5 [ac,ab] Z fun _ w Z=>.r [1]<|GA.Lb (q:=1) 2 1 Z<|GA.Ln (q:=1) 4 1 Z<|.go 0<|GE.N0 Prt 1 Z fun ai w Z=>.go 3<|GE.An 0 1 ([]:List Prt) s.parts [1,2] Z fun aj ak w Z=>GA.Do Z fun w Z=>RG.CS (EM s (Z.a 3) (Z.a 2) (Z.a 1) (Z.a 0) p0 p1) Z fun al am ao aq w Z=>RG.Nb 1 Z fun ar w Z=>RG.Ap 0 0 ([]++s.parts) (Ai s.mem) [0,1] Z fun ax ay w Z=>.r 1<|RG.Ss 2 Z fun w Z=>.d<|.s<|.g<|RG.N0 Smp 1 Z fun az w Z=>.r 1<|RG.Ss 3 Z fun w Z=>.d<|.s<|.g<|RG.Ln 3 Z<|RG.Ss 2 Z fun w Z=>.r 1<|.d ?_
 have Z:=(Z.sl 1).sl 0
 exact T.r2 func74 results74 (.B 0 Z) (.t (.bool true)) ⟨⟨_,(Br rfl (AG (by (unfold BD; (rw [if_neg AB] <;> simp))))),Z.rS (g:=1) (⟨(⟨s.idx.names,s.idx.AY⟩:Idx),(([]++s.parts)++[(Ai s.mem)]),([]:List Smp)⟩:Sto) [7,6,1,0] (by (unfold BD; (rw [if_neg AB] <;> simp)))⟩,Z.xt⟩
theorem Jh (s:Sto) (at_:Int) (h1:RepS w F a1 n1 c1 s.idx.names) (h2:RepS w F a2 n2 c2 s.idx.AY) (h3:RepS w F a3 n3 c3 s.parts) (h4:RepS w F a4 n4 c4 s.mem) (p0:s.parts.length≤100) (p1:∀ p∈s.parts,Cs p):Calls Tryz.prog 77 [.agg #[.slice a1 n1 c1,.slice a2 n2 c2,.slice a3 n3 c3,.slice a4 n4 c4],.int .i64 at_].toArray w (Al fun rv w'=>(∃ v0,rv=.tuple #[v0,.bool ((BC s at_).2)]∧VS (fo F w.heap.size) w' ((BC s at_).1:Sto) v0)∧Ext w w'):=by
 cases h1.len
 cases h2.len
 cases h3.len
 cases h4.len
 refine goT func77 ?_
 have Z:=((((St.i0 F w).p h1).p h2).p h3).p h4
 refine .s<|.g<|RG.Np Z fun ah w Z=>RG.Np Z fun ai w Z=>.r 1<|.d<|.s<|.s<|.g<|.r 2<|RG.Lb 1 Z<|.r 1<|RG.int ((s.parts.length:Int) - 2) AA (by grind [inR])<|RG.C0 (DG at_ 0 ((s.parts.length:Int) - 2) (F:=all)) Z fun w Z=>?_
 cases ae:(inR at_ 0 ((s.parts.length:Int) - 2))
 ·exact .r 1<|.d<|.ct<|.s<|.g<|RG.Ln 1 Z<|RG.Ss 0 Z fun w Z=>.r 1<|.d<|T.r2 func77 results77 (.B 0 Z) (.t (.bool false)) ⟨⟨_,(Br rfl (AG (by rw [KY ‹_›]))),Z.rS (g:=1) s [3,2,1,0] (by rw [KY ‹_›])⟩,Z.xt⟩
 have aq:=Bu ae
 refine .r 1<|.d<|.cf<|.sk<|.s<|.g<|RG.N0 Prt 1 Z fun ay w Z=>.r 1<|RG.Lb 2 Z<|.r 1<|RG.Sb (hlh:=(by grind [inR])) (hh:=(by grind [inR])) (hhi:=bdI at_) 1 0 (at_.toNat) s.parts Z fun az aA Z=>RG.An 0 0 ([]:List Prt) ((s.parts.take (at_.toNat)).drop 0) Z fun aB aC w Z=>.r 1<|.d<|.s<|T.GS 14 [ai,ah] Z fun _ w Z=>.r [0,1]<|GA.Lb (q:=1) 2 2 Z<|.r [3]<|gxm (h:=(by grind [inR])) s.parts (at_.toNat) fun ab E af=>GA.Jx (hz:=(by grind [inR])) 4 2 at_ E Z<|Z.el 2 E fun aD aE aF aG Z=>GA.Lg 5 0 0 Z<|.r [6]<|GA.Lb (q:=1) 7 2 Z<|.r [8]<|GA.int (i:=9) (at_+1) AA (by grind [inR])<|gxm (h:=(by grind [inR])) s.parts ((at_+1).toNat) fun ac aa ag=>GA.Jx (hz:=(by grind [inR])) 10 5 (at_+1) aa Z<|Z.el 5 aa fun aH aI aJ aK Z=>GA.Lg 11 0 0 Z<|.go 12<|GE.CS (fun w Z=>Dc ab ac (Z.a 4) (Z.a 5) (Z.a 1) (Z.a 2) (by grind) (by grind)) Z fun aL aM aN aO w Z=>.go 13<|GE.Nb 1 Z fun aP w Z=>GA.Do Z fun w Z=>RG.Ap 0 0 ([]++((s.parts.take (at_.toNat)).drop 0)) (BB ab ac) [0,1] Z fun aQ aR w Z=>.r 1<|.d<|.s<|.g<|.r 2<|RG.Lb 2 Z<|.r 1<|RG.int (at_+2) AA (by grind [inR])<|RG.Sb (hlh:=(by grind [inR])) (hh:=(by grind [inR])) (hlo:=bdI (at_+2)) 10 ((at_+2).toNat) s.parts.length s.parts Z fun aS aT Z=>RG.An 0 0 (([]++((s.parts.take (at_.toNat)).drop 0))++[(BB ab ac)]) ((s.parts.take s.parts.length).drop ((at_+2).toNat)) Z fun aU aV w Z=>.r 1<|RG.Ss 2 Z fun w Z=>.d<|.s<|.g<|RG.Ln 2 Z<|RG.Ss 1 Z fun w Z=>.r 1<|.d ?_
 have Z:=Z.sl 0
 exact T.r2 func77 results77 (.B 0 Z) (.t (.bool true)) ⟨⟨_,(Br rfl (AG (by rw [KZ ‹_› ‹_› ‹_›]))),Z.rS (g:=1) (⟨(⟨s.idx.names,s.idx.AY⟩:Idx),((([]++((s.parts.take (at_.toNat)).drop 0))++[(BB ab ac)])++((s.parts.take s.parts.length).drop ((at_+2).toNat))),s.mem⟩:Sto) [14,13,0,11] (by rw [KZ ‹_› ‹_› ‹_›])⟩,Z.xt⟩
theorem LC (s:Sto) (n:List Tag) (r:Row) (h1:RepS w F a1 n1 c1 s.idx.names) (h2:RepS w F a2 n2 c2 s.idx.AY) (h3:RepS w F a3 n3 c3 s.parts) (h4:RepS w F a4 n4 c4 s.mem) (h5:RepS w F a5 n5 c5 n) (p0:LV s) (p1:FX n):Calls Tryz.prog 73 [.agg #[.slice a1 n1 c1,.slice a2 n2 c2,.slice a3 n3 c3,.slice a4 n4 c4],.slice a5 n5 c5,.agg #[.int .i64 r.t,.int .i64 r.v]].toArray w (Al fun rv w'=>(∃ v0,rv=.tuple #[v0,.bool ((By s n r).2)]∧VS (fo F w.heap.size) w' ((By s n r).1:Sto) v0)∧Ext w w'):=by
 cases h1.len
 cases h2.len
 cases h3.len
 cases h4.len
 cases h5.len
 refine goT func73 ?_
 have Z:=(((((St.i0 F w).p h1).p h2).p h3).p h4).p h5
 have am:=h4.max
 refine .s<|.g<|RG.Np Z fun ae w Z=>RG.Np Z fun af w Z=>RG.Np Z fun ag w Z=>.r 1<|.d<|.s<|.g<|.r 1<|RG.Ln 2 Z<|.r 1<|RG.CT (us:=[vI ((BO s.idx n).2.1),.bool ((BO s.idx n).2.2)]) (LB s.idx n (Z.mg 1 4) (Z.mg 1 3) (Z.mg 1 0) p0.1 p1) Z fun ax ay az aA w Z=>.r 3 ?_
 cases aq:(BO s.idx n).2.2
 ·exact .r 1<|RG.Np Z fun aB w Z=>RG.Ss 0 Z fun w Z=>.r 2<|.d<|.s<|.s<|.g<|.r 13<|.d<|.ct<|.s<|.g<|RG.Ln 3 Z<|RG.Ss 1 Z fun w Z=>.r 1<|.d<|T.r2 func73 results73 (.B 1 Z) (.t (.bool false)) ⟨⟨_,(Br rfl (AG (by rw [KW ‹_›]))),Z.rS (g:=1) s [6,5,4,3] (by rw [KW ‹_›])⟩,Z.xt⟩
 refine .r 1<|RG.Np Z fun ah w Z=>RG.Ss 0 Z fun w Z=>.r 2<|.d<|.s<|.s<|.g<|.r 3<|RG.Ln 2 Z<|RG.C0 (MK r (F:=all)) Z fun w Z=>?_
 cases ar:(BS r)
 ·exact .r 8<|.d<|.ct<|.s<|.g<|RG.Ln 3 Z<|RG.Ss 1 Z fun w Z=>.r 1<|.d<|T.r2 func73 results73 (.B 1 Z) (.t (.bool false)) ⟨⟨_,(Br rfl (AG (by rw [KX ‹_›]))),Z.rS (g:=1) s [6,5,4,3] (by rw [KX ‹_›])⟩,Z.xt⟩
 refine .r 4<|RG.Lb 3 Z<|.r 1<|.bp ((s.mem.length:Int)≥20) (fun E=>.r 1<|.d<|.ct<|.s<|.g<|RG.Ln 3 Z<|RG.Ss 1 Z fun w Z=>.r 1<|.d<|T.r2 func73 results73 (.B 1 Z) (.t (.bool false)) ⟨⟨_,(Br rfl (AG (by rw [OH ‹_›]))),Z.rS (g:=1) s [6,5,4,3] (by rw [OH ‹_›])⟩,Z.xt⟩) fun E=>.r 1<|.d<|.cf<|.sk<|.s<|.g<|RG.Ln 3 Z<|RG.Np Z fun ai w Z=>RG.Ss 0 Z fun w Z=>.d<|.s<|.g<|RG.Ln 1 Z<|.r 1<|RG.Ss 0 Z fun w Z=>.d<|.s<|T.GS 8 [ai,ah,ag,af,ae] Z fun _ w Z=>.r [1]<|GA.Lb (q:=4) 2 4 Z<|.r [4]<|GA.Ln (q:=3) 5 3 Z<|.r [6]<|.tw 0 7 ?_ ?_
 ·refine GE.N0 Smp 1 Z fun aC w Z=>.tw 3 7 ?_ ?_
  ·refine GE.An (hs:=by (simp only [List.nil_append,List.length_nil,List.length_append,List.length_cons] <;> exact (by have:=p0.2.2.2; omega))) 0 3 ([]:List Smp) s.mem [1,2,3,4,5] Z fun aD aE w Z=>.go 7<|GE.Nb 1 Z fun aF w Z=>GA.Do Z fun w Z=>RG.Ap (hs:=by (simp only [List.nil_append,List.length_nil,List.length_append,List.length_cons] <;> exact (by have:=p0.2.2.2; omega))) 0 0 ([]++s.mem) (⟨(BO s.idx n).2.1,(⟨r.t,r.v⟩:Row)⟩:Smp) [] Z fun aG aH w Z=>.r 1<|RG.Ss 1 Z fun w Z=>.d<|.s<|.s<|.g<|RG.Ln 1 Z<|.r 1<|RG.CL (Ew (⟨(⟨(BO s.idx n).1.names,((BO s.idx n).1).AY⟩:Idx),s.parts,(([]++s.mem)++[(⟨(BO s.idx n).2.1,(⟨r.t,r.v⟩:Row)⟩:Smp)])⟩:Sto) ((BO s.idx n).2.1) (Z.a 0) (Z.a 1) (Z.a 4) (Z.oa 0) p0.2.1 p0.2.2.1 (by have:=p0.2.2.2; simp; omega)) Z fun aI aJ w Z=>.r 1<|.bp ((((rowsOf (⟨(⟨(BO s.idx n).1.names,((BO s.idx n).1).AY⟩:Idx),s.parts,(([]++s.mem)++[(⟨(BO s.idx n).2.1,(⟨r.t,r.v⟩:Row)⟩:Smp)])⟩:Sto) ((BO s.idx n).2.1)).length):Int) > 24) (fun aa=>.d<|.ct<|.s<|.g<|RG.Ln 5 Z<|RG.Ss 3 Z fun w Z=>.r 1<|.d<|T.r2 func73 results73 (.B 3 Z) (.t (.bool false)) ⟨⟨_,(Br rfl (AG (by rw [Fy ‹_› ‹_› ‹_› ‹_›]))),Z.rS (g:=1) s [7,6,5,4] (by rw [Fy ‹_› ‹_› ‹_› ‹_›])⟩,Z.xt⟩) fun aa=>.d<|.cf<|.sk<|.s<|.g<|RG.Ln 1 Z<|RG.Ss 3 Z fun w Z=>.r 1<|.d ?_
   have Z:=Z.sl 0
   exact T.r2 func73 results73 (.B 2 Z) (.t (.bool true)) ⟨⟨_,(Br rfl (AG (by (rw [F0 ‹_› ‹_› ‹_› ‹_›] <;> rfl)))),Z.rS (g:=1) (⟨(⟨(BO s.idx n).1.names,((BO s.idx n).1).AY⟩:Idx),s.parts,(([]++s.mem)++[(⟨(BO s.idx n).2.1,(⟨r.t,r.v⟩:Row)⟩:Smp)])⟩:Sto) [2,3,6,0] (by (rw [F0 ‹_› ‹_› ‹_› ‹_›] <;> rfl))⟩,Z.xt⟩
  refine GE.Nb 1 Z fun aK w Z=>.go 3<|GE.An (hs:=by (simp only [List.nil_append,List.length_nil,List.length_append,List.length_cons] <;> exact (by have:=p0.2.2.2; omega))) 1 3 ([]:List Smp) s.mem [2,3,4,5,6] Z fun aL aM w Z=>GA.Do Z fun w Z=>RG.Ap (hs:=by (simp only [List.nil_append,List.length_nil,List.length_append,List.length_cons] <;> exact (by have:=p0.2.2.2; omega))) 0 0 ([]++s.mem) (⟨(BO s.idx n).2.1,(⟨r.t,r.v⟩:Row)⟩:Smp) [] Z fun aN aO w Z=>.r 1<|RG.Ss 1 Z fun w Z=>.d<|.s<|.s<|.g<|RG.Ln 1 Z<|.r 1<|RG.CL (Ew (⟨(⟨(BO s.idx n).1.names,((BO s.idx n).1).AY⟩:Idx),s.parts,(([]++s.mem)++[(⟨(BO s.idx n).2.1,(⟨r.t,r.v⟩:Row)⟩:Smp)])⟩:Sto) ((BO s.idx n).2.1) (Z.a 0) (Z.a 1) (Z.a 4) (Z.oa 0) p0.2.1 p0.2.2.1 (by have:=p0.2.2.2; simp; omega)) Z fun aP aQ w Z=>.r 1<|.bp ((((rowsOf (⟨(⟨(BO s.idx n).1.names,((BO s.idx n).1).AY⟩:Idx),s.parts,(([]++s.mem)++[(⟨(BO s.idx n).2.1,(⟨r.t,r.v⟩:Row)⟩:Smp)])⟩:Sto) ((BO s.idx n).2.1)).length):Int) > 24) (fun ab=>.d<|.ct<|.s<|.g<|RG.Ln 5 Z<|RG.Ss 3 Z fun w Z=>.r 1<|.d<|T.r2 func73 results73 (.B 3 Z) (.t (.bool false)) ⟨⟨_,(Br rfl (AG (by rw [Fy ‹_› ‹_› ‹_› ‹_›]))),Z.rS (g:=1) s [7,6,5,4] (by rw [Fy ‹_› ‹_› ‹_› ‹_›])⟩,Z.xt⟩) fun ab=>.d<|.cf<|.sk<|.s<|.g<|RG.Ln 1 Z<|RG.Ss 3 Z fun w Z=>.r 1<|.d ?_
  have Z:=Z.sl 0
  exact T.r2 func73 results73 (.B 2 Z) (.t (.bool true)) ⟨⟨_,(Br rfl (AG (by (rw [F0 ‹_› ‹_› ‹_› ‹_›] <;> rfl)))),Z.rS (g:=1) (⟨(⟨(BO s.idx n).1.names,((BO s.idx n).1).AY⟩:Idx),s.parts,(([]++s.mem)++[(⟨(BO s.idx n).2.1,(⟨r.t,r.v⟩:Row)⟩:Smp)])⟩:Sto) [2,3,6,0] (by (rw [F0 ‹_› ‹_› ‹_› ‹_›] <;> rfl))⟩,Z.xt⟩
 refine GE.Nb 1 Z fun aR w Z=>.go 0<|GE.N0 Smp 1 Z fun aS w Z=>.go 3<|GE.An (hs:=by (simp only [List.nil_append,List.length_nil,List.length_append,List.length_cons] <;> exact (by have:=p0.2.2.2; omega))) 0 3 ([]:List Smp) s.mem [2,3,4,5,6] Z fun aT aU w Z=>GA.Do Z fun w Z=>RG.Ap (hs:=by (simp only [List.nil_append,List.length_nil,List.length_append,List.length_cons] <;> exact (by have:=p0.2.2.2; omega))) 0 1 ([]++s.mem) (⟨(BO s.idx n).2.1,(⟨r.t,r.v⟩:Row)⟩:Smp) [] Z fun aV aW w Z=>.r 1<|RG.Ss 1 Z fun w Z=>.d<|.s<|.s<|.g<|RG.Ln 1 Z<|.r 1<|RG.CL (Ew (⟨(⟨(BO s.idx n).1.names,((BO s.idx n).1).AY⟩:Idx),s.parts,(([]++s.mem)++[(⟨(BO s.idx n).2.1,(⟨r.t,r.v⟩:Row)⟩:Smp)])⟩:Sto) ((BO s.idx n).2.1) (Z.a 0) (Z.a 1) (Z.a 4) (Z.oa 0) p0.2.1 p0.2.2.1 (by have:=p0.2.2.2; simp; omega)) Z fun aX aY w Z=>.r 1<|.bp ((((rowsOf (⟨(⟨(BO s.idx n).1.names,((BO s.idx n).1).AY⟩:Idx),s.parts,(([]++s.mem)++[(⟨(BO s.idx n).2.1,(⟨r.t,r.v⟩:Row)⟩:Smp)])⟩:Sto) ((BO s.idx n).2.1)).length):Int) > 24) (fun ac=>.d<|.ct<|.s<|.g<|RG.Ln 5 Z<|RG.Ss 3 Z fun w Z=>.r 1<|.d<|T.r2 func73 results73 (.B 3 Z) (.t (.bool false)) ⟨⟨_,(Br rfl (AG (by rw [Fy ‹_› ‹_› ‹_› ‹_›]))),Z.rS (g:=1) s [7,6,5,4] (by rw [Fy ‹_› ‹_› ‹_› ‹_›])⟩,Z.xt⟩) fun ac=>.d<|.cf<|.sk<|.s<|.g<|RG.Ln 1 Z<|RG.Ss 3 Z fun w Z=>.r 1<|.d ?_
 have Z:=Z.sl 0
 exact T.r2 func73 results73 (.B 2 Z) (.t (.bool true)) ⟨⟨_,(Br rfl (AG (by (rw [F0 ‹_› ‹_› ‹_› ‹_›] <;> rfl)))),Z.rS (g:=1) (⟨(⟨(BO s.idx n).1.names,((BO s.idx n).1).AY⟩:Idx),s.parts,(([]++s.mem)++[(⟨(BO s.idx n).2.1,(⟨r.t,r.v⟩:Row)⟩:Smp)])⟩:Sto) [2,3,6,0] (by (rw [F0 ‹_› ‹_› ‹_› ‹_›] <;> rfl))⟩,Z.xt⟩
end Go.Proofs.YtckdhcbbgmiccaaGreat
namespace Go.Proofs.YtckdhcbbgmiccaaGreat
def AZ (s:Sto):Sto:=⟨idxOf s.idx.names,s.parts,s.mem⟩
def BJ (d:Dsk):Dsk:=⟨d.files.filter (fun f=>d.list.contains f.num),d.list,d.names,d.next⟩
def Aw (d:Dsk) (s:Sto):List Stp :=
 if s.mem.length=0∨d.list.length≥6∨d.next≥999∨d.files.length≥20 then []
 else [⟨1,d.next,Ai s.mem,[],[]⟩,⟨2,0,⟨[],[]⟩,d.list++[d.next],s.idx.names⟩]
theorem EH {d:Dsk}{s:Sto}(h:(s.mem.length:Int)=0∨(d.list.length:Int)≥6∨d.next≥999∨(d.files.length:Int)≥20):Aw d s=[]:=by unfold Aw; rw [if_pos AB]
theorem DI {d:Dsk}{s:Sto}(h1:(s.mem.length:Int)≠0) (h2:¬ (d.list.length:Int)≥6) (h3:¬ d.next≥999) (h4:¬ (d.files.length:Int)≥20) :
 Aw d s=[⟨1,d.next,Ai s.mem,[],[]⟩,⟨2,0,⟨[],[]⟩,d.list++[d.next],s.idx.names⟩]:=by unfold Aw; rw [if_neg AB]
theorem PD {α:Type}{l:List (List α)}{i:Nat}{k:List (List α)}{q:List α}(h:k++l.drop i=l) (hd:l.drop i=q::l.drop (i+1)):(k++[[]++q])++l.drop (i+1)=l:=by
 rw [hd] at h
 simpa using h
theorem Qw {l:List Prt}{i:Nat}{k:List Prt}{q:Prt}{a:List Int}{b:List (List Row)}(h:k++l.drop i=l) (hd:l.drop i=q::l.drop (i+1)) (ha:a=q.ids) (hb:b=q.blocks):(k++[⟨a,b⟩])++l.drop (i+1)=l:=by
 subst ha hb
 rw [hd] at h
 simpa using h
end Go.Proofs.YtckdhcbbgmiccaaGreat
namespace Go.Proofs.YtckdhcbbgmiccaaGreat
set_option maxRecDepth 100000
set_option maxHeartbeats 4000000
variable {w:World} {F:Nat→Prop} {a1 a2 a3 a4 a5 a6 a7:Option Addr} {n1 c1 n2 c2 n3 c3 n4 c4 n5 c5 n6 c6 n7 c7:Nat}
theorem Ka (d:Dsk) (h1:RepS w F a1 n1 c1 d.files) (h2:RepS w F a2 n2 c2 d.list) (h3:RepS w F a3 n3 c3 d.names) (p0:d.files.length≤1000):Calls Tryz.prog 133 [.agg #[.slice a1 n1 c1,.slice a2 n2 c2,.slice a3 n3 c3,.int .i64 d.next]].toArray w (Al fun rv w'=>VS (fo F w.heap.size) w' (BJ d:Dsk) rv∧Ext w w'):=by
 cases h1.len
 cases h2.len
 cases h3.len
 refine goT func133 ?_
 have Z:=(((St.i0 F w).p h1).p h2).p h3
 refine .s<|.g<|RG.Np Z fun af w Z=>RG.Np Z fun ag w Z=>.d<|.s<|.g<|RG.N0 Fil 1 Z fun ah w Z=>.r 1<|.d<|.s<|.s<|.g<|.r 1<|.d<|.b 0<|T.Lp (([]:List Fil),ah,(0:Nat),(0:Nat)) (fun (files,r_files,c_files,i)=>([(1,vP af),(2,vP ag),(3,vS r_files files.length c_files),(4,vI (i:Int))],[(0,.own 1 r_files 110 c_files files)],[],d.files.length - i,(i≤d.files.length)∧(files.length≤i)∧(files++(d.files.drop i).filter (fun f=>d.list.contains f.num)=d.files.filter (fun f=>d.list.contains f.num)))) [] Z ⟨AD,AD,AD⟩ ?_
 rintro ⟨files,r_files,c_files,i⟩ az w Z ⟨ao,aq,ar⟩ E
 refine .s<|.s<|.g<|.r 2<|RG.Lb 2 Z<|.r 1<|.bp ((i:Int)< (d.files.length:Int)) (fun ac=>?_) (fun ac=>?_)
 ·refine .d<|.ct<|.sk<|.s<|.b 1<|.s<|T.Gd 7 Z fun w Z=>GA.Ln 0 2 Z<|.r [1]<|GA.Lb 2 2 Z<|.r [3]<|gxd d.files i fun ab aa ax=>GA.Ix 4 2 aa Z<|.r [5]<|Z.el 2 aa fun aA aB aC aD Z=>GA.Lh 6 0 0 Z<|GA.Dn Z fun w Z=>RG.C0 (FY d ab.num (Z.a 5) (Z.a 4) (Z.a 3)) Z fun w Z=>?_
  cases ay:(d.list.contains ab.num)
  ·exact .d<|.cf<|.sk<|.ib 1<|.g<|.r 1<|.it ((i:Int)+1)<|.r 1<|.d<|E (files,r_files,c_files,i+1) _ _ AA (Z.to 0 [] 3) ⟨AB,AB,(by grind)⟩ (by (simp only []; omega))
  exact .d<|.ct<|.g<|.r 2<|RG.Lb 2 Z<|.r 1<|RG.Ix 5 aa Z<|RG.Lg 0 0 Z<|RG.Nb 1 Z fun aE w Z=>RG.Ap 0 0 files ab [1,2] Z fun ai aj w Z=>.r 1<|.d<|.ib 1<|.g<|.r 1<|.it ((i:Int)+1)<|.r 1<|.d<|E ((files++[ab]),ai,aj,i+1) _ _ AA (Z.to 0 [] 3) ⟨AB,(by (simp; omega)),(by grind)⟩ (by (simp only []; omega))
 refine .d<|.cf<|.x 0 rfl<|.s<|.g<|.r 2<|RG.Ss 2 Z fun w Z=>.d<|.s<|.g<|RG.Ln 2 Z<|RG.Ss 1 Z fun w Z=>.d ?_
 have Z:=Z.sl 0
 exact T.Rb 0 func133 results133 Z ⟨Z.rS (g:=1) (⟨files,d.list,d.names,d.next⟩:Dsk) [0,2,1] (by grind [BJ,Aa]),Z.xt⟩
theorem Ji (d:Dsk) (s:Sto) (h1:RepS w F a1 n1 c1 d.files) (h2:RepS w F a2 n2 c2 d.list) (h3:RepS w F a3 n3 c3 d.names) (h4:RepS w F a4 n4 c4 s.idx.names) (h5:RepS w F a5 n5 c5 s.idx.AY) (h6:RepS w F a6 n6 c6 s.parts) (h7:RepS w F a7 n7 c7 s.mem) (p0:s.mem.length≤1000) (p1:∀ m∈s.mem,1≤m.id∧m.id≤6) (p2:d.list.length≤1000) (p3:s.idx.names.length≤1000) (p4:∀ n∈s.idx.names,n.length≤1000):Calls Tryz.prog 76 [.agg #[.slice a1 n1 c1,.slice a2 n2 c2,.slice a3 n3 c3,.int .i64 d.next],.agg #[.slice a4 n4 c4,.slice a5 n5 c5,.slice a6 n6 c6,.slice a7 n7 c7]].toArray w (Al fun rv w'=>VL (ge w.heap.size) w' (Aw d s:List Stp) rv∧Ext w w'):=by
 cases h1.len
 cases h2.len
 cases h3.len
 cases h4.len
 cases h5.len
 cases h6.len
 cases h7.len
 refine goT func76 ?_
 have Z:=(((((((St.i0 F w).p h1).p h2).p h3).p h4).p h5).p h6).p h7
 have ag:=h1.max
 refine .s<|.g<|RG.Np Z fun ae w Z=>RG.Np Z fun af w Z=>.r 1<|.d<|.s<|.s<|.g<|.r 1<|RG.Lb 0 Z<|.r 1<|.eq (s.mem.length:Int) 0 (fun E=>.r 17<|.d<|.ct<|.s<|.g<|RG.N0 Stp 0 Z fun ao w Z=>.r 1<|.d<|T.Rt func76 results76 ⟨Z.rM 0 ([]:List Stp) (by rw [EH AB]),Z.xt⟩) fun E=>.r 2<|RG.Lb 1 Z<|.r 1<|.bp ((d.list.length:Int)≥6) (fun aa=>.r 12<|.d<|.ct<|.s<|.g<|RG.N0 Stp 0 Z fun aq w Z=>.r 1<|.d<|T.Rt func76 results76 ⟨Z.rM 0 ([]:List Stp) (by rw [EH AB]),Z.xt⟩) fun aa=>.r 3<|RG.Lb 1 Z<|.bp (d.next≥999) (fun ab=>.r 7<|.d<|.ct<|.s<|.g<|RG.N0 Stp 0 Z fun ar w Z=>.r 1<|.d<|T.Rt func76 results76 ⟨Z.rM 0 ([]:List Stp) (by rw [EH AB]),Z.xt⟩) fun ab=>.r 3<|RG.Lb 1 Z<|.r 1<|.bp ((d.files.length:Int)≥20) (fun ac=>.r 1<|.d<|.ct<|.s<|.g<|RG.N0 Stp 0 Z fun ax w Z=>.r 1<|.d<|T.Rt func76 results76 ⟨Z.rM 0 ([]:List Stp) (by rw [EH AB]),Z.xt⟩) fun ac=>.r 1<|.d<|.cf<|.sk<|.s<|T.GS 7 [af,ae] Z fun _ w Z=>.r [1]<|GA.Lb (q:=1) 2 1 Z<|.r [4]<|GA.Lb (q:=1) 5 1 Z<|.tw 0 6 ?_ ?_
 ·refine GE.N0 Int 0 Z fun ay w Z=>.tw 3 6 ?_ ?_
  ·exact GE.An (hf:=.inr Av) 0 5 ([]:List Int) d.list [1,2] Z fun az aA w Z=>.go 6<|GE.Nb 1 Z fun aB w Z=>GA.Do Z fun w Z=>RG.Ap 0 0 ([]++d.list) d.next [] Z fun aC aD w Z=>.r 1<|.d<|.s<|T.Gd 11 Z fun w Z=>.r [0]<|GA.Lb 1 2 Z<|GA.Ln 2 1 Z<|.r [5,6,7]<|GA.Lb 8 1 Z<|.go 3<|GE.CS (fun w Z=>EM s (Z.a 3) (Z.a 2) (Z.a 1) (Z.a 0) p0 p1) Z fun aE aF aG aH w Z=>.r [4]<|.go 9<|GE.CO 0 (fun w Z=>BN s.idx.names (Z.a 5) AB (by intro n hn; have:=p4 n hn; omega)) Z fun aI aJ w Z=>.r [10]<|GA.Dn Z fun w Z=>RG.Nl 0 ([(⟨1,d.next,(⟨(Ai s.mem).ids,(Ai s.mem).blocks⟩:Prt),([]:List Int),([]:List (List Tag))⟩:Stp),(⟨2,0,(⟨([]:List Int),([]:List (List Row))⟩:Prt),(([]++d.list)++[d.next]),s.idx.names⟩:Stp)]:List Stp) [[6,7,5,4],[1,0,3,2]] ((((((Z.nl Int).nl (List Tag)).sl 1).sl 0).nl Int).nl (List Row)) fun aK w Z=>.r 1<|.d<|T.Rt func76 results76 ⟨Z.rM 0 ([(⟨1,d.next,(⟨(Ai s.mem).ids,(Ai s.mem).blocks⟩:Prt),([]:List Int),([]:List (List Tag))⟩:Stp),(⟨2,0,(⟨([]:List Int),([]:List (List Row))⟩:Prt),(([]++d.list)++[d.next]),s.idx.names⟩:Stp)]:List Stp) (by (rw [DI ‹_› ‹_› ‹_› ‹_›] <;> simp)),Z.xt⟩
  exact GE.Nb 1 Z fun aL w Z=>.go 3<|GE.An (hf:=.inr Av) 1 5 ([]:List Int) d.list [2,3] Z fun aM aN w Z=>GA.Do Z fun w Z=>RG.Ap 0 0 ([]++d.list) d.next [] Z fun aO aP w Z=>.r 1<|.d<|.s<|T.Gd 11 Z fun w Z=>.r [0]<|GA.Lb 1 2 Z<|GA.Ln 2 1 Z<|.r [5,6,7]<|GA.Lb 8 1 Z<|.go 3<|GE.CS (fun w Z=>EM s (Z.a 3) (Z.a 2) (Z.a 1) (Z.a 0) p0 p1) Z fun aQ aR aS aT w Z=>.r [4]<|.go 9<|GE.CO 0 (fun w Z=>BN s.idx.names (Z.a 5) AB (by intro n hn; have:=p4 n hn; omega)) Z fun aU aV w Z=>.r [10]<|GA.Dn Z fun w Z=>RG.Nl 0 ([(⟨1,d.next,(⟨(Ai s.mem).ids,(Ai s.mem).blocks⟩:Prt),([]:List Int),([]:List (List Tag))⟩:Stp),(⟨2,0,(⟨([]:List Int),([]:List (List Row))⟩:Prt),(([]++d.list)++[d.next]),s.idx.names⟩:Stp)]:List Stp) [[6,7,5,4],[1,0,3,2]] ((((((Z.nl Int).nl (List Tag)).sl 1).sl 0).nl Int).nl (List Row)) fun aW w Z=>.r 1<|.d<|T.Rt func76 results76 ⟨Z.rM 0 ([(⟨1,d.next,(⟨(Ai s.mem).ids,(Ai s.mem).blocks⟩:Prt),([]:List Int),([]:List (List Tag))⟩:Stp),(⟨2,0,(⟨([]:List Int),([]:List (List Row))⟩:Prt),(([]++d.list)++[d.next]),s.idx.names⟩:Stp)]:List Stp) (by (rw [DI ‹_› ‹_› ‹_› ‹_›] <;> simp)),Z.xt⟩
 exact GE.Nb 1 Z fun aX w Z=>.go 0<|GE.N0 Int 0 Z fun aY w Z=>.go 3<|GE.An (hf:=.inr Av) 0 5 ([]:List Int) d.list [2,3] Z fun aZ ba w Z=>GA.Do Z fun w Z=>RG.Ap 0 1 ([]++d.list) d.next [] Z fun bd bg w Z=>.r 1<|.d<|.s<|T.Gd 11 Z fun w Z=>.r [0]<|GA.Lb 1 2 Z<|GA.Ln 2 1 Z<|.r [5,6,7]<|GA.Lb 8 1 Z<|.go 3<|GE.CS (fun w Z=>EM s (Z.a 3) (Z.a 2) (Z.a 1) (Z.a 0) p0 p1) Z fun bh bi bj bk w Z=>.r [4]<|.go 9<|GE.CO 0 (fun w Z=>BN s.idx.names (Z.a 5) AB (by intro n hn; have:=p4 n hn; omega)) Z fun bm bn w Z=>.r [10]<|GA.Dn Z fun w Z=>RG.Nl 0 ([(⟨1,d.next,(⟨(Ai s.mem).ids,(Ai s.mem).blocks⟩:Prt),([]:List Int),([]:List (List Tag))⟩:Stp),(⟨2,0,(⟨([]:List Int),([]:List (List Row))⟩:Prt),(([]++d.list)++[d.next]),s.idx.names⟩:Stp)]:List Stp) [[6,7,5,4],[1,0,3,2]] ((((((Z.nl Int).nl (List Tag)).sl 1).sl 0).nl Int).nl (List Row)) fun bo w Z=>.r 1<|.d<|T.Rt func76 results76 ⟨Z.rM 0 ([(⟨1,d.next,(⟨(Ai s.mem).ids,(Ai s.mem).blocks⟩:Prt),([]:List Int),([]:List (List Tag))⟩:Stp),(⟨2,0,(⟨([]:List Int),([]:List (List Row))⟩:Prt),(([]++d.list)++[d.next]),s.idx.names⟩:Stp)]:List Stp) (by (rw [DI ‹_› ‹_› ‹_› ‹_›] <;> simp)),Z.xt⟩
theorem Ge (s:Sto) (h1:RepS w F a1 n1 c1 s.idx.names) (h2:RepS w F a2 n2 c2 s.idx.AY) (h3:RepS w F a3 n3 c3 s.parts) (h4:RepS w F a4 n4 c4 s.mem) (p0:LV s):Calls Tryz.prog 80 [.agg #[.slice a1 n1 c1,.slice a2 n2 c2,.slice a3 n3 c3,.slice a4 n4 c4]].toArray w (Al fun rv w'=>(∃ (a0:Option Addr) (n0 c0:Nat) (a1:Option Addr) (n1 c1:Nat) (a2:Option Addr) (n2 c2:Nat) (r3 n3 c3:Nat),rv=.agg #[.slice a0 n0 c0,.slice a1 n1 c1,.slice a2 n2 c2,.slice (some ⟨r3,0,none⟩) n3 c3]∧RepS w' (nin (ge w.heap.size) [r3]) a0 n0 c0 ((((AZ s)).idx).names)∧RepS w' (nin (ge w.heap.size) [r3]) a1 n1 c1 ((((AZ s)).idx).AY)∧RepS w' (nin (ge w.heap.size) [r3]) a2 n2 c2 (((AZ s)).parts)∧Own w' r3 107 (nin (ge w.heap.size) [r3]) n3 c3 (((AZ s)).mem)∧w.heap.size≤r3)∧Ext w w'):=by
 cases h1.len
 cases h2.len
 cases h3.len
 cases h4.len
 refine goT func80 ?_
 have Z:=((((St.i0 F w).p h1).p h2).p h3).p h4
 have ba:=h3.max
 have bd:=h4.max
 refine .s<|.g<|RG.Np Z fun ax w Z=>RG.Np Z fun ay w Z=>.d<|.s<|.g<|RG.N0 Prt 0 Z fun aE w Z=>.r 1<|.d<|.s<|.s<|.g<|.r 1<|.d<|.b 0<|T.Lp (([]:List Prt),aE,(0:Nat),(0:Nat)) (fun (k,r_k,c_k,k1)=>([(1,vP ax),(2,vP ay),(3,vS r_k k.length c_k),(4,vI (k1:Int))],[(0,.own 0 r_k 66 c_k k)],[],s.parts.length - k1,(k1≤s.parts.length)∧(k.length≤k1)∧(k++s.parts.drop k1=s.parts))) [] Z ⟨AD,AD,AD⟩ ?_
 rintro ⟨k,r_k,c_k,k1⟩ bK w Z ⟨bg,bh,bi⟩ al
 have bj:=Z.mo 0 k
 refine .s<|.s<|.g<|.r 2<|RG.Lb 2 Z<|.r 1<|.bp ((k1:Int)< (s.parts.length:Int)) (fun aA=>?_) (fun aA=>?_)
 ·refine .d<|.ct<|.sk<|.s<|.b 1<|.s<|.g<|RG.N0 Int 0 Z fun bL w Z=>.r 1<|RG.Lb 3 Z<|.r 1<|gxb s.parts k1 fun aa ac bk aC=>RG.Ix 1 ac Z<|.r 1<|Z.el 1 ac fun bM bN bO bP Z=>?_
  have bn:=Z.mf 2 aa.blocks
  refine RG.Lh 0 0 Z<|RG.An (hs:=by (simp only [List.nil_append,List.length_nil,List.length_append,List.length_cons] <;> exact (by have q1:=p0.2.1; (have E:=p0.2.2.1 _ ‹_›; have q4:=E.1; have q5:=E.2.1; omega)))) (hf:=.inr Av) 0 1 ([]:List Int) aa.ids Z fun aF aG w Z=>RG.N0 (List Row) 0 Z fun aH w Z=>.r 1<|RG.Np Z fun az w Z=>RG.Ss 0 Z fun w Z=>.d<|.s<|.s<|.g<|.r 1<|.d<|.b 2<|T.Lp ((0:Nat),(([]++aa.ids):List Int),aF,aG,([]:List (List Row)),aH,(0:Nat)) (fun (k2,af,r_k_0,c_k_0,ab,r_k_1,c_k_1)=>([(1,vP ax),(2,vP ay),(3,vS r_k k.length c_k),(4,vI (k1:Int)),(5,vP az),(6,vI (k2:Int))],[(0,.box az 66 [vS r_k_0 af.length c_k_0,vS r_k_1 ab.length c_k_1]),(1,.own 0 r_k_1 55 c_k_1 ab),(2,.own 0 r_k_0 3 c_k_0 af)],[],aa.blocks.length - k2,(k2≤aa.blocks.length)∧(af=aa.ids)∧(ab.length≤k2)∧(ab++aa.blocks.drop k2=aa.blocks))) [] Z ⟨AD,AD,AD,AD⟩ ?_
  rintro ⟨k2,af,r_k_0,c_k_0,ab,r_k_1,c_k_1⟩ bQ w Z ⟨bq,br,bt,bu⟩ ar
  have bw:=Z.mo 1 ab
  refine .s<|.s<|.g<|.r 2<|RG.Lb 5 Z<|.r 1<|RG.Ix 4 ac Z<|.r 1<|RG.Lh 0 1 Z<|.r 1<|.bp ((k2:Int)< (aa.blocks.length:Int)) (fun aB=>?_) (fun aB=>?_)
  ·refine .d<|.ct<|.sk<|.s<|.b 3<|T.GS 14 [az,ay,ax] Z fun _ w Z=>.r [0]<|GA.Lb 1 0 Z<|.r [3]<|GA.Lb (q:=2) 4 5 Z<|.r [5]<|GA.Ix 6 4 ac Z<|.r [7]<|GA.Lh 8 0 1 Z<|.r [9]<|gxb aa.blocks k2 fun aj ai bz aD=>GA.Ix 10 2 ai Z<|Z.el 2 ai fun bR bS Z=>?_
   have bA:=Z.mf 1 aj
   exact GA.Lh 11 0 0 Z<|.go 2<|GE.N0 Row 0 Z fun bT w Z=>.go 12<|GE.An (hs:=by (simp only [List.nil_append,List.length_nil,List.length_append,List.length_cons] <;> exact (by have q1:=p0.2.1; (have E:=p0.2.2.1 _ ‹_›; (have q6:=E.2.2 _ ‹_›; omega))))) (hf:=.inr Bj) 0 1 ([]:List Row) aj [1,5,6] Z fun bU bV w Z=>.go 13<|GE.Nb 1 Z fun bW w Z=>GA.Do Z fun w Z=>RG.Ap (hs:=by exact (by have q1:=p0.2.1; (have E:=p0.2.2.1 _ ‹_›; have q5:=E.2.1; omega))) 1 0 ab ([]++aj) [0] (Z.sl 1) fun aI aJ w Z=>.r 1<|RG.Ss 0 Z fun w Z=>.d<|.ib 3<|.g<|.r 1<|.it ((k2:Int)+1)<|.r 1<|.d<|ar (k2+1,af,r_k_0,c_k_0,(ab++[([]++aj)]),aI,aJ) _ _ AA (Z.to 0 [] 3) ⟨AB,‹_›,(by simp; omega),(by exact PD ‹_› ‹_›)⟩ (by (simp only []; omega))
  exact .d<|.cf<|.x 2 rfl<|.g<|.r 1<|RG.Ln 0 Z<|RG.Nb 1 Z fun bX w Z=>RG.Ap (hs:=by exact (by have q1:=p0.2.1; omega)) 1 0 k (⟨af,ab⟩:Prt) [1,0] ((Z.sl 3).sl 2) fun aK aL w Z=>.r 1<|.d<|.ib 1<|.g<|.r 1<|.it ((k1:Int)+1)<|.r 1<|.d<|al ((k++[(⟨af,ab⟩:Prt)]),aK,aL,k1+1) _ _ AA (Z.to 1 [] 5) ⟨AB,(by simp; omega),(by exact Qw ‹_› ‹_› ‹_› (by have q1:=Aa (xs:=aa.blocks) (k:=k2) AB; have q2:ab++aa.blocks.drop k2=aa.blocks:=‹_›; rw [q1,List.append_nil] at q2; exact q2))⟩ (by (simp only []; omega))
 refine .d<|.cf<|.x 0 rfl<|.s<|T.GS 9 [ay,ax] Z fun _ w Z=>.r [0,1]<|GA.Lb (q:=1) 2 2 Z<|.r [4,6]<|GA.Lb (q:=1) 7 2 Z<|.tw 3 5 ?_ ?_
 ·refine GE.CS (fun w Z=>Ej s.idx.names (Z.a 3) p0.1.1 p0.1.2) Z fun aM aN aO aP w Z=>.go 5<|GE.N0 Smp 0 Z fun bY w Z=>.go 8<|GE.An (hs:=by (simp only [List.nil_append,List.length_nil,List.length_append,List.length_cons] <;> exact (by have q1:=p0.2.1; have q2:=p0.2.2.2; omega))) (hf:=.inr EO) 0 2 ([]:List Smp) s.mem [2,3] Z fun aQ aR w Z=>GA.Do Z fun w Z=>.r 1<|RG.Ss 2 Z fun w Z=>.d ?_
  have Z:=Z.sl 1
  exact T.Rb 1 func80 results80 Z ⟨⟨aM,((idxOf s.idx.names).names.length),aN,aO,((idxOf s.idx.names).AY.length),aP,(some ⟨r_k,0,none⟩),k.length,c_k,aQ,(([]++s.mem).length),aR,AA,Z.qr [0] 1 ((idxOf s.idx.names).names) AF,Z.qr [0] 2 ((idxOf s.idx.names).AY) AF,Z.qr [0] 0 k (by have q1:=Aa (xs:=s.parts) (k:=k1) AB; have q2:k++s.parts.drop k1=s.parts:=‹_›; rw [q1,List.append_nil] at q2; exact q2),Z.qo [0] 0 ([]++s.mem) AF,Z.qb 0⟩,Z.xt⟩
 refine GE.N0 Smp 0 Z fun bZ w Z=>.go 3<|GE.CS (fun w Z=>Ej s.idx.names (Z.a 3) p0.1.1 p0.1.2) Z fun aS aT aU aV w Z=>.go 8<|GE.An (hs:=by (simp only [List.nil_append,List.length_nil,List.length_append,List.length_cons] <;> exact (by have q1:=p0.2.1; have q2:=p0.2.2.2; omega))) (hf:=.inr EO) 0 2 ([]:List Smp) s.mem [2,3] Z fun aW aX w Z=>GA.Do Z fun w Z=>.r 1<|RG.Ss 2 Z fun w Z=>.d ?_
 have Z:=Z.sl 1
 exact T.Rb 1 func80 results80 Z ⟨⟨aS,((idxOf s.idx.names).names.length),aT,aU,((idxOf s.idx.names).AY.length),aV,(some ⟨r_k,0,none⟩),k.length,c_k,aW,(([]++s.mem).length),aX,AA,Z.qr [0] 1 ((idxOf s.idx.names).names) AF,Z.qr [0] 2 ((idxOf s.idx.names).AY) AF,Z.qr [0] 0 k (by have q1:=Aa (xs:=s.parts) (k:=k1) AB; have q2:k++s.parts.drop k1=s.parts:=‹_›; rw [q1,List.append_nil] at q2; exact q2),Z.qo [0] 0 ([]++s.mem) AF,Z.qb 0⟩,Z.xt⟩
end Go.Proofs.YtckdhcbbgmiccaaGreat
namespace Go.Proofs.YtckdhcbbgmiccaaGreat
def Au (d:Dsk) (n:Int):Prt:=(d.files.getD (As d n).toNat default).part
def Ao (d:Dsk):Sto:=⟨idxOf d.names,d.list.map (Au d),[]⟩
def Kb (f:Fil):Fil:=⟨f.num,BB f.part ⟨[],[]⟩⟩
def BG (d:Dsk):Dsk:=⟨d.files.map Kb,d.list,d.names,d.next⟩
def Dp (d:Dsk) (n:Int):List Fil:=if As d n≥0∧d.list.contains n=false then d.files.take (As d n).toNat++d.files.drop ((As d n).toNat+1) else d.files
def doD (d:Dsk) (x:Stp):Dsk :=
 if x.kind=1 then ⟨d.files++[⟨x.num,x.part⟩],d.list,d.names,x.num+1⟩
 else if x.kind=2 then ⟨d.files,x.list,x.names,d.next⟩
 else if x.kind=3 then ⟨Dp d x.num,d.list,d.names,d.next⟩
 else d
def toD (d:Dsk) (steps:List Stp) (cut:Int):Dsk:=(steps.take cut.toNat).foldl doD d
def Ak (d:Dsk) (at_:Int):List Stp :=
 if !(inR at_ 0 ((d.list.length:Int) - 2)) || decide (d.next≥999) || decide (d.files.length≥20) then []
 else
  let a:=d.list.getD at_.toNat 0
  let b:=d.list.getD (at_.toNat+1) 0
  [⟨1,d.next,BB (Au d a) (Au d b),[],[]⟩,⟨2,0,⟨[],[]⟩,d.list.take at_.toNat++[d.next]++d.list.drop (at_.toNat+2),d.names⟩,⟨3,a,⟨[],[]⟩,[],[]⟩,⟨3,b,⟨[],[]⟩,[],[]⟩]
def BA (w:Wld):Wld:=⟨AZ (Ao (BG (BJ w.disk))),BG (BJ w.disk)⟩
def Bf (w:Wld) (steps:List Stp) (cut:Int) (s:Sto):Wld :=
 if steps.length=0∨cut< 0 then w
 else if cut< steps.length then BA ⟨w.store,toD w.disk steps cut⟩ else ⟨s,toD w.disk steps cut⟩
def doW (w:Wld) (e:Evt):Wld :=
 if e.kind=1 then (if Aq e.name then ⟨(By w.store e.name e.row).1,w.disk⟩ else w)
 else if e.kind=2 then Bf w (Aw w.disk w.store) e.cut (BD w.store).1
 else if e.kind=3 then Bf w (Ak w.disk e.at_) e.cut (BC w.store e.at_).1
 else if e.kind=4 then BA w
 else w
def Cb (w:Wld):Wld:=⟨AZ w.store,BG w.disk⟩
theorem J5 (n:Int):∀ (fs:List Fil) (i:Nat),DA n i fs< (i:Int)+fs.length∧(DA n i fs = -1∨(i:Int)≤DA n i fs):=by
 intro fs
 induction fs with
 | nil=>intro i; simp [DA]; omega
 | cons f fs ih =>
   intro i
   have h:=ih (i+1)
   simp only [DA,List.length_cons]
   split <;> omega
theorem Cc (d:Dsk) (n:Int):As d n< d.files.length:=by have:=J5 n d.files 0; unfold As; omega
theorem H4 (d:Dsk) (n:Int):As d n ≥ -1:=by have:=J5 n d.files 0; unfold As; omega
theorem Il {d:Dsk}{n:Int}(h:∀ n∈d.list,0≤As d n) (hm:n∈d.list):(As d n).toNat< d.files.length:=by
 have h1:=h n hm
 have h2:=Cc d n
 omega
theorem Im {d:Dsk}{n:Int}(h:∀ n∈d.list,0≤As d n) (hm:n∈d.list):As d n=((As d n).toNat:Int):=by
 have h1:=h n hm
 omega
theorem El {d:Dsk}{n:Int}{f:Fil}(h:d.files[(As d n).toNat]? = some f):Au d n=f.part:=by
 unfold Au; rw [List.getD_eq_getElem?_getD,h]; rfl
theorem mapStep {α β:Type}{l:List α}{f:α→β}{i:Nat}{k:List β}{q:α}{y:β}(h:k++(l.drop i).map f=l.map f) (hd:l.drop i=q::l.drop (i+1)) (hy:y=f q):(k++[y])++(l.drop (i+1)).map f=l.map f:=by
 subst hy
 rw [hd] at h
 simpa using h
theorem Qx {α β:Type}{l:List α}{f:α→β}{i:Nat}{k:List β}(h:k++(l.drop i).map f=l.map f) (hi:l.length≤i):k=l.map f:=by
 rw [Aa hi] at h
 simpa using h
theorem toStep {l:List Stp}{c:Nat}{i:Nat}{d:Dsk}{q:Stp}{Y:Dsk}(h:((l.take c).drop i).foldl doD d=Y) (hd:l.drop i=q::l.drop (i+1)) (hc:i< c):((l.take c).drop (i+1)).foldl doD (doD d q)=Y:=by
 have h1:(l.take c).drop i=q::(l.take c).drop (i+1):=by
  rw [List.drop_take,List.drop_take,hd,show c - i=(c - (i+1))+1 by omega]
  rfl
 rw [h1] at h
 exact h
theorem toEnd {l:List Stp}{c:Nat}{i:Nat}{d:Dsk}{Y:Dsk}(h:((l.take c).drop i).foldl doD d=Y) (hc:l.length≤i∨c≤i):d=Y:=by
 rw [List.drop_of_length_le (by rw [List.length_take]; omega)] at h
 exact h
theorem Ex {d:Dsk}{x:Stp}(h:x.kind=1):doD d x=⟨d.files++[⟨x.num,x.part⟩],d.list,d.names,x.num+1⟩:=by unfold doD; rw [if_pos h]
theorem Gf {d:Dsk}{x:Stp}(h:x.kind=2):doD d x=⟨d.files,x.list,x.names,d.next⟩:=by unfold doD; rw [if_neg AB,if_pos h]
theorem FA {d:Dsk}{x:Stp}(h:x.kind=3):doD d x=⟨Dp d x.num,d.list,d.names,d.next⟩:=by unfold doD; rw [if_neg AB,if_neg AB,if_pos h]
theorem UD {d:Dsk}{x:Stp}(h:x.kind≠1) (h2:x.kind≠2) (h3:x.kind≠3):doD d x=d:=by unfold doD; rw [if_neg h,if_neg h2,if_neg h3]
theorem OI {d:Dsk}{n:Int}(h:As d n≥0) (h2:d.list.contains n=false):Dp d n=d.files.take (As d n).toNat++d.files.drop ((As d n).toNat+1):=by unfold Dp; rw [if_pos ⟨h,h2⟩]
theorem MO {d:Dsk}{n:Int}(h:¬ As d n≥0∨d.list.contains n=true):Dp d n=d.files:=by unfold Dp; rw [if_neg]; rintro ⟨h1,h2⟩; rcases h with h | h; exact h h1; rw [h2] at h; cases h
theorem H5 {d:Dsk}{a:Int}(h:inR a 0 ((d.list.length:Int) - 2)=false∨d.next≥999∨(d.files.length:Int)≥20):Ak d a=[]:=by
 unfold Ak
 rw [if_pos]
 rcases h with h | h | h
 ·simp [h]
 ·simp [h]
 ·have h:d.files.length≥20:=by omega
  simp [h]
theorem EI {d:Dsk}{at_ a b:Int}{f g:Fil}(h:inR at_ 0 ((d.list.length:Int) - 2)=true) (h2:¬ d.next≥999) (h3:¬ (d.files.length:Int)≥20) (ha:d.list[at_.toNat]? = some a) (hb:d.list[(at_+1).toNat]? = some b)
 (hf:d.files[(As d a).toNat]? = some f) (hg:d.files[(As d b).toNat]? = some g) :
 Ak d at_=[⟨1,d.next,BB f.part g.part,[],[]⟩,⟨2,0,⟨[],[]⟩,(([]++(d.list.take at_.toNat).drop 0)++[d.next])++(d.list.take d.list.length).drop (at_+2).toNat,d.names⟩,⟨3,a,⟨[],[]⟩,[],[]⟩,⟨3,b,⟨[],[]⟩,[],[]⟩]:=by
 have h0:=Bu h
 have e1:(at_+1).toNat=at_.toNat+1:=by omega
 have e2:(at_+2).toNat=at_.toNat+2:=by omega
 rw [e1] at hb
 have h4:¬ d.files.length≥20:=by omega
 unfold Ak
 rw [if_neg (by simp [h]; omega),← El hf,← El hg,e2,List.getD_eq_getElem?_getD,List.getD_eq_getElem?_getD,ha,hb]
 simp
theorem PE {d:Dsk}{x:Stp}(h:x.list.length≤1000) (hd:d.list.length≤1000):(doD d x).files.length≤d.files.length+1∧(doD d x).list.length≤1000:=by
 unfold doD Dp
 split
 ·simp; exact hd
 ·split
  ·simp; exact h
  ·split
   ·simp only
    split <;> simp <;> omega
   ·omega
def JR (x:Stp):Prop:=x.list.length≤1000∧x.names.length≤1000∧(∀ n∈x.names,n.length≤1000) ∧ -9000000≤x.num∧x.num≤9000000
end Go.Proofs.YtckdhcbbgmiccaaGreat
namespace Go.Proofs.YtckdhcbbgmiccaaGreat
set_option maxRecDepth 100000
set_option maxHeartbeats 4000000
variable {w:World} {F:Nat→Prop} {a1 a2 a3 a4 a5 a6 a7:Option Addr} {n1 c1 n2 c2 n3 c3 n4 c4 n5 c5 n6 c6 n7 c7:Nat}
theorem Kc (d:Dsk) (h1:RepS w F a1 n1 c1 d.files) (h2:RepS w F a2 n2 c2 d.list) (h3:RepS w F a3 n3 c3 d.names) (p0:d.names.length≤1000) (p1:∀ n∈d.names,FX n) (p2:d.list.length≤1000) (p3:∀ n∈d.list,0≤As d n):Calls Tryz.prog 134 [.agg #[.slice a1 n1 c1,.slice a2 n2 c2,.slice a3 n3 c3,.int .i64 d.next]].toArray w (Al fun rv w'=>VS (fo F w.heap.size) w' (Ao d:Sto) rv∧Ext w w'):=by
 cases h1.len
 cases h2.len
 cases h3.len
 refine goT func134 ?_
 have Z:=(((St.i0 F w).p h1).p h2).p h3
 refine .s<|.g<|RG.Np Z fun aj w Z=>RG.Np Z fun ak w Z=>.d<|.s<|.g<|.r 1<|RG.Lb 1 Z<|RG.CS (Ej d.names (Z.a 0) p0 p1) Z fun ar ax ay az w Z=>RG.N0 Prt 1 Z fun aA w Z=>RG.N0 Smp 1 Z fun aB w Z=>.r 1<|RG.Np Z fun ah w Z=>RG.Ss 0 Z fun w Z=>.d<|.s<|.s<|.g<|.r 1<|.d<|.b 0<|T.Lp ((0:Nat),((idxOf d.names).names:List (List Tag)),ar,ax,((idxOf d.names).AY:List Pst),ay,az,([]:List Prt),aA,(0:Nat),([]:List Smp),aB,(0:Nat)) (fun (i,ac,a_s_0,c_s_0,ae,a_s_1,c_s_1,E,r_s_2,c_s_2,af,r_s_3,c_s_3)=>([(1,vP aj),(2,vP ak),(3,vP ah),(4,vI (i:Int))],[(0,.box ah 32 [.slice a_s_0 ac.length c_s_0,.slice a_s_1 ae.length c_s_1,vS r_s_2 E.length c_s_2,vS r_s_3 af.length c_s_3]),(1,.own 1 r_s_3 107 c_s_3 af),(2,.own 1 r_s_2 66 c_s_2 E)],[⟨0,none,.rep a_s_0 c_s_0 ac⟩,⟨0,none,.rep a_s_1 c_s_1 ae⟩],d.list.length - i,(i≤d.list.length)∧(ac=d.names)∧(ae=Dd d.names)∧(af=[])∧(E.length≤i)∧(E++(d.list.drop i).map (Au d)=d.list.map (Au d)))) [0,1] Z ⟨AD,AF,AF,AF,AD,AF⟩ ?_
 rintro ⟨i,ac,a_s_0,c_s_0,ae,a_s_1,c_s_1,E,r_s_2,c_s_2,af,r_s_3,c_s_3⟩ aP w Z ⟨aH,aI,aJ,aK,aL,aM⟩ ag
 refine .s<|.s<|.g<|.r 2<|RG.Lb 4 Z<|.r 1<|.bp ((i:Int)< (d.list.length:Int)) (fun al=>?_) (fun al=>?_)
 ·exact .d<|.ct<|.sk<|.s<|.b 1<|T.GS 15 [ah,ak,aj] Z fun _ w Z=>.r [0]<|GA.Lb 1 0 Z<|.r [2]<|GA.Lb (q:=2) 3 4 Z<|GA.Ln (q:=2) 4 4 Z<|.r [5]<|GA.Lb (q:=2) 6 4 Z<|.r [7]<|gxb (h:=AB) d.list i fun ai aa aN ao=>GA.Ix 8 5 aa Z<|Z.el 5 aa fun Z=>GA.Lh 9 0 0 Z<|GA.D0 10 Z (fun w Y=>Ei d ai (Y.a 7) (Y.a 6) (Y.a 5))<|gx (h:=(by exact Il p3 ‹_›)) d.files ((As d ai).toNat) fun am ab=>GA.Jx (hz:=(by exact Im p3 ‹_›)) 11 7 (As d ai) ab Z<|.r [12]<|Z.el 7 ab fun aQ aR aS aT Z=>GA.Lg 13 0 1 Z<|.go 14<|GE.Nb 1 Z fun aU w Z=>GA.Do Z fun w Z=>RG.Ap 2 0 E am.part [1,2] Z fun aC aD w Z=>.r 1<|RG.Ss 0 Z fun w Z=>.d<|.ib 1<|.g<|.r 1<|.it ((i:Int)+1)<|.r 1<|.d<|ag (i+1,ac,a_s_0,c_s_0,ae,a_s_1,c_s_1,(E++[am.part]),aC,aD,af,r_s_3,c_s_3) _ _ AA (Z.to 0 [4,5] 6) ⟨AB,‹_›,‹_›,‹_›,(by simp; omega),(by exact mapStep ‹_› ‹_› (El ‹_›).symm)⟩ (by (simp only []; omega))
 refine .d<|.cf<|.x 0 rfl<|.s<|.g<|RG.Ln 0 Z<|RG.Ss 3 Z fun w Z=>.d ?_
 have Z:=(Z.sl 2).sl 1
 exact T.Rb 1 func134 results134 Z ⟨Z.rS (g:=1) (⟨(⟨ac,ae⟩:Idx),E,af⟩:Sto) [2,3,1,0] (by have q1:E=_:=Qx ‹_› AB; subst_vars; rfl),Z.xt⟩
theorem Gg (d:Dsk) (h1:RepS w F a1 n1 c1 d.files) (h2:RepS w F a2 n2 c2 d.list) (h3:RepS w F a3 n3 c3 d.names) (p0:d.names.length≤1000) (p1:∀ n∈d.names,n.length≤1000) (p2:d.list.length≤1000) (p3:d.files.length≤1000) (p4:∀ f∈d.files,Cs f.part):Calls Tryz.prog 81 [.agg #[.slice a1 n1 c1,.slice a2 n2 c2,.slice a3 n3 c3,.int .i64 d.next]].toArray w (Al fun rv w'=>(∃ (r0 n0 c0:Nat) (r1 n1 c1:Nat) (r2 n2 c2:Nat),rv=.agg #[.slice (some ⟨r0,0,none⟩) n0 c0,.slice (some ⟨r1,0,none⟩) n1 c1,.slice (some ⟨r2,0,none⟩) n2 c2,.int .i64 (((BG d)).next)]∧Own w' r0 110 (nin (ge w.heap.size) [r0,r1,r2]) n0 c0 (((BG d)).files)∧w.heap.size≤r0∧Own w' r1 3 (nin (ge w.heap.size) [r0,r1,r2]) n1 c1 (((BG d)).list)∧w.heap.size≤r1∧Nb r1 r0∧Own w' r2 42 (nin (ge w.heap.size) [r0,r1,r2]) n2 c2 (((BG d)).names)∧w.heap.size≤r2∧Nb r2 r0∧Nb r2 r1)∧Ext w w'):=by
 cases h1.len
 cases h2.len
 cases h3.len
 refine goT func81 ?_
 have Z:=(((St.i0 F w).p h1).p h2).p h3
 refine .s<|.g<|RG.Np Z fun ac w Z=>RG.Np Z fun ae w Z=>.d<|.s<|.g<|RG.N0 Fil 0 Z fun ah w Z=>.r 1<|.d<|.s<|.s<|.g<|.r 1<|.d<|.b 0<|T.Lp (([]:List Fil),ah,(0:Nat),(0:Nat)) (fun (files,r_files,c_files,i)=>([(1,vP ac),(2,vP ae),(3,vS r_files files.length c_files),(4,vI (i:Int))],[(0,.own 0 r_files 110 c_files files)],[],d.files.length - i,(i≤d.files.length)∧(files.length≤i)∧(files++(d.files.drop i).map Kb=d.files.map Kb))) [] Z ⟨AD,AD,AD⟩ ?_
 rintro ⟨files,r_files,c_files,i⟩ aC w Z ⟨ay,az,aA⟩ ab
 refine .s<|.s<|.g<|.r 2<|RG.Lb 2 Z<|.r 1<|.bp ((i:Int)< (d.files.length:Int)) (fun af=>?_) (fun af=>.d<|.cf<|.x 0 rfl<|.s<|T.GS 10 [ae,ac] Z fun _ w Z=>.r [0,2]<|GA.Lb (q:=1) 3 2 Z<|.r [5]<|GA.Lb (q:=1) 6 2 Z<|.r [8]<|GA.Lb (q:=1) 9 2 Z<|.go 1<|GE.N0 Int 0 Z fun aD w Z=>.go 4<|GE.An (hs:=by exact (by (simp; omega))) (hf:=.inr Av) 0 1 ([]:List Int) d.list [2,3] Z fun ai aj w Z=>.go 7<|GE.CO 0 (fun w Z=>BN d.names (Z.a 0) AB (by intro n hn; have:=p1 n hn; omega)) Z fun ak al w Z=>GA.Do Z fun w Z=>.r 1<|RG.Ss 3 Z fun w Z=>.d<|T.Rb 3 func81 results81 Z ⟨⟨r_files,files.length,c_files,ai,(([]++d.list).length),aj,ak,d.names.length,al,(by rw [show (((BG d)).next)=d.next from Eq.symm AF]; kernel_rfl),Z.qo [2,1,0] 2 files (by exact Qx ‹_› AB),Z.qb 2,Z.qo [2,1,0] 1 ([]++d.list) AF,Z.qb 1,Z.qn 1 2,Z.qo [2,1,0] 0 d.names AF,Z.qb 0,Z.qn 0 2,Z.qn 0 1⟩,Z.xt⟩)
 exact .d<|.ct<|.sk<|.s<|.b 1<|T.GS 17 [ae,ac] Z fun _ w Z=>.r [0,1]<|GA.Lb (q:=1) 2 2 Z<|.r [3]<|gxb d.files i fun aa E aB ag=>GA.Ix 4 2 E Z<|.r [5]<|Z.el 2 E fun aE aF aG aH Z=>GA.Lh 6 0 0 Z<|.r [7]<|GA.Lb (q:=1) 8 2 Z<|.r [9]<|GA.Ix 10 5 E Z<|.r [11]<|GA.Lg 12 0 1 Z<|.r [13]<|.go 14<|GE.CS (fun w Z=>Dc aa.part (⟨([]:List Int),([]:List (List Row))⟩:Prt) (Z.a 1) (Z.a 2) Z.na Z.na (p4 _ ‹_›) (by simp [Cs])) Z fun aI aJ aK aL w Z=>.r [15]<|.go 16<|GE.Nb 1 Z fun aM w Z=>GA.Do Z fun w Z=>RG.Ap (hs:=by exact AB) 0 0 files (⟨aa.num,(⟨(BB aa.part (⟨([]:List Int),([]:List (List Row))⟩:Prt)).ids,(BB aa.part (⟨([]:List Int),([]:List (List Row))⟩:Prt)).blocks⟩:Prt)⟩:Fil) [0,1] Z fun am ao w Z=>.r 1<|.d<|.ib 1<|.g<|.r 1<|.it ((i:Int)+1)<|.r 1<|.d<|ab ((files++[(⟨aa.num,(⟨(BB aa.part (⟨([]:List Int),([]:List (List Row))⟩:Prt)).ids,(BB aa.part (⟨([]:List Int),([]:List (List Row))⟩:Prt)).blocks⟩:Prt)⟩:Fil)]),am,ao,i+1) _ _ AA (Z.to 0 [] 5) ⟨AB,(by simp; omega),(by exact mapStep ‹_› ‹_› rfl)⟩ (by (simp only []; omega))
theorem MP (d:Dsk) (x:Stp) (h1:RepS w F a1 n1 c1 d.files) (h2:RepS w F a2 n2 c2 d.list) (h3:RepS w F a3 n3 c3 d.names) (h4:RepS w F a4 n4 c4 x.part.ids) (h5:RepS w F a5 n5 c5 x.part.blocks) (h6:RepS w F a6 n6 c6 x.list) (h7:RepS w F a7 n7 c7 x.names) (p0:d.files.length≤2000) (p1:d.list.length≤2000) (p2:JR x):Calls Tryz.prog 161 [.agg #[.slice a1 n1 c1,.slice a2 n2 c2,.slice a3 n3 c3,.int .i64 d.next],.agg #[.int .i64 x.kind,.int .i64 x.num,.slice a4 n4 c4,.slice a5 n5 c5,.slice a6 n6 c6,.slice a7 n7 c7]].toArray w (Al fun rv w'=>VS (fo F w.heap.size) w' (doD d x:Dsk) rv∧Ext w w'):=by
 cases h1.len
 cases h2.len
 cases h3.len
 cases h4.len
 cases h5.len
 cases h6.len
 cases h7.len
 refine goT func161 ?_
 have Z:=(((((((St.i0 F w).p h1).p h2).p h3).p h4).p h5).p h6).p h7
 have ar:=h6.max
 have ax:=h7.max
 refine .s<|.g<|RG.Np Z fun ab w Z=>RG.Np Z fun ac w Z=>RG.Np Z fun ae w Z=>.d<|.s<|.s<|.g<|.r 1<|RG.Lb 1 Z<|.d<|.b 0<|.s<|.g<|.eq x.kind 1 (fun af=>?_) (fun af=>?_)
 ·refine .r 1<|.d<|.ct<|.s<|T.GS 10 [ae,ac,ab] Z fun _ w Z=>.r [1]<|GA.Lb (q:=2) 2 2 Z<|.r [4]<|GA.Lb (q:=1) 5 1 Z<|.r [6]<|GA.Ln (q:=1) 7 1 Z<|.r [8]<|.tw 0 9 ?_ ?_
  ·refine GE.N0 Fil 1 Z fun az w Z=>.tw 3 9 ?_ ?_
   ·refine GE.An (hs:=by (simp only [List.nil_append,List.length_nil,List.length_append,List.length_cons] <;> exact (by have:=p2.1; omega))) 0 6 ([]:List Fil) d.files [1,2,3] Z fun aA aB w Z=>.go 9<|GE.Nb 1 Z fun aC w Z=>GA.Do Z fun w Z=>RG.Ap (hs:=by (simp only [List.nil_append,List.length_nil,List.length_append,List.length_cons] <;> exact (by have:=p2.1; omega))) 0 0 ([]++d.files) (⟨x.num,(⟨x.part.ids,x.part.blocks⟩:Prt)⟩:Fil) [3,2] Z fun aD aE w Z=>.r 1<|RG.Ss 3 Z fun w Z=>.d<|.g<|.r 1<|RG.Lb 2 Z<|RG.int (x.num+1) AA (by have E:=Cc d x.num; have q2:=p2.2.2.2; omega)<|.r 1<|RG.Ss 3 Z fun w Z=>.d<|.ib 0<|.s<|.g<|RG.Ln 3 Z<|RG.Ss 1 Z fun w Z=>.d ?_
    have Z:=Z.sl 0
    exact T.Rb 0 func161 results161 Z ⟨Z.rS (g:=1) (⟨(([]++d.files)++[(⟨x.num,(⟨x.part.ids,x.part.blocks⟩:Prt)⟩:Fil)]),d.list,d.names,x.num+1⟩:Dsk) [0,6,5] (by (rw [Ex ‹_›]; simp; done)),Z.xt⟩
   refine GE.Nb 1 Z fun aF w Z=>.go 3<|GE.An (hs:=by (simp only [List.nil_append,List.length_nil,List.length_append,List.length_cons] <;> exact (by have:=p2.1; omega))) 1 6 ([]:List Fil) d.files [2,3,4] Z fun aG aH w Z=>GA.Do Z fun w Z=>RG.Ap (hs:=by (simp only [List.nil_append,List.length_nil,List.length_append,List.length_cons] <;> exact (by have:=p2.1; omega))) 0 0 ([]++d.files) (⟨x.num,(⟨x.part.ids,x.part.blocks⟩:Prt)⟩:Fil) [3,2] Z fun aI aJ w Z=>.r 1<|RG.Ss 3 Z fun w Z=>.d<|.g<|.r 1<|RG.Lb 2 Z<|RG.int (x.num+1) AA (by have E:=Cc d x.num; have q2:=p2.2.2.2; omega)<|.r 1<|RG.Ss 3 Z fun w Z=>.d<|.ib 0<|.s<|.g<|RG.Ln 3 Z<|RG.Ss 1 Z fun w Z=>.d ?_
   have Z:=Z.sl 0
   exact T.Rb 0 func161 results161 Z ⟨Z.rS (g:=1) (⟨(([]++d.files)++[(⟨x.num,(⟨x.part.ids,x.part.blocks⟩:Prt)⟩:Fil)]),d.list,d.names,x.num+1⟩:Dsk) [0,6,5] (by (rw [Ex ‹_›]; simp; done)),Z.xt⟩
  refine GE.Nb 1 Z fun aK w Z=>.go 0<|GE.N0 Fil 1 Z fun aL w Z=>.go 3<|GE.An (hs:=by (simp only [List.nil_append,List.length_nil,List.length_append,List.length_cons] <;> exact (by have:=p2.1; omega))) 0 6 ([]:List Fil) d.files [2,3,4] Z fun aM aN w Z=>GA.Do Z fun w Z=>RG.Ap (hs:=by (simp only [List.nil_append,List.length_nil,List.length_append,List.length_cons] <;> exact (by have:=p2.1; omega))) 0 1 ([]++d.files) (⟨x.num,(⟨x.part.ids,x.part.blocks⟩:Prt)⟩:Fil) [3,2] Z fun aO aP w Z=>.r 1<|RG.Ss 3 Z fun w Z=>.d<|.g<|.r 1<|RG.Lb 2 Z<|RG.int (x.num+1) AA (by have E:=Cc d x.num; have q2:=p2.2.2.2; omega)<|.r 1<|RG.Ss 3 Z fun w Z=>.d<|.ib 0<|.s<|.g<|RG.Ln 3 Z<|RG.Ss 1 Z fun w Z=>.d ?_
  have Z:=Z.sl 0
  exact T.Rb 0 func161 results161 Z ⟨Z.rS (g:=1) (⟨(([]++d.files)++[(⟨x.num,(⟨x.part.ids,x.part.blocks⟩:Prt)⟩:Fil)]),d.list,d.names,x.num+1⟩:Dsk) [0,6,5] (by (rw [Ex ‹_›]; simp; done)),Z.xt⟩
 refine .r 1<|.d<|.cf<|.s<|.g<|.eq x.kind 2 (fun ag=>?_) (fun ag=>?_)
 ·refine .r 1<|.d<|.ct<|.s<|.g<|RG.N0 Int 1 Z fun aQ w Z=>.r 1<|RG.Lb 2 Z<|RG.An (hs:=by (simp only [List.nil_append,List.length_nil,List.length_append,List.length_cons] <;> exact (by have:=p2.1; omega))) 0 1 ([]:List Int) x.list Z fun aR aS w Z=>.r 1<|RG.Ss 3 Z fun w Z=>.d<|.g<|.r 1<|RG.Lb 2 Z<|RG.CO 1 (BN x.names (Z.a 0) (by have:=p2.2.1; omega) (by intro n hn; have:=p2.2.2.1 n hn; omega)) Z fun aT aU w Z=>.r 1<|RG.Ss 4 Z fun w Z=>.d<|.ib 0<|.s<|.g<|RG.Ln 4 Z<|RG.Ss 2 Z fun w Z=>.d ?_
  have Z:=(Z.sl 1).sl 0
  exact T.Rb 0 func161 results161 Z ⟨Z.rS (g:=1) (⟨d.files,([]++x.list),x.names,d.next⟩:Dsk) [8,1,0] (by (rw [Gf ‹_›]; simp; done)),Z.xt⟩
 refine .r 1<|.d<|.cf<|.s<|.g<|.eq x.kind 3 (fun ah=>?_) (fun ah=>.r 1<|.d<|.cf<|.sk<|.ib 0<|.s<|.g<|RG.Ln 2 Z<|RG.Ss 0 Z fun w Z=>.d<|T.Rb 0 func161 results161 Z ⟨Z.rS (g:=1) d [6,5,4] (by rw [UD ‹_› ‹_› ‹_›]),Z.xt⟩)
 refine .r 1<|.d<|.ct<|.s<|.g<|RG.Ln 2 Z<|.r 1<|RG.Lb 1 Z<|RG.C0 (Ei d x.num (Z.a 6) (Z.a 5) (Z.a 4)) Z fun w Z=>.r 1<|.d<|.s<|.g<|.r 1<|.bp (As d x.num≥0) (fun ai=>?_) (fun ai=>.r 7<|.d<|.cf<|.sk<|.ib 0<|.s<|.g<|RG.Ln 2 Z<|RG.Ss 0 Z fun w Z=>.d<|T.Rb 0 func161 results161 Z ⟨Z.rS (g:=1) d [6,5,4] (by (rw [FA ‹_›,MO (.inl ‹_›)])),Z.xt⟩)
 refine .r 1<|RG.Ln 2 Z<|.r 1<|RG.Lb 1 Z<|RG.C0 (FY d x.num (Z.a 6) (Z.a 5) (Z.a 4)) Z fun w Z=>?_
 cases ay:(d.list.contains x.num)
 ·refine .r 2<|.d<|.ct<|T.GS 11 [ae,ac,ab] Z fun _ w Z=>.r [1]<|GA.Lb (q:=2) 2 2 Z<|.r [3]<|GA.Sb (hlh:=(by have E:=Cc d x.num; omega)) (hh:=(by have E:=Cc d x.num; omega)) (hhi:=bdI (As d x.num)) 4 6 0 ((As d x.num).toNat) d.files Z fun aV aW Z=>.r [6]<|GA.Lb (q:=2) 7 2 Z<|.r [8]<|GA.int (i:=9) (As d x.num+1) AA (by have E:=Cc d x.num; omega)<|GA.Sb (hlh:=(by have E:=Cc d x.num; omega)) (hh:=(by have E:=Cc d x.num; omega)) (hlo:=bdI (As d x.num+1)) 10 7 ((As d x.num+1).toNat) d.files.length d.files Z fun aX aY Z=>.go 0<|GE.N0 Fil 1 Z fun aZ w Z=>.go 5<|GE.An (hs:=by (simp <;> omega)) 0 1 ([]:List Fil) ((d.files.take ((As d x.num).toNat)).drop 0) [1,2,3] Z fun ba bd w Z=>GA.Do Z fun w Z=>RG.An (hs:=by (simp <;> omega)) 0 0 ([]++((d.files.take ((As d x.num).toNat)).drop 0)) ((d.files.take d.files.length).drop ((As d x.num+1).toNat)) Z fun bg bh w Z=>.r 1<|RG.Ss 3 Z fun w Z=>.d<|.ib 0<|.s<|.g<|RG.Ln 3 Z<|RG.Ss 1 Z fun w Z=>.d ?_
  have Z:=Z.sl 0
  exact T.Rb 0 func161 results161 Z ⟨Z.rS (g:=1) (⟨(([]++((d.files.take ((As d x.num).toNat)).drop 0))++((d.files.take d.files.length).drop ((As d x.num+1).toNat))),d.list,d.names,d.next⟩:Dsk) [0,8,7] (by (rw [FA ‹_›,OI ‹_› ‹_›]; have e1:(As d x.num+1).toNat=(As d x.num).toNat+1:=AB; simp [e1]; done)),Z.xt⟩
 exact .r 2<|.d<|.cf<|.sk<|.ib 0<|.s<|.g<|RG.Ln 2 Z<|RG.Ss 0 Z fun w Z=>.d<|T.Rb 0 func161 results161 Z ⟨Z.rS (g:=1) d [6,5,4] (by (rw [FA ‹_›,MO (.inr ‹_›)])),Z.xt⟩
theorem MQ (d:Dsk) (steps:List Stp) (cut:Int) (h1:RepS w F a1 n1 c1 d.files) (h2:RepS w F a2 n2 c2 d.list) (h3:RepS w F a3 n3 c3 d.names) (h4:RepS w F a4 n4 c4 steps) (p0:d.files.length≤1000) (p1:steps.length≤1000) (p2:d.list.length≤1000) (p3:∀ x∈steps,JR x):Calls Tryz.prog 130 [.agg #[.slice a1 n1 c1,.slice a2 n2 c2,.slice a3 n3 c3,.int .i64 d.next],.slice a4 n4 c4,.int .i64 cut].toArray w (Al fun rv w'=>VS (fo F w.heap.size) w' (toD d steps cut:Dsk) rv∧Ext w w'):=by
 cases h1.len
 cases h2.len
 cases h3.len
 cases h4.len
 refine goT func130 ?_
 have Z:=((((St.i0 F w).p h1).p h2).p h3).p h4
 refine .s<|.g<|RG.Np Z fun ah w Z=>RG.Np Z fun al w Z=>.d<|.s<|.s<|.g<|.r 1<|.d<|.b 0<|T.Lp ((0:Nat),(d.files:List Fil),a1,c1,(d.list:List Int),a2,c2,(d.names:List (List Tag)),a3,c3,d.next) (fun (i,E,a_d_0,c_d_0,aa,a_d_1,c_d_1,ab,a_d_2,c_d_2,ac)=>([(1,.slice a4 steps.length c4),(2,vI cut),(3,vP ah),(6,vP al),(7,vI (i:Int))],[(1,.box ah 36 [.slice a_d_0 E.length c_d_0,.slice a_d_1 aa.length c_d_1,.slice a_d_2 ab.length c_d_2,vI ac])],[⟨1,none,.rep a_d_0 c_d_0 E⟩,⟨1,none,.rep a_d_1 c_d_1 aa⟩,⟨1,none,.rep a_d_2 c_d_2 ab⟩],steps.length - i,(i≤steps.length)∧(E.length≤d.files.length+i)∧(aa.length≤1000)∧(((steps.take cut.toNat).drop i).foldl doD ⟨E,aa,ab,ac⟩=toD d steps cut))) [3,2,1] Z ⟨AB,AB,AB,AF⟩ ?_
 rintro ⟨i,E,a_d_0,c_d_0,aa,a_d_1,c_d_1,ab,a_d_2,c_d_2,ac⟩ aK w Z ⟨aF,aG,aH,aI⟩ af
 refine .s<|.s<|.g<|.r 3<|.bp ((i:Int)< (steps.length:Int)) (fun ai=>?_) (fun ai=>.r 5<|.d<|.cf<|.x 0 rfl<|.s<|.g<|RG.Ln 1 Z<|RG.Ss 0 Z fun w Z=>.d<|T.Rb 0 func130 results130 Z ⟨Z.rS (g:=1) (⟨E,aa,ab,ac⟩:Dsk) [0,1,2] (by exact toEnd ‹_› AB),Z.xt⟩)
 refine .r 3<|.bp ((i:Int)< cut) (fun aj=>?_) (fun aj=>.r 1<|.d<|.cf<|.x 0 rfl<|.s<|.g<|RG.Ln 1 Z<|RG.Ss 0 Z fun w Z=>.d<|T.Rb 0 func130 results130 Z ⟨Z.rS (g:=1) (⟨E,aa,ab,ac⟩:Dsk) [0,1,2] (by exact toEnd ‹_› AB),Z.xt⟩)
 exact .r 1<|.d<|.ct<|.sk<|.s<|.b 1<|T.Gd 5 Z fun w Z=>GA.Ln 0 1 Z<|.r [1,2]<|gxb steps i fun ag ae aJ ak=>GA.Ix 3 3 ae Z<|Z.el 3 ae fun aL aM aN aO aP aQ aR aS Z=>GA.Lg 4 0 0 Z<|GA.Dn Z fun w Z=>RG.CS (MP (⟨E,aa,ab,ac⟩:Dsk) ag (Z.mg 1 5) (Z.mg 1 6) (Z.mg 1 7) (Z.mg 1 1) (Z.mg 1 2) (Z.mg 1 3) (Z.mg 1 4) (by simp only; omega) (by simp only; omega) (p3 _ ‹_›)) Z fun am ao aq ar ax ay w Z=>RG.Ss 1 Z fun w Z=>.d<|.ib 1<|.g<|.r 1<|.it ((i:Int)+1)<|.r 1<|.d<|af (i+1,(doD (⟨E,aa,ab,ac⟩:Dsk) ag).files,am,ao,(doD (⟨E,aa,ab,ac⟩:Dsk) ag).list,aq,ar,(doD (⟨E,aa,ab,ac⟩:Dsk) ag).names,ax,ay,(doD (⟨E,aa,ab,ac⟩:Dsk) ag).next) _ _ AA (Z.to 0 [0,1,2] 11) ⟨AB,(by have q1:=p3 _ ‹_›; have q2:=PE (d:=⟨E,aa,ab,ac⟩) q1.1 ‹_›; dsimp only at q2; omega),(by have q1:=p3 _ ‹_›; have q2:=PE (d:=⟨E,aa,ab,ac⟩) q1.1 ‹_›; dsimp only at q2; omega),(by exact toStep ‹_› ‹_› AB)⟩ (by (simp only []; omega))
theorem Jj (d:Dsk) (at_:Int) (h1:RepS w F a1 n1 c1 d.files) (h2:RepS w F a2 n2 c2 d.list) (h3:RepS w F a3 n3 c3 d.names) (p0:d.names.length≤1000) (p1:∀ n∈d.names,n.length≤1000) (p2:d.list.length≤1000) (p3:∀ n∈d.list,0≤As d n) (p4:∀ f∈d.files,Cs f.part):Calls Tryz.prog 78 [.agg #[.slice a1 n1 c1,.slice a2 n2 c2,.slice a3 n3 c3,.int .i64 d.next],.int .i64 at_].toArray w (Al fun rv w'=>VL (ge w.heap.size) w' (Ak d at_:List Stp) rv∧Ext w w'):=by
 cases h1.len
 cases h2.len
 cases h3.len
 refine goT func78 ?_
 have Z:=(((St.i0 F w).p h1).p h2).p h3
 refine .s<|.g<|RG.Np Z fun aj w Z=>.r 1<|.d<|.s<|.s<|.g<|.r 2<|RG.Lb 0 Z<|.r 1<|.it ((d.list.length:Int) - 2)<|RG.C0 (DG at_ 0 ((d.list.length:Int) - 2) (F:=all)) Z fun w Z=>?_
 cases ai:(inR at_ 0 ((d.list.length:Int) - 2))
 ·exact .r 12<|.d<|.ct<|.s<|.g<|RG.N0 Stp 0 Z fun bI w Z=>.r 1<|.d<|T.Rt func78 results78 ⟨Z.rM 0 ([]:List Stp) (by rw [H5 (.inl ‹_›)]),Z.xt⟩
 have aD:=Bu ai
 refine .r 3<|RG.Lb 0 Z<|.bp (d.next≥999) (fun ak=>.r 7<|.d<|.ct<|.s<|.g<|RG.N0 Stp 0 Z fun bJ w Z=>.r 1<|.d<|T.Rt func78 results78 ⟨Z.rM 0 ([]:List Stp) (by rw [H5 (.inr (.inl ‹_›))]),Z.xt⟩) fun ak=>.r 3<|RG.Lb 0 Z<|.r 1<|.bp ((d.files.length:Int)≥20) (fun al=>.r 1<|.d<|.ct<|.s<|.g<|RG.N0 Stp 0 Z fun bK w Z=>.r 1<|.d<|T.Rt func78 results78 ⟨Z.rM 0 ([]:List Stp) (by rw [H5 (.inr (.inr ‹_›))]),Z.xt⟩) fun al=>.r 1<|.d<|.cf<|.sk<|.s<|.g<|.r 1<|RG.Lb 0 Z<|.r 1<|gxm (h:=AB) d.list (at_.toNat) fun ab ae ao=>RG.Jx (hz:=AB) 1 at_ ae Z<|Z.el 1 ae fun Z=>RG.Lh 0 0 Z<|.r 1<|.d<|.s<|.g<|.r 1<|RG.Lb 0 Z<|.r 1<|.it (at_+1)<|gxm (h:=AB) d.list ((at_+1).toNat) fun ac af aq=>RG.Jx (hz:=AB) 2 (at_+1) af Z<|Z.el 2 af fun Z=>RG.Lh 0 0 Z<|.r 1<|.d<|.s<|T.Gd 18 Z fun w Z=>.r [0]<|GA.Lb 1 0 Z<|GA.Ln 2 0 Z<|.r [3]<|GA.C0 4 Z (fun w Z=>Ei d ab (Z.a 4) (Z.a 3) (Z.a 2))<|gxm (h:=(by exact Il p3 ‹_›)) d.files ((As d ab).toNat) fun E ag ar=>GA.Jx (hz:=(by exact Im p3 ‹_›)) 5 4 (As d ab) ag Z<|.r [6]<|Z.el 4 ag fun bL bM bN bO Z=>GA.Lg 7 0 1 Z<|.r [8]<|GA.Lb 9 0 Z<|GA.Ln 10 0 Z<|.r [11]<|GA.C0 12 Z (fun w Z=>Ei d ac (Z.a 7) (Z.a 6) (Z.a 5))<|gxm (h:=(by exact Il p3 ‹_›)) d.files ((As d ac).toNat) fun aa ah ax=>GA.Jx (hz:=(by exact Im p3 ‹_›)) 13 7 (As d ac) ah Z<|.r [14]<|Z.el 7 ah fun bP bQ bR bS Z=>GA.Lg 15 0 1 Z<|.tw 16 17 ?_ ?_
 ·refine GE.CS (fun w Z=>Dc E.part aa.part (Z.a 4) (Z.a 5) (Z.a 1) (Z.a 2) (p4 _ ‹_›) (p4 _ ‹_›)) Z fun bT bU bV bW w Z=>.go 17<|GE.Np Z fun ay w Z=>GA.Dn Z fun w Z=>RG.Ss 0 Z fun w Z=>.d<|.s<|T.GS 15 [ay,aj] Z fun _ w Z=>.r [1]<|GA.Lb (q:=1) 2 1 Z<|.r [3]<|GA.Sb (hhi:=bdI at_) 4 11 0 (at_.toNat) d.list Z fun bX bY Z=>.r [6]<|GA.Lb (q:=1) 7 1 Z<|.r [10]<|GA.Lb (q:=1) 11 1 Z<|.r [12]<|GA.int (i:=13) (at_+2) AA AB<|GA.Sb (hlo:=bdI (at_+2)) 14 12 ((at_+2).toNat) d.list.length d.list Z fun bZ b0 Z=>.tw 0 8 ?_ ?_
  ·refine GE.N0 Int 0 Z fun b6 w Z=>.tw 5 8 ?_ ?_
   ·exact GE.An (hf:=.inr Av) 0 1 ([]:List Int) ((d.list.take (at_.toNat)).drop 0) [1,2] Z fun b7 b8 w Z=>.go 8<|GE.Nb 1 Z fun b9 w Z=>.go 9<|GE.Ap 0 0 ([]++((d.list.take (at_.toNat)).drop 0)) d.next [] [1,2] Z fun cd ce w Z=>GA.Do Z fun w Z=>RG.An (hf:=.inr Av) 0 0 (([]++((d.list.take (at_.toNat)).drop 0))++[d.next]) ((d.list.take d.list.length).drop ((at_+2).toNat)) Z fun cg ci w Z=>.r 1<|.d<|.s<|T.Gd 13 Z fun w Z=>.r [0]<|GA.Lb 1 2 Z<|GA.Ln 2 1 Z<|.r [3,4,5]<|GA.Lb 6 2 Z<|.r [9,10,11,12]<|.go 7<|GE.CO 0 (fun w Z=>BN d.names (Z.a 12) AB (by intro n hn; have:=p1 n hn; omega)) Z fun cj ck w Z=>.r [8]<|GA.Dn Z fun w Z=>RG.Nl 0 ([(⟨1,d.next,(⟨(BB E.part aa.part).ids,(BB E.part aa.part).blocks⟩:Prt),([]:List Int),([]:List (List Tag))⟩:Stp),(⟨2,0,(⟨([]:List Int),([]:List (List Row))⟩:Prt),((([]++((d.list.take (at_.toNat)).drop 0))++[d.next])++((d.list.take d.list.length).drop ((at_+2).toNat))),d.names⟩:Stp),(⟨3,ab,(⟨([]:List Int),([]:List (List Row))⟩:Prt),([]:List Int),([]:List (List Tag))⟩:Stp),(⟨3,ac,(⟨([]:List Int),([]:List (List Row))⟩:Prt),([]:List Int),([]:List (List Tag))⟩:Stp)]:List Stp) [[16,17,13,12],[9,8,11,10],[7,6,5,4],[3,2,1,0]] ((((((((((((((Z.nl Int).nl (List Tag)).sl 1).sl 0).nl Int).nl (List Row)).nl Int).nl (List Row)).nl Int).nl (List Tag)).nl Int).nl (List Row)).nl Int).nl (List Tag)) fun cm w Z=>.r 1<|.d<|T.Rt func78 results78 ⟨Z.rM 0 ([(⟨1,d.next,(⟨(BB E.part aa.part).ids,(BB E.part aa.part).blocks⟩:Prt),([]:List Int),([]:List (List Tag))⟩:Stp),(⟨2,0,(⟨([]:List Int),([]:List (List Row))⟩:Prt),((([]++((d.list.take (at_.toNat)).drop 0))++[d.next])++((d.list.take d.list.length).drop ((at_+2).toNat))),d.names⟩:Stp),(⟨3,ab,(⟨([]:List Int),([]:List (List Row))⟩:Prt),([]:List Int),([]:List (List Tag))⟩:Stp),(⟨3,ac,(⟨([]:List Int),([]:List (List Row))⟩:Prt),([]:List Int),([]:List (List Tag))⟩:Stp)]:List Stp) (by rw [EI ‹_› ‹_› ‹_› ‹_› ‹_› ‹_› ‹_›]),Z.xt⟩
   exact GE.Nb 1 Z fun co w Z=>.go 5<|GE.An (hf:=.inr Av) 1 1 ([]:List Int) ((d.list.take (at_.toNat)).drop 0) [2,3] Z fun cp cq w Z=>.go 9<|GE.Ap 0 0 ([]++((d.list.take (at_.toNat)).drop 0)) d.next [] [1,2] Z fun cr cu w Z=>GA.Do Z fun w Z=>RG.An (hf:=.inr Av) 0 0 (([]++((d.list.take (at_.toNat)).drop 0))++[d.next]) ((d.list.take d.list.length).drop ((at_+2).toNat)) Z fun cw cx w Z=>.r 1<|.d<|.s<|T.Gd 13 Z fun w Z=>.r [0]<|GA.Lb 1 2 Z<|GA.Ln 2 1 Z<|.r [3,4,5]<|GA.Lb 6 2 Z<|.r [9,10,11,12]<|.go 7<|GE.CO 0 (fun w Z=>BN d.names (Z.a 12) AB (by intro n hn; have:=p1 n hn; omega)) Z fun cy cz w Z=>.r [8]<|GA.Dn Z fun w Z=>RG.Nl 0 ([(⟨1,d.next,(⟨(BB E.part aa.part).ids,(BB E.part aa.part).blocks⟩:Prt),([]:List Int),([]:List (List Tag))⟩:Stp),(⟨2,0,(⟨([]:List Int),([]:List (List Row))⟩:Prt),((([]++((d.list.take (at_.toNat)).drop 0))++[d.next])++((d.list.take d.list.length).drop ((at_+2).toNat))),d.names⟩:Stp),(⟨3,ab,(⟨([]:List Int),([]:List (List Row))⟩:Prt),([]:List Int),([]:List (List Tag))⟩:Stp),(⟨3,ac,(⟨([]:List Int),([]:List (List Row))⟩:Prt),([]:List Int),([]:List (List Tag))⟩:Stp)]:List Stp) [[16,17,13,12],[9,8,11,10],[7,6,5,4],[3,2,1,0]] ((((((((((((((Z.nl Int).nl (List Tag)).sl 1).sl 0).nl Int).nl (List Row)).nl Int).nl (List Row)).nl Int).nl (List Tag)).nl Int).nl (List Row)).nl Int).nl (List Tag)) fun cA w Z=>.r 1<|.d<|T.Rt func78 results78 ⟨Z.rM 0 ([(⟨1,d.next,(⟨(BB E.part aa.part).ids,(BB E.part aa.part).blocks⟩:Prt),([]:List Int),([]:List (List Tag))⟩:Stp),(⟨2,0,(⟨([]:List Int),([]:List (List Row))⟩:Prt),((([]++((d.list.take (at_.toNat)).drop 0))++[d.next])++((d.list.take d.list.length).drop ((at_+2).toNat))),d.names⟩:Stp),(⟨3,ab,(⟨([]:List Int),([]:List (List Row))⟩:Prt),([]:List Int),([]:List (List Tag))⟩:Stp),(⟨3,ac,(⟨([]:List Int),([]:List (List Row))⟩:Prt),([]:List Int),([]:List (List Tag))⟩:Stp)]:List Stp) (by rw [EI ‹_› ‹_› ‹_› ‹_› ‹_› ‹_› ‹_›]),Z.xt⟩
  exact GE.Nb 1 Z fun cB w Z=>.go 0<|GE.N0 Int 0 Z fun cC w Z=>.go 5<|GE.An (hf:=.inr Av) 0 1 ([]:List Int) ((d.list.take (at_.toNat)).drop 0) [2,3] Z fun cD cE w Z=>.go 9<|GE.Ap 0 1 ([]++((d.list.take (at_.toNat)).drop 0)) d.next [] [1,2] Z fun cF cG w Z=>GA.Do Z fun w Z=>RG.An (hf:=.inr Av) 0 0 (([]++((d.list.take (at_.toNat)).drop 0))++[d.next]) ((d.list.take d.list.length).drop ((at_+2).toNat)) Z fun cH cI w Z=>.r 1<|.d<|.s<|T.Gd 13 Z fun w Z=>.r [0]<|GA.Lb 1 2 Z<|GA.Ln 2 1 Z<|.r [3,4,5]<|GA.Lb 6 2 Z<|.r [9,10,11,12]<|.go 7<|GE.CO 0 (fun w Z=>BN d.names (Z.a 12) AB (by intro n hn; have:=p1 n hn; omega)) Z fun aI aJ w Z=>.r [8]<|GA.Dn Z fun w Z=>RG.Nl 0 ([(⟨1,d.next,(⟨(BB E.part aa.part).ids,(BB E.part aa.part).blocks⟩:Prt),([]:List Int),([]:List (List Tag))⟩:Stp),(⟨2,0,(⟨([]:List Int),([]:List (List Row))⟩:Prt),((([]++((d.list.take (at_.toNat)).drop 0))++[d.next])++((d.list.take d.list.length).drop ((at_+2).toNat))),d.names⟩:Stp),(⟨3,ab,(⟨([]:List Int),([]:List (List Row))⟩:Prt),([]:List Int),([]:List (List Tag))⟩:Stp),(⟨3,ac,(⟨([]:List Int),([]:List (List Row))⟩:Prt),([]:List Int),([]:List (List Tag))⟩:Stp)]:List Stp) [[16,17,13,12],[9,8,11,10],[7,6,5,4],[3,2,1,0]] ((((((((((((((Z.nl Int).nl (List Tag)).sl 1).sl 0).nl Int).nl (List Row)).nl Int).nl (List Row)).nl Int).nl (List Tag)).nl Int).nl (List Row)).nl Int).nl (List Tag)) fun aK w Z=>.r 1<|.d<|T.Rt func78 results78 ⟨Z.rM 0 ([(⟨1,d.next,(⟨(BB E.part aa.part).ids,(BB E.part aa.part).blocks⟩:Prt),([]:List Int),([]:List (List Tag))⟩:Stp),(⟨2,0,(⟨([]:List Int),([]:List (List Row))⟩:Prt),((([]++((d.list.take (at_.toNat)).drop 0))++[d.next])++((d.list.take d.list.length).drop ((at_+2).toNat))),d.names⟩:Stp),(⟨3,ab,(⟨([]:List Int),([]:List (List Row))⟩:Prt),([]:List Int),([]:List (List Tag))⟩:Stp),(⟨3,ac,(⟨([]:List Int),([]:List (List Row))⟩:Prt),([]:List Int),([]:List (List Tag))⟩:Stp)]:List Stp) (by rw [EI ‹_› ‹_› ‹_› ‹_› ‹_› ‹_› ‹_›]),Z.xt⟩
 refine GE.Np Z fun am w Z=>.go 16<|GE.CS (fun w Z=>Dc E.part aa.part (Z.a 4) (Z.a 5) (Z.a 1) (Z.a 2) (p4 _ ‹_›) (p4 _ ‹_›)) Z fun aL aM aN aO w Z=>GA.Dn Z fun w Z=>RG.Ss 0 Z fun w Z=>.d<|.s<|T.GS 15 [am,aj] Z fun _ w Z=>.r [1]<|GA.Lb (q:=1) 2 1 Z<|.r [3]<|GA.Sb (hhi:=bdI at_) 4 11 0 (at_.toNat) d.list Z fun aP aQ Z=>.r [6]<|GA.Lb (q:=1) 7 1 Z<|.r [10]<|GA.Lb (q:=1) 11 1 Z<|.r [12]<|GA.int (i:=13) (at_+2) AA AB<|GA.Sb (hlo:=bdI (at_+2)) 14 12 ((at_+2).toNat) d.list.length d.list Z fun aR aS Z=>.tw 0 8 ?_ ?_
 ·refine GE.N0 Int 0 Z fun aT w Z=>.tw 5 8 ?_ ?_
  ·exact GE.An (hf:=.inr Av) 0 1 ([]:List Int) ((d.list.take (at_.toNat)).drop 0) [1,2] Z fun aU aV w Z=>.go 8<|GE.Nb 1 Z fun aW w Z=>.go 9<|GE.Ap 0 0 ([]++((d.list.take (at_.toNat)).drop 0)) d.next [] [1,2] Z fun aX aY w Z=>GA.Do Z fun w Z=>RG.An (hf:=.inr Av) 0 0 (([]++((d.list.take (at_.toNat)).drop 0))++[d.next]) ((d.list.take d.list.length).drop ((at_+2).toNat)) Z fun aZ ba w Z=>.r 1<|.d<|.s<|T.Gd 13 Z fun w Z=>.r [0]<|GA.Lb 1 2 Z<|GA.Ln 2 1 Z<|.r [3,4,5]<|GA.Lb 6 2 Z<|.r [9,10,11,12]<|.go 7<|GE.CO 0 (fun w Z=>BN d.names (Z.a 12) AB (by intro n hn; have:=p1 n hn; omega)) Z fun bd bg w Z=>.r [8]<|GA.Dn Z fun w Z=>RG.Nl 0 ([(⟨1,d.next,(⟨(BB E.part aa.part).ids,(BB E.part aa.part).blocks⟩:Prt),([]:List Int),([]:List (List Tag))⟩:Stp),(⟨2,0,(⟨([]:List Int),([]:List (List Row))⟩:Prt),((([]++((d.list.take (at_.toNat)).drop 0))++[d.next])++((d.list.take d.list.length).drop ((at_+2).toNat))),d.names⟩:Stp),(⟨3,ab,(⟨([]:List Int),([]:List (List Row))⟩:Prt),([]:List Int),([]:List (List Tag))⟩:Stp),(⟨3,ac,(⟨([]:List Int),([]:List (List Row))⟩:Prt),([]:List Int),([]:List (List Tag))⟩:Stp)]:List Stp) [[16,17,13,12],[9,8,11,10],[7,6,5,4],[3,2,1,0]] ((((((((((((((Z.nl Int).nl (List Tag)).sl 1).sl 0).nl Int).nl (List Row)).nl Int).nl (List Row)).nl Int).nl (List Tag)).nl Int).nl (List Row)).nl Int).nl (List Tag)) fun bh w Z=>.r 1<|.d<|T.Rt func78 results78 ⟨Z.rM 0 ([(⟨1,d.next,(⟨(BB E.part aa.part).ids,(BB E.part aa.part).blocks⟩:Prt),([]:List Int),([]:List (List Tag))⟩:Stp),(⟨2,0,(⟨([]:List Int),([]:List (List Row))⟩:Prt),((([]++((d.list.take (at_.toNat)).drop 0))++[d.next])++((d.list.take d.list.length).drop ((at_+2).toNat))),d.names⟩:Stp),(⟨3,ab,(⟨([]:List Int),([]:List (List Row))⟩:Prt),([]:List Int),([]:List (List Tag))⟩:Stp),(⟨3,ac,(⟨([]:List Int),([]:List (List Row))⟩:Prt),([]:List Int),([]:List (List Tag))⟩:Stp)]:List Stp) (by rw [EI ‹_› ‹_› ‹_› ‹_› ‹_› ‹_› ‹_›]),Z.xt⟩
  exact GE.Nb 1 Z fun bi w Z=>.go 5<|GE.An (hf:=.inr Av) 1 1 ([]:List Int) ((d.list.take (at_.toNat)).drop 0) [2,3] Z fun bj bk w Z=>.go 9<|GE.Ap 0 0 ([]++((d.list.take (at_.toNat)).drop 0)) d.next [] [1,2] Z fun bm bn w Z=>GA.Do Z fun w Z=>RG.An (hf:=.inr Av) 0 0 (([]++((d.list.take (at_.toNat)).drop 0))++[d.next]) ((d.list.take d.list.length).drop ((at_+2).toNat)) Z fun bo bq w Z=>.r 1<|.d<|.s<|T.Gd 13 Z fun w Z=>.r [0]<|GA.Lb 1 2 Z<|GA.Ln 2 1 Z<|.r [3,4,5]<|GA.Lb 6 2 Z<|.r [9,10,11,12]<|.go 7<|GE.CO 0 (fun w Z=>BN d.names (Z.a 12) AB (by intro n hn; have:=p1 n hn; omega)) Z fun br bt w Z=>.r [8]<|GA.Dn Z fun w Z=>RG.Nl 0 ([(⟨1,d.next,(⟨(BB E.part aa.part).ids,(BB E.part aa.part).blocks⟩:Prt),([]:List Int),([]:List (List Tag))⟩:Stp),(⟨2,0,(⟨([]:List Int),([]:List (List Row))⟩:Prt),((([]++((d.list.take (at_.toNat)).drop 0))++[d.next])++((d.list.take d.list.length).drop ((at_+2).toNat))),d.names⟩:Stp),(⟨3,ab,(⟨([]:List Int),([]:List (List Row))⟩:Prt),([]:List Int),([]:List (List Tag))⟩:Stp),(⟨3,ac,(⟨([]:List Int),([]:List (List Row))⟩:Prt),([]:List Int),([]:List (List Tag))⟩:Stp)]:List Stp) [[16,17,13,12],[9,8,11,10],[7,6,5,4],[3,2,1,0]] ((((((((((((((Z.nl Int).nl (List Tag)).sl 1).sl 0).nl Int).nl (List Row)).nl Int).nl (List Row)).nl Int).nl (List Tag)).nl Int).nl (List Row)).nl Int).nl (List Tag)) fun bu w Z=>.r 1<|.d<|T.Rt func78 results78 ⟨Z.rM 0 ([(⟨1,d.next,(⟨(BB E.part aa.part).ids,(BB E.part aa.part).blocks⟩:Prt),([]:List Int),([]:List (List Tag))⟩:Stp),(⟨2,0,(⟨([]:List Int),([]:List (List Row))⟩:Prt),((([]++((d.list.take (at_.toNat)).drop 0))++[d.next])++((d.list.take d.list.length).drop ((at_+2).toNat))),d.names⟩:Stp),(⟨3,ab,(⟨([]:List Int),([]:List (List Row))⟩:Prt),([]:List Int),([]:List (List Tag))⟩:Stp),(⟨3,ac,(⟨([]:List Int),([]:List (List Row))⟩:Prt),([]:List Int),([]:List (List Tag))⟩:Stp)]:List Stp) (by rw [EI ‹_› ‹_› ‹_› ‹_› ‹_› ‹_› ‹_›]),Z.xt⟩
 exact GE.Nb 1 Z fun bv w Z=>.go 0<|GE.N0 Int 0 Z fun bw w Z=>.go 5<|GE.An (hf:=.inr Av) 0 1 ([]:List Int) ((d.list.take (at_.toNat)).drop 0) [2,3] Z fun bz bA w Z=>.go 9<|GE.Ap 0 1 ([]++((d.list.take (at_.toNat)).drop 0)) d.next [] [1,2] Z fun bB bC w Z=>GA.Do Z fun w Z=>RG.An (hf:=.inr Av) 0 0 (([]++((d.list.take (at_.toNat)).drop 0))++[d.next]) ((d.list.take d.list.length).drop ((at_+2).toNat)) Z fun bD bE w Z=>.r 1<|.d<|.s<|T.Gd 13 Z fun w Z=>.r [0]<|GA.Lb 1 2 Z<|GA.Ln 2 1 Z<|.r [3,4,5]<|GA.Lb 6 2 Z<|.r [9,10,11,12]<|.go 7<|GE.CO 0 (fun w Z=>BN d.names (Z.a 12) AB (by intro n hn; have:=p1 n hn; omega)) Z fun bF bG w Z=>.r [8]<|GA.Dn Z fun w Z=>RG.Nl 0 ([(⟨1,d.next,(⟨(BB E.part aa.part).ids,(BB E.part aa.part).blocks⟩:Prt),([]:List Int),([]:List (List Tag))⟩:Stp),(⟨2,0,(⟨([]:List Int),([]:List (List Row))⟩:Prt),((([]++((d.list.take (at_.toNat)).drop 0))++[d.next])++((d.list.take d.list.length).drop ((at_+2).toNat))),d.names⟩:Stp),(⟨3,ab,(⟨([]:List Int),([]:List (List Row))⟩:Prt),([]:List Int),([]:List (List Tag))⟩:Stp),(⟨3,ac,(⟨([]:List Int),([]:List (List Row))⟩:Prt),([]:List Int),([]:List (List Tag))⟩:Stp)]:List Stp) [[16,17,13,12],[9,8,11,10],[7,6,5,4],[3,2,1,0]] ((((((((((((((Z.nl Int).nl (List Tag)).sl 1).sl 0).nl Int).nl (List Row)).nl Int).nl (List Row)).nl Int).nl (List Tag)).nl Int).nl (List Row)).nl Int).nl (List Tag)) fun bH w Z=>.r 1<|.d<|T.Rt func78 results78 ⟨Z.rM 0 ([(⟨1,d.next,(⟨(BB E.part aa.part).ids,(BB E.part aa.part).blocks⟩:Prt),([]:List Int),([]:List (List Tag))⟩:Stp),(⟨2,0,(⟨([]:List Int),([]:List (List Row))⟩:Prt),((([]++((d.list.take (at_.toNat)).drop 0))++[d.next])++((d.list.take d.list.length).drop ((at_+2).toNat))),d.names⟩:Stp),(⟨3,ab,(⟨([]:List Int),([]:List (List Row))⟩:Prt),([]:List Int),([]:List (List Tag))⟩:Stp),(⟨3,ac,(⟨([]:List Int),([]:List (List Row))⟩:Prt),([]:List Int),([]:List (List Tag))⟩:Stp)]:List Stp) (by rw [EI ‹_› ‹_› ‹_› ‹_› ‹_› ‹_› ‹_›]),Z.xt⟩
end Go.Proofs.YtckdhcbbgmiccaaGreat
namespace Go.Proofs.YtckdhcbbgmiccaaGreat
def Blk (b:List Row):Prop:=CX none b=true
theorem BV {o:Option Row}{r:Row}{rs:List Row}:CX o (r::rs)=true↔BS r=true∧(∀ q,o=some q→q.t< r.t)∧CX (some r) rs=true:=by
 simp only [CX,AW]
 cases o <;> simp [and_assoc]
theorem M7 {o:Option Row}{b:List Row}(h:CX o b=true):Blk b:=by
 cases b with
 | nil=>rfl
 | cons r rs=>exact BV.2 ⟨(BV.1 h).1,by simp,(BV.1 h).2.2⟩
theorem MR {r:Row}(h:BS r=true):0≤r.t∧r.t≤99:=by
 simp only [BS,AW] at h
 exact Bu h.1
theorem S4 {r:Row}(h:BS r=true):-99≤r.v∧r.v≤99:=by
 simp only [BS,AW] at h
 exact Bu h.2
theorem OJ:∀ (b:List Row) (q:Row),CX (some q) b=true→q.t≤99→(b.length:Int)≤99 - q.t:=by
 intro b
 induction b with
 | nil=>intro q _ h; simp; omega
 | cons r rs ih =>
   intro q h hq
   obtain ⟨h1,h2,h3⟩:=BV.1 h
   have h4:=h2 q rfl
   have h5:=MR h1
   have h6:=ih r h3 AB
   simp only [List.length_cons]
   omega
theorem Blk.len {b:List Row}(h:Blk b):b.length≤100:=by
 cases b with
 | nil=>simp
 | cons r rs =>
   obtain ⟨h1,_,h3⟩:=BV.1 h
   have h5:=MR h1
   have h6:=OJ rs r h3 AB
   simp only [List.length_cons]
   omega
theorem M8:∀ (b:List Row) (o:Option Row),CX o b=true→∀ r∈b,BS r=true:=by
 intro b
 induction b with
 | nil=>intro o _ r hr; cases hr
 | cons x xs ih =>
   intro o h r hr
   obtain ⟨h1,_,h3⟩:=BV.1 h
   rcases List.mem_cons.1 hr with rfl | hr
   ·exact h1
   ·exact ih _ h3 r hr
theorem Blk.rows {b:List Row}(h:Blk b):∀ r∈b,BS r=true:=M8 b none h
theorem LW:∀ (b:List Row) (q:Row),CX (some q) b=true→∀ r∈b,q.t< r.t:=by
 intro b
 induction b with
 | nil=>intro q _ r hr; cases hr
 | cons x xs ih =>
   intro q h r hr
   obtain ⟨_,h2,h3⟩:=BV.1 h
   have h4:=h2 q rfl
   rcases List.mem_cons.1 hr with rfl | hr
   ·exact h4
   ·have:=ih x h3 r hr; omega
def Cu (r:Row):List Row→List Row
 | []=>[r]
 | x::xs=>if r.t< x.t then r::x::xs else if r.t=x.t then r::xs else x::Cu r xs
theorem LX (r:Row):∀ (b out:List Row),(∀ x∈b,r.t< x.t)→Cj out r true b=out++b:=by
 intro b
 induction b with
 | nil=>intro out _; simp [Cj]
 | cons x xs ih =>
   intro out h
   have h1:=h x AD
   have h2:(x.t != r.t)=true:=by simp; omega
   unfold Cj
   simp only [Bool.not_true,Bool.false_and,if_neg,h2,if_true]
   rw [if_neg AD,ih _ (fun y hy=>h y (by simp [hy]))]
   simp
theorem Qy (r:Row):∀ (b out:List Row) (o:Option Row),CX o b=true→Cj out r false b=out++Cu r b:=by
 intro b
 induction b with
 | nil=>intro out o _; simp [Cj,Cu]
 | cons x xs ih =>
   intro out o h
   obtain ⟨_,_,h3⟩:=BV.1 h
   have hg:=LW xs x h3
   unfold Cj Cu
   by_cases h1:r.t< x.t
   ·have e1:(x.t != r.t)=true:=by simp; omega
    have e2:(!false&&decide (x.t≥r.t))=true:=by simp; omega
    rw [if_pos e2,if_pos e1,if_pos h1,LX r xs _ (fun y hy=>by have:=hg y hy; omega)]
    simp
   ·by_cases h2:r.t=x.t
    ·have e1:¬ (x.t != r.t)=true:=by simp; omega
     have e2:(!false&&decide (x.t≥r.t))=true:=by simp; omega
     rw [if_pos e2,if_neg e1,if_neg h1,if_pos h2,LX r xs _ (fun y hy=>by have:=hg y hy; omega)]
     simp
    ·have e1:(x.t != r.t)=true:=by simp; omega
     have e2:¬ (!false&&decide (x.t≥r.t))=true:=by simp; omega
     rw [if_neg e2,if_pos e1,if_neg h1,if_neg h2,ih _ _ h3]
     simp
theorem Fa {b:List Row}(h:Blk b) (r:Row):EA b r=Cu r b:=by
 unfold EA
 rw [Qy r b [] none h]
 rfl
theorem S5 {r:Row}(hr:BS r=true):∀ (b:List Row) (o:Option Row),CX o b=true→(∀ q,o=some q→q.t< r.t)→CX o (Cu r b)=true:=by
 intro b
 induction b with
 | nil=>intro o _ ho; exact BV.2 ⟨hr,ho,rfl⟩
 | cons x xs ih =>
   intro o h ho
   obtain ⟨h1,h2,h3⟩:=BV.1 h
   unfold Cu
   split
   ·exact BV.2 ⟨hr,ho,BV.2 ⟨h1,fun q hq=>by cases hq; assumption,h3⟩⟩
   ·split
    ·rename_i _ he
     refine BV.2 ⟨hr,ho,?_⟩
     cases xs with
     | nil=>rfl
     | cons y ys =>
       obtain ⟨g1,g2,g3⟩:=BV.1 h3
       exact BV.2 ⟨g1,fun q hq=>by cases hq; have:=g2 x rfl; omega,g3⟩
    ·exact BV.2 ⟨h1,h2,ih _ h3 (fun q hq=>by cases hq; omega)⟩
theorem Blk.put {b:List Row}(h:Blk b){r:Row}(hr:BS r=true):Blk (EA b r):=by
 rw [Fa h]
 exact S5 hr b none h AD
theorem Blk.nil:Blk []:=rfl
theorem Blk.foldl {b:List Row}:∀ {a:List Row},Blk a→(∀ r∈b,BS r=true)→Blk (b.foldl EA a):=by
 induction b with
 | nil=>intro a h _; exact h
 | cons x xs ih=>intro a h hr; exact ih (h.put (hr x AD)) (fun r hr'=>hr r (by simp [hr']))
theorem Blk.merge {a b:List Row}(ha:Blk a) (hb:Blk b):Blk (BZ a b):=Blk.foldl ha hb.rows
structure PrtI (p:Prt):Prop where
 len:p.ids.length=p.blocks.length
 le:p.blocks.length≤6
 blk:∀ b∈p.blocks,Blk b
theorem PrtI.sz {p:Prt}(h:PrtI p):Cs p:=⟨h.len,by have:=h.le; omega,fun b hb=>by have:=(h.blk b hb).len; omega⟩
theorem PrtI.nil:PrtI ⟨[],[]⟩:=⟨rfl,by simp,by simp⟩
theorem PrtI.of {p:Prt}(h:PrtI p) (id:Int):Blk (partOf p id):=by
 rcases Ii id p.ids p.blocks with h1 | h1
 ·unfold partOf; rw [h1]; exact Blk.nil
 ·exact h.blk _ h1
theorem LY:∀ (bs:List (List Row)) (i:Nat),(BI i bs).1.length=(BI i bs).2.length∧(BI i bs).2.length≤bs.length∧∀ b∈(BI i bs).2,b∈bs:=by
 intro bs
 induction bs with
 | nil=>intro i; simp [BI]
 | cons b bs ih =>
   intro i
   obtain ⟨h1,h2,h3⟩:=ih (i+1)
   unfold BI
   split
   ·refine ⟨by simp [h1],by simp; omega,fun x hx=>?_⟩
    rcases List.mem_cons.1 hx with rfl | hx
    ·simp
    ·exact List.mem_cons_of_mem _ (h3 x hx)
   ·exact ⟨h1,by simp; omega,fun x hx=>List.mem_cons_of_mem _ (h3 x hx)⟩
theorem PrtI.make {bs:List (List Row)}(hl:bs.length≤6) (h:∀ b∈bs,Blk b):PrtI (Dv bs):=by
 obtain ⟨h1,h2,h3⟩:=LY bs 0
 exact ⟨h1,by unfold Dv; dsimp only; omega,fun b hb=>h b (h3 b hb)⟩
theorem PrtI.merge {p q:Prt}(hp:PrtI p) (hq:PrtI q):PrtI (BB p q):=by
 refine PrtI.make (by rw [Dl]; omega) (fun b hb=>?_)
 simp only [BR,List.mem_map] at hb
 obtain ⟨i,_,rfl⟩:=hb
 exact (hp.of _).merge (hq.of _)
theorem Qz:∀ (mem:List Smp) (bl:List (List Row)),bl.length=6→(∀ b∈bl,Blk b)→(∀ m∈mem,BS m.row=true)→(mem.foldl GP bl).length=6∧∀ b∈mem.foldl GP bl,Blk b:=by
 intro mem
 induction mem with
 | nil=>intro bl h1 h2 _; exact ⟨h1,h2⟩
 | cons m ms ih =>
   intro bl h1 h2 h3
   refine ih (GP bl m) (by rw [Qu,h1]) (fun b hb=>?_) (fun x hx=>h3 x (by simp [hx]))
   unfold GP at hb
   rcases List.mem_or_eq_of_mem_set hb with hb | rfl
   ·exact h2 b hb
   ·refine Blk.put ?_ (h3 m AD)
    rw [List.getD_eq_getElem?_getD]
    cases hx:bl[(m.id - 1).toNat]? with
    | none=>exact Blk.nil
    | some y=>exact h2 y (AV hx)
theorem PrtI.mem {mem:List Smp}(h:∀ m∈mem,BS m.row=true):PrtI (Ai mem):=by
 obtain ⟨h1,h2⟩:=Qz mem [[],[],[],[],[],[]] rfl (by simp [Blk.nil]) h
 exact PrtI.make AB h2
structure NmI (names:List (List Tag)):Prop where
 len:names.length≤6
 ok:∀ n∈names,Aq n=true
 nodup:(names.map text).Nodup
theorem Dy {lo hi:Int}{s:Str}(h:KQ lo hi s=true):s.length=1:=by
 match s,h with
 | [x],_=>rfl
 | [],h=>simp [KQ] at h
 | x::y::r,h=>simp [KQ] at h
theorem Ey:∀ (n:List Tag) (o:Option Tag),Dj o n=true→∀ t∈n,BX t=true:=by
 intro n
 induction n with
 | nil=>intro o _ t ht; cases ht
 | cons x xs ih =>
   intro o h t ht
   simp only [Dj,AW] at h
   rcases List.mem_cons.1 ht with rfl | ht
   ·exact h.1.1
   ·exact ih _ h.2 t ht
theorem Ps {n:List Tag}(h:Aq n=true):n.length≤3∧FX n:=by
 simp only [Aq,AW] at h
 have h1:=Bu h.2
 refine ⟨by omega,by omega,fun t ht=>?_⟩
 have h2:=Ey n none h.1 t ht
 simp only [BX,AW] at h2
 have h3:=Dy h2.1
 have h4:=Dy h2.2
 omega
theorem NmI.sz {names:List (List Tag)}(h:NmI names):∀ n∈names,FX n:=fun n hn=>(Ps (h.ok n hn)).2
theorem M9 (t:Str):∀ (ns:List (List Tag)) (i:Nat),(nmF t i ns=0∧t∉ns.map text)∨((i:Int)< nmF t i ns∧nmF t i ns≤i+ns.length∧t∈ns.map text):=by
 intro ns
 induction ns with
 | nil=>intro i; simp [nmF]
 | cons x xs ih =>
   intro i
   unfold nmF
   by_cases h:text x=t
   ·right
    simp [h]
    omega
   ·have h1:¬ (text x==t)=true:=by simpa using h
    rw [if_neg h1]
    rcases ih (i+1) with ⟨h2,h3⟩ | ⟨h2,h3,h4⟩
    ·left
     refine ⟨h2,?_⟩
     simp only [List.map_cons,List.mem_cons,not_or]
     exact ⟨fun e=>h e.symm,h3⟩
    ·right
     refine ⟨by omega,by simp only [List.length_cons]; omega,?_⟩
     simp only [List.map_cons,List.mem_cons]
     exact .inr h4
theorem NmI.add {names:List (List Tag)}{ps:List Pst}(h:NmI names){n:List Tag}(hn:Aq n=true) (h0:¬ GO ⟨names,ps⟩ n > 0) (hl:names.length< 6):NmI (names++[n]):=by
 refine ⟨by simp; omega,fun m hm=>?_,?_⟩
 ·rcases List.mem_append.1 hm with hm | hm
  ·exact h.ok m hm
  ·simp at hm; rw [hm]; exact hn
 ·rw [List.map_append]
  refine List.nodup_append.2 ⟨h.nodup,by simp,fun a ha b hb=>?_⟩
  simp at hb
  subst hb
  rintro rfl
  rcases M9 (text n) names 0 with ⟨h2,h3⟩ | ⟨h2,_,_⟩
  ·exact h3 ha
  ·exact h0 (by unfold GO; simpa using h2)
structure StoI (s:Sto):Prop where
 idx:s.idx=idxOf s.idx.names
 nm:NmI s.idx.names
 np:s.parts.length≤6
 part:∀ p∈s.parts,PrtI p
 nm2:s.mem.length≤20
 mem:∀ m∈s.mem,1≤m.id∧m.id≤s.idx.names.length∧BS m.row=true
theorem StoI.sz {s:Sto}(h:StoI s):LV s:=⟨⟨by have:=h.nm.len; omega,h.nm.sz⟩,by have:=h.np; omega,fun p hp=>(h.part p hp).sz,by have:=h.nm2; omega⟩
theorem StoI.copy {s:Sto}(h:StoI s):AZ s=s:=by
 have:=h.idx
 unfold AZ
 rw [← this]
theorem StoI.Ip {s:Sto}(h:StoI s):∀ m∈s.mem,1≤m.id∧m.id≤6:=fun m hm=>by
 have h1:=h.mem m hm
 have h2:=h.nm.len
 omega
theorem StoI.new:StoI ⟨⟨[],[]⟩,[],[]⟩:=⟨by rfl,⟨by simp,by simp,by simp⟩,by simp,by simp,by simp,by simp⟩
theorem MS {ix:Idx}(h:ix=idxOf ix.names) (hn:NmI ix.names) (n:List Tag) :
 (BO ix n).1=idxOf (BO ix n).1.names∧NmI (BO ix n).1.names∧ix.names.length≤(BO ix n).1.names.length∧((BO ix n).2.2=true→1≤(BO ix n).2.1∧(BO ix n).2.1≤(BO ix n).1.names.length):=by
 by_cases h1:GO ix n > 0
 ·rw [Ga h1]
  refine ⟨h,hn,Nat.le_refl _,fun _=>?_⟩
  rcases M9 (text n) ix.names 0 with ⟨h2,_⟩ | ⟨h2,h3,_⟩
  ·unfold GO at h1; omega
  ·unfold GO at h1 ⊢; simp only; omega
 ·by_cases h2:Aq n=false∨(ix.names.length:Int)≥6
  ·rw [E9 h1 h2]
   exact ⟨h,hn,Nat.le_refl _,by simp⟩
  ·have h3:Aq n=true:=by
    cases h4:Aq n
    ·exact absurd (.inl h4) h2
    ·rfl
   have h4:¬ (ix.names.length:Int)≥6:=fun h=>h2 (.inr h)
   rw [Gc h1 h3 h4]
   refine ⟨rfl,?_,by simp [idxOf],fun _=>by simp [idxOf]; omega⟩
   exact NmI.add (ps:=ix.AY) hn h3 h1 AB
theorem StoI.add {s:Sto}(h:StoI s) (n:List Tag) (r:Row):StoI (By s n r).1:=by
 unfold By
 split
 ·exact h
 ·rename_i h1
  split
  ·exact h
  ·simp only [Bool.or_eq_true,not_or] at h1
   obtain ⟨⟨h1,h2⟩,h3⟩:=h1
   obtain ⟨g1,g2,g3,g4⟩:=MS h.idx h.nm n
   have h5:=g4 (by simpa using h1)
   refine ⟨g1,g2,h.np,h.part,?_,fun m hm=>?_⟩
   ·have:¬ s.mem.length≥20:=by simpa using h3
    simp only [E4,List.length_append,List.length_cons,List.length_nil]; omega
   ·rcases List.mem_append.1 hm with hm | hm
    ·have:=h.mem m hm
     refine ⟨this.1,?_,this.2.2⟩
     have h6:=this.2.1
     show m.id≤((BO s.idx n).1.names.length:Int)
     omega
    ·simp at hm
     subst hm
     exact ⟨h5.1,h5.2,by simpa using h2⟩
theorem StoI.flush {s:Sto}(h:StoI s):StoI (BD s).1:=by
 unfold BD
 split
 ·exact h
 ·rename_i h1
  refine ⟨h.idx,h.nm,by simp; omega,fun p hp=>?_,by simp,by simp⟩
  rcases List.mem_append.1 hp with hp | hp
  ·exact h.part p hp
  ·simp at hp; subst hp; exact PrtI.mem (fun m hm=>(h.mem m hm).2.2)
theorem StoI.merge {s:Sto}(h:StoI s) (a:Int):StoI (BC s a).1:=by
 unfold BC
 split
 ·rename_i h1
  have h2:=Bu h1
  have h3:a.toNat+1< s.parts.length:=by omega
  refine ⟨h.idx,h.nm,?_,fun p hp=>?_,h.nm2,h.mem⟩
  ·show (Fx s.parts a.toNat).length≤6
   rw [G6 (AU AB) (AU h3)]
   have:=h.np
   simp only [List.length_append,List.length_take,List.length_drop,List.length_cons,List.length_nil]
   omega
  ·change p∈Fx s.parts a.toNat at hp
   rw [G6 (AU AB) (AU h3)] at hp
   rcases List.mem_append.1 hp with hp | hp
   ·rcases List.mem_append.1 hp with hp | hp
    ·exact h.part p (List.mem_of_mem_take hp)
    ·simp at hp; subst hp
     exact (h.part _ (List.getElem_mem _)).merge (h.part _ (List.getElem_mem _))
   ·exact h.part p (List.mem_of_mem_drop hp)
 ·exact h
structure DskI (d:Dsk):Prop where
 nm:NmI d.names
 nf:d.files.length≤20
 file:∀ f∈d.files,PrtI f.part
 nl:d.list.length≤6
 there:∀ n∈d.list,∃ f∈d.files,f.num=n
 num:∀ n∈d.list,0≤n∧n≤999
 next:1≤d.next∧d.next≤999
theorem Pt (n:Int):∀ (fs:List Fil) (i:Nat),0≤DA n i fs↔∃ f∈fs,f.num=n:=by
 intro fs
 induction fs with
 | nil=>intro i; simp [DA]
 | cons f fs ih =>
   intro i
   unfold DA
   by_cases h:f.num=n
   ·simp [h]
   ·have h1:¬ (f.num==n)=true:=by simpa using h
    rw [if_neg h1,ih]
    simp [h]
theorem Ez (d:Dsk) (n:Int):0≤As d n↔∃ f∈d.files,f.num=n:=Pt n d.files 0
theorem DskI.at {d:Dsk}(h:DskI d):∀ n∈d.list,0≤As d n:=fun n hn=>(Ez d n).2 (h.there n hn)
theorem DskI.new:DskI ⟨[],[],[],1⟩:=⟨⟨by simp,by simp,by simp⟩,by simp,by simp,by simp,by simp,by simp,by simp⟩
theorem DskI.part {d:Dsk}(h:DskI d) (n:Int):PrtI (Au d n):=by
 unfold Au
 rw [List.getD_eq_getElem?_getD]
 cases hx:d.files[(As d n).toNat]? with
 | none=>exact PrtI.nil
 | some f=>exact h.file f (AV hx)
theorem DskI.copy {d:Dsk}(h:DskI d):DskI (BG d):=by
 refine ⟨h.nm,by simp [BG]; exact h.nf,fun f hf=>?_,h.nl,fun n hn=>?_,h.num,h.next⟩
 ·simp only [BG,List.mem_map] at hf
  obtain ⟨g,hg,rfl⟩:=hf
  exact (h.file g hg).merge PrtI.nil
 ·obtain ⟨f,hf,he⟩:=h.there n hn
  exact ⟨Kb f,by simp only [BG,List.mem_map]; exact ⟨f,hf,rfl⟩,he⟩
theorem DskI.tidy {d:Dsk}(h:DskI d):DskI (BJ d):=by
 refine ⟨h.nm,Nat.le_trans (List.length_filter_le _ _) h.nf,fun f hf=>h.file f (List.mem_filter.1 hf).1,h.nl,fun n hn=>?_,h.num,h.next⟩
 obtain ⟨f,hf,he⟩:=h.there n hn
 exact ⟨f,List.mem_filter.2 ⟨hf,by rw [he]; have h1:n∈d.list:=hn; simpa using h1⟩,he⟩
theorem DskI.open {d:Dsk}(h:DskI d):StoI (Ao d):=by
 refine ⟨rfl,h.nm,by simp [Ao]; exact h.nl,fun p hp=>?_,by simp [Ao],by simp [Ao]⟩
 simp only [Ao,List.mem_map] at hp
 obtain ⟨n,_,rfl⟩:=hp
 exact h.part n
theorem DskI.gone {d:Dsk}(h:DskI d) (n:Int):DskI ⟨Dp d n,d.list,d.names,d.next⟩:=by
 unfold Dp
 split
 ·rename_i h1
  refine ⟨h.nm,?_,fun f hf=>?_,h.nl,fun k hk=>?_,h.num,h.next⟩
  ·have:=h.nf
   simp only [List.length_append,List.length_take,List.length_drop]; omega
  ·rcases List.mem_append.1 hf with hf | hf
   ·exact h.file f (List.mem_of_mem_take hf)
   ·exact h.file f (List.mem_of_mem_drop hf)
  ·obtain ⟨f,hf,he⟩:=h.there k hk
   obtain ⟨i,hi,hif⟩:=List.mem_iff_getElem.1 hf
   have hne:k≠n:=by rintro rfl; have:=h1.2; simp at this; exact this hk
   have hat:∀ (fs:List Fil) (j:Nat) (g:Fil),0≤DA n j fs→fs[(DA n j fs).toNat - j]? = some g→g.num=n:=by
    intro fs
    induction fs with
    | nil=>intro j g hj; simp [DA] at hj
    | cons y ys ih =>
      intro j g hj hg
      unfold DA at hj hg
      by_cases hy:(y.num==n)=true
      ·rw [if_pos hy] at hg
       simp at hg
       subst hg
       simpa using hy
      ·rw [if_neg hy] at hj hg
       have h3:=J5 n ys (j+1)
       have h4:(DA n (j+1) ys).toNat - j=((DA n (j+1) ys).toNat - (j+1))+1:=by omega
       rw [h4,List.getElem?_cons_succ] at hg
       exact ih _ _ hj hg
   have hin:i≠(As d n).toNat:=by
    rintro rfl
    have:=hat d.files 0 f h1.1 (by show d.files[(As d n).toNat - 0]? = _; rw [Nat.sub_zero,AU hi,hif])
    exact hne (he▸this)
   refine ⟨f,?_,he⟩
   rcases Nat.lt_or_gt_of_ne hin with hlt | hgt
   ·refine List.mem_append.2 (.inl (List.mem_iff_getElem.2 ⟨i,by simp; omega,?_⟩))
    rw [List.getElem_take]; exact hif
   ·refine List.mem_append.2 (.inr (List.mem_iff_getElem.2 ⟨i - ((As d n).toNat+1),by simp; omega,?_⟩))
    rw [List.getElem_drop]
    simp only [show (As d n).toNat+1+(i - ((As d n).toNat+1))=i by omega]
    exact hif
 ·exact h
theorem DskI.UE {d:Dsk}(h:DskI d){p:Prt}(hp:PrtI p) (hf:d.files.length< 20) (hn:d.next< 999):DskI ⟨d.files++[⟨d.next,p⟩],d.list,d.names,d.next+1⟩:=by
 refine ⟨h.nm,by simp; omega,fun f hf=>?_,h.nl,fun n hn=>?_,h.num,by have:=h.next; simp only; omega⟩
 ·rcases List.mem_append.1 hf with hf | hf
  ·exact h.file f hf
  ·simp at hf; subst hf; exact hp
 ·obtain ⟨f,hf,he⟩:=h.there n hn
  exact ⟨f,List.mem_append.2 (.inl hf),he⟩
structure WI (w:Wld):Prop where
 sto:StoI w.store
 dsk:DskI w.disk
theorem WI.new:WI ⟨⟨⟨[],[]⟩,[],[]⟩,⟨[],[],[],1⟩⟩:=⟨StoI.new,DskI.new⟩
theorem WI.Sm {w:Wld}(h:DskI w.disk):WI (BA w):=by
 have h1:=h.tidy.copy
 refine ⟨?_,h1⟩
 show StoI (AZ (Ao (BG (BJ w.disk))))
 rw [h1.open.copy]
 exact h1.open
theorem WI.copy {w:Wld}(h:WI w):WI (Cb w):=⟨by show StoI (AZ w.store); rw [h.sto.copy]; exact h.sto,h.dsk.copy⟩
structure StI (d:Dsk) (st:List Stp):Prop where
 len:st.length≤4
 sz:∀ x∈st,JR x
 ok:∀ k:Nat,DskI ((st.take k).foldl doD d)
theorem StI.nil {d:Dsk}(h:DskI d):StI d []:=⟨by simp,by simp,by simpa using h⟩
theorem Iq {d:Dsk}{x:Stp}{xs:List Stp}(h0:DskI d) (h:∀ k:Nat,DskI ((xs.take k).foldl doD (doD d x))):∀ k:Nat,DskI (((x::xs).take k).foldl doD d):=by
 intro k
 cases k with
 | zero=>exact h0
 | succ k=>exact h k
theorem PF {d:Dsk}(h0:DskI d):∀ k:Nat,DskI ((([]:List Stp).take k).foldl doD d):=by intro k; simpa using h0
theorem StI.flush {w:Wld}(h:WI w):StI w.disk (Aw w.disk w.store):=by
 unfold Aw
 split
 ·exact StI.nil h.dsk
 ·rename_i h1
  have hd:=h.dsk
  have hs:=h.sto
  have hp:PrtI (Ai w.store.mem):=PrtI.mem (fun m hm=>(hs.mem m hm).2.2)
  have h2:=hd.UE hp AB AB
  have hn:=hd.next
  refine ⟨by simp,fun x hx=>?_,?_⟩
  ·simp only [List.mem_cons,List.not_mem_nil,or_false] at hx
   rcases hx with rfl | rfl
   ·exact ⟨by simp,by simp,by simp,by simp only; omega,by simp only; omega⟩
   ·refine ⟨?_,?_,fun n hn=>?_,by simp,by simp⟩
    ·have:=hd.nl; simp; omega
    ·have:=hs.nm.len; simp only; omega
    ·have:=(hs.nm.sz n hn).1; omega
  ·refine Iq hd (Iq ?_ (PF ?_))
   ·rw [Ex rfl]; exact h2
   ·rw [Gf rfl,Ex rfl]
    refine ⟨hs.nm,h2.nf,h2.file,by simp only [List.length_append,List.length_cons,List.length_nil]; omega,fun n hn'=>?_,fun n hn'=>?_,h2.next⟩
    ·rcases List.mem_append.1 hn' with hn' | hn'
     ·exact h2.there n hn'
     ·simp at hn'; subst hn'
      exact ⟨⟨w.disk.next,Ai w.store.mem⟩,by simp,rfl⟩
    ·rcases List.mem_append.1 hn' with hn' | hn'
     ·exact h2.num n hn'
     ·simp at hn'; omega
theorem StI.merge {d:Dsk}(hd:DskI d) (at_:Int):StI d (Ak d at_):=by
 unfold Ak
 split
 ·exact StI.nil hd
 ·rename_i h1
  simp only [Bool.or_eq_true,not_or,Bool.not_eq_true,Bool.not_eq_false',decide_eq_true_eq] at h1
  obtain ⟨⟨h1,h3⟩,h4⟩:=h1
  have h0:=Bu (by simpa using h1)
  have hl:at_.toNat+1< d.list.length:=by omega
  have ha:d.list.getD at_.toNat 0∈d.list:=by rw [List.getD_eq_getElem?_getD,AU AB]; exact List.getElem_mem _
  have hb:d.list.getD (at_.toNat+1) 0∈d.list:=by rw [List.getD_eq_getElem?_getD,AU hl]; exact List.getElem_mem _
  have na:=hd.num _ ha
  have nb:=hd.num _ hb
  generalize d.list.getD at_.toNat 0=a at *
  generalize d.list.getD (at_.toNat+1) 0=b at *
  have hp:PrtI (BB (Au d a) (Au d b)):=(hd.part a).merge (hd.part b)
  have h2:=hd.UE hp AB AB
  have hn:=hd.next
  have hlen:(d.list.take at_.toNat++[d.next]++d.list.drop (at_.toNat+2)).length≤6:=by
   have:=hd.nl
   simp only [List.length_append,List.length_take,List.length_drop,List.length_cons,List.length_nil]; omega
  have hm:∀ n∈d.list.take at_.toNat++[d.next]++d.list.drop (at_.toNat+2),n∈d.list∨n=d.next:=by
   intro n hn
   rcases List.mem_append.1 hn with hn | hn
   ·rcases List.mem_append.1 hn with hn | hn
    ·exact .inl (List.mem_of_mem_take hn)
    ·simp at hn; exact .inr hn
   ·exact .inl (List.mem_of_mem_drop hn)
  have h5:DskI ⟨d.files++[⟨d.next,BB (Au d a) (Au d b)⟩],d.list.take at_.toNat++[d.next]++d.list.drop (at_.toNat+2),d.names,d.next+1⟩:=by
   refine ⟨h2.nm,h2.nf,h2.file,hlen,fun n hn'=>?_,fun n hn'=>?_,h2.next⟩
   ·rcases hm n hn' with hn' | rfl
    ·exact h2.there n hn'
    ·exact ⟨⟨d.next,BB (Au d a) (Au d b)⟩,by simp,rfl⟩
   ·rcases hm n hn' with hn' | rfl
    ·exact h2.num n hn'
    ·omega
  refine ⟨by simp,fun x hx=>?_,?_⟩
  ·simp only [List.mem_cons,List.not_mem_nil,or_false] at hx
   rcases hx with rfl | rfl | rfl | rfl
   ·exact ⟨by simp,by simp,by simp,by simp only; omega,by simp only; omega⟩
   ·refine ⟨by simp only; omega,by have:=hd.nm.len; simp only; omega,fun n hn=>?_,by simp,by simp⟩
    have:=(hd.nm.sz n hn).1; omega
   ·exact ⟨by simp,by simp,by simp,by simp only; omega,by simp only; omega⟩
   ·exact ⟨by simp,by simp,by simp,by simp only; omega,by simp only; omega⟩
  ·refine Iq hd (Iq ?_ (Iq ?_ (Iq ?_ (PF ?_))))
   ·rw [Ex rfl]; exact h2
   ·rw [Gf rfl,Ex rfl]; exact h5
   ·rw [FA rfl,Gf rfl,Ex rfl]; exact h5.gone a
   ·rw [FA rfl,FA rfl,Gf rfl,Ex rfl]; exact (h5.gone a).gone b
theorem WI.steps {w:Wld}(h:WI w){st:List Stp}(hs:StI w.disk st) (cut:Int){s:Sto}(h2:StoI s):WI (Bf w st cut s):=by
 unfold Bf
 split
 ·exact h
 ·split
  ·exact WI.Sm (hs.ok _)
  ·exact ⟨h2,hs.ok _⟩
theorem WI.do {w:Wld}(h:WI w) (e:Evt):WI (doW w e):=by
 unfold doW
 split
 ·split
  ·exact ⟨h.sto.add _ _,h.dsk⟩
  ·exact h
 ·split
  ·exact h.steps (StI.flush h) _ h.sto.flush
  ·split
   ·exact h.steps (StI.merge h.dsk _) _ (h.sto.merge _)
   ·split
    ·exact WI.Sm h.dsk
    ·exact h
theorem Cm {w:Wld}{st:List Stp}{c:Int}{s:Sto}(h:(st.length:Int)=0∨c< 0):Bf w st c s=w:=by unfold Bf; rw [if_pos AB]
theorem ES {w:Wld}{st:List Stp}{c:Int}{s:Sto}(h:(st.length:Int)≠0) (h2:¬ c< 0) (h3:c< st.length):Bf w st c s=BA ⟨w.store,toD w.disk st c⟩:=by unfold Bf; rw [if_neg AB,if_pos h3]
theorem DJ {w:Wld}{st:List Stp}{c:Int}{s:Sto}(h:(st.length:Int)≠0) (h2:¬ c< 0) (h3:¬ c< st.length):Bf w st c s=⟨s,toD w.disk st c⟩:=by unfold Bf; rw [if_neg AB,if_neg h3]
theorem HR {w:Wld}{e:Evt}(h:e.kind=1) (h2:Aq e.name=true):doW w e=⟨(By w.store e.name e.row).1,w.disk⟩:=by unfold doW; rw [if_pos h,if_pos h2]
theorem F1 {w:Wld}{e:Evt}(h:e.kind=1) (h2:Aq e.name=false):doW w e=w:=by unfold doW; rw [if_pos h,if_neg (by simp [h2])]
theorem HS {w:Wld}{e:Evt}(h:e.kind=2):doW w e=Bf w (Aw w.disk w.store) e.cut (BD w.store).1:=by unfold doW; rw [if_neg AB,if_pos h]
theorem GC {w:Wld}{e:Evt}(h:e.kind=3):doW w e=Bf w (Ak w.disk e.at_) e.cut (BC w.store e.at_).1:=by unfold doW; rw [if_neg AB,if_neg AB,if_pos h]
theorem NA {w:Wld}{e:Evt}(h:e.kind=4):doW w e=BA w:=by unfold doW; rw [if_neg AB,if_neg AB,if_neg AB,if_pos h]
theorem LZ {w:Wld}{e:Evt}(h:e.kind≠1) (h2:e.kind≠2) (h3:e.kind≠3) (h4:e.kind≠4):doW w e=w:=by unfold doW; rw [if_neg h,if_neg h2,if_neg h3,if_neg h4]
end Go.Proofs.YtckdhcbbgmiccaaGreat
namespace Go.Proofs.YtckdhcbbgmiccaaGreat
set_option maxRecDepth 100000
set_option maxHeartbeats 4000000
variable {w:World} {F:Nat→Prop} {a1 a2 a3 a4 a5 a6 a7 a8 a9 a10 a11 a12:Option Addr} {n1 c1 n2 c2 n3 c3 n4 c4 n5 c5 n6 c6 n7 c7 n8 c8 n9 c9 n10 c10 n11 c11 n12 c12:Nat}
theorem Gh (w_:Wld) (h1:RepS w F a1 n1 c1 w_.store.idx.names) (h2:RepS w F a2 n2 c2 w_.store.idx.AY) (h3:RepS w F a3 n3 c3 w_.store.parts) (h4:RepS w F a4 n4 c4 w_.store.mem) (h5:RepS w F a5 n5 c5 w_.disk.files) (h6:RepS w F a6 n6 c6 w_.disk.list) (h7:RepS w F a7 n7 c7 w_.disk.names) (p0:WI w_):Calls Tryz.prog 38 [.agg #[.slice a1 n1 c1,.slice a2 n2 c2,.slice a3 n3 c3,.slice a4 n4 c4,.slice a5 n5 c5,.slice a6 n6 c6,.slice a7 n7 c7,.int .i64 w_.disk.next]].toArray w (Al fun rv w'=>(∃ (a0:Option Addr) (n0 c0:Nat) (a1:Option Addr) (n1 c1:Nat) (a2:Option Addr) (n2 c2:Nat) (r3 n3 c3:Nat) (r4 n4 c4:Nat) (r5 n5 c5:Nat) (r6 n6 c6:Nat),rv=.agg #[.slice a0 n0 c0,.slice a1 n1 c1,.slice a2 n2 c2,.slice (some ⟨r3,0,none⟩) n3 c3,.slice (some ⟨r4,0,none⟩) n4 c4,.slice (some ⟨r5,0,none⟩) n5 c5,.slice (some ⟨r6,0,none⟩) n6 c6,.int .i64 ((((Cb w_)).disk).next)]∧RepS w' (nin (ge w.heap.size) [r3,r4,r5,r6]) a0 n0 c0 (((((Cb w_)).store).idx).names)∧RepS w' (nin (ge w.heap.size) [r3,r4,r5,r6]) a1 n1 c1 (((((Cb w_)).store).idx).AY)∧RepS w' (nin (ge w.heap.size) [r3,r4,r5,r6]) a2 n2 c2 ((((Cb w_)).store).parts)∧Own w' r3 107 (nin (ge w.heap.size) [r3,r4,r5,r6]) n3 c3 ((((Cb w_)).store).mem)∧w.heap.size≤r3∧Own w' r4 110 (nin (ge w.heap.size) [r3,r4,r5,r6]) n4 c4 ((((Cb w_)).disk).files)∧w.heap.size≤r4∧Nb r4 r3∧Own w' r5 3 (nin (ge w.heap.size) [r3,r4,r5,r6]) n5 c5 ((((Cb w_)).disk).list)∧w.heap.size≤r5∧Nb r5 r3∧Nb r5 r4∧Own w' r6 42 (nin (ge w.heap.size) [r3,r4,r5,r6]) n6 c6 ((((Cb w_)).disk).names)∧w.heap.size≤r6∧Nb r6 r3∧Nb r6 r4∧Nb r6 r5)∧Ext w w'):=by
 cases h1.len
 cases h2.len
 cases h3.len
 cases h4.len
 cases h5.len
 cases h6.len
 cases h7.len
 refine goT func38 ?_
 have Z:=(((((((St.i0 F w).p h1).p h2).p h3).p h4).p h5).p h6).p h7
 have aP:=h5.max
 have aQ:=h6.max
 have aR:=h7.max
 refine .s<|.g<|RG.Np Z fun aS w Z=>RG.Np Z fun aT w Z=>.d<|.s<|T.Gd 5 Z fun w Z=>.r [0]<|GA.Ln 1 1 Z<|.r [3]<|GA.Ln 4 1 Z<|.go 2<|GE.Cg (fun w Z=>Ge w_.store (Z.a 6) (Z.a 5) (Z.a 4) (Z.a 3) p0.sto.sz) Z ?_
 rintro w _ w Z ⟨⟨af,aU,ag,ah,aV,ai,aj,aW,ak,al,aX,am,rfl,ao,aq,ar,E,ax⟩,aa⟩
 refine ⟨Ext.chg aa,?_⟩
 cases ao.len
 cases aq.len
 cases ar.len
 cases E.len
 have Z:=Z.so aa [.own 0 al 107 am (((AZ w_.store)).mem)] [.rep af ag ((((AZ w_.store)).idx).names),.rep ah ai ((((AZ w_.store)).idx).AY),.rep aj ak (((AZ w_.store)).parts)] nd1 (oN E ax o0) (fc ao (fc aq (fc ar fn_)))
 refine GA.Dn Z fun w Z=>RG.cl (Gg w_.disk (Z.a 5) (Z.a 4) (Z.a 3) (by have:=p0.dsk.nm.len; omega) (fun n hn=>by have:=(p0.dsk.nm.sz n hn).1; omega) (by have:=p0.dsk.nl; omega) (by have:=p0.dsk.nf; omega) (fun f hf=>(p0.dsk.file f hf).sz)) ?_
 rintro _ w ⟨⟨ay,aY,az,aA,aZ,aB,aC,ba,aD,rfl,ab,aE,ac,aF,aG,ae,aH,aI,aJ⟩,aK⟩
 cases ab.len
 cases ac.len
 cases ae.len
 have Z:=Z.so aK [.own 0 ay 110 az (((BG w_.disk)).files),.own 0 aA 3 aB (((BG w_.disk)).list),.own 0 aC 42 aD (((BG w_.disk)).names)] [] (nd3 aG aI aJ) (oN ab aE (oN ac aF (oN ae aH o0))) fn_
 exact .r 1<|RG.Ss 4 Z fun w Z=>.d<|T.Rb 4 func38 results38 Z ⟨⟨af,(((((AZ w_.store)).idx).names).length),ag,ah,(((((AZ w_.store)).idx).AY).length),ai,aj,((((AZ w_.store)).parts).length),ak,al,((((AZ w_.store)).mem).length),am,ay,((((BG w_.disk)).files).length),az,aA,((((BG w_.disk)).list).length),aB,aC,((((BG w_.disk)).names).length),aD,(by rw [show ((((Cb w_)).disk).next)=(((BG w_.disk)).next) from Eq.symm AF]; kernel_rfl),Z.qr [3,0,1,2] 0 ((((AZ w_.store)).idx).names) AF,Z.qr [3,0,1,2] 1 ((((AZ w_.store)).idx).AY) AF,Z.qr [3,0,1,2] 2 (((AZ w_.store)).parts) AF,Z.qo [3,0,1,2] 3 (((AZ w_.store)).mem) AF,Z.qb 3,Z.qo [3,0,1,2] 0 (((BG w_.disk)).files) AF,Z.qb 0,Z.qn 0 3,Z.qo [3,0,1,2] 1 (((BG w_.disk)).list) AF,Z.qb 1,Z.qn 1 3,Z.qn 1 0,Z.qo [3,0,1,2] 2 (((BG w_.disk)).names) AF,Z.qb 2,Z.qn 2 3,Z.qn 2 0,Z.qn 2 1⟩,Z.xt⟩
theorem Gi (w_:Wld) (h1:RepS w F a1 n1 c1 w_.store.idx.names) (h2:RepS w F a2 n2 c2 w_.store.idx.AY) (h3:RepS w F a3 n3 c3 w_.store.parts) (h4:RepS w F a4 n4 c4 w_.store.mem) (h5:RepS w F a5 n5 c5 w_.disk.files) (h6:RepS w F a6 n6 c6 w_.disk.list) (h7:RepS w F a7 n7 c7 w_.disk.names) (p0:DskI w_.disk):Calls Tryz.prog 79 [.agg #[.slice a1 n1 c1,.slice a2 n2 c2,.slice a3 n3 c3,.slice a4 n4 c4,.slice a5 n5 c5,.slice a6 n6 c6,.slice a7 n7 c7,.int .i64 w_.disk.next]].toArray w (Al fun rv w'=>VS (ge w.heap.size) w' (BA w_:Wld) rv∧Ext w w'):=by
 cases h1.len
 cases h2.len
 cases h3.len
 cases h4.len
 cases h5.len
 cases h6.len
 cases h7.len
 refine goT func79 ?_
 have Z:=(((((((St.i0 F w).p h1).p h2).p h3).p h4).p h5).p h6).p h7
 have aP:=h5.max
 refine .s<|.g<|RG.Np Z fun aS w Z=>RG.Np Z fun aT w Z=>.d<|.s<|.g<|.r 1<|RG.Ln 1 Z<|RG.CS (Ka w_.disk (Z.mg 1 2) (Z.mg 1 1) (Z.mg 1 0) (by have:=p0.nf; omega)) Z fun aU aV aW aX aY aZ w Z=>RG.cl (Gg (BJ w_.disk) (Z.a 0) (Z.a 1) (Z.a 2) (by have:=p0.tidy.nm.len; omega) (fun n hn=>by have:=(p0.tidy.nm.sz n hn).1; omega) (by have:=p0.tidy.nl; omega) (by have:=p0.tidy.nf; omega) (fun f hf=>(p0.tidy.file f hf).sz)) ?_
 rintro _ w ⟨⟨ax,ba,ay,az,bd,aA,aB,bg,aC,rfl,E,ae,aa,af,ag,ab,ah,ai,aj⟩,ak⟩
 cases E.len
 cases aa.len
 cases ab.len
 have Z:=Z.so ak [.own 0 ax 110 ay (((BG (BJ w_.disk))).files),.own 0 az 3 aA (((BG (BJ w_.disk))).list),.own 0 aB 42 aC (((BG (BJ w_.disk))).names)] [] (nd3 ag ai aj) (oN E ae (oN aa af (oN ab ah o0))) fn_
 refine .r 1<|RG.Ss 4 Z fun w Z=>.d<|.s<|.g<|.r 1<|RG.Ln 4 Z ?_
 have Z:=((Z.sl 0).sl 0).sl 0
 refine RG.CS (Kc ((BG (BJ w_.disk))) (Z.mg 1 2) (Z.mg 1 1) (Z.mg 1 0) (by have:=p0.tidy.copy.nm.len; omega) p0.tidy.copy.nm.sz (by have:=p0.tidy.copy.nl; omega) p0.tidy.copy.at) Z fun bh bi bj bk bm bn bo bq w Z=>RG.cl (Ge (⟨(⟨((Ao ((BG (BJ w_.disk)))).idx).names,((Ao ((BG (BJ w_.disk)))).idx).AY⟩:Idx),(Ao ((BG (BJ w_.disk)))).parts,(Ao ((BG (BJ w_.disk)))).mem⟩:Sto) (Z.a 0) (Z.a 1) (Z.a 2) (Z.a 3) p0.tidy.copy.open.sz) ?_
 rintro _ w ⟨⟨aD,br,aE,aF,bt,aG,aH,bu,aI,aJ,bv,aK,rfl,al,am,ao,ac,aq⟩,ar⟩
 cases al.len
 cases am.len
 cases ao.len
 cases ac.len
 have Z:=Z.so ar [.own 0 aJ 107 aK (((AZ (⟨(⟨((Ao ((BG (BJ w_.disk)))).idx).names,((Ao ((BG (BJ w_.disk)))).idx).AY⟩:Idx),(Ao ((BG (BJ w_.disk)))).parts,(Ao ((BG (BJ w_.disk)))).mem⟩:Sto))).mem)] [.rep aD aE ((((AZ (⟨(⟨((Ao ((BG (BJ w_.disk)))).idx).names,((Ao ((BG (BJ w_.disk)))).idx).AY⟩:Idx),(Ao ((BG (BJ w_.disk)))).parts,(Ao ((BG (BJ w_.disk)))).mem⟩:Sto))).idx).names),.rep aF aG ((((AZ (⟨(⟨((Ao ((BG (BJ w_.disk)))).idx).names,((Ao ((BG (BJ w_.disk)))).idx).AY⟩:Idx),(Ao ((BG (BJ w_.disk)))).parts,(Ao ((BG (BJ w_.disk)))).mem⟩:Sto))).idx).AY),.rep aH aI (((AZ (⟨(⟨((Ao ((BG (BJ w_.disk)))).idx).names,((Ao ((BG (BJ w_.disk)))).idx).AY⟩:Idx),(Ao ((BG (BJ w_.disk)))).parts,(Ao ((BG (BJ w_.disk)))).mem⟩:Sto))).parts)] nd1 (oN ac aq o0) (fc al (fc am (fc ao fn_)))
 refine .r 1<|RG.Ss 2 Z fun w Z=>.d<|.s<|.g<|RG.Ln 2 Z<|RG.Ss 1 Z fun w Z=>.d ?_
 have Z:=Z.sl 0
 exact T.Rb 0 func79 results79 Z ⟨Z.rS (⟨(⟨(⟨(((AZ (⟨(⟨((Ao ((BG (BJ w_.disk)))).idx).names,((Ao ((BG (BJ w_.disk)))).idx).AY⟩:Idx),(Ao ((BG (BJ w_.disk)))).parts,(Ao ((BG (BJ w_.disk)))).mem⟩:Sto))).idx).names,(((AZ (⟨(⟨((Ao ((BG (BJ w_.disk)))).idx).names,((Ao ((BG (BJ w_.disk)))).idx).AY⟩:Idx),(Ao ((BG (BJ w_.disk)))).parts,(Ao ((BG (BJ w_.disk)))).mem⟩:Sto))).idx).AY⟩:Idx),((AZ (⟨(⟨((Ao ((BG (BJ w_.disk)))).idx).names,((Ao ((BG (BJ w_.disk)))).idx).AY⟩:Idx),(Ao ((BG (BJ w_.disk)))).parts,(Ao ((BG (BJ w_.disk)))).mem⟩:Sto))).parts,((AZ (⟨(⟨((Ao ((BG (BJ w_.disk)))).idx).names,((Ao ((BG (BJ w_.disk)))).idx).AY⟩:Idx),(Ao ((BG (BJ w_.disk)))).parts,(Ao ((BG (BJ w_.disk)))).mem⟩:Sto))).mem⟩:Sto),(⟨((BG (BJ w_.disk))).files,((BG (BJ w_.disk))).list,((BG (BJ w_.disk))).names,((BG (BJ w_.disk))).next⟩:Dsk)⟩:Wld) [1,2,3,0,10,9,8] AF,Z.xt⟩
theorem GD (w_:Wld) (steps:List Stp) (cut:Int) (s:Sto) (h1:RepS w F a1 n1 c1 w_.store.idx.names) (h2:RepS w F a2 n2 c2 w_.store.idx.AY) (h3:RepS w F a3 n3 c3 w_.store.parts) (h4:RepS w F a4 n4 c4 w_.store.mem) (h5:RepS w F a5 n5 c5 w_.disk.files) (h6:RepS w F a6 n6 c6 w_.disk.list) (h7:RepS w F a7 n7 c7 w_.disk.names) (h8:RepS w F a8 n8 c8 steps) (h9:RepS w F a9 n9 c9 s.idx.names) (h10:RepS w F a10 n10 c10 s.idx.AY) (h11:RepS w F a11 n11 c11 s.parts) (h12:RepS w F a12 n12 c12 s.mem) (p0:WI w_) (p1:StI w_.disk steps) (p2:StoI s):Calls Tryz.prog 75 [.agg #[.slice a1 n1 c1,.slice a2 n2 c2,.slice a3 n3 c3,.slice a4 n4 c4,.slice a5 n5 c5,.slice a6 n6 c6,.slice a7 n7 c7,.int .i64 w_.disk.next],.slice a8 n8 c8,.int .i64 cut,.agg #[.slice a9 n9 c9,.slice a10 n10 c10,.slice a11 n11 c11,.slice a12 n12 c12]].toArray w (Al fun rv w'=>VS (fo F w.heap.size) w' (Bf w_ steps cut s:Wld) rv∧Ext w w'):=by
 cases h1.len
 cases h2.len
 cases h3.len
 cases h4.len
 cases h5.len
 cases h6.len
 cases h7.len
 cases h8.len
 cases h9.len
 cases h10.len
 cases h11.len
 cases h12.len
 refine goT func75 ?_
 have Z:=((((((((((((St.i0 F w).p h1).p h2).p h3).p h4).p h5).p h6).p h7).p h8).p h9).p h10).p h11).p h12
 have ah:=h5.max
 have ai:=h6.max
 have ak:=h8.max
 exact .s<|.g<|RG.Np Z fun ar w Z=>RG.Np Z fun ax w Z=>RG.Np Z fun ay w Z=>.d<|.s<|.s<|.g<|.r 2<|.eq (steps.length:Int) 0 (fun E=>.r 4<|.d<|.ct<|.s<|.g<|RG.Ln 2 Z<|RG.Ss 0 Z fun w Z=>.d<|T.Rb 0 func75 results75 Z ⟨Z.rS (g:=1) w_ [11,10,9,8,7,6,5] (by rw [Cm AB]),Z.xt⟩) fun E=>.r 2<|.bp (cut< 0) (fun aa=>.r 1<|.d<|.ct<|.s<|.g<|RG.Ln 2 Z<|RG.Ss 0 Z fun w Z=>.d<|T.Rb 0 func75 results75 Z ⟨Z.rS (g:=1) w_ [11,10,9,8,7,6,5] (by rw [Cm AB]),Z.xt⟩) fun aa=>.r 1<|.d<|.cf<|.sk<|.s<|.g<|.r 1<|RG.Ln 2 Z<|.r 2<|RG.CS (MQ w_.disk steps cut (Z.mg 1 7) (Z.mg 1 6) (Z.mg 1 5) (Z.mg 1 4) (by have:=p0.dsk.nf; omega) (by have:=p1.len; omega) (by have:=p0.dsk.nl; omega) p1.sz) Z fun az aA aB aC aD aE w Z=>.r 1<|RG.Ss 2 Z fun w Z=>.d<|.s<|.s<|.g<|.r 3<|.bp (cut< (steps.length:Int)) (fun ab=>.d<|.ct<|.s<|.g<|RG.Ln 2 Z<|RG.CS (Gi (⟨(⟨(⟨w_.store.idx.names,w_.store.idx.AY⟩:Idx),w_.store.parts,w_.store.mem⟩:Sto),(⟨(toD w_.disk steps cut).files,(toD w_.disk steps cut).list,(toD w_.disk steps cut).names,(toD w_.disk steps cut).next⟩:Dsk)⟩:Wld) (Z.a 14) (Z.a 13) (Z.a 12) (Z.a 11) (Z.a 0) (Z.a 1) (Z.a 2) (p1.ok _)) Z fun aF aG aH aI aJ aK aL aM aN aO aP aQ aR aS w Z=>RG.Ss 0 Z fun w Z=>.d<|T.Rb 0 func75 results75 Z ⟨Z.rS (g:=1) (⟨(⟨(⟨(((BA (⟨(⟨(⟨w_.store.idx.names,w_.store.idx.AY⟩:Idx),w_.store.parts,w_.store.mem⟩:Sto),(⟨(toD w_.disk steps cut).files,(toD w_.disk steps cut).list,(toD w_.disk steps cut).names,(toD w_.disk steps cut).next⟩:Dsk)⟩:Wld)).store).idx).names,(((BA (⟨(⟨(⟨w_.store.idx.names,w_.store.idx.AY⟩:Idx),w_.store.parts,w_.store.mem⟩:Sto),(⟨(toD w_.disk steps cut).files,(toD w_.disk steps cut).list,(toD w_.disk steps cut).names,(toD w_.disk steps cut).next⟩:Dsk)⟩:Wld)).store).idx).AY⟩:Idx),((BA (⟨(⟨(⟨w_.store.idx.names,w_.store.idx.AY⟩:Idx),w_.store.parts,w_.store.mem⟩:Sto),(⟨(toD w_.disk steps cut).files,(toD w_.disk steps cut).list,(toD w_.disk steps cut).names,(toD w_.disk steps cut).next⟩:Dsk)⟩:Wld)).store).parts,((BA (⟨(⟨(⟨w_.store.idx.names,w_.store.idx.AY⟩:Idx),w_.store.parts,w_.store.mem⟩:Sto),(⟨(toD w_.disk steps cut).files,(toD w_.disk steps cut).list,(toD w_.disk steps cut).names,(toD w_.disk steps cut).next⟩:Dsk)⟩:Wld)).store).mem⟩:Sto),(⟨((BA (⟨(⟨(⟨w_.store.idx.names,w_.store.idx.AY⟩:Idx),w_.store.parts,w_.store.mem⟩:Sto),(⟨(toD w_.disk steps cut).files,(toD w_.disk steps cut).list,(toD w_.disk steps cut).names,(toD w_.disk steps cut).next⟩:Dsk)⟩:Wld)).disk).files,((BA (⟨(⟨(⟨w_.store.idx.names,w_.store.idx.AY⟩:Idx),w_.store.parts,w_.store.mem⟩:Sto),(⟨(toD w_.disk steps cut).files,(toD w_.disk steps cut).list,(toD w_.disk steps cut).names,(toD w_.disk steps cut).next⟩:Dsk)⟩:Wld)).disk).list,((BA (⟨(⟨(⟨w_.store.idx.names,w_.store.idx.AY⟩:Idx),w_.store.parts,w_.store.mem⟩:Sto),(⟨(toD w_.disk steps cut).files,(toD w_.disk steps cut).list,(toD w_.disk steps cut).names,(toD w_.disk steps cut).next⟩:Dsk)⟩:Wld)).disk).names,((BA (⟨(⟨(⟨w_.store.idx.names,w_.store.idx.AY⟩:Idx),w_.store.parts,w_.store.mem⟩:Sto),(⟨(toD w_.disk steps cut).files,(toD w_.disk steps cut).list,(toD w_.disk steps cut).names,(toD w_.disk steps cut).next⟩:Dsk)⟩:Wld)).disk).next⟩:Dsk)⟩:Wld) [0,1,2,3,4,5,6] (by rw [ES AB AB AB]),Z.xt⟩) fun ab=>.d<|.cf<|.sk<|.s<|.g<|RG.Ln 1 Z<|.r 1<|RG.Ss 2 Z fun w Z=>.d<|.s<|.g<|RG.Ln 2 Z<|RG.Ss 0 Z fun w Z=>.d<|T.Rb 0 func75 results75 Z ⟨Z.rS (g:=1) (⟨(⟨(⟨s.idx.names,s.idx.AY⟩:Idx),s.parts,s.mem⟩:Sto),(⟨(toD w_.disk steps cut).files,(toD w_.disk steps cut).list,(toD w_.disk steps cut).names,(toD w_.disk steps cut).next⟩:Dsk)⟩:Wld) [6,5,4,3,0,1,2] (by rw [DJ AB AB AB]),Z.xt⟩
theorem H6 (w_:Wld) (e:Evt) (h1:RepS w F a1 n1 c1 w_.store.idx.names) (h2:RepS w F a2 n2 c2 w_.store.idx.AY) (h3:RepS w F a3 n3 c3 w_.store.parts) (h4:RepS w F a4 n4 c4 w_.store.mem) (h5:RepS w F a5 n5 c5 w_.disk.files) (h6:RepS w F a6 n6 c6 w_.disk.list) (h7:RepS w F a7 n7 c7 w_.disk.names) (h8:RepS w F a8 n8 c8 e.name) (p0:WI w_) (p1:FX e.name):Calls Tryz.prog 37 [.agg #[.slice a1 n1 c1,.slice a2 n2 c2,.slice a3 n3 c3,.slice a4 n4 c4,.slice a5 n5 c5,.slice a6 n6 c6,.slice a7 n7 c7,.int .i64 w_.disk.next],.agg #[.int .i64 e.kind,.int .i64 e.at_,.int .i64 e.cut,.slice a8 n8 c8,.int .i64 e.row.t,.int .i64 e.row.v]].toArray w (Al fun rv w'=>VS (fo F w.heap.size) w' (doW w_ e:Wld) rv∧Ext w w'):=by
 cases h1.len
 cases h2.len
 cases h3.len
 cases h4.len
 cases h5.len
 cases h6.len
 cases h7.len
 cases h8.len
 refine goT func37 ?_
 have Z:=((((((((St.i0 F w).p h1).p h2).p h3).p h4).p h5).p h6).p h7).p h8
 have ae:=h1.max
 have ag:=h3.max
 have ah:=h4.max
 have aj:=h6.max
 have ak:=h7.max
 refine .s<|.g<|RG.Np Z fun aG w Z=>RG.Np Z fun aH w Z=>RG.Np Z fun aI w Z=>.d<|.s<|.s<|.g<|.r 1<|RG.Lb 1 Z<|.d<|.b 0<|.s<|.g<|.eq e.kind 1 (fun E=>?_) (fun E=>.r 1<|.d<|.cf<|.s<|.g<|.eq e.kind 2 (fun aa=>.r 1<|.d<|.ct<|.s<|.g<|.r 1<|RG.Ln 2 Z<|RG.CT (us:=[.bool ((BD w_.store).2)]) (Jg w_.store (Z.mg 1 7) (Z.mg 1 6) (Z.mg 1 5) (Z.mg 1 4) (by have:=p0.sto.nm2; omega) p0.sto.Ip) Z fun aJ aK aL aM aN aO aP aQ w Z=>.r 3<|RG.Np Z fun aR w Z=>RG.Ss 0 Z fun w Z=>.r 1<|.d<|.s<|T.Gd 9 Z fun w Z=>GA.Ln 0 3 Z<|.r [1]<|GA.Ln 2 3 Z<|.r [3]<|GA.Ln 4 3 Z<|.r [6]<|GA.Lb 7 2 Z<|GA.Ln 8 0 Z<|.go 5<|GE.CL (fun w Z=>Ji w_.disk w_.store (Z.a 7) (Z.a 6) (Z.a 5) (Z.a 11) (Z.a 10) (Z.a 9) (Z.a 8) (by have:=p0.sto.nm2; omega) p0.sto.Ip (by have:=p0.dsk.nl; omega) (by have:=p0.sto.nm.len; omega) (fun n hn=>(p0.sto.nm.sz n hn).1)) Z fun aS aT w Z=>GA.Dn Z fun w Z=>RG.CS (GD w_ (Aw w_.disk w_.store) e.cut (⟨(⟨(BD w_.store).1.idx.names,((BD w_.store).1.idx).AY⟩:Idx),(BD w_.store).1.parts,(BD w_.store).1.mem⟩:Sto) (Z.mg 1 12) (Z.mg 1 11) (Z.mg 1 10) (Z.mg 1 9) (Z.mg 1 8) (Z.mg 1 7) (Z.mg 1 6) (Z.mg 1 0) (Z.mg 1 1) (Z.mg 1 2) (Z.mg 1 3) (Z.mg 1 4) p0 (by exact StI.flush p0) (by exact p0.sto.flush)) Z fun aU aV aW aX aY aZ ba bd bg bh bi bj bk bm w Z=>RG.Ss 1 Z fun w Z=>.d<|T.Rb 1 func37 results37 Z ⟨Z.rS (g:=1) (⟨(⟨(⟨(((Bf w_ (Aw w_.disk w_.store) e.cut (⟨(⟨(BD w_.store).1.idx.names,((BD w_.store).1.idx).AY⟩:Idx),(BD w_.store).1.parts,(BD w_.store).1.mem⟩:Sto)).store).idx).names,(((Bf w_ (Aw w_.disk w_.store) e.cut (⟨(⟨(BD w_.store).1.idx.names,((BD w_.store).1.idx).AY⟩:Idx),(BD w_.store).1.parts,(BD w_.store).1.mem⟩:Sto)).store).idx).AY⟩:Idx),((Bf w_ (Aw w_.disk w_.store) e.cut (⟨(⟨(BD w_.store).1.idx.names,((BD w_.store).1.idx).AY⟩:Idx),(BD w_.store).1.parts,(BD w_.store).1.mem⟩:Sto)).store).parts,((Bf w_ (Aw w_.disk w_.store) e.cut (⟨(⟨(BD w_.store).1.idx.names,((BD w_.store).1.idx).AY⟩:Idx),(BD w_.store).1.parts,(BD w_.store).1.mem⟩:Sto)).store).mem⟩:Sto),(⟨((Bf w_ (Aw w_.disk w_.store) e.cut (⟨(⟨(BD w_.store).1.idx.names,((BD w_.store).1.idx).AY⟩:Idx),(BD w_.store).1.parts,(BD w_.store).1.mem⟩:Sto)).disk).files,((Bf w_ (Aw w_.disk w_.store) e.cut (⟨(⟨(BD w_.store).1.idx.names,((BD w_.store).1.idx).AY⟩:Idx),(BD w_.store).1.parts,(BD w_.store).1.mem⟩:Sto)).disk).list,((Bf w_ (Aw w_.disk w_.store) e.cut (⟨(⟨(BD w_.store).1.idx.names,((BD w_.store).1.idx).AY⟩:Idx),(BD w_.store).1.parts,(BD w_.store).1.mem⟩:Sto)).disk).names,((Bf w_ (Aw w_.disk w_.store) e.cut (⟨(⟨(BD w_.store).1.idx.names,((BD w_.store).1.idx).AY⟩:Idx),(BD w_.store).1.parts,(BD w_.store).1.mem⟩:Sto)).disk).next⟩:Dsk)⟩:Wld) [0,1,2,3,4,5,6] (by (rw [HS ‹_›])),Z.xt⟩) fun aa=>.r 1<|.d<|.cf<|.s<|.g<|.eq e.kind 3 (fun ab=>.r 1<|.d<|.ct<|.s<|.g<|.r 1<|RG.Ln 2 Z<|.r 1<|RG.Lb 1 Z<|RG.CT (us:=[.bool ((BC w_.store e.at_).2)]) (Jh w_.store e.at_ (Z.mg 1 7) (Z.mg 1 6) (Z.mg 1 5) (Z.mg 1 4) (by have:=p0.sto.np; omega) (fun p hp=>(p0.sto.part p hp).sz)) Z fun bn bo bq br bt bu bv bw w Z=>.r 3<|RG.Np Z fun bz w Z=>RG.Ss 0 Z fun w Z=>.r 1<|.d<|.s<|T.Gd 9 Z fun w Z=>GA.Ln 0 3 Z<|.r [1]<|GA.Ln 2 3 Z<|.r [3]<|GA.Lb 4 2 Z<|.r [6]<|GA.Lb 7 2 Z<|GA.Ln 8 0 Z<|.go 5<|GE.CL (fun w Z=>Jj w_.disk e.at_ (Z.a 7) (Z.a 6) (Z.a 5) (by have:=p0.dsk.nm.len; omega) (fun n hn=>(p0.dsk.nm.sz n hn).1) (by have:=p0.dsk.nl; omega) p0.dsk.at (fun f hf=>(p0.dsk.file f hf).sz)) Z fun bA bB w Z=>GA.Dn Z fun w Z=>RG.CS (GD w_ (Ak w_.disk e.at_) e.cut (⟨(⟨(BC w_.store e.at_).1.idx.names,((BC w_.store e.at_).1.idx).AY⟩:Idx),(BC w_.store e.at_).1.parts,(BC w_.store e.at_).1.mem⟩:Sto) (Z.mg 1 12) (Z.mg 1 11) (Z.mg 1 10) (Z.mg 1 9) (Z.mg 1 8) (Z.mg 1 7) (Z.mg 1 6) (Z.mg 1 0) (Z.mg 1 1) (Z.mg 1 2) (Z.mg 1 3) (Z.mg 1 4) p0 (by exact StI.merge p0.dsk _) (by exact p0.sto.merge _)) Z fun bC bD bE bF bG bH bI bJ bK bL bM bN bO bP w Z=>RG.Ss 1 Z fun w Z=>.d<|T.Rb 1 func37 results37 Z ⟨Z.rS (g:=1) (⟨(⟨(⟨(((Bf w_ (Ak w_.disk e.at_) e.cut (⟨(⟨(BC w_.store e.at_).1.idx.names,((BC w_.store e.at_).1.idx).AY⟩:Idx),(BC w_.store e.at_).1.parts,(BC w_.store e.at_).1.mem⟩:Sto)).store).idx).names,(((Bf w_ (Ak w_.disk e.at_) e.cut (⟨(⟨(BC w_.store e.at_).1.idx.names,((BC w_.store e.at_).1.idx).AY⟩:Idx),(BC w_.store e.at_).1.parts,(BC w_.store e.at_).1.mem⟩:Sto)).store).idx).AY⟩:Idx),((Bf w_ (Ak w_.disk e.at_) e.cut (⟨(⟨(BC w_.store e.at_).1.idx.names,((BC w_.store e.at_).1.idx).AY⟩:Idx),(BC w_.store e.at_).1.parts,(BC w_.store e.at_).1.mem⟩:Sto)).store).parts,((Bf w_ (Ak w_.disk e.at_) e.cut (⟨(⟨(BC w_.store e.at_).1.idx.names,((BC w_.store e.at_).1.idx).AY⟩:Idx),(BC w_.store e.at_).1.parts,(BC w_.store e.at_).1.mem⟩:Sto)).store).mem⟩:Sto),(⟨((Bf w_ (Ak w_.disk e.at_) e.cut (⟨(⟨(BC w_.store e.at_).1.idx.names,((BC w_.store e.at_).1.idx).AY⟩:Idx),(BC w_.store e.at_).1.parts,(BC w_.store e.at_).1.mem⟩:Sto)).disk).files,((Bf w_ (Ak w_.disk e.at_) e.cut (⟨(⟨(BC w_.store e.at_).1.idx.names,((BC w_.store e.at_).1.idx).AY⟩:Idx),(BC w_.store e.at_).1.parts,(BC w_.store e.at_).1.mem⟩:Sto)).disk).list,((Bf w_ (Ak w_.disk e.at_) e.cut (⟨(⟨(BC w_.store e.at_).1.idx.names,((BC w_.store e.at_).1.idx).AY⟩:Idx),(BC w_.store e.at_).1.parts,(BC w_.store e.at_).1.mem⟩:Sto)).disk).names,((Bf w_ (Ak w_.disk e.at_) e.cut (⟨(⟨(BC w_.store e.at_).1.idx.names,((BC w_.store e.at_).1.idx).AY⟩:Idx),(BC w_.store e.at_).1.parts,(BC w_.store e.at_).1.mem⟩:Sto)).disk).next⟩:Dsk)⟩:Wld) [0,1,2,3,4,5,6] (by (rw [GC ‹_›])),Z.xt⟩) fun ab=>.r 1<|.d<|.cf<|.s<|.g<|.eq e.kind 4 (fun ac=>.r 1<|.d<|.ct<|.s<|.g<|RG.Ln 2 Z<|RG.CS (Gi w_ (Z.a 7) (Z.a 6) (Z.a 5) (Z.a 4) (Z.a 3) (Z.a 2) (Z.a 1) p0.dsk) Z fun bQ bR am ao aq ar ax ay az aA aB aC aD aE w Z=>RG.Ss 0 Z fun w Z=>.d<|T.Rb 0 func37 results37 Z ⟨Z.rS (g:=1) (⟨(⟨(⟨(BA w_).store.idx.names,((BA w_).store.idx).AY⟩:Idx),(BA w_).store.parts,(BA w_).store.mem⟩:Sto),(⟨(BA w_).disk.files,(BA w_).disk.list,(BA w_).disk.names,(BA w_).disk.next⟩:Dsk)⟩:Wld) [0,1,2,3,4,5,6] (by (rw [NA ‹_›])),Z.xt⟩) fun ac=>.r 1<|.d<|.cf<|.sk<|.ib 0<|.s<|.g<|RG.Ln 2 Z<|RG.Ss 0 Z fun w Z=>.d<|T.Rb 0 func37 results37 Z ⟨Z.rS (g:=1) w_ [7,6,5,4,3,2,1] (by (rw [LZ ‹_› ‹_› ‹_› ‹_›])),Z.xt⟩)
 refine .r 1<|.d<|.ct<|.s<|.g<|.r 1<|RG.Lb 1 Z<|RG.C0 (FL e.name (Z.a 0)) Z fun w Z=>?_
 cases aF:(Aq e.name)
 ·exact .d<|.cf<|.sk<|.ib 0<|.s<|.g<|RG.Ln 2 Z<|RG.Ss 0 Z fun w Z=>.d<|T.Rb 0 func37 results37 Z ⟨Z.rS (g:=1) w_ [7,6,5,4,3,2,1] (by (rw [F1 ‹_› ‹_›])),Z.xt⟩
 exact .d<|.ct<|.s<|.g<|.r 1<|RG.Ln 2 Z<|.r 1<|RG.Lb 1 Z<|.r 1<|RG.Ln 1 Z<|RG.CT (us:=[.bool ((By w_.store e.name e.row).2)]) (LC w_.store e.name e.row (Z.mg 1 7) (Z.mg 1 6) (Z.mg 1 5) (Z.mg 1 4) (Z.mg 1 0) p0.sto.sz p1) Z fun bS bT bU bV bW bX bY bZ w Z=>.r 3<|RG.Np Z fun b0 w Z=>RG.Ss 0 Z fun w Z=>.r 1<|.d<|.g<|RG.Ln 0 Z<|.r 1<|RG.Ss 3 Z fun w Z=>.d<|.ib 0<|.s<|.g<|RG.Ln 3 Z<|RG.Ss 1 Z fun w Z=>.d<|T.Rb 1 func37 results37 Z ⟨Z.rS (g:=1) (⟨(⟨(⟨(By w_.store e.name e.row).1.idx.names,((By w_.store e.name e.row).1.idx).AY⟩:Idx),(By w_.store e.name e.row).1.parts,(By w_.store e.name e.row).1.mem⟩:Sto),(⟨w_.disk.files,w_.disk.list,w_.disk.names,w_.disk.next⟩:Dsk)⟩:Wld) [0,1,2,3,7,6,5] (by (rw [HR ‹_› ‹_›])),Z.xt⟩
end Go.Proofs.YtckdhcbbgmiccaaGreat
namespace Go.Proofs.YtckdhcbbgmiccaaGreat
def UF (n m:Nat) (ops:Array Oper) (l is:List Nat) (e:Env):Bool :=
 is.all (fun i=>DT n m ops l i&&CJ n ops i e)&&decide (KI ops l=is) && !is.isEmpty
section
variable {P:Program} {S:Nat→Prop} {n m:Nat} {L:Env→World→Prop} {ops:Array Oper} {l:List Nat} {e:Env} {w:World}
theorem GE.many (is:List Nat) (h:UF n m ops l is e=true) (H:∀ i∈is,GE P S n m L ops l i e w):GA P S n m L ops l e w:=by
 intro hB f a hf ha inv
 simp only [UF,AW,decide_eq_true_eq,List.all_eq_true] at h
 obtain ⟨⟨h1,hready⟩,hne⟩:=h
 rw [Ig] at hready
 have hne:is≠[]:=by rintro rfl; simp at hne
 obtain ⟨i0,hi0⟩:=List.exists_mem_of_ne_nil is hne
 have hlm:=(ED (h1 i0 hi0).1).1
 obtain ⟨f,rfl⟩:∃ g,f=g+1:=⟨f - 1,by omega⟩
 have key:∀ k,DT n m ops l k=true→CJ n ops k e=true→GE P S n m L ops l k e w→∀ w1,Ext w w1→k< m∧gOp P S ops k (Jb P S ops m (fun listed a' w'=>listed=fin ops m∧∃ e',Sees n a' e'∧L e' w') f ((lst ops.size l).setIfInBounds k true)) a w1:=by
  intro k hk1 hk2 HK w1 hx
  obtain ⟨_,him,hd,hi,hr⟩:=ED hk1
  refine ⟨him,?_⟩
  simp only [CJ,AW] at hk2
  unfold gOp
  simp only [hi]
  rw [ha.want,hk2.2,if_pos rfl,ha.eval]
  refine EC (fun v w2 _ hq=>?_) (HK w1 hx)
  have:=hq hB f (a.put (Ad ops k).dst v) (by simp only [List.length_cons]; omega) (ha.L1 hd v) (by rw [DU]; exact inv.set hr him)
  rwa [DU] at this
 refine ⟨by rw [hready]; exact hne,fun w1 hx k hk=>?_⟩
 rw [hready] at hk
 exact key k (h1 k hk).1 (h1 k hk).2 (H k hk) w1 hx
end
theorem PG {a b:Int}(ha:0≤a∧a< 4611686018427387904) (hb:0≤b∧b< 4611686018427387904) :
 IntKind.i64.wrap ((BitVec.ofInt 64 a ^^^ BitVec.ofInt 64 b).toNat:Int)=((a.toNat ^^^ b.toNat:Nat):Int)∧a.toNat ^^^ b.toNat< 4611686018427387904:=by
 have h1:(BitVec.ofInt 64 a).toNat=a.toNat:=by rw [BitVec.toNat_ofInt]; omega
 have h2:(BitVec.ofInt 64 b).toNat=b.toNat:=by rw [BitVec.toNat_ofInt]; omega
 have h3:a.toNat ^^^ b.toNat< 2 ^ 62:=Nat.xor_lt_two_pow AB AB
 rw [BitVec.toNat_xor,h1,h2]
 exact ⟨IntWalk.i64_in _ AB,by omega⟩
theorem S6 {P:Program}{t:TypeId}{x y:Operand}{a b:Int}(ha:0≤a∧a< 4611686018427387904) (hb:0≤b∧b< 4611686018427387904) (w:World) :
 (do eqGuard .xor t x y (.int .i64 a) (.int .i64 b); binOp .xor t (.int .i64 a) (.int .i64 b)).run P w=.ok (.int .i64 ((a.toNat ^^^ b.toNat:Nat):Int)) w:=by
 have h1:(eqGuard .xor t x y (.int .i64 a) (.int .i64 b)).run P w=.ok () w:=rfl
 rw [AX h1,← (PG ha hb).1]
 rfl
section
variable {P:Program} {n:Nat} {K:Env→World→Prop} {ops:Array Oper} {j:Nat} {e:Env} {w:World}
theorem RG.xor {t:TypeId}{a b:Int}(h:Eb n ops j e=some (.xor,t,.int .i64 a,.int .i64 b)) (ha:0≤a∧a< 4611686018427387904) (hb:0≤b∧b< 4611686018427387904)
 (H:RG P n K ops (j+1) (Ah e (Ad ops j).dst (.int .i64 ((a.toNat ^^^ b.toNat:Nat):Int))) w):RG P n K ops j e w :=
 have h1:=Ct (P:=P) (w:=w) h (fun _ _=>S6 ha hb w)
 RG.val h1.1 h1.2 H
end
theorem GA.quo {P:Program}{S:Nat→Prop}{n m:Nat}{L:Env→World→Prop}{ops:Array Oper}{l:List Nat}{e:Env}{w:World}{i:Nat}{t:TypeId}{a b:Int}(hb:gB n m ops l i=true) (h:Eb n ops i e=some (.quo,t,.int .i64 a,.int .i64 b)) (hb0:b≠0) (hr:-9223372036854775808≤a.tdiv b∧a.tdiv b≤9223372036854775807)
 (H:GA P S n m L ops (i::l) (Ah e (Ad ops i).dst (.int .i64 (a.tdiv b))) w):GA P S n m L ops l e w :=
 GA.Je hb (fun w=>Ct h (fun _ _=>O5 hb0 hr w)) H
section
variable {α:Type} [Rep α] {w:World} {G F:Nat→Prop} {M:List Nat} {o:Option Addr} {n c r b s:Nat} {t:TypeId} {xs:List α}
theorem RepS.CN (h:RepS w (nin G M) o n c xs) (hb:b∈M):RepS w (nin all [b]) o n c xs:=h.Bi fun k _ hk=>⟨trivial,fun e=>hk.2 (by simp at e; exact e▸hb)⟩
theorem Own.CN (h:Own w r t (nin G M) n c xs) (hb:b∈M) (hr:Nb r b):RepS w (nin all [b]) (some ⟨r,0,none⟩) n c xs :=
 h.Mt (fun k _ hk=>⟨trivial,fun e=>hk.2 (by simp at e; exact e▸hb)⟩) ⟨trivial,fun e=>hr.ne (by simpa using e)⟩
theorem RepS.Vn (h:RepS w (nin G M) o n c xs) (hb:b∈M):RepS w (nin G [b]) o n c xs:=h.Bi fun k _ hk=>⟨hk.1,fun e=>hk.2 (by simp at e; exact e▸hb)⟩
end
theorem Cov.mk1 (w:World) (b:Nat):Cov (Go.Proofs.YtckdhcbbgmiccaaGreat.one b) w b:=⟨.inl rfl⟩
instance {w:World}{b:Nat}:Cov (Go.Proofs.YtckdhcbbgmiccaaGreat.one b) w b:=⟨.inl rfl⟩
variable {w:World} {F:Nat→Prop}
theorem RepS.Un {α:Type}[Rep α] {M:List Nat}{b s s' n c:Nat}{o:Option Addr}{xs:List α}(h:RepS w (nin (fo (nin (fo F s') M) s) [b]) o n c xs) (hM:∀ k∈M,k< s) (hs:s'≤s):RepS w (nin (fo F s') (b::M)) o n c xs :=
 h.Bi fun k _ hF=>by
  have hb:k≠b:=fun e=>hF.2 (by simp [e])
  rcases hF.1 with h1 | h1
  ·exact ⟨h1.1,by simp [hb]; exact h1.2⟩
  ·exact ⟨.inr AB,by
    intro hm
    rcases List.mem_cons.1 hm with hm | hm
    ·exact hb hm
    ·have:=hM k hm; omega⟩
theorem Q0 {a:Int}{n:Nat}(ha:0≤a) (hn:(n:Int)≠0):(Int.tmod a n).toNat< n:=by
 have h1:=Int.tmod_nonneg (n:Int) ha
 have h2:=Int.tmod_lt_of_pos a (show (0:Int)< n by omega)
 omega
theorem Q1 {a:Int}{n:Nat}(ha:0≤a):Int.tmod a n=((Int.tmod a n).toNat:Int):=by
 have h1:=Int.tmod_nonneg (n:Int) ha
 omega
theorem UG {a n:Int}(ha:0≤a) (hn:¬ n< 1):0≤Int.tmod a n∧(Int.tmod a n< n∨Int.tmod a n=0):=by
 have h1:=Int.tmod_nonneg n ha
 have h2:=Int.tmod_lt_of_pos a (show (0:Int)< n by omega)
 omega
theorem UH {a n:Int}(ha:0≤a) (hn:0≤n):0≤Int.tdiv a n∧Int.tdiv a n≤a:=by
 refine ⟨Int.tdiv_nonneg ha hn,?_⟩
 rw [Int.tdiv_eq_ediv_of_nonneg ha]
 exact Int.ediv_le_self n ha
section
variable {α:Type} [Rep α] {w:World} {G:Nat→Prop} {M rs:List Nat} {o:Option Addr} {n c r s:Nat} {t:TypeId} {xs:List α}
theorem OK {k:Nat}(h:nin (fo (nin G M) s) rs k) (hM:∀ b∈M,b< s) (hG:∀ b,s≤b→G b):nin G (rs++M) k:=by
 refine ⟨?_,fun hm=>?_⟩
 ·rcases h.1 with h1 | h1
  ·exact h1.1
  ·exact hG _ h1
 ·rcases List.mem_append.1 hm with hm | hm
  ·exact h.2 hm
  ·rcases h.1 with h1 | h1
   ·exact h1.2 hm
   ·have h2:=hM k hm
    omega
theorem RepS.HZ (h:RepS w (fo (nin G M) s) o n c xs) (hM:∀ b∈M,b< s) (hG:∀ b,s≤b→G b):RepS w (nin G M) o n c xs:=h.Bi fun k _ hk=>OK (rs:=[]) ⟨hk,by simp⟩ hM hG
end
def HF (t:Tag):Prop:=t.key∈[[97],[98],[99]]∧t.val∈[[112],[113],[122],[],[111],[112,112]]
def NmD (n:List Tag):Prop:=n.length≤5∧∀ t∈n,HF t
def FB (r:Row):Prop:=-1≤r.t∧r.t≤100 ∧ -100≤r.v∧r.v≤100
def S7 (n:List Tag):Nat:=(n.filter (fun t=>!BX t)).length
def NmX (n:List Tag):Prop:=NmD n∧S7 n≤1
theorem PH {n:List Tag}(h:∀ t∈n,BX t=true):S7 n=0:=by
 unfold S7
 rw [List.length_eq_zero_iff,List.filter_eq_nil_iff]
 intro t ht
 rw [h t ht]
 simp
theorem J6 {n:List Tag}(hl:n.length≤5) (hd:∀ t∈n,HF t) (h:∀ t∈n,BX t=true):NmX n:=⟨⟨hl,hd⟩,by rw [PH h]; omega⟩
theorem PI {n:List Tag}{i:Nat}{u:Tag}(hl:n.length≤5) (hd:∀ t∈n.set i u,HF t) (h:∀ t∈n,BX t=true):NmX (n.set i u):=by
 refine ⟨⟨by rw [List.length_set]; exact hl,hd⟩,?_⟩
 by_cases hi:i< n.length
 ·rw [List.set_eq_take_append_cons_drop,if_pos hi]
  unfold S7
  rw [List.filter_append,List.filter_cons]
  have h1:((n.take i).filter (fun t=>!BX t))=[]:=List.filter_eq_nil_iff.2 (fun t ht=>by rw [h t (List.mem_of_mem_take ht)]; simp)
  have h2:((n.drop (i+1)).filter (fun t=>!BX t))=[]:=List.filter_eq_nil_iff.2 (fun t ht=>by rw [h t (List.mem_of_mem_drop ht)]; simp)
  rw [h1,h2]
  split <;> simp
 ·rw [List.set_eq_of_length_le AB,PH h]
  omega
theorem S8 {k v:Str}(hk:k∈[[97],[98],[99]]) (hv:v∈[[112],[113],[122]]):BX ⟨k,v⟩=true:=by
 simp only [List.mem_cons,List.not_mem_nil,or_false] at hk hv
 rcases hk with rfl | rfl | rfl <;> rcases hv with rfl | rfl | rfl <;> decide
theorem Q2 {k v:Str}(hk:(⟨k⟩:Txt)∈([⟨[97]⟩,⟨[98]⟩,⟨[99]⟩]:List Txt)) (hv:(⟨v⟩:Txt)∈([⟨[112]⟩,⟨[113]⟩,⟨[122]⟩]:List Txt)):HF ⟨k,v⟩∧BX ⟨k,v⟩=true:=by
 simp only [List.mem_cons,List.not_mem_nil,or_false,Txt.mk.injEq] at hk hv
 refine ⟨⟨?_,?_⟩,S8 (by simpa using hk) (by simpa using hv)⟩
 ·simpa using hk
 ·rcases hv with rfl | rfl | rfl <;> simp
theorem Q3 {b:Txt}{v:Str}(hk:b=⟨[97]⟩∨b=⟨[98]⟩∨b=⟨[99]⟩) (hv:(⟨v⟩:Txt)∈([⟨[112]⟩,⟨[113]⟩,⟨[122]⟩]:List Txt)):HF ⟨b.s,v⟩∧BX ⟨b.s,v⟩=true:=Q2 (by rcases hk with rfl | rfl | rfl <;> simp) hv
theorem NC {α:Type}{P:α→Prop}{l:List α}{x:α}(h:∀ t∈l,P t) (hx:P x):∀ t∈l++[x],P t:=fun t ht=>by
 rcases List.mem_append.1 ht with ht | ht
 ·exact h t ht
 ·simp at ht
  subst ht
  exact hx
end Go.Proofs.YtckdhcbbgmiccaaGreat
