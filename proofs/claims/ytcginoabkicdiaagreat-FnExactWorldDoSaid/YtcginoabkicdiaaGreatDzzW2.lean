/- walks; pruned haves; hints pruned; squeezed -/
import Derived.Test.YtcginoabkicdiaaGreatDzzMem
open Go.Proofs.Tryz
set_option linter.unusedVariables false
set_option linter.unusedSimpArgs false
namespace Go.Proofs.YtcginoabkicdiaaGreat
set_option maxRecDepth 100000
set_option maxHeartbeats 4000000
variable {w:World} {F:Nat→Prop} {a1 a2:Option Addr} {n1 c1 n2 c2:Nat}
theorem CB (n:Int) (low:Int) (high:Int){F:Nat→Prop}   : Calls Tryz.prog 129 [.int .i64 n,.int .i64 low,.int .i64 high].toArray w (Af fun rv w'=>rv=.bool (inR n low high)∧Ext w w'):=by
 refine goT func129 ?_
 have Z:=St.i0 F w
 exact .s<|.g<|.r 1<|.d<|.s<|.g<|.r 2<|.bp (n≥low) (fun aa=>.r 6<|.d<|T.rt func129 results129 (.bool (decide (n≤high))) ⟨(AG (by simp [inR]; omega)),Z.xt⟩) fun aa=>.r 6<|.d<|T.rt func129 results129 (.bool false) ⟨(AG (by simp [inR]; omega)),Z.xt⟩
theorem CD (n:Int) (low:Int) (high:Int){F:Nat→Prop}   : Calls Tryz.prog 109 [.int .i64 n,.int .i64 low,.int .i64 high].toArray w (Af fun rv w'=>rv=.bool (inR n low high)∧Ext w w'):=by
 refine goT func109 ?_
 have Z:=St.i0 F w
 exact .s<|.g<|.r 1<|.d<|.s<|.g<|.r 2<|.bp (n≥low) (fun aa=>.r 6<|.d<|T.rt func109 results109 (.bool (decide (n≤high))) ⟨(AG (by simp [inR]; omega)),Z.xt⟩) fun aa=>.r 6<|.d<|T.rt func109 results109 (.bool false) ⟨(AG (by simp [inR]; omega)),Z.xt⟩
theorem GU (r:Row){F:Nat→Prop}   : Calls Tryz.prog 124 [.agg #[.int .i64 r.t,.int .i64 r.v]].toArray w (Af fun rv w'=>rv=.bool (BS r)∧Ext w w'):=by
 refine goT func124 ?_
 have Z:=St.i0 F w
 refine .s<|.g<|RG.Np Z fun ae w Z=>.r 1<|.d<|.s<|.g<|.r 1<|RG.Lb 0 Z<|RG.C0 (CB r.t 0 99 (F:=all)) Z fun w Z=>?_
 cases aa:(inR r.t 0 99)
 ·exact .r 6<|.d<|T.rt func124 results124 (.bool false) ⟨(AG (by simp_all [BS])),Z.xt⟩
 exact .r 2<|RG.Lb 0 Z<|RG.C0 (CB r.v (-99) 99 (F:=all)) Z fun w Z=>.r 2<|.d<|T.rt func124 results124 (.bool (inR r.v (-99) 99)) ⟨(AG (by simp_all [BS])),Z.xt⟩
theorem GV (r:Row){F:Nat→Prop}   : Calls Tryz.prog 111 [.agg #[.int .i64 r.t,.int .i64 r.v]].toArray w (Af fun rv w'=>rv=.bool (BS r)∧Ext w w'):=by
 refine goT func111 ?_
 have Z:=St.i0 F w
 refine .s<|.g<|RG.Np Z fun ae w Z=>.r 1<|.d<|.s<|.g<|.r 1<|RG.Lb 0 Z<|RG.C0 (CD r.t 0 99 (F:=all)) Z fun w Z=>?_
 cases aa:(inR r.t 0 99)
 ·exact .r 6<|.d<|T.rt func111 results111 (.bool false) ⟨(AG (by simp_all [BS])),Z.xt⟩
 exact .r 2<|RG.Lb 0 Z<|RG.C0 (CD r.v (-99) 99 (F:=all)) Z fun w Z=>.r 2<|.d<|T.rt func111 results111 (.bool (inR r.v (-99) 99)) ⟨(AG (by simp_all [BS])),Z.xt⟩
theorem BP (names:List (List Tag)) (h1:RepS w F a1 n1 c1 names) (p0:names.length≤1100000) (p1:∀ n∈names,n.length≤1100000):Calls Tryz.prog 115 [.slice a1 n1 c1].toArray w (Af fun rv w'=>VO 69 w.heap.size w' (names:List (List Tag)) rv∧Ext w w'):=by
 cases h1.len
 refine goT func115 ?_
 have Z:=(St.i0 F w).p h1
 refine .s<|.g<|.r 1<|.d<|.s<|.g<|RG.N0 (List Tag) 0 Z fun ag w Z=>.r 1<|.d<|.s<|.s<|.g<|.r 1<|.d<|.b 0<|T.Lp (([]:List (List Tag)),ag,(0:Nat),(0:Nat)) (fun (out,r_out,c_out,i)=>([(0,.slice a1 names.length c1),(3,vS r_out out.length c_out),(4,vI (i:Int))],[(0,.own 0 r_out 69 c_out out)],[],names.length - i,(i≤names.length)∧(out++names.drop i=names))) [] Z ⟨AB,AF⟩ ?_
 rintro ⟨out,r_out,c_out,i⟩ aq w Z ⟨ak,am⟩ ab
 refine .s<|.s<|.g<|.r 3<|.bp ((i:Int)< (names.length:Int)) (fun ae=>?_) (fun ae=>.d<|.cf<|.x 0 rfl<|.s<|.g<|.r 2<|.d<|T.Rt func115 results115 ⟨Z.rO 0 out (by grind),Z.xt⟩)
 refine .d<|.ct<|.sk<|.s<|.b 1<|.g<|.r 1<|RG.N0 Tag 0 Z fun ar w Z=>.r 2<|gx names i fun ac aa=>?_
 have ao:=Ab aa; have af:=AV aa
 exact RG.Ix 0 aa Z<|Z.el 0 aa fun ax ay Z=>RG.Lh 0 0 Z<|RG.An (hs:=by exact (by grind)) (hf:=.inr Lc) 0 1 ([]:List Tag) ac Z fun az aA w Z=>RG.Nb 1 Z fun aB w Z=>RG.Ap (hs:=by exact (by grind)) 0 0 out ([]++ac) [0] (Z.sl 1) fun ah ai w Z=>.r 1<|.d<|.ib 1<|.g<|.r 1<|.it ((i:Int)+1)<|.r 1<|.d<|ab ((out++[([]++ac)]),ah,ai,i+1) _ _ AA (Z.to 0 [] 3) ⟨AB,(by grind)⟩ (by (simp only []; omega))
theorem BH (names:List (List Tag)) (h1:RepS w F a1 n1 c1 names) (p0:names.length≤1100000) (p1:∀ n∈names,n.length≤1100000):Calls Tryz.prog 104 [.slice a1 n1 c1].toArray w (Af fun rv w'=>VO 69 w.heap.size w' (names:List (List Tag)) rv∧Ext w w'):=by
 cases h1.len
 refine goT func104 ?_
 have Z:=(St.i0 F w).p h1
 refine .s<|.g<|.r 1<|.d<|.s<|.g<|RG.N0 (List Tag) 0 Z fun ag w Z=>.r 1<|.d<|.s<|.s<|.g<|.r 3<|.d<|.b 0<|T.Lp (([]:List (List Tag)),ag,(0:Nat),(0:Nat)) (fun (out,r_out,c_out,k)=>([(3,vS r_out out.length c_out),(7,.slice a1 names.length c1),(8,vI (names.length:Int)),(9,vI (k:Int))],[(0,.own 0 r_out 69 c_out out)],[],names.length - k,(k≤names.length)∧(out++names.drop k=names))) [] Z ⟨AB,AF⟩ ?_
 rintro ⟨out,r_out,c_out,k⟩ aq w Z ⟨ak,am⟩ ab
 refine .s<|.g<|.bp ((k:Int)< (names.length:Int)) (fun ae=>?_) (fun ae=>.d<|.s<|.cf<|.x 0 rfl<|.s<|.g<|.r 2<|.d<|T.Rt func104 results104 ⟨Z.rO 0 out (by grind),Z.xt⟩)
 refine .d<|.s<|.ct<|.sk<|.s<|.b 1<|.s<|.g<|gx names k fun ac aa=>?_
 have ao:=Ab aa; have af:=AV aa
 exact RG.Ix 0 aa Z<|Z.el 0 aa fun ar ax Z=>RG.Lh 0 0 Z<|.r 1<|.d<|.g<|.r 1<|RG.N0 Tag 0 Z fun ay w Z=>.r 1<|RG.An (hs:=by exact (by grind)) (hf:=.inr Lc) 0 1 ([]:List Tag) ac Z fun az aA w Z=>RG.Nb 1 Z fun aB w Z=>RG.Ap (hs:=by exact (by grind)) 0 0 out ([]++ac) [0] (Z.sl 1) fun ah ai w Z=>.r 1<|.d<|.ib 1<|.g<|.it ((k:Int)+1)<|.r 1<|.d<|ab ((out++[([]++ac)]),ah,ai,k+1) _ _ AA (Z.to 0 [] 3) ⟨AB,(by grind)⟩ (by (simp only []; omega))
theorem GW (b:List Row) (r:Row) (h1:RepS w F a1 n1 c1 b) (p0:b.length≤1000000):Calls Tryz.prog 170 [.slice a1 n1 c1,.agg #[.int .i64 r.t,.int .i64 r.v]].toArray w (Af fun rv w'=>VL (ge w.heap.size) w' (EU b r:List Row) rv∧Ext w w'):=by
 cases h1.len
 refine goT func170 ?_
 have Z:=(St.i0 F w).p h1
 refine .s<|.g<|RG.Np Z fun aq w Z=>.r 1<|.d<|.s<|.g<|RG.N0 Row 0 Z fun ar w Z=>.r 1<|.d<|.s<|.g<|.r 1<|.d<|.s<|.s<|.g<|.r 1<|.d<|.b 0<|T.Lp (([]:List Row),ar,(0:Nat),false,(0:Nat)) (fun (out,r_out,c_out,put,i)=>([(0,.slice a1 b.length c1),(3,vP aq),(5,vS r_out out.length c_out),(6,.bool put),(7,vI (i:Int))],[(0,.own 0 r_out 70 c_out out)],[],b.length - i,(i≤b.length)∧(out.length≤i+1)∧(put=false→out.length≤i)∧(Cf out r put (b.drop i)=EU b r))) [] Z ⟨(by simp [EU]),(by simp [EU]),(by simp [EU]),(by simp [EU])⟩ ?_
 rintro ⟨out,r_out,c_out,put,i⟩ aO w Z ⟨aG,aH,aI,aJ⟩ aa
 refine .s<|.s<|.g<|.r 3<|.bp ((i:Int)< (b.length:Int)) (fun ag=>?_) (fun ag=>?_)
 ·refine .d<|.ct<|.sk<|.s<|.b 1<|.s<|.s<|T.Gd 10 Z fun w Z=>?_
  cases aK:put
  ·refine .r [0,1,2,3,4]<|gx b i fun ae ab=>?_
   have aL:=Ab ab
   exact GA.Ix 5 0 ab Z<|.r [6]<|Z.el 0 ab fun Z=>GA.Lh 7 0 0 Z<|.r [8]<|GA.Lb 9 1 Z<|GA.Dn Z fun w Z=>.bp (ae.t≥r.t) (fun ah=>.r 1<|.d<|.ct<|.s<|.g<|.r 1<|RG.Ln 1 Z<|RG.Nb 1 Z fun aP w Z=>RG.Ap 0 0 out r [] Z fun ax ay w Z=>.r 1<|.d<|.g<|.r 1<|.d<|.s<|T.Gd 7 Z fun w Z=>.r [0,1]<|GA.Ix 2 1 ab Z<|.r [3]<|GA.Lh 4 0 0 Z<|.r [5]<|GA.Lb 6 1 Z<|GA.Dn Z fun w Z=>.ne ae.t r.t (fun ai=>.d<|.ct<|.g<|.r 3<|RG.Ix 1 ab Z<|RG.Lg 0 0 Z<|RG.Nb 1 Z fun aQ w Z=>RG.Ap 0 0 (out++[r]) ae [] Z fun az aA w Z=>.r 1<|.d<|.ib 1<|.g<|.r 1<|.it ((i:Int)+1)<|.r 1<|.d<|aa (((out++[r])++[ae]),az,aA,true,i+1) _ _ AA (Z.to 0 [] 1) ⟨(by grind [Cf]),(by grind [Cf]),(by grind [Cf]),(by grind [Cf])⟩ (by (simp only []; omega))) fun ai=>.d<|.cf<|.sk<|.ib 1<|.g<|.r 1<|.it ((i:Int)+1)<|.r 1<|.d<|aa ((out++[r]),ax,ay,true,i+1) _ _ AA (Z.to 0 [] 1) ⟨(by grind [Cf]),(by grind [Cf]),(by grind [Cf]),(by grind [Cf])⟩ (by (simp only []; omega))) fun ah=>.r 1<|.d<|.cf<|.sk<|.s<|T.Gd 7 Z fun w Z=>.r [0,1]<|GA.Ix 2 1 ab Z<|.r [3]<|GA.Lh 4 0 0 Z<|.r [5]<|GA.Lb 6 1 Z<|GA.Dn Z fun w Z=>.ne ae.t r.t (fun aj=>.d<|.ct<|.g<|.r 3<|RG.Ix 1 ab Z<|RG.Lg 0 0 Z<|RG.Nb 1 Z fun aR w Z=>RG.Ap 0 0 out ae [] Z fun aB aC w Z=>.r 1<|.d<|.ib 1<|.g<|.r 1<|.it ((i:Int)+1)<|.r 1<|.d<|aa ((out++[ae]),aB,aC,false,i+1) _ _ AA (Z.to 0 [] 1) ⟨(by grind [Cf]),(by grind [Cf]),(by grind [Cf]),(by grind [Cf])⟩ (by (simp only []; omega))) fun aj=>.d<|.cf<|.sk<|.ib 1<|.g<|.r 1<|.it ((i:Int)+1)<|.r 1<|.d<|aa (out,r_out,c_out,false,i+1) _ _ AA (Z.to 0 [] 1) ⟨(by grind [Cf]),(by grind [Cf]),(by grind [Cf]),(by grind [Cf])⟩ AB
  refine .r [0,1,2]<|GA.Sk Z fun w Z=>.r 2<|.d<|.cf<|.sk<|.s<|T.Gd 7 Z fun w Z=>.r [0,1]<|gx b i fun af ac=>?_
  have aM:=Ab ac
  exact GA.Ix 2 0 ac Z<|.r [3]<|Z.el 0 ac fun Z=>GA.Lh 4 0 0 Z<|.r [5]<|GA.Lb 6 1 Z<|GA.Dn Z fun w Z=>.ne af.t r.t (fun ak=>.d<|.ct<|.g<|.r 3<|RG.Ix 1 ac Z<|RG.Lg 0 0 Z<|RG.Nb 1 Z fun aS w Z=>RG.Ap 0 0 out af [] Z fun aD aE w Z=>.r 1<|.d<|.ib 1<|.g<|.r 1<|.it ((i:Int)+1)<|.r 1<|.d<|aa ((out++[af]),aD,aE,true,i+1) _ _ AA (Z.to 0 [] 1) ⟨(by grind [Cf]),(by grind [Cf]),(by grind [Cf]),(by grind [Cf])⟩ (by (simp only []; omega))) fun ak=>.d<|.cf<|.sk<|.ib 1<|.g<|.r 1<|.it ((i:Int)+1)<|.r 1<|.d<|aa (out,r_out,c_out,true,i+1) _ _ AA (Z.to 0 [] 1) ⟨(by grind [Cf]),(by grind [Cf]),(by grind [Cf]),(by grind [Cf])⟩ (by (simp only []; omega))
 refine .d<|.cf<|.x 0 rfl<|.s<|.s<|.g ?_
 cases aN:put
 ·exact .r 2<|.d<|.ct<|.g<|.r 1<|RG.Ln 1 Z<|RG.Nb 1 Z fun aT w Z=>RG.Ap 0 0 out r [] Z fun aU aV w Z=>.r 1<|.d<|.s<|.g<|.r 2<|.d<|T.Rt func170 results170 ⟨Z.rM 0 (out++[r]) (by grind [Cf]),Z.xt⟩
 exact .r 2<|.d<|.cf<|.sk<|.s<|.g<|.r 2<|.d<|T.Rt func170 results170 ⟨Z.rM 0 out (by grind [Cf]),Z.xt⟩
theorem OQ (t:Tag){F:Nat→Prop}   : Calls Tryz.prog 108 [.agg #[.string (bs t.key),.string (bs t.val)]].toArray w (Af fun rv w'=>rv=.bool (CX t)∧Ext w w'):=by
 refine goT func108 ?_
 have Z:=St.i0 F w
 refine .s<|.g<|RG.Np Z fun ar w Z=>.r 1<|.d<|.s<|.g<|.r 1<|RG.Lb 0 Z<|RG.eqv (v:=vI (t.key.length:Int)) AA (Ld t.key)<|.eq (t.key.length:Int) 1 (fun ag=>?_) (fun ag=>.r 21<|.d<|T.rt func108 results108 (.bool false) ⟨(AG (by grind [Ej,Dh,Hq,LK])),Z.xt⟩)
 refine .r 2<|RG.Lb 0 Z<|RG.eqv (v:=vI (t.val.length:Int)) AA (Ld t.val)<|.eq (t.val.length:Int) 1 (fun ah=>?_) (fun ah=>.r 16<|.d<|T.rt func108 results108 (.bool false) ⟨(AG (by grind [Ej,Dh,Hq,LK])),Z.xt⟩)
 refine .r 3<|RG.Lb 0 Z ?_
 obtain ⟨aa,ac⟩:∃ y,t.key[0]? = some y:=⟨_,AU AB⟩
 have ai:=UInt8.toNat_lt aa
 refine RG.Xu (t:=9) (s:=t.key) (k:=.i64) (i:=0) 0 AA AA AB ac<|.it ((aa.toNat:Int))<|RG.C0 (CD (aa.toNat:Int) 97 100 (F:=all)) Z fun w Z=>?_
 cases ae:(inR (aa.toNat:Int) 97 100)
 ·exact .r 9<|.d<|T.rt func108 results108 (.bool false) ⟨(AG (by grind [Ej,Dh,Hq,LK])),Z.xt⟩
 refine .r 3<|RG.Lb 0 Z ?_
 obtain ⟨ab,af⟩:∃ y,t.val[0]? = some y:=⟨_,AU AB⟩
 have ao:=UInt8.toNat_lt ab
 exact RG.Xu (t:=9) (s:=t.val) (k:=.i64) (i:=0) 0 AA AA AB af<|.it ((ab.toNat:Int))<|RG.C0 (CD (ab.toNat:Int) 112 122 (F:=all)) Z fun w Z=>.r 2<|.d<|T.rt func108 results108 (.bool (inR (ab.toNat:Int) 112 122)) ⟨(AG (by grind [Ej,Dh,Hq,LK])),Z.xt⟩
theorem OR (t:Tag){F:Nat→Prop}   : Calls Tryz.prog 178 [.agg #[.string (bs t.key),.string (bs t.val)]].toArray w (Af fun rv w'=>rv=.bool (CX t)∧Ext w w'):=by
 refine goT func178 ?_
 have Z:=St.i0 F w
 refine .s<|.g<|RG.Np Z fun ag w Z=>.r 1<|.d<|.s<|.g<|.r 1<|RG.Lb 0 Z<|RG.eqv (v:=vI (t.key.length:Int)) AA (Ld t.key)<|.eq (t.key.length:Int) 1 (fun aa=>?_) (fun aa=>.r 27<|.d<|T.rt func178 results178 (.bool false) ⟨(AG (by grind [Ej,Dh,Dz,F6,F7])),Z.xt⟩)
 refine .r 2<|RG.Lb 0 Z<|RG.eqv (v:=.bool (!(Bh t.key [97]))) AA (Ve t.key [97]) ?_
 cases ac:(Bh t.key [97])
 ·refine .r 3<|RG.Lb 0 Z<|RG.eqv (v:=.bool ((Gm t.key [100]))) AA (ZF t.key [100]) ?_
  cases ae:(Gm t.key [100])
  ·exact .r 18<|.d<|T.rt func178 results178 (.bool false) ⟨(AG (by grind [Ej,Dh,Dz,F6,F7])),Z.xt⟩
  refine .r 3<|RG.Lb 0 Z<|RG.eqv (v:=vI (t.val.length:Int)) AA (Ld t.val)<|.eq (t.val.length:Int) 1 (fun ab=>?_) (fun ab=>.r 12<|.d<|T.rt func178 results178 (.bool false) ⟨(AG (by grind [Ej,Dh,Dz,F6,F7])),Z.xt⟩)
  refine .r 3<|RG.Lb 0 Z<|RG.eqv (v:=.bool (!(Bh t.val [112]))) AA (Ve t.val [112]) ?_
  cases af:(Bh t.val [112])
  ·exact .r 3<|RG.Lb 0 Z<|RG.eqv (v:=.bool ((Gm t.val [122]))) AA (ZF t.val [122])<|.r 2<|.d<|T.rt func178 results178 (.bool (Gm t.val [122])) ⟨(AG (by grind [Ej,Dh,Dz,F6,F7])),Z.xt⟩
  exact .r 7<|.d<|T.rt func178 results178 (.bool false) ⟨(AG (by grind [Ej,Dh,Dz,F6,F7])),Z.xt⟩
 exact .r 23<|.d<|T.rt func178 results178 (.bool false) ⟨(AG (by grind [Ej,Dh,Dz,F6,F7])),Z.xt⟩
theorem ED (a:List Int) (b:List Int) (h1:RepS w F a1 n1 c1 a) (h2:RepS w F a2 n2 c2 b)  : Calls Tryz.prog 203 [.slice a1 n1 c1,.slice a2 n2 c2].toArray w (Af fun rv w'=>rv=.bool ((a==b))∧Ext w w'):=by
 cases h1.len
 cases h2.len
 refine goT func203 ?_
 have Z:=((St.i0 F w).p h1).p h2
 have am:=h1.max
 refine .s<|.g<|.r 1<|.d<|.s<|.s<|.g<|.r 4<|.ne (a.length:Int) (b.length:Int) (fun ae=>.d<|.ct<|.s<|.g<|.r 1<|.d<|T.rt func203 results203 (.bool false) ⟨(AG (by grind [Aa])),Z.xt⟩) fun ae=>.d<|.cf<|.sk<|.s<|.s<|.g<|.r 3<|.d<|.b 0<|T.Lp (0:Nat) (fun k=>([(0,.slice a1 a.length c1),(1,.slice a2 b.length c2),(12,vI (a.length:Int)),(13,vI (k:Int))],[],[],a.length - k,(k≤a.length)∧(a.drop k=b.drop k↔a=b))) [] Z ⟨AD,AD⟩ ?_
 rintro k az w Z ⟨aq,ar⟩ ac
 refine .s<|.g<|.bp ((k:Int)< (a.length:Int)) (fun af=>?_) (fun af=>.d<|.s<|.cf<|.x 0 rfl<|.s<|.g<|.r 1<|.d<|T.rt func203 results203 (.bool true) ⟨(AG (by grind [Aa])),Z.xt⟩)
 refine .d<|.s<|.ct<|.sk<|.s<|.b 1<|.s<|.g<|.r 2<|.d<|.s<|T.Gd 8 Z fun w Z=>.r [0,1]<|gx a k fun aj aa=>?_
 have ax:=Ab aa
 refine GA.Ix 2 1 aa Z<|Z.el 1 aa fun Z=>GA.Lh 3 0 0 Z<|.r [4,5]<|gx b k fun ak ab=>?_
 have ay:=Ab ab
 exact GA.Ix 6 1 ab Z<|Z.el 1 ab fun Z=>GA.Lh 7 0 0 Z<|GA.Dn Z fun w Z=>.ne aj ak (fun ag=>.d<|.ct<|.s<|.g<|.r 1<|.d<|T.rt func203 results203 (.bool false) ⟨(AG (by grind [Aa])),Z.xt⟩) fun ag=>.d<|.cf<|.sk<|.ib 1<|.g<|.it ((k:Int)+1)<|.r 1<|.d<|ac (k+1) _ _ AA (Z.to 0 [] 2) ⟨AB,(by grind)⟩ (by (simp only []; omega))
theorem Lm (a:List Int) (b:List Int) (h1:RepS w F a1 n1 c1 a) (h2:RepS w F a2 n2 c2 b)  : Calls Tryz.prog 220 [.slice a1 n1 c1,.slice a2 n2 c2].toArray w (Af fun rv w'=>rv=.bool ((a==b))∧Ext w w'):=by
 cases h1.len
 cases h2.len
 refine goT func220 ?_
 have Z:=((St.i0 F w).p h1).p h2
 have am:=h1.max
 refine .s<|.g<|.r 1<|.d<|.s<|.s<|.g<|.r 4<|.ne (a.length:Int) (b.length:Int) (fun ae=>.d<|.ct<|.s<|.g<|.r 1<|.d<|T.rt func220 results220 (.bool false) ⟨(AG (by grind [Aa])),Z.xt⟩) fun ae=>.d<|.cf<|.sk<|.s<|.s<|.g<|.r 1<|.d<|.b 0<|T.Lp (0:Nat) (fun i=>([(0,.slice a1 a.length c1),(1,.slice a2 b.length c2),(5,vI (i:Int))],[],[],a.length - i,(i≤a.length)∧(a.drop i=b.drop i↔a=b))) [] Z ⟨AD,AD⟩ ?_
 rintro i az w Z ⟨aq,ar⟩ ac
 refine .s<|.s<|.g<|.r 3<|.bp ((i:Int)< (a.length:Int)) (fun af=>?_) (fun af=>.d<|.cf<|.x 0 rfl<|.s<|.g<|.r 1<|.d<|T.rt func220 results220 (.bool true) ⟨(AG (by grind [Aa])),Z.xt⟩)
 refine .d<|.ct<|.sk<|.s<|.b 1<|.s<|T.Gd 8 Z fun w Z=>.r [0,1]<|gx a i fun aj aa=>?_
 have ax:=Ab aa
 refine GA.Ix 2 1 aa Z<|Z.el 1 aa fun Z=>GA.Lh 3 0 0 Z<|.r [4,5]<|gx b i fun ak ab=>?_
 have ay:=Ab ab
 exact GA.Ix 6 1 ab Z<|Z.el 1 ab fun Z=>GA.Lh 7 0 0 Z<|GA.Dn Z fun w Z=>.ne aj ak (fun ag=>.d<|.ct<|.s<|.g<|.r 1<|.d<|T.rt func220 results220 (.bool false) ⟨(AG (by grind [Aa])),Z.xt⟩) fun ag=>.d<|.cf<|.sk<|.ib 1<|.g<|.r 1<|.it ((i:Int)+1)<|.r 1<|.d<|ac (i+1) _ _ AA (Z.to 0 [] 2) ⟨AB,(by grind)⟩ (by (simp only []; omega))
theorem Ca (a:List Tag) (b:List Tag) (h1:RepS w F a1 n1 c1 a) (h2:RepS w F a2 n2 c2 b)  : Calls Tryz.prog 161 [.slice a1 n1 c1,.slice a2 n2 c2].toArray w (Af fun rv w'=>rv=.bool ((a==b))∧Ext w w'):=by
 cases h1.len
 cases h2.len
 refine goT func161 ?_
 have Z:=((St.i0 F w).p h1).p h2
 have ak:=h1.max
 refine .s<|.g<|.r 1<|.d<|.s<|.s<|.g<|.r 4<|.ne (a.length:Int) (b.length:Int) (fun ae=>.d<|.ct<|.s<|.g<|.r 1<|.d<|T.rt func161 results161 (.bool false) ⟨(AG (by grind [Aa])),Z.xt⟩) fun ae=>.d<|.cf<|.sk<|.s<|.s<|.g<|.r 3<|.d<|.b 0<|T.Lp (0:Nat) (fun k=>([(0,.slice a1 a.length c1),(1,.slice a2 b.length c2),(12,vI (a.length:Int)),(13,vI (k:Int))],[],[],a.length - k,(k≤a.length)∧(a.drop k=b.drop k↔a=b))) [] Z ⟨AD,AD⟩ ?_
 rintro k az w Z ⟨ao,aq⟩ ac
 refine .s<|.g<|.bp ((k:Int)< (a.length:Int)) (fun af=>?_) (fun af=>.d<|.s<|.cf<|.x 0 rfl<|.s<|.g<|.r 1<|.d<|T.rt func161 results161 (.bool true) ⟨(AG (by grind [Aa])),Z.xt⟩)
 refine .d<|.s<|.ct<|.sk<|.s<|.b 1<|.s<|.g<|.r 2<|.d<|.s<|T.Gd 8 Z fun w Z=>.r [0,1]<|gx a k fun ag aa=>?_
 have ar:=Ab aa
 refine GA.Ix 2 1 aa Z<|Z.el 1 aa fun Z=>GA.Lg 3 0 0 Z<|.r [4,5]<|gx b k fun ah ab=>?_
 have ax:=Ab ab
 refine GA.Ix 6 1 ab Z<|Z.el 1 ab fun Z=>GA.Lg 7 0 0 Z<|GA.Dn Z fun w Z=>RG.XD (t:=118) (x:=ag) (y:=ah) AA AA ?_
 cases ay:(ag==ah)
 ·exact .d<|.ct<|.s<|.g<|.r 1<|.d<|T.rt func161 results161 (.bool false) ⟨(AG (by grind [Aa])),Z.xt⟩
 exact .d<|.cf<|.sk<|.ib 1<|.g<|.it ((k:Int)+1)<|.r 1<|.d<|ac (k+1) _ _ AA (Z.to 0 [] 2) ⟨AB,(by grind)⟩ (by (simp only []; omega))
theorem OS (n:List Tag) (t:Tag) (h1:RepS w F a1 n1 c1 n)  : Calls Tryz.prog 209 [.slice a1 n1 c1,.agg #[.string (bs t.key),.string (bs t.val)]].toArray w (Af fun rv w'=>rv=.bool (has n t)∧Ext w w'):=by
 cases h1.len
 refine goT func209 ?_
 have Z:=(St.i0 F w).p h1
 have ah:=h1.max
 refine .s<|.g<|RG.Np Z fun ag w Z=>.r 1<|.d<|.s<|.s<|.g<|.r 1<|.d<|.b 0<|T.Lp (0:Nat) (fun i=>([(0,.slice a1 n.length c1),(3,vP ag),(5,vI (i:Int))],[],[],n.length - i,(i≤n.length)∧(has (n.drop i) t=has n t))) [] Z ⟨AD,AD⟩ ?_
 rintro i ao w Z ⟨ai,aj⟩ ab
 refine .s<|.s<|.g<|.r 3<|.bp ((i:Int)< (n.length:Int)) (fun ac=>?_) (fun ac=>.d<|.cf<|.x 0 rfl<|.s<|.g<|.r 1<|.d<|T.rt func209 results209 (.bool false) ⟨(AG (by grind [has])),Z.xt⟩)
 refine .d<|.ct<|.sk<|.s<|.b 1<|.s<|T.Gd 5 Z fun w Z=>.r [0,1]<|gx n i fun ae aa=>?_
 have ak:=Ab aa
 refine GA.Ix 2 0 aa Z<|Z.el 0 aa fun Z=>GA.Lg 3 0 0 Z<|GA.Ln 4 0 Z<|GA.Dn Z fun w Z=>RG.RO (t:=118) (x:=ae) (y:=t) AA AA ?_
 cases am:(ae==t)
 ·exact .d<|.cf<|.sk<|.ib 1<|.g<|.r 1<|.it ((i:Int)+1)<|.r 1<|.d<|ab (i+1) _ _ AA (Z.to 0 [] 1) ⟨AB,(by grind [has])⟩ (by (simp only []; omega))
 exact .d<|.ct<|.s<|.g<|.r 1<|.d<|T.rt func209 results209 (.bool true) ⟨(AG (by grind [has])),Z.xt⟩
theorem Fm (names:List (List Tag)) (t:Tag) (h1:RepS w F a1 n1 c1 names) (p0:names.length≤1100000):Calls Tryz.prog 174 [.slice a1 n1 c1,.agg #[.string (bs t.key),.string (bs t.val)]].toArray w (Af fun rv w'=>VL (ge w.heap.size) w' (ids names t:List Int) rv∧Ext w w'):=by
 cases h1.len
 refine goT func174 ?_
 have Z:=(St.i0 F w).p h1
 refine .s<|.g<|RG.Np Z fun ag w Z=>.r 1<|.d<|.s<|.g<|RG.N0 Int 0 Z fun ah w Z=>.r 1<|.d<|.s<|.s<|.g<|.r 1<|.d<|.b 0<|T.Lp (([]:List Int),ah,(0:Nat),(0:Nat)) (fun (out,r_out,c_out,i)=>([(0,.slice a1 names.length c1),(3,vP ag),(5,vS r_out out.length c_out),(6,vI (i:Int))],[(0,.own 0 r_out 3 c_out out)],[],names.length - i,(i≤names.length)∧(out.length≤i)∧(out++FZ t i (names.drop i)=ids names t))) [] Z ⟨(by simp [ids]),(by simp [ids]),(by simp [ids])⟩ ?_
 rintro ⟨out,r_out,c_out,i⟩ ay w Z ⟨am,ao,aq⟩ aa
 refine .s<|.s<|.g<|.r 3<|.bp ((i:Int)< (names.length:Int)) (fun ac=>?_) (fun ac=>.d<|.cf<|.x 0 rfl<|.s<|.g<|.r 2<|.d<|T.Rt func174 results174 ⟨Z.rM 0 out (by grind [FZ]),Z.xt⟩)
 refine .d<|.ct<|.sk<|.s<|.b 1<|.s<|T.Gd 5 Z fun w Z=>.r [0,1]<|gx names i fun ae ab=>?_
 have ar:=Ab ab
 refine GA.Ix 2 0 ab Z<|Z.el 0 ab fun az aA Z=>GA.Lh 3 0 0 Z<|GA.Ln 4 1 Z<|GA.Dn Z fun w Z=>RG.C0 (OS ae t (Z.a 1)) Z fun w Z=>?_
 cases ax:(has ae t)
 ·exact .d<|.cf<|.sk<|.ib 1<|.g<|.r 1<|.it ((i:Int)+1)<|.r 1<|.d<|aa (out,r_out,c_out,i+1) _ _ AA (Z.to 0 [] 2) ⟨(by grind [FZ]),(by grind [FZ]),(by grind [FZ])⟩ (by (simp only []; omega))
 exact .d<|.ct<|.g<|.r 2<|.it ((i:Int)+1)<|RG.Nb 1 Z fun aB w Z=>RG.Ap 0 0 out ((i:Int)+1) [] Z fun ai aj w Z=>.r 1<|.d<|.ib 1<|.g<|.r 1<|.it ((i:Int)+1)<|.r 1<|.d<|aa ((out++[(i:Int)+1]),ai,aj,i+1) _ _ AA (Z.to 0 [] 2) ⟨(by grind [FZ]),(by grind [FZ]),(by grind [FZ])⟩ (by (simp only []; omega))
theorem HC (a:List Row) (b:List Row) (h1:RepS w F a1 n1 c1 a) (h2:RepS w F a2 n2 c2 b) (p0:a.length+b.length≤1000000):Calls Tryz.prog 169 [.slice a1 n1 c1,.slice a2 n2 c2].toArray w (Af fun rv w'=>VL (ge w.heap.size) w' (Bg a b:List Row) rv∧Ext w w'):=by
 cases h1.len
 cases h2.len
 refine goT func169 ?_
 have Z:=((St.i0 F w).p h1).p h2
 have ak:=h1.max
 have am:=h2.max
 refine .s<|.g<|.r 1<|.d<|.s<|.g<|RG.N0 Row 0 Z fun ay w Z=>.r 1<|RG.An (hf:=.inr Bn) 0 1 ([]:List Row) a Z fun ag ah w Z=>.r 1<|.d<|.s<|.s<|.g<|.r 1<|.d<|.b 0 ?_
 have Z:=Z.sl 0
 refine T.Lp ((([]++a):List Row),sA ag,ah,(0:Nat)) (fun (out,a_out,c_out,i)=>([(1,.slice a2 b.length c2),(5,.slice a_out out.length c_out),(6,vI (i:Int))],[],[⟨0,none,.rep a_out c_out out⟩],b.length - i,(i≤b.length)∧(out.length≤a.length+i)∧((b.drop i).foldl EU out=Bg a b))) [0] Z ⟨(by simp [Bg]),(by simp [Bg]),(by simp [Bg])⟩ ?_
 rintro ⟨out,a_out,c_out,i⟩ az w Z ⟨ao,aq,ar⟩ ab
 refine .s<|.s<|.g<|.r 3<|.bp ((i:Int)< (b.length:Int)) (fun ac=>?_) (fun ac=>.d<|.cf<|.x 0 rfl<|.s<|.g<|.r 2<|.d<|T.Rt func169 results169 ⟨Z.rL 0 out (by grind [Aa]),Z.xt⟩)
 refine .d<|.ct<|.sk<|.s<|.b 1<|.g<|.r 3<|gx b i fun ae aa=>?_
 have ax:=Ab aa
 exact RG.Ix 2 aa Z<|Z.el 2 aa fun Z=>RG.Lg 0 0 Z<|RG.CL (GW out ae (Z.a 1) AB) Z fun ai aj w Z=>.r 1<|.d<|.ib 1<|.g<|.r 1<|.it ((i:Int)+1)<|.r 1<|.d<|ab (EU out ae,ai,aj,i+1) _ _ AA (Z.to 0 [0] 3) ⟨(by grind [DK]),(by grind [DK]),(by grind [DK])⟩ (by (simp only []; omega))
theorem EE (p:Prt) (id:Int) (h1:RepS w F a1 n1 c1 p.ids) (h2:RepS w F a2 n2 c2 p.blocks) (p0:p.ids.length≤p.blocks.length):Calls Tryz.prog 152 [.agg #[.slice a1 n1 c1,.slice a2 n2 c2],.int .i64 id].toArray w (Af fun rv w'=>VL (fo F w.heap.size) w' (partOf p id:List Row) rv∧Ext w w'):=by
 cases h1.len
 cases h2.len
 refine goT func152 ?_
 have Z:=((St.i0 F w).p h1).p h2
 have am:=h1.max
 refine .s<|.g<|RG.Np Z fun ai w Z=>.r 1<|.d<|.s<|.s<|.g<|.r 1<|.d<|.b 0<|T.Lp (0:Nat) (fun i=>([(1,vI id),(2,vP ai),(5,vI (i:Int))],[],[],p.ids.length - i,(i≤p.ids.length)∧(Bd id (p.ids.drop i) (p.blocks.drop i)=partOf p id))) [] Z ⟨(by simp [partOf]),(by simp [partOf])⟩ ?_
 rintro i az w Z ⟨aq,ar⟩ ac
 refine .s<|.s<|.g<|.r 2<|RG.Lb 0 Z<|.r 1<|.bp ((i:Int)< (p.ids.length:Int)) (fun ae=>?_) (fun ae=>.d<|.cf<|.x 0 rfl<|.s<|.g<|RG.N0 Row 1 Z fun aA w Z=>.r 1<|.d<|T.Rt func152 results152 ⟨Z.rM (g:=1) 0 ([]:List Row) (by grind [Bd,Aa]),Z.xt⟩)
 refine .d<|.ct<|.sk<|.s<|.b 1<|.s<|.g<|.r 1<|RG.Lb 0 Z<|.r 1<|gx p.ids i fun aj aa=>?_
 have ax:=Ab aa
 refine RG.Ix 1 aa Z<|Z.el 1 aa fun Z=>RG.Lh 0 0 Z<|.r 1<|.eq aj id (fun af=>?_) (fun af=>.d<|.cf<|.sk<|.ib 1<|.g<|.r 1<|.it ((i:Int)+1)<|.r 1<|.d<|ac (i+1) _ _ AA (Z.to 0 [] 1) ⟨(by have:=List.drop_eq_getElem_cons (l:=p.blocks) (i:=i) AB; grind [Bd]),(by have:=List.drop_eq_getElem_cons (l:=p.blocks) (i:=i) AB; grind [Bd])⟩ (by (simp only []; omega)))
 refine .d<|.ct<|.s<|.g<|.r 1<|RG.Lb 0 Z<|.r 1<|gx p.blocks i fun ak ab=>?_
 have ay:=Ab ab
 exact RG.Ix 1 ab Z<|Z.el 1 ab fun aB aC Z=>RG.Lh 0 0 Z<|.r 1<|.d<|T.Rt func152 results152 ⟨Z.rL (g:=1) 1 ak (by grind [Bd,Aa]),Z.xt⟩
theorem HD (blocks:List (List Row)) (h1:RepS w F a1 n1 c1 blocks) (p0:blocks.length≤1000000) (p1:∀ b∈blocks,b.length≤1000000):Calls Tryz.prog 171 [.slice a1 n1 c1].toArray w (Af fun rv w'=>VS (ge w.heap.size) w' (EC blocks:Prt) rv∧Ext w w'):=by
 cases h1.len
 refine goT func171 ?_
 have Z:=(St.i0 F w).p h1
 refine .s<|.g<|RG.Np Z fun ah w Z=>.d<|.s<|.g<|RG.N0 Int 0 Z fun am w Z=>RG.N0 (List Row) 0 Z fun ao w Z=>.r 1<|RG.Np Z fun ag w Z=>RG.Ss 0 Z fun w Z=>.d<|.s<|.s<|.g<|.r 1<|.d<|.b 0<|T.Lp ((0:Nat),([]:List Int),am,(0:Nat),([]:List (List Row)),ao,(0:Nat)) (fun (i,aa,r_p_0,c_p_0,ab,r_p_1,c_p_1)=>([(0,.slice a1 blocks.length c1),(2,vP ah),(3,vP ag),(4,vI (i:Int))],[(0,.box ag 146 [vS r_p_0 aa.length c_p_0,vS r_p_1 ab.length c_p_1]),(1,.own 0 r_p_1 159 c_p_1 ab),(2,.own 0 r_p_0 3 c_p_0 aa)],[],blocks.length - i,(i≤blocks.length)∧(aa.length≤i)∧(ab.length≤i)∧(aa++(BN i (blocks.drop i)).1=(BN 0 blocks).1)∧(ab++(BN i (blocks.drop i)).2=(BN 0 blocks).2))) [] Z ⟨AD,AD,AD,AD,AD⟩ ?_
 rintro ⟨i,aa,r_p_0,c_p_0,ab,r_p_1,c_p_1⟩ aG w Z ⟨aA,aB,aC,aD,aE⟩ ac
 refine .s<|.s<|.g<|.r 3<|.bp ((i:Int)< (blocks.length:Int)) (fun ai=>?_) (fun ai=>?_)
 ·refine .d<|.ct<|.sk<|.s<|.b 1<|.s<|.g<|.r 2<|gx blocks i fun af ae=>?_
  have aF:=Ab ae; have ak:=AV ae
  exact RG.Ix 0 ae Z<|Z.el 0 ae fun aH aI Z=>RG.Lh 0 0 Z<|.r 1<|.bp ((af.length:Int) > 0) (fun aj=>.d<|.ct<|.s<|.g<|.r 1<|RG.Lb 0 Z<|.r 1<|.it ((i:Int)+1)<|RG.Nb 1 Z fun aJ w Z=>RG.Ap (hs:=by exact (by grind)) 2 0 aa ((i:Int)+1) [] Z fun aq ar w Z=>.r 1<|RG.Ss 0 Z fun w Z=>.d<|T.GS 9 [ag,ah] Z fun _ w Z=>.r [0]<|GA.Lb 1 0 Z<|.r [3,4]<|GA.Ix 5 2 ae Z<|GA.Lh 6 0 0 Z<|.go 2<|GE.N0 Row 0 Z fun aK w Z=>.go 7<|GE.An (hs:=by exact (by grind)) (hf:=.inr Bn) 0 1 ([]:List Row) af [1,4] Z fun aL aM w Z=>.go 8<|GE.Nb 1 Z fun aN w Z=>GA.Do Z fun w Z=>RG.Ap (hs:=by exact (by grind)) 1 0 ab ([]++af) [0] (Z.sl 1) fun ax ay w Z=>.r 1<|RG.Ss 0 Z fun w Z=>.d<|.ib 1<|.g<|.r 1<|.it ((i:Int)+1)<|.r 1<|.d<|ac (i+1,(aa++[(i:Int)+1]),aq,ar,(ab++[([]++af)]),ax,ay) _ _ AA (Z.to 0 [] 3) ⟨(by grind [BN]),(by grind [BN]),(by grind [BN]),(by grind [BN]),(by grind [BN])⟩ (by (simp only []; omega))) fun aj=>.d<|.cf<|.sk<|.ib 1<|.g<|.r 1<|.it ((i:Int)+1)<|.r 1<|.d<|ac (i+1,aa,r_p_0,c_p_0,ab,r_p_1,c_p_1) _ _ AA (Z.to 0 [] 2) ⟨(by grind [BN]),(by grind [BN]),(by grind [BN]),(by grind [BN]),(by grind [BN])⟩ (by (simp only []; omega))
 refine .d<|.cf<|.x 0 rfl<|.s<|.g<|RG.Ln 0 Z<|RG.Ss 3 Z fun w Z=>.d ?_
 have Z:=(Z.sl 2).sl 1
 exact T.Rb 1 func171 results171 Z ⟨Z.rS (⟨aa,ab⟩:Prt) [1,0] (by grind [BN,EC]),Z.xt⟩
end Go.Proofs.YtcginoabkicdiaaGreat
namespace Go.Proofs.YtcginoabkicdiaaGreat
set_option maxRecDepth 100000
set_option maxHeartbeats 4000000
variable {w:World} {F:Nat→Prop} {a1 a2:Option Addr} {n1 c1 n2 c2:Nat}
theorem Fo (n:List Tag) (h1:RepS w F a1 n1 c1 n)  : Calls Tryz.prog 49 [.slice a1 n1 c1].toArray w (Af fun rv w'=>rv=.bool (As n)∧Ext w w'):=by
 cases h1.len
 refine goT func49 ?_
 have Z:=(St.i0 F w).p h1
 have ak:=h1.max
 refine .s<|.g<|.r 1<|.d<|.s<|.s<|.g<|.r 1<|.d<|.b 0<|T.Lp (0:Nat) (fun i=>([(0,.slice a1 n.length c1),(3,vI (i:Int))],[],[],n.length - i,(i≤n.length)∧(DW (prev n i) (n.drop i)=DW none n))) [] Z ⟨(by simp [prev]),(by simp [prev])⟩ ?_
 rintro i az w Z ⟨am,ao⟩ aa
 refine .s<|.s<|.g<|.r 3<|.bp ((i:Int)< (n.length:Int)) (fun ag=>?_) (fun ag=>.d<|.cf<|.x 0 rfl<|.s<|.g<|.r 2<|RG.C0 (CD (n.length:Int) 1 3 (F:=all)) Z fun w Z=>.r 1<|.d<|T.rt func49 results49 (.bool (inR (n.length:Int) 1 3)) ⟨(AG (by grind [DW,As,prev,Aa])),Z.xt⟩)
 refine .d<|.ct<|.sk<|.s<|.b 1<|.s<|T.Gd 21 Z fun w Z=>.r [0,1]<|gx n i fun ae ab=>?_
 have aq:=Ab ab; have ai:=AV ab
 refine GA.Ix 2 0 ab Z<|Z.el 0 ab fun Z=>GA.Lg 3 0 0 Z<|GA.C0 4 Z (fun w Z=>OQ ae (F:=all)) ?_
 cases ar:(CX ae)
 ·exact .r [5,6]<|GA.Sk Z fun w Z=>.r 3<|.d<|.ct<|.s<|.g<|.r 1<|.d<|T.rt func49 results49 (.bool false) ⟨(AG (by grind [DW,As,prev,Aa])),Z.xt⟩
 refine .r [5,6,7]<|GA.Em (i:=8) ((i:Int) > 0) AA (fun ah=>?_) (fun ah=>.r [9]<|GA.Sk Z fun w Z=>.r 3<|.d<|.cf<|.sk<|.ib 1<|.g<|.r 1<|.it ((i:Int)+1)<|.r 1<|.d<|aa (i+1) _ _ AA (Z.to 0 [] 1) ⟨AB,(by grind [DW,prev])⟩ (by (simp only []; omega)))
 refine .r [9,10,11]<|GA.int (i:=12) ((i:Int) - 1) AA AB<|gx n (i - 1) fun af ac=>?_
 refine GA.Jx 13 1 ((i:Int) - 1) ac Z<|.r [14]<|Z.el 1 ac fun Z=>GA.Lh 15 0 0 Z<|.r [16,17]<|GA.Ix 18 2 ab Z<|.r [19]<|GA.Lh 20 1 0 Z<|GA.Dn Z fun w Z=>RG.eqv (v:=.bool (!(Bh af.key ae.key))) AA (Ve af.key ae.key) ?_
 cases ay:(Bh af.key ae.key)
 ·exact .r 2<|.d<|.ct<|.s<|.g<|.r 1<|.d<|T.rt func49 results49 (.bool false) ⟨(AG (by grind [DW,As,prev,Aa])),Z.xt⟩
 exact .r 2<|.d<|.cf<|.sk<|.ib 1<|.g<|.r 1<|.it ((i:Int)+1)<|.r 1<|.d<|aa (i+1) _ _ AA (Z.to 0 [] 2) ⟨AB,(by grind [DW,prev])⟩ (by (simp only []; omega))
theorem Fp (n:List Tag) (h1:RepS w F a1 n1 c1 n)  : Calls Tryz.prog 122 [.slice a1 n1 c1].toArray w (Af fun rv w'=>rv=.bool (As n)∧Ext w w'):=by
 cases h1.len
 refine goT func122 ?_
 have Z:=(St.i0 F w).p h1
 have ak:=h1.max
 refine .s<|.g<|.r 1<|.d<|.s<|.s<|.g<|.r 3<|.d<|.b 0<|T.Lp (0:Nat) (fun k=>([(0,.slice a1 n.length c1),(5,.slice a1 n.length c1),(6,vI (n.length:Int)),(7,vI (k:Int))],[],[],n.length - k,(k≤n.length)∧(DW (prev n k) (n.drop k)=DW none n))) [] Z ⟨(by simp [prev]),(by simp [prev])⟩ ?_
 rintro k az w Z ⟨am,ao⟩ aa
 refine .s<|.g<|.bp ((k:Int)< (n.length:Int)) (fun ag=>?_) (fun ag=>.d<|.s<|.cf<|.x 0 rfl<|.s<|.g<|.r 2<|RG.C0 (CB (n.length:Int) 1 3 (F:=all)) Z fun w Z=>.r 1<|.d<|T.rt func122 results122 (.bool (inR (n.length:Int) 1 3)) ⟨(AG (by grind [DW,As,prev,Aa])),Z.xt⟩)
 refine .d<|.s<|.ct<|.sk<|.s<|.b 1<|.s<|.g<|.r 1<|gx n k fun ae ab=>?_
 have aq:=Ab ab; have ai:=AV ab
 refine RG.Ix 0 ab Z<|Z.el 0 ab fun Z=>RG.Lg 0 0 Z<|RG.Np Z fun aA w Z=>.r 1<|RG.Ss 0 Z fun w Z=>.d<|.s<|T.Gd 15 Z fun w Z=>GA.Ln 0 0 Z<|GA.C0 1 Z (fun w Z=>OR ae (F:=all)) ?_
 cases ar:(CX ae)
 ·exact .r [2,3]<|GA.Sk Z fun w Z=>.r 3<|.d<|.ct<|.s<|.g<|.r 1<|.d<|T.rt func122 results122 (.bool false) ⟨(AG (by grind [DW,As,prev,Aa])),Z.xt⟩
 refine .r [2,3,4]<|GA.Em (i:=5) ((k:Int) > 0) AA (fun ah=>?_) (fun ah=>.r [6]<|GA.Sk Z fun w Z=>.r 3<|.d<|.cf<|.sk<|.ib 1<|.g<|.it ((k:Int)+1)<|.r 1<|.d<|aa (k+1) _ _ AA (Z.to 1 [] 1) ⟨AB,(by grind [DW,prev])⟩ (by (simp only []; omega)))
 refine .r [6,7,8]<|GA.int (i:=9) ((k:Int) - 1) AA AB<|gx n (k - 1) fun af ac=>?_
 refine GA.Jx 10 1 ((k:Int) - 1) ac Z<|.r [11]<|Z.el 1 ac fun Z=>GA.Lh 12 0 0 Z<|.r [13]<|GA.Lb 14 0 Z<|GA.Dn Z fun w Z=>RG.eqv (v:=.bool (!(Bh af.key ae.key))) AA (Ve af.key ae.key) ?_
 cases ay:(Bh af.key ae.key)
 ·exact .r 2<|.d<|.ct<|.s<|.g<|.r 1<|.d<|T.rt func122 results122 (.bool false) ⟨(AG (by grind [DW,As,prev,Aa])),Z.xt⟩
 exact .r 2<|.d<|.cf<|.sk<|.ib 1<|.g<|.it ((k:Int)+1)<|.r 1<|.d<|aa (k+1) _ _ AA (Z.to 1 [] 2) ⟨AB,(by grind [DW,prev])⟩ (by (simp only []; omega))
theorem FK (b:List Row) (h1:RepS w F a1 n1 c1 b)  : Calls Tryz.prog 198 [.slice a1 n1 c1].toArray w (Af fun rv w'=>rv=.bool (Ax b)∧Ext w w'):=by
 cases h1.len
 refine goT func198 ?_
 have Z:=(St.i0 F w).p h1
 have am:=h1.max
 refine .s<|.g<|.r 1<|.d<|.s<|.s<|.g<|.r 1<|.d<|.b 0<|T.Lp (0:Nat) (fun i=>([(0,.slice a1 b.length c1),(3,vI (i:Int))],[],[],b.length - i,(i≤b.length)∧(By (prev b i) (b.drop i)=By none b))) [] Z ⟨(by simp [prev]),(by simp [prev])⟩ ?_
 rintro i az w Z ⟨ao,aq⟩ aa
 refine .s<|.s<|.g<|.r 3<|.bp ((i:Int)< (b.length:Int)) (fun af=>?_) (fun af=>.d<|.cf<|.x 0 rfl<|.s<|.g<|.r 4<|.d<|T.rt func198 results198 (.bool (decide ((b.length:Int)≤24))) ⟨(AG (by grind [By,Ax,prev,Aa])),Z.xt⟩)
 refine .d<|.ct<|.sk<|.s<|.b 1<|.s<|T.Gd 21 Z fun w Z=>.r [0,1]<|gx b i fun ae ab=>?_
 have ar:=Ab ab; have ai:=AV ab
 refine GA.Ix 2 0 ab Z<|Z.el 0 ab fun Z=>GA.Lg 3 0 0 Z<|GA.C0 4 Z (fun w Z=>GV ae (F:=all)) ?_
 cases ax:(BS ae)
 ·exact .r [5,6]<|GA.Sk Z fun w Z=>.r 3<|.d<|.ct<|.s<|.g<|.r 1<|.d<|T.rt func198 results198 (.bool false) ⟨(AG (by grind [By,Ax,prev,Aa])),Z.xt⟩
 refine .r [5,6,7]<|GA.Em (i:=8) ((i:Int) > 0) AA (fun ag=>?_) (fun ag=>.r [9]<|GA.Sk Z fun w Z=>.r 3<|.d<|.cf<|.sk<|.ib 1<|.g<|.r 1<|.it ((i:Int)+1)<|.r 1<|.d<|aa (i+1) _ _ AA (Z.to 0 [] 1) ⟨AB,(by grind [By,prev])⟩ (by (simp only []; omega)))
 refine .r [9,10,11]<|GA.int (i:=12) ((i:Int) - 1) AA AB<|gx b (i - 1) fun ak ac=>?_
 exact GA.Jx 13 1 ((i:Int) - 1) ac Z<|.r [14]<|Z.el 1 ac fun Z=>GA.Lh 15 0 0 Z<|.r [16,17]<|GA.Ix 18 2 ab Z<|.r [19]<|GA.Lh 20 1 0 Z<|GA.Dn Z fun w Z=>.bp (ak.t≥ae.t) (fun ah=>.r 2<|.d<|.ct<|.s<|.g<|.r 1<|.d<|T.rt func198 results198 (.bool false) ⟨(AG (by grind [By,Ax,prev,Aa])),Z.xt⟩) fun ah=>.r 2<|.d<|.cf<|.sk<|.ib 1<|.g<|.r 1<|.it ((i:Int)+1)<|.r 1<|.d<|aa (i+1) _ _ AA (Z.to 0 [] 2) ⟨AB,(by grind [By,prev])⟩ (by (simp only []; omega))
theorem EF (b:List Row) (h1:RepS w F a1 n1 c1 b)  : Calls Tryz.prog 213 [.slice a1 n1 c1].toArray w (Af fun rv w'=>rv=.bool (Ax b)∧Ext w w'):=by
 cases h1.len
 refine goT func213 ?_
 have Z:=(St.i0 F w).p h1
 have am:=h1.max
 refine .s<|.g<|.r 1<|.d<|.s<|.s<|.g<|.r 3<|.d<|.b 0<|T.Lp (0:Nat) (fun k=>([(0,.slice a1 b.length c1),(5,.slice a1 b.length c1),(6,vI (b.length:Int)),(7,vI (k:Int))],[],[],b.length - k,(k≤b.length)∧(By (prev b k) (b.drop k)=By none b))) [] Z ⟨(by simp [prev]),(by simp [prev])⟩ ?_
 rintro k az w Z ⟨ao,aq⟩ aa
 refine .s<|.g<|.bp ((k:Int)< (b.length:Int)) (fun af=>?_) (fun af=>.d<|.s<|.cf<|.x 0 rfl<|.s<|.g<|.r 4<|.d<|T.rt func213 results213 (.bool (decide ((b.length:Int)≤24))) ⟨(AG (by grind [By,Ax,prev,Aa])),Z.xt⟩)
 refine .d<|.s<|.ct<|.sk<|.s<|.b 1<|.s<|.g<|.r 1<|gx b k fun ae ab=>?_
 have ar:=Ab ab; have ai:=AV ab
 refine RG.Ix 0 ab Z<|Z.el 0 ab fun Z=>RG.Lg 0 0 Z<|RG.Np Z fun aA w Z=>.r 1<|RG.Ss 0 Z fun w Z=>.d<|.s<|T.Gd 15 Z fun w Z=>GA.Ln 0 0 Z<|GA.C0 1 Z (fun w Z=>GU ae (F:=all)) ?_
 cases ax:(BS ae)
 ·exact .r [2,3]<|GA.Sk Z fun w Z=>.r 3<|.d<|.ct<|.s<|.g<|.r 1<|.d<|T.rt func213 results213 (.bool false) ⟨(AG (by grind [By,Ax,prev,Aa])),Z.xt⟩
 refine .r [2,3,4]<|GA.Em (i:=5) ((k:Int) > 0) AA (fun ag=>?_) (fun ag=>.r [6]<|GA.Sk Z fun w Z=>.r 3<|.d<|.cf<|.sk<|.ib 1<|.g<|.it ((k:Int)+1)<|.r 1<|.d<|aa (k+1) _ _ AA (Z.to 1 [] 1) ⟨AB,(by grind [By,prev])⟩ (by (simp only []; omega)))
 refine .r [6,7,8]<|GA.int (i:=9) ((k:Int) - 1) AA AB<|gx b (k - 1) fun ak ac=>?_
 exact GA.Jx 10 1 ((k:Int) - 1) ac Z<|.r [11]<|Z.el 1 ac fun Z=>GA.Lh 12 0 0 Z<|.r [13]<|GA.Lb 14 0 Z<|GA.Dn Z fun w Z=>.bp (ak.t≥ae.t) (fun ah=>.r 2<|.d<|.ct<|.s<|.g<|.r 1<|.d<|T.rt func213 results213 (.bool false) ⟨(AG (by grind [By,Ax,prev,Aa])),Z.xt⟩) fun ah=>.r 2<|.d<|.cf<|.sk<|.ib 1<|.g<|.it ((k:Int)+1)<|.r 1<|.d<|aa (k+1) _ _ AA (Z.to 1 [] 2) ⟨AB,(by grind [By,prev])⟩ (by (simp only []; omega))
theorem Fq (p:Prt) (h1:RepS w F a1 n1 c1 p.ids) (h2:RepS w F a2 n2 c2 p.blocks)  : Calls Tryz.prog 195 [.agg #[.slice a1 n1 c1,.slice a2 n2 c2]].toArray w (Af fun rv w'=>rv=.bool (Ai p)∧Ext w w'):=by
 cases h1.len
 cases h2.len
 refine goT func195 ?_
 have Z:=((St.i0 F w).p h1).p h2
 have aE:=h1.max
 refine .s<|.g<|RG.Np Z fun aC w Z=>.r 1<|.d<|.s<|.s<|.g<|.r 1<|RG.Lb 0 Z<|.r 2<|RG.Lb 0 Z<|.r 1<|.ne (p.ids.length:Int) (p.blocks.length:Int) (fun ak=>.d<|.ct<|.s<|.g<|.r 1<|.d<|T.rt func195 results195 (.bool false) ⟨(AG (by grind [BU,Ai,prev,Aa])),Z.xt⟩) fun ak=>.d<|.cf<|.sk<|.s<|.s<|.g<|.r 1<|.d<|.b 0<|T.Lp (0:Nat) (fun i=>([(1,vP aC),(3,vI (i:Int))],[],[],p.ids.length - i,(i≤p.ids.length)∧(BU (prev p.ids i) (p.ids.drop i) (p.blocks.drop i)=BU none p.ids p.blocks))) [] Z ⟨(by simp [prev]),(by simp [prev])⟩ ?_
 rintro i aQ w Z ⟨aG,aH⟩ aa
 refine .s<|.s<|.g<|.r 2<|RG.Lb 0 Z<|.r 1<|.bp ((i:Int)< (p.ids.length:Int)) (fun am=>?_) (fun am=>.d<|.cf<|.x 0 rfl<|.s<|.g<|.r 1<|.d<|T.rt func195 results195 (.bool true) ⟨(AG (by grind [BU,Ai,prev,Aa])),Z.xt⟩)
 refine .d<|.ct<|.sk<|.s<|.b 1<|.s<|T.Gd 38 Z fun w Z=>.r [0]<|GA.Lb 1 0 Z<|.r [2]<|gx p.ids i fun ah ab=>?_
 have aI:=Ab ab; have ay:=AV ab
 refine GA.Ix 3 1 ab Z<|Z.el 1 ab fun Z=>GA.Lh 4 0 0 Z<|GA.C0 5 Z (fun w Z=>CD ah 1 6 (F:=all)) ?_
 cases ag:(inR ah 1 6)
 ·exact .r [6,7,8,9,10,11,12,13,14,15,16,17,18,19,20,21,22,23,24,25,26,27,28,29,30,31,32,33,34,35,36,37]<|GA.Dn Z fun w Z=>.r 5<|.d<|.ct<|.s<|.g<|.r 1<|.d<|T.rt func195 results195 (.bool false) ⟨(AG (by (have hdd:=List.drop_eq_getElem_cons (l:=p.blocks) (i:=i) AB; grind [BU,Ai,prev,Aa]))),Z.xt⟩
 refine .r [6,7,8]<|GA.Em (i:=9) ((i:Int) > 0) AA (fun ao=>?_) (fun ao=>?_)
 ·refine .r [10,11]<|GA.Lb 12 0 Z<|.r [13]<|GA.int (i:=14) ((i:Int) - 1) AA AB<|gx p.ids (i - 1) fun aD af=>?_
  refine GA.Jx 15 2 ((i:Int) - 1) af Z<|Z.el 2 af fun Z=>GA.Lh 16 0 0 Z<|.r [17]<|GA.Lb 18 0 Z<|.r [19]<|GA.Ix 20 3 ab Z<|GA.Lh 21 1 0 Z<|GA.Em (i:=22) (aD≥ah) AA (fun aq=>.r [23,24,25,26,27,28,29,30,31,32,33,34,35,36,37]<|GA.Dn Z fun w Z=>.r 5<|.d<|.ct<|.s<|.g<|.r 1<|.d<|T.rt func195 results195 (.bool false) ⟨(AG (by (have hdd:=List.drop_eq_getElem_cons (l:=p.blocks) (i:=i) AB; grind [BU,Ai,prev,Aa]))),Z.xt⟩) fun aq=>.r [23,24,25,26]<|GA.Lb 27 0 Z<|.r [28]<|gx p.blocks i fun ai ac=>?_
  have aM:=Ab ac
  refine GA.Ix 29 2 ac Z<|Z.el 2 ac fun aR aS Z=>GA.Lh 30 0 0 Z<|.r [31]<|GA.eqI (i:=32) (a:=(ai.length:Int)) (b:=0) AA (fun ar=>.r [33,34,35,36,37]<|GA.Dn Z fun w Z=>.r 5<|.d<|.ct<|.s<|.g<|.r 1<|.d<|T.rt func195 results195 (.bool false) ⟨(AG (by grind [BU,Ai,prev,Aa])),Z.xt⟩) fun ar=>.r [33,34,35]<|GA.Lb 36 0 Z<|.r [37]<|GA.Dn Z fun w Z=>RG.Ix 4 ac Z<|RG.Lh 0 0 Z<|RG.C0 (FK ai (Z.a 1)) Z fun w Z=>?_
  cases aN:(Ax ai)
  ·exact .r 2<|.d<|.ct<|.s<|.g<|.r 1<|.d<|T.rt func195 results195 (.bool false) ⟨(AG (by grind [BU,Ai,prev,Aa])),Z.xt⟩
  exact .r 2<|.d<|.cf<|.sk<|.ib 1<|.g<|.r 1<|.it ((i:Int)+1)<|.r 1<|.d<|aa (i+1) _ _ AA (Z.to 0 [] 4) ⟨AB,(by grind [BU,prev])⟩ (by (simp only []; omega))
 refine .r [10,11,12,13,14,15,16,17,18,19,20,21,22,23,24,25,26]<|GA.Lb 27 0 Z<|.r [28]<|gx p.blocks i fun aj ae=>?_
 have aO:=Ab ae
 refine GA.Ix 29 1 ae Z<|Z.el 1 ae fun aT aU Z=>GA.Lh 30 0 0 Z<|.r [31]<|GA.eqI (i:=32) (a:=(aj.length:Int)) (b:=0) AA (fun ax=>.r [33,34,35,36,37]<|GA.Dn Z fun w Z=>.r 5<|.d<|.ct<|.s<|.g<|.r 1<|.d<|T.rt func195 results195 (.bool false) ⟨(AG (by grind [BU,Ai,prev,Aa])),Z.xt⟩) fun ax=>.r [33,34,35]<|GA.Lb 36 0 Z<|.r [37]<|GA.Dn Z fun w Z=>RG.Ix 3 ae Z<|RG.Lh 0 0 Z<|RG.C0 (FK aj (Z.a 1)) Z fun w Z=>?_
 cases aP:(Ax aj)
 ·exact .r 2<|.d<|.ct<|.s<|.g<|.r 1<|.d<|T.rt func195 results195 (.bool false) ⟨(AG (by grind [BU,Ai,prev,Aa])),Z.xt⟩
 exact .r 2<|.d<|.cf<|.sk<|.ib 1<|.g<|.r 1<|.it ((i:Int)+1)<|.r 1<|.d<|aa (i+1) _ _ AA (Z.to 0 [] 3) ⟨AB,(by grind [BU,prev])⟩ (by (simp only []; omega))
theorem C6 (p:Prt) (h1:RepS w F a1 n1 c1 p.ids) (h2:RepS w F a2 n2 c2 p.blocks)  : Calls Tryz.prog 176 [.agg #[.slice a1 n1 c1,.slice a2 n2 c2]].toArray w (Af fun rv w'=>rv=.bool (Ai p)∧Ext w w'):=by
 cases h1.len
 cases h2.len
 refine goT func176 ?_
 have Z:=((St.i0 F w).p h1).p h2
 have aE:=h1.max
 refine .s<|.g<|RG.Np Z fun aC w Z=>.r 1<|.d<|.s<|.s<|.g<|.r 1<|RG.Lb 0 Z<|.r 2<|RG.Lb 0 Z<|.r 1<|.ne (p.ids.length:Int) (p.blocks.length:Int) (fun ak=>.d<|.ct<|.s<|.g<|.r 1<|.d<|T.rt func176 results176 (.bool false) ⟨(AG (by grind [BU,Ai,prev,Aa])),Z.xt⟩) fun ak=>.d<|.cf<|.sk<|.s<|.s<|.g<|.r 1<|RG.Lb 0 Z<|.r 2<|.d<|.b 0<|T.Lp (0:Nat) (fun k=>([(1,vP aC),(13,.slice a1 p.ids.length c1),(14,vI (p.ids.length:Int)),(15,vI (k:Int))],[],[],p.ids.length - k,(k≤p.ids.length)∧(BU (prev p.ids k) (p.ids.drop k) (p.blocks.drop k)=BU none p.ids p.blocks))) [] Z ⟨(by simp [prev]),(by simp [prev])⟩ ?_
 rintro k aQ w Z ⟨aG,aH⟩ aa
 refine .s<|.g<|.bp ((k:Int)< (p.ids.length:Int)) (fun am=>?_) (fun am=>.d<|.s<|.cf<|.x 0 rfl<|.s<|.g<|.r 1<|.d<|T.rt func176 results176 (.bool true) ⟨(AG (by grind [BU,Ai,prev,Aa])),Z.xt⟩)
 refine .d<|.s<|.ct<|.sk<|.s<|.b 1<|.s<|.g<|.r 1<|gx p.ids k fun ah ae=>?_
 have aI:=Ab ae; have ay:=AV ae
 refine RG.Ix 1 ae Z<|Z.el 1 ae fun Z=>RG.Lh 0 0 Z<|.r 2<|.d<|.s<|.g<|.r 1<|RG.C0 (CB ah 1 6 (F:=all)) Z fun w Z=>?_
 cases ag:(inR ah 1 6)
 ·exact .r 33<|.d<|.ct<|.s<|.g<|.r 1<|.d<|T.rt func176 results176 (.bool false) ⟨(AG (by (have hdd:=List.drop_eq_getElem_cons (l:=p.blocks) (i:=k) AB; grind [BU,Ai,prev,Aa]))),Z.xt⟩
 refine .r 3<|.bp ((k:Int) > 0) (fun ao=>?_) (fun ao=>?_)
 ·refine .r 2<|RG.Lb 0 Z<|.r 1<|.it ((k:Int) - 1)<|gx p.ids (k - 1) fun aD af=>?_
  refine RG.Jx 2 ((k:Int) - 1) af Z<|Z.el 2 af fun Z=>RG.Lh 0 0 Z<|.r 1<|.bp (aD≥ah) (fun aq=>.r 20<|.d<|.ct<|.s<|.g<|.r 1<|.d<|T.rt func176 results176 (.bool false) ⟨(AG (by (have hdd:=List.drop_eq_getElem_cons (l:=p.blocks) (i:=k) AB; grind [BU,Ai,prev,Aa]))),Z.xt⟩) fun aq=>.r 4<|RG.Lb 0 Z<|.r 1<|gx p.blocks k fun ai ab=>?_
  have aM:=Ab ab
  refine RG.Ix 2 ab Z<|Z.el 2 ab fun aR aS Z=>RG.Lh 0 0 Z<|RG.C0 (EF ai (Z.a 1)) Z fun w Z=>?_
  cases aN:(Ax ai)
  ·exact .r 11<|.d<|.ct<|.s<|.g<|.r 1<|.d<|T.rt func176 results176 (.bool false) ⟨(AG (by grind [BU,Ai,prev,Aa])),Z.xt⟩
  exact .r 4<|RG.Lb 0 Z<|.r 1<|RG.Ix 4 ab Z<|RG.Lh 0 0 Z<|.r 1<|.eq (ai.length:Int) 0 (fun ar=>.r 1<|.d<|.ct<|.s<|.g<|.r 1<|.d<|T.rt func176 results176 (.bool false) ⟨(AG (by grind [BU,Ai,prev,Aa])),Z.xt⟩) fun ar=>.r 1<|.d<|.cf<|.sk<|.ib 1<|.g<|.it ((k:Int)+1)<|.r 1<|.d<|aa (k+1) _ _ AA (Z.to 0 [] 4) ⟨AB,(by grind [BU,prev])⟩ (by (simp only []; omega))
 refine .r 13<|RG.Lb 0 Z<|.r 1<|gx p.blocks k fun aj ac=>?_
 have aO:=Ab ac
 refine RG.Ix 1 ac Z<|Z.el 1 ac fun aT aU Z=>RG.Lh 0 0 Z<|RG.C0 (EF aj (Z.a 1)) Z fun w Z=>?_
 cases aP:(Ax aj)
 ·exact .r 11<|.d<|.ct<|.s<|.g<|.r 1<|.d<|T.rt func176 results176 (.bool false) ⟨(AG (by grind [BU,Ai,prev,Aa])),Z.xt⟩
 exact .r 4<|RG.Lb 0 Z<|.r 1<|RG.Ix 3 ac Z<|RG.Lh 0 0 Z<|.r 1<|.eq (aj.length:Int) 0 (fun ax=>.r 1<|.d<|.ct<|.s<|.g<|.r 1<|.d<|T.rt func176 results176 (.bool false) ⟨(AG (by grind [BU,Ai,prev,Aa])),Z.xt⟩) fun ax=>.r 1<|.d<|.cf<|.sk<|.ib 1<|.g<|.it ((k:Int)+1)<|.r 1<|.d<|aa (k+1) _ _ AA (Z.to 0 [] 3) ⟨AB,(by grind [BU,prev])⟩ (by (simp only []; omega))
theorem Lo (p:Prt) (names:Int) (h1:RepS w F a1 n1 c1 p.ids) (h2:RepS w F a2 n2 c2 p.blocks)  : Calls Tryz.prog 197 [.agg #[.slice a1 n1 c1,.slice a2 n2 c2],.int .i64 names].toArray w (Af fun rv w'=>rv=.bool (BT p names)∧Ext w w'):=by
 cases h1.len
 cases h2.len
 refine goT func197 ?_
 have Z:=((St.i0 F w).p h1).p h2
 have af:=h1.max
 refine .s<|.g<|RG.Np Z fun aj w Z=>.r 1<|.d<|.s<|.g<|RG.Ln 0 Z<|RG.C0 (Fq p (Z.a 1) (Z.a 0)) Z fun w Z=>?_
 cases ah:(Ai p)
 ·exact .r 19<|.d<|T.rt func197 results197 (.bool false) ⟨(AG (by grind [BT])),Z.xt⟩
 refine .r 2<|RG.Lb 0 Z<|.r 1<|.bp ((p.ids.length:Int) > 0) (fun ab=>?_) (fun ab=>.r 14<|.d<|T.rt func197 results197 (.bool false) ⟨(AG (by grind [BT])),Z.xt⟩)
 refine .r 3<|RG.Lb 0 Z<|.r 1<|RG.Lb 0 Z<|.r 1<|.it ((p.ids.length:Int) - 1)<|gx p.ids (p.ids.length - 1) fun ae aa=>?_
 exact RG.Jx 1 ((p.ids.length:Int) - 1) aa Z<|Z.el 1 aa fun Z=>RG.Lh 0 0 Z<|.r 4<|.d<|T.rt func197 results197 (.bool (decide (ae≤names))) ⟨(AG (by grind [BT])),Z.xt⟩
theorem EG (s:List Int) (v:Int) (h1:RepS w F a1 n1 c1 s)  : Calls Tryz.prog 216 [.slice a1 n1 c1,.int .i64 v].toArray w (Af fun rv w'=>rv=.int .i64 (Ec v 0 s)∧Ext w w'):=by
 cases h1.len
 refine goT func216 ?_
 have Z:=(St.i0 F w).p h1
 have ah:=h1.max
 refine .s<|.g<|.r 1<|.d<|.s<|.s<|.g<|.r 3<|.d<|.b 0<|T.Lp (0:Nat) (fun k=>([(0,.slice a1 s.length c1),(1,vI v),(7,vI (s.length:Int)),(8,vI (k:Int))],[],[],s.length - k,(k≤s.length)∧(Ec v k (s.drop k)=Ec v 0 s))) [] Z ⟨AD,AD⟩ ?_
 rintro k am w Z ⟨ai,aj⟩ ab
 refine .s<|.g<|.bp ((k:Int)< (s.length:Int)) (fun ac=>?_) (fun ac=>.d<|.s<|.cf<|.x 0 rfl<|.s<|.g<|.r 1<|.d<|T.rt func216 results216 (vI (-1)) ⟨(congrArg (Value.int .i64) (by grind [Ec,Aa])),Z.xt⟩)
 refine .d<|.s<|.ct<|.sk<|.s<|.b 1<|.s<|.g<|.r 2<|.d<|.s<|.g<|.r 3<|gx s k fun ag aa=>?_
 have ak:=Ab aa
 exact RG.Ix 0 aa Z<|Z.el 0 aa fun Z=>RG.Lh 0 0 Z<|.eq v ag (fun ae=>.d<|.ct<|.s<|.g<|.r 2<|.d<|T.rt func216 results216 (vI (k:Int)) ⟨(congrArg (Value.int .i64) (by grind [Ec,Aa])),Z.xt⟩) fun ae=>.d<|.cf<|.sk<|.ib 1<|.g<|.it ((k:Int)+1)<|.r 1<|.d<|ab (k+1) _ _ AA (Z.to 0 [] 1) ⟨AB,(by grind [Ec])⟩ (by (simp only []; omega))
theorem HE (x:List Int) (h1:RepS w F a1 n1 c1 x) (p0:0< x.length):Calls Tryz.prog 177 [.slice a1 n1 c1].toArray w (Af fun rv w'=>rv=.int .i64 (maxOf x)∧Ext w w'):=by
 cases h1.len
 refine goT func177 ?_
 have Z:=(St.i0 F w).p h1
 have ak:=h1.max
 refine .s<|.g<|.r 1<|.d<|.s<|.s<|.g<|.r 2<|.bp ((x.length:Int)< 1) (fun ae=>.d<|.ct<|.g<|absurd (show False by omega) id) fun ae=>.d<|.cf<|.sk<|.s<|.g<|.r 1<|gx x 0 fun aj aa=>?_
 have am:=Ab aa
 refine RG.Ix 0 aa Z<|Z.el 0 aa fun Z=>RG.Lh 0 0 Z<|.r 1<|.d<|.s<|.s<|.g<|.r 1<|.d<|.b 0<|T.Lp (aj,(1:Nat)) (fun (m,i)=>([(0,.slice a1 x.length c1),(3,vI m),(4,vI (i:Int))],[],[],x.length - i,(i≤x.length)∧(Mz m (x.drop i)=maxOf x))) [] Z ⟨AB,(by grind [maxOf])⟩ ?_
 rintro ⟨m,i⟩ ax w Z ⟨ao,aq⟩ ac
 refine .s<|.s<|.g<|.r 3<|.bp ((i:Int)< (x.length:Int)) (fun af=>?_) (fun af=>.d<|.cf<|.x 0 rfl<|.s<|.g<|.r 2<|.d<|T.rt func177 results177 (vI m) ⟨(congrArg (Value.int .i64) (by grind [Mz,Aa])),Z.xt⟩)
 refine .d<|.ct<|.sk<|.s<|.b 1<|.g<|.r 3<|gx x i fun ag ab=>?_
 have ar:=Ab ab
 exact RG.Ix 1 ab Z<|Z.el 1 ab fun Z=>RG.Lh 0 0 Z<|.r 2<|.d<|.ib 1<|.g<|.r 1<|.it ((i:Int)+1)<|.r 1<|.d<|ac ((if ag > m then ag else m),i+1) _ _ AA (Z.to 0 [] 1) ⟨AB,(by grind [Mz])⟩ (by (simp only []; omega))
theorem C7 (n:List Tag) (h1:RepS w F a1 n1 c1 n) (p0:n.length≤1000000) (p1:∀ t∈n,t.key.length≤1000000∧t.val.length≤1000000):Calls Tryz.prog 150 [.slice a1 n1 c1].toArray w (Af fun rv w'=>rv=.string (bs (text n))∧Ext w w'):=by
 cases h1.len
 refine goT func150 ?_
 have Z:=(St.i0 F w).p h1
 refine .s<|.g<|.r 1<|.d<|.s<|.g<|.r 1<|.d<|.s<|.s<|.g<|.r 1<|.d<|.b 0<|T.Lp ([],(0:Nat)) (fun (out,i)=>([(0,.slice a1 n.length c1),(3,vT out),(4,vI (i:Int))],[],[],n.length - i,(i≤n.length)∧(out.length≤3000000 * i)∧(out++G9 i (n.drop i)=text n))) [] Z ⟨(by simp [text]),(by simp [text]),(by simp [text])⟩ ?_
 rintro ⟨out,i⟩ ay w Z ⟨am,ao,aq⟩ aa
 refine .s<|.s<|.g<|.r 3<|.bp ((i:Int)< (n.length:Int)) (fun ag=>?_) (fun ag=>.d<|.cf<|.x 0 rfl<|.s<|.g<|.r 2<|.d<|T.rt func150 results150 (vT out) ⟨(congrArg (fun s=>Value.string (bs s)) (by grind [G9,Aa])),Z.xt⟩)
 refine .d<|.ct<|.sk<|.s<|.b 1<|.s<|.s<|.g<|.r 1<|.bp ((i:Int) > 0) (fun ah=>?_) (fun ah=>?_)
 ·refine .d<|.ct<|.g<|.r 1<|RG.cat (t:=9) (s:=out) (u:=[44]) AA (by grind)<|.r 1<|.d<|T.Gd 13 Z fun w Z=>.r [0,1,2]<|gx n i fun ae ab=>?_
  have ar:=Ab ab; have ai:=AV ab
  exact GA.Ix 3 0 ab Z<|.r [4]<|Z.el 0 ab fun Z=>GA.Lh 5 0 0 Z<|GA.cat (i:=6) (t:=9) (s:=(out++[44])) (u:=ae.key) AA AA (by grind)<|GA.cat (i:=7) (t:=9) (s:=((out++[44])++ae.key)) (u:=[61]) AA AA (by grind)<|.r [8,9]<|GA.Ix 10 1 ab Z<|.r [11]<|GA.Lh 12 0 1 Z<|GA.Dn Z fun w Z=>RG.cat (t:=9) (s:=(((out++[44])++ae.key)++[61])) (u:=ae.val) AA (by grind)<|.r 1<|.d<|.ib 1<|.g<|.r 1<|.it ((i:Int)+1)<|.r 1<|.d<|aa (((((out++[44])++ae.key)++[61])++ae.val),i+1) _ _ AA (Z.to 0 [] 1) ⟨AB,(by grind),(by grind [G9,NW])⟩ (by (simp only []; omega))
 refine .d<|.cf<|.sk<|T.Gd 13 Z fun w Z=>.r [0,1,2]<|gx n i fun af ac=>?_
 have ax:=Ab ac; have aj:=AV ac
 exact GA.Ix 3 0 ac Z<|.r [4]<|Z.el 0 ac fun Z=>GA.Lh 5 0 0 Z<|GA.cat (i:=6) (t:=9) (s:=out) (u:=af.key) AA AA (by grind)<|GA.cat (i:=7) (t:=9) (s:=(out++af.key)) (u:=[61]) AA AA (by grind)<|.r [8,9]<|GA.Ix 10 1 ac Z<|.r [11]<|GA.Lh 12 0 1 Z<|GA.Dn Z fun w Z=>RG.cat (t:=9) (s:=((out++af.key)++[61])) (u:=af.val) AA (by grind)<|.r 1<|.d<|.ib 1<|.g<|.r 1<|.it ((i:Int)+1)<|.r 1<|.d<|aa ((((out++af.key)++[61])++af.val),i+1) _ _ AA (Z.to 0 [] 1) ⟨AB,(by grind),(by grind [G9,NW])⟩ (by (simp only []; omega))
theorem Lq (a:Tag) (b:Tag){F:Nat→Prop}   : Calls Tryz.prog 221 [.agg #[.string (bs a.key),.string (bs a.val)],.agg #[.string (bs b.key),.string (bs b.val)]].toArray w (Af fun rv w'=>rv=.bool (CM a b)∧Ext w w'):=by
 refine goT func221 ?_
 have Z:=St.i0 F w
 refine .s<|.g<|RG.Np Z fun ac w Z=>RG.Np Z fun ae w Z=>.r 1<|.d<|.s<|.g<|.r 1<|RG.Lb 1 Z<|.r 1<|RG.Lb 0 Z<|RG.eqv (v:=.bool ((Bh a.key b.key))) AA (ZE a.key b.key) ?_
 cases aa:(Bh a.key b.key)
 ·refine .r 2<|RG.Lb 1 Z<|.r 1<|RG.Lb 0 Z<|RG.eqv (v:=.bool ((a.key==b.key))) AA (Xq a.key b.key) ?_
  cases ab:(a.key==b.key)
  ·exact .r 9<|.d<|T.rt func221 results221 (.bool false) ⟨(AG (by grind [CM])),Z.xt⟩
  exact .r 2<|RG.Lb 1 Z<|.r 1<|RG.Lb 0 Z<|RG.eqv (v:=.bool ((Bh a.val b.val))) AA (ZE a.val b.val)<|.r 3<|.d<|T.rt func221 results221 (.bool (Bh a.val b.val)) ⟨(AG (by grind [CM])),Z.xt⟩
 exact .r 15<|.d<|T.rt func221 results221 (.bool true) ⟨(AG (by grind [CM])),Z.xt⟩
end Go.Proofs.YtcginoabkicdiaaGreat
namespace Go.Proofs.YtcginoabkicdiaaGreat
set_option maxRecDepth 100000
set_option maxHeartbeats 4000000
variable {w:World} {F:Nat→Prop} {a1 a2 a3 a4:Option Addr} {n1 c1 n2 c2 n3 c3 n4 c4:Nat}
theorem Di (a:Prt) (b:Prt) (h1:RepS w F a1 n1 c1 a.ids) (h2:RepS w F a2 n2 c2 a.blocks) (h3:RepS w F a3 n3 c3 b.ids) (h4:RepS w F a4 n4 c4 b.blocks) (p0:CR a) (p1:CR b):Calls Tryz.prog 116 [.agg #[.slice a1 n1 c1,.slice a2 n2 c2],.agg #[.slice a3 n3 c3,.slice a4 n4 c4]].toArray w (Af fun rv w'=>VS (ge w.heap.size) w' (BB a b:Prt) rv∧Ext w w'):=by
 cases h1.len
 cases h2.len
 cases h3.len
 cases h4.len
 refine goT func116 ?_
 have Z:=((((St.i0 F w).p h1).p h2).p h3).p h4
 refine .s<|.g<|RG.Np Z fun ab w Z=>RG.Np Z fun ac w Z=>RG.Np Z fun ae w Z=>.d<|.s<|.g<|RG.N0 (List Row) 0 Z fun ag w Z=>.r 1<|.d<|.s<|.s<|.g<|.r 1<|.d<|.b 0<|T.Lp (([]:List (List Row)),ag,(0:Nat),(1:Nat)) (fun (blocks,r_blocks,c_blocks,id)=>([(2,vP ab),(3,vP ac),(4,vP ae),(5,vS r_blocks blocks.length c_blocks),(6,vI (id:Int))],[(0,.own 0 r_blocks 159 c_blocks blocks)],[],7 - id,(1≤id)∧(id≤7)∧(blocks=BX a b (id - 1)))) [] Z ⟨(by simp [BX]),(by simp [BX]),(by simp [BX])⟩ ?_
 rintro ⟨blocks,r_blocks,c_blocks,id⟩ ay w Z ⟨aq,ar,ax⟩ aa
 exact .s<|.s<|.g<|.r 1<|.bp ((id:Int)≤6) (fun af=>.d<|.ct<|.sk<|.s<|.b 1<|T.GS 9 [ae,ac,ab] Z fun _ w Z=>.r [0]<|GA.Ln (q:=2) 1 3 Z<|.r [2]<|GA.Ln (q:=1) 4 2 Z<|.r [5]<|.go 3<|GE.CL (fun w Z=>EE a (id:Int) (Z.mg 1 3) (Z.mg 1 2) (by grind [CR])) Z fun az aA w Z=>.go 6<|GE.CL (fun w Z=>EE b (id:Int) (Z.mg 1 2) (Z.mg 1 1) (by grind [CR])) Z fun aB aC w Z=>.go 7<|GE.CL (fun w Z=>HC (partOf a (id:Int)) (partOf b (id:Int)) (Z.a 1) (Z.a 0) (by have q1:=Cd p0 id; have q2:=Cd p1 id; omega)) Z fun aD aE w Z=>.go 8<|GE.Nb 1 Z fun aF w Z=>GA.Do Z fun w Z=>RG.Ap (hs:=by exact (by grind [D1])) 0 0 blocks (Bg (partOf a (id:Int)) (partOf b (id:Int))) [0] Z fun ah ai w Z=>.r 1<|.d<|.ib 1<|.g<|.r 1<|.it ((id:Int)+1)<|.r 1<|.d<|aa ((blocks++[Bg (partOf a (id:Int)) (partOf b (id:Int))]),ah,ai,id+1) _ _ AA (Z.to 0 [] 3) ⟨AB,AB,(by obtain ⟨q,rfl⟩:∃ q,id=q+1:=⟨id - 1,by omega⟩; have:=I3 a b q; grind)⟩ (by (simp only []; omega))) fun af=>.d<|.cf<|.x 0 rfl<|.s<|.g<|.r 1<|RG.CS (HD blocks (Z.oa 0) (by grind [D1]) (by have q:=PB p0 p1 6; grind)) Z fun aG aH aI aJ w Z=>RG.Ss 1 Z fun w Z=>.d<|T.Rb 1 func116 results116 Z ⟨Z.rS (EC blocks) [0,1] (by grind [BB]),Z.xt⟩
theorem EH (s:Sto) (id:Int) (h1:RepS w F a1 n1 c1 s.idx.names) (h2:RepS w F a2 n2 c2 s.idx.AX) (h3:RepS w F a3 n3 c3 s.parts) (h4:RepS w F a4 n4 c4 s.mem) (p0:s.parts.length≤100) (p1:∀ p∈s.parts,CR p) (p2:s.mem.length≤1000):Calls Tryz.prog 112 [.agg #[.slice a1 n1 c1,.slice a2 n2 c2,.slice a3 n3 c3,.slice a4 n4 c4],.int .i64 id].toArray w (Af fun rv w'=>VL (ge w.heap.size) w' (rowsOf s id:List Row) rv∧Ext w w'):=by
 cases h1.len
 cases h2.len
 cases h3.len
 cases h4.len
 refine goT func112 ?_
 have Z:=((((St.i0 F w).p h1).p h2).p h3).p h4
 refine .s<|.g<|RG.Np Z fun ah w Z=>.r 1<|.d<|.s<|.g<|RG.N0 Row 0 Z fun aq w Z=>.r 1<|.d<|.s<|.s<|.g<|.r 1<|.d<|.b 0 ?_
 have Z:=Z.sl 0
 refine T.Lp (([]:List Row),sA aq,(0:Nat),(0:Nat)) (fun (out,a_out,c_out,i)=>([(1,vI id),(2,vP ah),(5,.slice a_out out.length c_out),(6,vI (i:Int))],[],[⟨0,none,.rep a_out c_out out⟩],s.parts.length - i,(i≤s.parts.length)∧(out.length≤1000 * i)∧((s.parts.drop i).foldl (CP id) out=s.parts.foldl (CP id) []))) [0] Z ⟨AD,AD,AD⟩ ?_
 rintro ⟨out,a_out,c_out,i⟩ aM w Z ⟨aE,aF,aG⟩ ae
 refine .s<|.s<|.g<|.r 2<|RG.Lb 0 Z<|.r 1<|.bp ((i:Int)< (s.parts.length:Int)) (fun ai=>?_) (fun ai=>?_)
 ·refine .d<|.ct<|.sk<|.s<|.b 1<|.g<|.r 2<|RG.Lb 0 Z<|.r 1<|gx s.parts i fun af ac=>?_
  have aH:=Ab ac; have am:=AV ac
  exact RG.Ix 3 ac Z<|Z.el 3 ac fun aN aO aP aQ Z=>RG.Lg 0 0 Z<|.r 1<|RG.CL (EE af id (Z.mg 1 1) (Z.mg 1 2) (by grind [CR])) Z fun aR aS w Z=>RG.CL (HC out (partOf af id) (Z.a 4) (Z.a 0) (by grind [Cd])) Z fun ar ax w Z=>.r 1<|.d<|.ib 1<|.g<|.r 1<|.it ((i:Int)+1)<|.r 1<|.d<|ae (Bg out (partOf af id),ar,ax,i+1) _ _ AA (Z.to 0 [0] 6) ⟨AB,(by grind [Ig,Cd]),(by grind [CP,Ig,Cd])⟩ (by (simp only []; omega))
 refine .d<|.cf<|.x 0 rfl<|.s<|.s<|.g<|.r 1<|.d<|.b 2<|T.Lp ((out:List Row),a_out,c_out,(0:Nat)) (fun (out,a_out,c_out,i)=>([(1,vI id),(2,vP ah),(5,.slice a_out out.length c_out),(7,vI (i:Int))],[],[⟨0,none,.rep a_out c_out out⟩],s.mem.length - i,(i≤s.mem.length)∧(out.length≤100000+i)∧((s.mem.drop i).foldl (CZ id) out=rowsOf s id))) [0] Z ⟨(by grind [rowsOf,Aa]),(by grind [rowsOf,Aa]),(by grind [rowsOf,Aa])⟩ ?_
 rintro ⟨out,a_out,c_out,i⟩ aT w Z ⟨aI,aJ,aK⟩ aa
 refine .s<|.s<|.g<|.r 2<|RG.Lb 0 Z<|.r 1<|.bp ((i:Int)< (s.mem.length:Int)) (fun aj=>?_) (fun aj=>.d<|.cf<|.x 2 rfl<|.s<|.g<|.r 2<|.d<|T.Rt func112 results112 ⟨Z.rL 0 out (by grind [Aa]),Z.xt⟩)
 refine .d<|.ct<|.sk<|.s<|.b 3<|.s<|.g<|.r 1<|RG.Lb 0 Z<|.r 1<|gx s.mem i fun ag ab=>?_
 have aL:=Ab ab
 exact RG.Ix 3 ab Z<|.r 1<|Z.el 3 ab fun Z=>RG.Lh 0 0 Z<|.r 1<|.eq ag.id id (fun ak=>.d<|.ct<|.g<|.r 2<|RG.Lb 0 Z<|.r 1<|RG.Ix 4 ab Z<|.r 1<|RG.Lg 0 1 Z<|RG.CL (GW out ag.row (Z.a 1) AB) Z fun ay az w Z=>.r 1<|.d<|.ib 3<|.g<|.r 1<|.it ((i:Int)+1)<|.r 1<|.d<|aa (EU out ag.row,ay,az,i+1) _ _ AA (Z.to 0 [0] 3) ⟨(by grind [CZ,DK]),(by grind [CZ,DK]),(by grind [CZ,DK])⟩ (by (simp only []; omega))) fun ak=>.d<|.cf<|.sk<|.ib 3<|.g<|.r 1<|.it ((i:Int)+1)<|.r 1<|.d<|aa (out,a_out,c_out,i+1) _ _ AA (Z.to 0 [1] 2) ⟨(by grind [CZ,DK]),(by grind [CZ,DK]),(by grind [CZ,DK])⟩ (by (simp only []; omega))
theorem Cs (d:Dsk) (num:Int) (h1:RepS w F a1 n1 c1 d.files) (h2:RepS w F a2 n2 c2 d.list) (h3:RepS w F a3 n3 c3 d.names)  : Calls Tryz.prog 117 [.agg #[.slice a1 n1 c1,.slice a2 n2 c2,.slice a3 n3 c3,.int .i64 d.next],.int .i64 num].toArray w (Af fun rv w'=>rv=.int .i64 (Al d num)∧Ext w w'):=by
 cases h1.len
 cases h2.len
 cases h3.len
 refine goT func117 ?_
 have Z:=(((St.i0 F w).p h1).p h2).p h3
 have ai:=h1.max
 refine .s<|.g<|RG.Np Z fun ag w Z=>.r 1<|.d<|.s<|.s<|.g<|.r 1<|.d<|.b 0<|T.Lp (0:Nat) (fun i=>([(1,vI num),(2,vP ag),(5,vI (i:Int))],[],[],d.files.length - i,(i≤d.files.length)∧(DH num i (d.files.drop i)=Al d num))) [] Z ⟨(by simp [Al]),(by simp [Al])⟩ ?_
 rintro i ar w Z ⟨am,ao⟩ ab
 refine .s<|.s<|.g<|.r 2<|RG.Lb 0 Z<|.r 1<|.bp ((i:Int)< (d.files.length:Int)) (fun ac=>?_) (fun ac=>.d<|.cf<|.x 0 rfl<|.s<|.g<|.r 1<|.d<|T.rt func117 results117 (vI (-1)) ⟨(congrArg (Value.int .i64) (by grind [DH,Aa])),Z.xt⟩)
 refine .d<|.ct<|.sk<|.s<|.b 1<|.s<|.g<|.r 1<|RG.Lb 0 Z<|.r 1<|gx d.files i fun ah aa=>?_
 have aq:=Ab aa
 exact RG.Ix 2 aa Z<|.r 1<|Z.el 2 aa fun ax ay az aA Z=>RG.Lh 0 0 Z<|.r 1<|.eq ah.num num (fun ae=>.d<|.ct<|.s<|.g<|.r 2<|.d<|T.rt func117 results117 (vI (i:Int)) ⟨(congrArg (Value.int .i64) (by grind [DH,Aa])),Z.xt⟩) fun ae=>.d<|.cf<|.sk<|.ib 1<|.g<|.r 1<|.it ((i:Int)+1)<|.r 1<|.d<|ab (i+1) _ _ AA (Z.to 0 [] 3) ⟨AB,(by grind [DH])⟩ (by (simp only []; omega))
theorem OT (ix:Idx) (n:List Tag) (h1:RepS w F a1 n1 c1 ix.names) (h2:RepS w F a2 n2 c2 ix.AX) (h3:RepS w F a3 n3 c3 n) (p0:ix.names.length≤1000) (p1:∀ n∈ix.names,HA n) (p2:HA n):Calls Tryz.prog 168 [.agg #[.slice a1 n1 c1,.slice a2 n2 c2],.slice a3 n3 c3].toArray w (Af fun rv w'=>rv=.int .i64 (Gx ix n)∧Ext w w'):=by
 cases h1.len
 cases h2.len
 cases h3.len
 refine goT func168 ?_
 have Z:=(((St.i0 F w).p h1).p h2).p h3
 refine .s<|.g<|RG.Np Z fun ag w Z=>.r 1<|.d<|.s<|.s<|.g<|.r 1<|.d<|.b 0<|T.Lp (0:Nat) (fun i=>([(1,.slice a3 n.length c3),(2,vP ag),(5,vI (i:Int))],[],[],ix.names.length - i,(i≤ix.names.length)∧(nmF (text n) i (ix.names.drop i)=Gx ix n))) [] Z ⟨(by simp [Gx]),(by simp [Gx])⟩ ?_
 rintro i ar w Z ⟨ak,am⟩ ab
 refine .s<|.s<|.g<|.r 2<|RG.Lb 0 Z<|.r 1<|.bp ((i:Int)< (ix.names.length:Int)) (fun ae=>?_) (fun ae=>.d<|.cf<|.x 0 rfl<|.s<|.g<|.r 1<|.d<|T.rt func168 results168 (vI 0) ⟨(congrArg (Value.int .i64) (by grind [nmF,Aa])),Z.xt⟩)
 refine .d<|.ct<|.sk<|.s<|.b 1<|.s<|.g<|.r 1<|RG.Lb 0 Z<|.r 1<|gx ix.names i fun ac aa=>?_
 have ao:=Ab aa; have af:=AV aa
 refine RG.Ix 2 aa Z<|Z.el 2 aa fun ax ay Z=>RG.Lh 0 0 Z<|RG.C0 (C7 ac (Z.a 1) (by grind [HA]) (by grind [HA])) Z fun w Z=>.r 1<|RG.C0 (C7 n (Z.a 2) (by grind [HA]) (by grind [HA])) Z fun w Z=>RG.eqv (v:=.bool ((text ac==text n))) AA (Xq (text ac) (text n)) ?_
 cases aq:(text ac==text n)
 ·exact .d<|.cf<|.sk<|.ib 1<|.g<|.r 1<|.it ((i:Int)+1)<|.r 1<|.d<|ab (i+1) _ _ AA (Z.to 0 [] 2) ⟨AB,(by grind [nmF])⟩ (by (simp only []; omega))
 exact .d<|.ct<|.s<|.g<|.r 1<|.it ((i:Int)+1)<|.r 1<|.d<|T.rt func168 results168 (vI ((i:Int)+1)) ⟨(congrArg (Value.int .i64) (by grind [nmF,Aa])),Z.xt⟩
theorem F8 (d:Dsk) (num:Int) (h1:RepS w F a1 n1 c1 d.files) (h2:RepS w F a2 n2 c2 d.list) (h3:RepS w F a3 n3 c3 d.names)  : Calls Tryz.prog 173 [.agg #[.slice a1 n1 c1,.slice a2 n2 c2,.slice a3 n3 c3,.int .i64 d.next],.int .i64 num].toArray w (Af fun rv w'=>rv=.bool ((d.list.contains num))∧Ext w w'):=by
 cases h1.len
 cases h2.len
 cases h3.len
 refine goT func173 ?_
 have Z:=(((St.i0 F w).p h1).p h2).p h3
 have aj:=h2.max
 refine .s<|.g<|RG.Np Z fun ag w Z=>.r 1<|.d<|.s<|.s<|.g<|.r 1<|.d<|.b 0<|T.Lp (0:Nat) (fun i=>([(1,vI num),(2,vP ag),(5,vI (i:Int))],[],[],d.list.length - i,(i≤d.list.length)∧((d.list.drop i).contains num=d.list.contains num))) [] Z ⟨AD,AD⟩ ?_
 rintro i ar w Z ⟨am,ao⟩ ab
 refine .s<|.s<|.g<|.r 2<|RG.Lb 0 Z<|.r 1<|.bp ((i:Int)< (d.list.length:Int)) (fun ac=>?_) (fun ac=>.d<|.cf<|.x 0 rfl<|.s<|.g<|.r 1<|.d<|T.rt func173 results173 (.bool false) ⟨(AG (by grind [Aa])),Z.xt⟩)
 refine .d<|.ct<|.sk<|.s<|.b 1<|.s<|.g<|.r 1<|RG.Lb 0 Z<|.r 1<|gx d.list i fun ah aa=>?_
 have aq:=Ab aa
 exact RG.Ix 1 aa Z<|Z.el 1 aa fun Z=>RG.Lh 0 0 Z<|.r 1<|.eq ah num (fun ae=>.d<|.ct<|.s<|.g<|.r 1<|.d<|T.rt func173 results173 (.bool true) ⟨(AG (by grind [Aa])),Z.xt⟩) fun ae=>.d<|.cf<|.sk<|.ib 1<|.g<|.r 1<|.it ((i:Int)+1)<|.r 1<|.d<|ab (i+1) _ _ AA (Z.to 0 [] 1) ⟨AB,(by grind)⟩ (by (simp only []; omega))
end Go.Proofs.YtcginoabkicdiaaGreat
namespace Go.Proofs.YtcginoabkicdiaaGreat
def Gp (k v:Nat):Tag:=⟨[UInt8.ofNat k],[UInt8.ofNat v]⟩
def D3 (names:List (List Tag)) (t:Tag):List Pst:=if (ids names t).length > 0 then [⟨t,ids names t⟩] else []
def Fs (names:List (List Tag)) (k:Nat):Nat→Nat→List Pst
 | 0,_=>[]
 | f+1,v=>D3 names (Gp k v)++Fs names k f (v+1)
def FL (names:List (List Tag)):Nat→Nat→List Pst
 | 0,_=>[]
 | f+1,k=>Fs names k 11 112++FL names f (k+1)
def Be (names:List (List Tag)):List Pst:=FL names 4 97
def idxOf (names:List (List Tag)):Idx:=⟨names,Be names⟩
def Ba (ix:Idx) (n:List Tag):Idx × Int × Bool :=
 if Gx ix n > 0 then (ix,Gx ix n,true)
 else if !As n || decide (ix.names.length≥6) then (ix,0,false)
 else (idxOf (ix.names++[n]),(ix.names.length:Int)+1,true)
def Gy (bl:List (List Row)) (m:Smp):List (List Row):=bl.set (m.id - 1).toNat (EU (bl.getD (m.id - 1).toNat []) m.row)
def Ah (mem:List Smp):Prt:=EC (mem.foldl Gy [[],[],[],[],[],[]])
theorem TP (bl:List (List Row)) (m:Smp):(Gy bl m).length=bl.length:=by simp [Gy]
theorem Vi {l:List Smp}{i:Nat}{xs:List (List Row)}{m:Smp}{x:List Row}{Y:List (List Row)}(hi:(l.drop i).foldl Gy xs=Y) (hd:l.drop i=m::l.drop (i+1)) (hx:xs[(m.id - 1).toNat]? = some x) :
 (l.drop (i+1)).foldl Gy (xs.set (m.id - 1).toNat (EU x m.row))=Y:=by
 rw [hd,List.foldl_cons] at hi
 have:Gy xs m=xs.set (m.id - 1).toNat (EU x m.row):=by unfold Gy; rw [List.getD_eq_getElem?_getD,hx]; rfl
 rw [this] at hi
 exact hi
theorem Xz {xs:List (List Row)}{j i:Nat}{x:List Row}{r:Row}(h:∀ b∈xs,b.length≤i) (hx:xs[j]? = some x):∀ b∈xs.set j (EU x r),b.length≤i+1:=by
 intro b hb
 rcases List.mem_or_eq_of_mem_set hb with hb | rfl
 ·have:=h b hb; omega
 ·have h1:=h x (AV hx)
  have h2:=DK x r
  omega
theorem FD (names:List (List Tag)) (k v:Nat) (h:v≤122):Fs names k (123 - v) v=D3 names (Gp k v)++Fs names k (123 - (v+1)) (v+1):=by
 rw [show 123 - v=(123 - (v+1))+1 by omega]
 rfl
theorem NY (names:List (List Tag)) (k:Nat) (h:k≤100):FL names (101 - k) k=Fs names k 11 112++FL names (101 - (k+1)) (k+1):=by
 rw [show 101 - k=(101 - (k+1))+1 by omega]
 rfl
theorem Lr (names:List (List Tag)) (k v:Nat) (h:123≤v):Fs names k (123 - v) v=[]:=by
 rw [show 123 - v=0 by omega]; rfl
theorem Ls (names:List (List Tag)) (k:Nat) (h:101≤k):FL names (101 - k) k=[]:=by
 rw [show 101 - k=0 by omega]; rfl
end Go.Proofs.YtcginoabkicdiaaGreat
namespace Go.Proofs.YtcginoabkicdiaaGreat
set_option maxRecDepth 100000
set_option maxHeartbeats 4000000
variable {w:World} {F:Nat→Prop} {a1 a2 a3 a4:Option Addr} {n1 c1 n2 c2 n3 c3 n4 c4:Nat}
theorem E6 (names:List (List Tag)) (h1:RepS w F a1 n1 c1 names) (p0:names.length≤1000) (p1:∀ n∈names,HA n):Calls Tryz.prog 120 [.slice a1 n1 c1].toArray w (Af fun rv w'=>VS (ge w.heap.size) w' (idxOf names:Idx) rv∧Ext w w'):=by
 cases h1.len
 refine goT func120 ?_
 have Z:=(St.i0 F w).p h1
 refine .s<|.g<|RG.Np Z fun ae w Z=>.d<|.s<|.g<|RG.N0 Pst 0 Z fun ai w Z=>.r 1<|.d<|.s<|.s<|.g<|.r 1<|.d<|.b 0<|T.Lp (([]:List Pst),ai,(0:Nat),(97:Nat)) (fun (AX,r_posts,c_posts,k)=>([(0,.slice a1 names.length c1),(2,vP ae),(3,vS r_posts AX.length c_posts),(4,.int .i32 (k:Int))],[(0,.own 0 r_posts 204 c_posts AX)],[],101 - k,(97≤k)∧(k≤101)∧(AX.length≤11 * (k - 97))∧(AX++FL names (101 - k) k=Be names))) [] Z ⟨AB,AB,(by simp [Be]),(by simp [Be])⟩ ?_
 rintro ⟨AX,r_posts,c_posts,k⟩ aE w Z ⟨ao,aq,ar,ax⟩ ac
 refine .s<|.s<|.g<|.r 1<|.bp ((k:Int)≤100) (fun af=>?_) (fun af=>?_)
 ·refine .d<|.ct<|.sk<|.s<|.b 1<|.s<|.g<|.r 1<|.d<|.b 2<|T.Lp ((AX:List Pst),r_posts,c_posts,(112:Nat)) (fun (aa,r_posts1,c_posts1,v)=>([(0,.slice a1 names.length c1),(2,vP ae),(3,vS r_posts1 aa.length c_posts1),(4,.int .i32 (k:Int)),(5,.int .i32 (v:Int))],[(0,.own 0 r_posts1 204 c_posts1 aa)],[],123 - v,(112≤v)∧(v≤123)∧(97≤k)∧(k≤100)∧(aa.length≤11 * (k - 97)+(v - 112))∧(aa++Fs names k (123 - v) v++FL names (101 - (k+1)) (k+1)=Be names))) [] Z ⟨AB,AB,AB,AB,AB,(by grind [NY])⟩ ?_
  rintro ⟨aa,r_posts1,c_posts1,v⟩ aF w Z ⟨ay,az,aA,aB,aC,aD⟩ ab
  exact .s<|.s<|.g<|.r 1<|.bp ((v:Int)≤122) (fun ag=>.d<|.ct<|.sk<|.s<|.b 3<|.s<|.g<|.r 1<|RG.eqv (v:=.string (bs [UInt8.ofNat k])) AA (RU k AB)<|.r 1<|RG.eqv (v:=.string (bs [UInt8.ofNat v])) AA (RU v AB)<|.r 1<|RG.Np Z fun aG w Z=>RG.Ss 0 Z fun w Z=>.d<|.s<|.g<|.r 1<|RG.Ln 0 Z<|RG.CL (Fm names (⟨[UInt8.ofNat k],[UInt8.ofNat v]⟩:Tag) (Z.a 0) AB) Z fun aH aI w Z=>.r 1<|.d<|.s<|.g<|.r 2<|.bp ((((ids names (⟨[UInt8.ofNat k],[UInt8.ofNat v]⟩:Tag)).length):Int) > 0) (fun ah=>.d<|.ct<|.g<|.r 1<|RG.Ln 0 Z<|.r 2<|RG.Nb 1 Z fun aJ w Z=>RG.Ap 1 0 aa (⟨(⟨[UInt8.ofNat k],[UInt8.ofNat v]⟩:Tag),ids names (⟨[UInt8.ofNat k],[UInt8.ofNat v]⟩:Tag)⟩:Pst) [0] Z fun aj ak w Z=>.r 1<|.d<|.ib 3<|.g<|.r 1<|RG.int32 ((v:Int)+1) AA AB<|.r 1<|.d<|ab ((aa++[(⟨(⟨[UInt8.ofNat k],[UInt8.ofNat v]⟩:Tag),ids names (⟨[UInt8.ofNat k],[UInt8.ofNat v]⟩:Tag)⟩:Pst)]),aj,ak,v+1) _ _ AA (Z.to 1 [] 1) ⟨AB,AB,AB,AB,(by grind [FD,D3,Gp]),(by grind [FD,D3,Gp])⟩ (by (simp only []; omega))) fun ah=>.d<|.cf<|.sk<|.ib 3<|.g<|.r 1<|RG.int32 ((v:Int)+1) AA AB<|.r 1<|.d<|ab (aa,r_posts1,c_posts1,v+1) _ _ AA (Z.to 1 [] 1) ⟨AB,AB,AB,AB,AB,(by grind [FD,D3,Gp])⟩ (by (simp only []; omega))) fun ag=>.d<|.cf<|.x 2 rfl<|.ib 1<|.g<|.r 1<|RG.int32 ((k:Int)+1) AA AB<|.r 1<|.d<|ac (aa,r_posts1,c_posts1,k+1) _ _ AA (Z.to 0 [] 0) ⟨AB,AB,AB,(by grind [Lr])⟩ (by (simp only []; omega))
 refine .d<|.cf<|.x 0 rfl<|.s<|.g<|.r 1<|RG.CO 0 (BP names (Z.a 0) (by grind [HA]) (by grind [HA])) Z fun aK aL w Z=>.r 2<|RG.Ss 2 Z fun w Z=>.d ?_
 have Z:=(Z.sl 0).sl 0
 exact T.Rb 0 func120 results120 Z ⟨Z.rS (⟨names,AX⟩:Idx) [1,0] (by grind [idxOf,Ls]),Z.xt⟩
theorem Ek (s:Sto) (h1:RepS w F a1 n1 c1 s.idx.names) (h2:RepS w F a2 n2 c2 s.idx.AX) (h3:RepS w F a3 n3 c3 s.parts) (h4:RepS w F a4 n4 c4 s.mem) (p0:s.mem.length≤1000) (p1:∀ m∈s.mem,1≤m.id∧m.id≤6):Calls Tryz.prog 113 [.agg #[.slice a1 n1 c1,.slice a2 n2 c2,.slice a3 n3 c3,.slice a4 n4 c4]].toArray w (Af fun rv w'=>VS (ge w.heap.size) w' (Ah s.mem:Prt) rv∧Ext w w'):=by
 cases h1.len
 cases h2.len
 cases h3.len
 cases h4.len
 refine goT func113 ?_
 have Z:=((((St.i0 F w).p h1).p h2).p h3).p h4
 refine .s<|.g<|RG.Np Z fun ao w Z=>RG.Np Z fun aq w Z=>.d<|.s<|.g<|RG.Nl 0 ([([]:List Row),([]:List Row),([]:List Row),([]:List Row),([]:List Row),([]:List Row)]:List (List Row)) [[5],[4],[3],[2],[1],[0]] ((((((Z.nl Row).nl Row).nl Row).nl Row).nl Row).nl Row) fun ah w Z=>.r 1<|.d<|.s<|.s<|.g<|.r 1<|.d<|.b 0<|T.Lp ((0:Nat),([([]:List Row),([]:List Row),([]:List Row),([]:List Row),([]:List Row),([]:List Row)]:List (List Row))) (fun (i,xs)=>([(1,vP ao),(2,vP aq),(3,vS ah 6 6),(4,vI (i:Int))],[(0,.own 0 ah 159 6 xs)],[],s.mem.length - i,(i≤s.mem.length)∧(xs.length=6)∧(∀ b∈xs,b.length≤i)∧((s.mem.drop i).foldl Gy xs=s.mem.foldl Gy [[],[],[],[],[],[]]))) [] Z ⟨AD,AD,AD,AD⟩ ?_
 rintro ⟨i,xs⟩ aG w Z ⟨aA,aB,aC,aD⟩ ae
 refine .s<|.s<|.g<|.r 2<|RG.Lb 2 Z<|.r 1<|.bp ((i:Int)< (s.mem.length:Int)) (fun ai=>?_) (fun ai=>.d<|.cf<|.x 0 rfl<|.s<|.g<|.r 1<|RG.CS (HD xs (Z.ob' 0 6) AB (by intro b hb; have af:=‹∀ b∈xs,b.length≤i› _ hb; omega)) Z fun aH aI aJ aK w Z=>RG.Ss 1 Z fun w Z=>.d<|T.Rb 1 func113 results113 Z ⟨Z.rS (EC xs) [0,1] (by have af:=Aa (xs:=s.mem) (k:=i) AB; have aj:List.foldl Gy xs (s.mem.drop i)=_:=‹_›; rw [af] at aj; unfold Ah; rw [← aj]; rfl),Z.xt⟩)
 refine .d<|.ct<|.sk<|.s<|.b 1<|.s<|.g<|.r 1<|RG.Lb 2 Z<|.r 1<|gx (h:=AB) s.mem i fun ab ac=>?_
 have aE:=Ab ac; have ak:=AV ac
 refine RG.Ix 6 ac Z<|.r 1<|Z.el 6 ac fun Z=>RG.Lh 0 0 Z<|.r 1<|.d<|T.Gd 15 Z fun w Z=>.r [0,1]<|GA.int (i:=2) (ab.id - 1) AA (by (have:=p1 _ ‹_›; omega))<|.r [3,4]<|GA.int (i:=5) (ab.id - 1) AA (by (have:=p1 _ ‹_›; omega))<|gx (h:=(by (have:=p1 _ ‹_›; omega))) xs ((ab.id - 1).toNat) fun ag aa=>?_
 have am:=AV aa
 exact GA.Ko (hz:=(by (have:=p1 _ ‹_›; omega))) (hn:=(by (have:=p1 _ ‹_›; omega))) 6 0 6 (ab.id - 1) aa Z<|Z.eo 0 aa fun aL aM Z=>GA.Lt 7 0 0 Z<|.r [8]<|GA.Lb 9 2 Z<|.r [10]<|GA.Ix 11 8 ac Z<|.r [12]<|GA.Lg 13 1 1 Z<|.go 14<|GE.CL (fun w Z=>GW ag ab.row (Z.a 0) (by have af:=‹∀ b∈xs,b.length≤i› _ ‹_›; omega)) Z fun aN aO w Z=>GA.Dn Z fun w Z=>RG.Ko (hz:=(by (have:=p1 _ ‹_›; omega))) (hn:=(by (have:=p1 _ ‹_›; omega))) 0 6 (ab.id - 1) aa Z<|RG.Se 0 0 0 aa (EU ag ab.row) [0] Z fun w Z=>.d<|.ib 1<|.g<|.r 1<|RG.int ((i:Int)+1) AA AB<|.r 1<|.d<|ae (i+1,(xs.set ((ab.id - 1).toNat) (EU ag ab.row))) _ _ AA (Z.to 0 [] 3) ⟨AB,(by simp; omega),(by exact Xz ‹_› ‹_›),(by exact Vi ‹_› ‹_› ‹_›)⟩ (by (simp only []; omega))
end Go.Proofs.YtcginoabkicdiaaGreat
namespace Go.Proofs.YtcginoabkicdiaaGreat
def TQ (x:Idx):Prop:=x.names.length≤1000∧∀ n∈x.names,HA n
def PD (s:Sto):Prop:=TQ s.idx∧s.parts.length≤100∧(∀ p∈s.parts,CR p)∧s.mem.length≤900
def BE (s:Sto):Sto × Bool :=
 if s.mem.length=0∨s.parts.length≥6 then (s,false) else (⟨s.idx,s.parts++[Ah s.mem],[]⟩,true)
def GX (ps:List Prt) (at_:Nat):List Prt:=match ps[at_]?,ps[at_+1]? with
 | some x,some y=>ps.take at_++[BB x y]++ps.drop (at_+2)
 | _,_=>ps
def BI (s:Sto) (at_:Int):Sto × Bool :=
 if inR at_ 0 ((s.parts.length:Int) - 2) then (⟨s.idx,GX s.parts at_.toNat,s.mem⟩,true) else (s,false)
def Jp (s:Sto) (n:List Tag) (r:Row):Sto:=⟨(Ba s.idx n).1,s.parts,s.mem++[⟨(Ba s.idx n).2.1,r⟩]⟩
def Ch (s:Sto) (n:List Tag) (r:Row):Sto × Bool :=
 if !(Ba s.idx n).2.2 || !BS r || decide (s.mem.length≥20) then (s,false)
 else if (rowsOf (Jp s n r) (Ba s.idx n).2.1).length > 24 then (s,false) else (Jp s n r,true)
theorem HF {ix:Idx}{n:List Tag}(h:Gx ix n > 0):Ba ix n=(ix,Gx ix n,true):=by unfold Ba; rw [if_pos h]
theorem Ff {ix:Idx}{n:List Tag}(h:¬ Gx ix n > 0) (h2:As n=false∨(ix.names.length:Int)≥6):Ba ix n=(ix,0,false):=by
 unfold Ba
 rw [if_neg h,if_pos]
 rcases h2 with h2 | h2
 ·simp [h2]
 ·simp; omega
theorem HG {ix:Idx}{n:List Tag}(h:¬ Gx ix n > 0) (h2:As n=true) (h3:¬ (ix.names.length:Int)≥6):Ba ix n=(idxOf (ix.names++[n]),(ix.names.length:Int)+1,true):=by
 unfold Ba
 rw [if_neg h,if_neg]
 simp [h2]
 omega
theorem Hu {ps:List Prt}{i:Nat}{x y:Prt}(hx:ps[i]? = some x) (hy:ps[i+1]? = some y):GX ps i=ps.take i++[BB x y]++ps.drop (i+2):=by
 simp [GX,hx,hy]
theorem QW {s:Sto}{n:List Tag}{r:Row}(h:(Ba s.idx n).2.2=false):Ch s n r=(s,false):=by unfold Ch; rw [if_pos (by simp [h])]
theorem QX {s:Sto}{n:List Tag}{r:Row}(h:BS r=false):Ch s n r=(s,false):=by unfold Ch; rw [if_pos (by simp [h])]
theorem QY {s:Sto}{n:List Tag}{r:Row}(h:(s.mem.length:Int)≥20):Ch s n r=(s,false):=by unfold Ch; rw [if_pos (by simp; omega)]
theorem Ih {s:Sto}{n:List Tag}{r:Row}(h1:(Ba s.idx n).2.2=true) (h2:BS r=true) (h3:¬ (s.mem.length:Int)≥20) (h:((rowsOf (Jp s n r) (Ba s.idx n).2.1).length:Int) > 24):Ch s n r=(s,false):=by
 unfold Ch; rw [if_neg (by simp [h1,h2]; omega),if_pos AB]
theorem Ii {s:Sto}{n:List Tag}{r:Row}(h1:(Ba s.idx n).2.2=true) (h2:BS r=true) (h3:¬ (s.mem.length:Int)≥20) (h:¬ ((rowsOf (Jp s n r) (Ba s.idx n).2.1).length:Int) > 24):Ch s n r=(Jp s n r,true):=by
 unfold Ch; rw [if_neg (by simp [h1,h2]; omega),if_neg AB]
theorem Lu {s:Sto}{a:Int}(h:inR a 0 ((s.parts.length:Int) - 2)=false):BI s a=(s,false):=by unfold BI; rw [if_neg (by simp [h])]
theorem Lv {s:Sto}{a:Int}{x y:Prt}(h:inR a 0 ((s.parts.length:Int) - 2)=true) (hx:s.parts[a.toNat]? = some x) (hy:s.parts[(a+1).toNat]? = some y) :
 BI s a=(⟨s.idx,(([]++(s.parts.take a.toNat).drop 0)++[BB x y])++((s.parts.take s.parts.length).drop (a+2).toNat),s.mem⟩,true):=by
 have h1:=Bt h
 have e1:(a+1).toNat=a.toNat+1:=by omega
 have e2:(a+2).toNat=a.toNat+2:=by omega
 rw [e1] at hy
 unfold BI
 rw [if_pos h,Hu hx hy,e2]
 simp
end Go.Proofs.YtcginoabkicdiaaGreat
namespace Go.Proofs.YtcginoabkicdiaaGreat
set_option maxRecDepth 100000
set_option maxHeartbeats 4000000
variable {w:World} {F:Nat→Prop} {a1 a2 a3 a4 a5:Option Addr} {n1 c1 n2 c2 n3 c3 n4 c4 n5 c5:Nat}
theorem M0 (ix:Idx) (n:List Tag) (h1:RepS w F a1 n1 c1 ix.names) (h2:RepS w F a2 n2 c2 ix.AX) (h3:RepS w F a3 n3 c3 n) (p0:TQ ix) (p1:HA n):Calls Tryz.prog 110 [.agg #[.slice a1 n1 c1,.slice a2 n2 c2],.slice a3 n3 c3].toArray w (Af fun rv w'=>(∃ v0,rv=.tuple #[v0,.int .i64 ((Ba ix n).2.1),.bool ((Ba ix n).2.2)]∧VS (fo F w.heap.size) w' ((Ba ix n).1:Idx) v0)∧Ext w w'):=by
 cases h1.len
 cases h2.len
 cases h3.len
 refine goT func110 ?_
 have Z:=(((St.i0 F w).p h1).p h2).p h3
 have af:=h1.max
 have ah:=h3.max
 refine .s<|.g<|RG.Np Z fun ac w Z=>RG.Np Z fun aj w Z=>.r 2<|.d<|.s<|.g<|RG.Ln 1 Z<|.r 1<|RG.C0 (OT ix n (Z.a 2) (Z.a 1) (Z.a 0) p0.1 p0.2 p1) Z fun w Z=>.r 1<|.d<|.s<|.s<|.g<|.r 1<|.bp (Gx ix n > 0) (fun aa=>.d<|.ct<|.s<|.g<|RG.Ln 1 Z<|.r 1<|RG.Ss 0 Z fun w Z=>.r 2<|.d<|T.r3 func110 results110 (.B 0 Z) (.t (vI (Gx ix n))) (.t (.bool true)) ⟨⟨_,(OO rfl (congrArg (Value.int .i64) (by (rw [HF ‹_›]))) (AG (by (rw [HF ‹_›])))),Z.rS (g:=1) ix [2,1] (by (rw [HF ‹_›]))⟩,Z.xt⟩) fun aa=>.d<|.cf<|.sk<|.s<|.s<|.g<|.r 1<|RG.C0 (Fo n (Z.a 0)) Z fun w Z=>?_
 cases ai:(As n)
 ·exact .r 7<|.d<|.ct<|.s<|.g<|RG.Ln 1 Z<|RG.Ss 0 Z fun w Z=>.r 2<|.d<|T.r3 func110 results110 (.B 0 Z) (.t (vI 0)) (.t (.bool false)) ⟨⟨_,(OO rfl (congrArg (Value.int .i64) (by (rw [Ff ‹_› (.inl ‹_›)]))) (AG (by (rw [Ff ‹_› (.inl ‹_›)])))),Z.rS (g:=1) ix [2,1] (by (rw [Ff ‹_› (.inl ‹_›)]))⟩,Z.xt⟩
 exact .r 3<|RG.Lb 1 Z<|.r 1<|.bp ((ix.names.length:Int)≥6) (fun ab=>.r 1<|.d<|.ct<|.s<|.g<|RG.Ln 1 Z<|RG.Ss 0 Z fun w Z=>.r 2<|.d<|T.r3 func110 results110 (.B 0 Z) (.t (vI 0)) (.t (.bool false)) ⟨⟨_,(OO rfl (congrArg (Value.int .i64) (by (rw [Ff ‹_› (.inr ‹_›)]))) (AG (by (rw [Ff ‹_› (.inr ‹_›)])))),Z.rS (g:=1) ix [2,1] (by (rw [Ff ‹_› (.inr ‹_›)]))⟩,Z.xt⟩) fun ab=>.r 1<|.d<|.cf<|.sk<|.s<|.g<|.r 1<|RG.Lb 1 Z<|RG.CO 1 (BP ix.names (Z.a 2) (by have:=p0.1; omega) (by intro n hn; have:=(p0.2 n hn).1; omega)) Z fun ak am w Z=>RG.N0 Tag 1 Z fun ao w Z=>.r 1<|RG.An (hs:=by (simp only [List.nil_append,List.length_nil,List.length_append,List.length_cons] <;> exact (by have:=p0.1; have:=p1.1; omega))) 0 0 ([]:List Tag) n Z fun aq ar w Z=>RG.Nb 1 Z fun ax w Z=>RG.Ap (hs:=by exact (by have:=p0.1; have:=p1.1; omega)) 0 0 ix.names ([]++n) [0] (Z.sl 1) fun ay az w Z=>RG.CS (E6 (ix.names++[([]++n)]) (Z.oa 0) (by have:=p0.1; simp; omega) (by intro m hm; simp at hm; rcases hm with hm | rfl; exact p0.2 m hm; exact p1)) Z fun aA aB aC aD w Z=>RG.Np Z fun ae w Z=>RG.Ss 0 Z fun w Z=>.d<|.s<|T.GS 5 [ae,ac] Z fun _ w Z=>GA.Ln 0 0 Z<|.r [1]<|GA.Lb 2 0 Z<|.r [3]<|.go 4<|GE.Ss 2 [0,3] Z fun w Z=>GA.Do Z fun w Z=>.r 2<|.d<|T.r3 func110 results110 (.B 2 Z) (.t (vI ((((idxOf (ix.names++[([]++n)])).names).length):Int))) (.t (.bool true)) ⟨⟨_,(OO rfl (congrArg (Value.int .i64) (by (rw [HG ‹_› ‹_› ‹_›] <;> simp [idxOf]))) (AG (by (rw [HG ‹_› ‹_› ‹_›] <;> simp [idxOf])))),Z.rS (g:=1) (idxOf (ix.names++[([]++n)])) [0,1] (by (rw [HG ‹_› ‹_› ‹_›] <;> simp [idxOf]))⟩,Z.xt⟩
theorem Kp (s:Sto) (h1:RepS w F a1 n1 c1 s.idx.names) (h2:RepS w F a2 n2 c2 s.idx.AX) (h3:RepS w F a3 n3 c3 s.parts) (h4:RepS w F a4 n4 c4 s.mem) (p0:s.mem.length≤1000) (p1:∀ m∈s.mem,1≤m.id∧m.id≤6):Calls Tryz.prog 51 [.agg #[.slice a1 n1 c1,.slice a2 n2 c2,.slice a3 n3 c3,.slice a4 n4 c4]].toArray w (Af fun rv w'=>(∃ v0,rv=.tuple #[v0,.bool ((BE s).2)]∧VS (fo F w.heap.size) w' ((BE s).1:Sto) v0)∧Ext w w'):=by
 cases h1.len
 cases h2.len
 cases h3.len
 cases h4.len
 refine goT func51 ?_
 have Z:=((((St.i0 F w).p h1).p h2).p h3).p h4
 have ah:=h3.max
 refine .s<|.g<|RG.Np Z fun ac w Z=>RG.Np Z fun ae w Z=>.r 1<|.d<|.s<|.s<|.g<|.r 1<|RG.Lb 1 Z<|.r 1<|.eq (s.mem.length:Int) 0 (fun aa=>.r 6<|.d<|.ct<|.s<|.g<|RG.Ln 1 Z<|RG.Ss 0 Z fun w Z=>.r 1<|.d<|T.r2 func51 results51 (.B 0 Z) (.t (.bool false)) ⟨⟨_,(DG rfl (AG (by (unfold BE; (rw [if_pos AB]))))),Z.rS (g:=1) s [3,2,1,0] (by (unfold BE; (rw [if_pos AB])))⟩,Z.xt⟩) fun aa=>.r 2<|RG.Lb 1 Z<|.r 1<|.bp ((s.parts.length:Int)≥6) (fun ab=>.r 1<|.d<|.ct<|.s<|.g<|RG.Ln 1 Z<|RG.Ss 0 Z fun w Z=>.r 1<|.d<|T.r2 func51 results51 (.B 0 Z) (.t (.bool false)) ⟨⟨_,(DG rfl (AG (by (unfold BE; (rw [if_pos AB]))))),Z.rS (g:=1) s [3,2,1,0] (by (unfold BE; (rw [if_pos AB])))⟩,Z.xt⟩) fun ab=>.r 1<|.d<|.cf<|.sk<|.s<|T.GS 5 [ae,ac] Z fun _ w Z=>.r [1]<|GA.Lb (q:=1) 2 1 Z<|GA.Ln (q:=1) 4 1 Z<|.go 0<|GE.N0 Prt 1 Z fun aj w Z=>.go 3<|GE.An 0 1 ([]:List Prt) s.parts [1,2] Z fun ak am w Z=>GA.Do Z fun w Z=>RG.CS (Ek s (Z.a 3) (Z.a 2) (Z.a 1) (Z.a 0) p0 p1) Z fun ao aq ar ax w Z=>RG.Nb 1 Z fun ay w Z=>RG.Ap 0 0 ([]++s.parts) (Ah s.mem) [0,1] Z fun az aA w Z=>.r 1<|RG.Ss 2 Z fun w Z=>.d<|.s<|.g<|RG.N0 Smp 1 Z fun aB w Z=>.r 1<|RG.Ss 3 Z fun w Z=>.d<|.s<|.g<|RG.Ln 3 Z<|RG.Ss 2 Z fun w Z=>.r 1<|.d ?_
 have Z:=(Z.sl 1).sl 0
 exact T.r2 func51 results51 (.B 0 Z) (.t (.bool true)) ⟨⟨_,(DG rfl (AG (by (unfold BE; (rw [if_neg AB] <;> simp))))),Z.rS (g:=1) (⟨(⟨s.idx.names,s.idx.AX⟩:Idx),(([]++s.parts)++[(Ah s.mem)]),([]:List Smp)⟩:Sto) [7,6,1,0] (by (unfold BE; (rw [if_neg AB] <;> simp)))⟩,Z.xt⟩
theorem Kq (s:Sto) (at_:Int) (h1:RepS w F a1 n1 c1 s.idx.names) (h2:RepS w F a2 n2 c2 s.idx.AX) (h3:RepS w F a3 n3 c3 s.parts) (h4:RepS w F a4 n4 c4 s.mem) (p0:s.parts.length≤100) (p1:∀ p∈s.parts,CR p):Calls Tryz.prog 54 [.agg #[.slice a1 n1 c1,.slice a2 n2 c2,.slice a3 n3 c3,.slice a4 n4 c4],.int .i64 at_].toArray w (Af fun rv w'=>(∃ v0,rv=.tuple #[v0,.bool ((BI s at_).2)]∧VS (fo F w.heap.size) w' ((BI s at_).1:Sto) v0)∧Ext w w'):=by
 cases h1.len
 cases h2.len
 cases h3.len
 cases h4.len
 refine goT func54 ?_
 have Z:=((((St.i0 F w).p h1).p h2).p h3).p h4
 refine .s<|.g<|RG.Np Z fun ai w Z=>RG.Np Z fun aj w Z=>.r 1<|.d<|.s<|.s<|.g<|.r 2<|RG.Lb 1 Z<|.r 1<|RG.int ((s.parts.length:Int) - 2) AA (by grind [inR])<|RG.C0 (CD at_ 0 ((s.parts.length:Int) - 2) (F:=all)) Z fun w Z=>?_
 cases af:(inR at_ 0 ((s.parts.length:Int) - 2))
 ·exact .r 1<|.d<|.ct<|.s<|.g<|RG.Ln 1 Z<|RG.Ss 0 Z fun w Z=>.r 1<|.d<|T.r2 func54 results54 (.B 0 Z) (.t (.bool false)) ⟨⟨_,(DG rfl (AG (by rw [Lu ‹_›]))),Z.rS (g:=1) s [3,2,1,0] (by rw [Lu ‹_›])⟩,Z.xt⟩
 have ax:=Bt af
 refine .r 1<|.d<|.cf<|.sk<|.s<|.g<|RG.N0 Prt 1 Z fun aA w Z=>.r 1<|RG.Lb 2 Z<|.r 1<|RG.Sb (hlh:=(by grind [inR])) (hh:=(by grind [inR])) (hhi:=bdI at_) 1 0 (at_.toNat) s.parts Z fun aB aC Z=>RG.An 0 0 ([]:List Prt) ((s.parts.take (at_.toNat)).drop 0) Z fun aD aE w Z=>.r 1<|.d<|.s<|T.GS 14 [aj,ai] Z fun _ w Z=>.r [0,1]<|GA.Lb (q:=1) 2 2 Z<|.r [3]<|gx (h:=(by grind [inR])) s.parts (at_.toNat) fun ac aa=>?_
 have ag:=AV aa
 refine GA.Jx (hz:=(by grind [inR])) 4 2 at_ aa Z<|Z.el 2 aa fun aF aG aH aI Z=>GA.Lg 5 0 0 Z<|.r [6]<|GA.Lb (q:=1) 7 2 Z<|.r [8]<|GA.int (i:=9) (at_+1) AA (by grind [inR])<|gx (h:=(by grind [inR])) s.parts ((at_+1).toNat) fun ae ab=>?_
 have ah:=AV ab
 refine GA.Jx (hz:=(by grind [inR])) 10 5 (at_+1) ab Z<|Z.el 5 ab fun aJ aK aL aM Z=>GA.Lg 11 0 0 Z<|.go 12<|GE.CS (fun w Z=>Di ac ae (Z.a 4) (Z.a 5) (Z.a 1) (Z.a 2) (by grind) (by grind)) Z fun aN aO aP aQ w Z=>.go 13<|GE.Nb 1 Z fun aR w Z=>GA.Do Z fun w Z=>RG.Ap 0 0 ([]++((s.parts.take (at_.toNat)).drop 0)) (BB ac ae) [0,1] Z fun aS aT w Z=>.r 1<|.d<|.s<|.g<|.r 2<|RG.Lb 2 Z<|.r 1<|RG.int (at_+2) AA (by grind [inR])<|RG.Sb (hlh:=(by grind [inR])) (hh:=(by grind [inR])) (hlo:=bdI (at_+2)) 10 ((at_+2).toNat) s.parts.length s.parts Z fun aU aV Z=>RG.An 0 0 (([]++((s.parts.take (at_.toNat)).drop 0))++[(BB ac ae)]) ((s.parts.take s.parts.length).drop ((at_+2).toNat)) Z fun aW aX w Z=>.r 1<|RG.Ss 2 Z fun w Z=>.d<|.s<|.g<|RG.Ln 2 Z<|RG.Ss 1 Z fun w Z=>.r 1<|.d ?_
 have Z:=Z.sl 0
 exact T.r2 func54 results54 (.B 0 Z) (.t (.bool true)) ⟨⟨_,(DG rfl (AG (by rw [Lv ‹_› ‹_› ‹_›]))),Z.rS (g:=1) (⟨(⟨s.idx.names,s.idx.AX⟩:Idx),((([]++((s.parts.take (at_.toNat)).drop 0))++[(BB ac ae)])++((s.parts.take s.parts.length).drop ((at_+2).toNat))),s.mem⟩:Sto) [14,13,0,11] (by rw [Lv ‹_› ‹_› ‹_›])⟩,Z.xt⟩
theorem M3 (s:Sto) (n:List Tag) (r:Row) (h1:RepS w F a1 n1 c1 s.idx.names) (h2:RepS w F a2 n2 c2 s.idx.AX) (h3:RepS w F a3 n3 c3 s.parts) (h4:RepS w F a4 n4 c4 s.mem) (h5:RepS w F a5 n5 c5 n) (p0:PD s) (p1:HA n):Calls Tryz.prog 50 [.agg #[.slice a1 n1 c1,.slice a2 n2 c2,.slice a3 n3 c3,.slice a4 n4 c4],.slice a5 n5 c5,.agg #[.int .i64 r.t,.int .i64 r.v]].toArray w (Af fun rv w'=>(∃ v0,rv=.tuple #[v0,.bool ((Ch s n r).2)]∧VS (fo F w.heap.size) w' ((Ch s n r).1:Sto) v0)∧Ext w w'):=by
 cases h1.len
 cases h2.len
 cases h3.len
 cases h4.len
 cases h5.len
 refine goT func50 ?_
 have Z:=(((((St.i0 F w).p h1).p h2).p h3).p h4).p h5
 have aq:=h4.max
 refine .s<|.g<|RG.Np Z fun af w Z=>RG.Np Z fun ag w Z=>RG.Np Z fun ah w Z=>.r 1<|.d<|.s<|.g<|.r 1<|RG.Ln 2 Z<|.r 1<|RG.CT (us:=[vI ((Ba s.idx n).2.1),.bool ((Ba s.idx n).2.2)]) (M0 s.idx n (Z.mg 1 4) (Z.mg 1 3) (Z.mg 1 0) p0.1 p1) Z fun az aA aB aC w Z=>.r 3 ?_
 cases ax:(Ba s.idx n).2.2
 ·exact .r 1<|RG.Np Z fun aD w Z=>RG.Ss 0 Z fun w Z=>.r 2<|.d<|.s<|.s<|.g<|.r 13<|.d<|.ct<|.s<|.g<|RG.Ln 3 Z<|RG.Ss 1 Z fun w Z=>.r 1<|.d<|T.r2 func50 results50 (.B 1 Z) (.t (.bool false)) ⟨⟨_,(DG rfl (AG (by rw [QW ‹_›]))),Z.rS (g:=1) s [6,5,4,3] (by rw [QW ‹_›])⟩,Z.xt⟩
 refine .r 1<|RG.Np Z fun ai w Z=>RG.Ss 0 Z fun w Z=>.r 2<|.d<|.s<|.s<|.g<|.r 3<|RG.Ln 2 Z<|RG.C0 (GV r (F:=all)) Z fun w Z=>?_
 cases ay:(BS r)
 ·exact .r 8<|.d<|.ct<|.s<|.g<|RG.Ln 3 Z<|RG.Ss 1 Z fun w Z=>.r 1<|.d<|T.r2 func50 results50 (.B 1 Z) (.t (.bool false)) ⟨⟨_,(DG rfl (AG (by rw [QX ‹_›]))),Z.rS (g:=1) s [6,5,4,3] (by rw [QX ‹_›])⟩,Z.xt⟩
 refine .r 4<|RG.Lb 3 Z<|.r 1<|.bp ((s.mem.length:Int)≥20) (fun aa=>.r 1<|.d<|.ct<|.s<|.g<|RG.Ln 3 Z<|RG.Ss 1 Z fun w Z=>.r 1<|.d<|T.r2 func50 results50 (.B 1 Z) (.t (.bool false)) ⟨⟨_,(DG rfl (AG (by rw [QY ‹_›]))),Z.rS (g:=1) s [6,5,4,3] (by rw [QY ‹_›])⟩,Z.xt⟩) fun aa=>.r 1<|.d<|.cf<|.sk<|.s<|.g<|RG.Ln 3 Z<|RG.Np Z fun aj w Z=>RG.Ss 0 Z fun w Z=>.d<|.s<|.g<|RG.Ln 1 Z<|.r 1<|RG.Ss 0 Z fun w Z=>.d<|.s<|T.GS 8 [aj,ai,ah,ag,af] Z fun _ w Z=>.r [1]<|GA.Lb (q:=4) 2 4 Z<|.r [4]<|GA.Ln (q:=3) 5 3 Z<|.r [6]<|.tw 0 7 ?_ ?_
 ·refine GE.N0 Smp 1 Z fun aE w Z=>.tw 3 7 ?_ ?_
  ·refine GE.An (hs:=by (simp only [List.nil_append,List.length_nil,List.length_append,List.length_cons] <;> exact (by have:=p0.2.2.2; omega))) 0 3 ([]:List Smp) s.mem [1,2,3,4,5] Z fun aF aG w Z=>.go 7<|GE.Nb 1 Z fun aH w Z=>GA.Do Z fun w Z=>RG.Ap (hs:=by (simp only [List.nil_append,List.length_nil,List.length_append,List.length_cons] <;> exact (by have:=p0.2.2.2; omega))) 0 0 ([]++s.mem) (⟨(Ba s.idx n).2.1,(⟨r.t,r.v⟩:Row)⟩:Smp) [] Z fun aI aJ w Z=>.r 1<|RG.Ss 1 Z fun w Z=>.d<|.s<|.s<|.g<|RG.Ln 1 Z<|.r 1<|RG.CL (EH (⟨(⟨(Ba s.idx n).1.names,((Ba s.idx n).1).AX⟩:Idx),s.parts,(([]++s.mem)++[(⟨(Ba s.idx n).2.1,(⟨r.t,r.v⟩:Row)⟩:Smp)])⟩:Sto) ((Ba s.idx n).2.1) (Z.a 0) (Z.a 1) (Z.a 4) (Z.oa 0) p0.2.1 p0.2.2.1 (by have:=p0.2.2.2; simp; omega)) Z fun aK aL w Z=>.r 1<|.bp ((((rowsOf (⟨(⟨(Ba s.idx n).1.names,((Ba s.idx n).1).AX⟩:Idx),s.parts,(([]++s.mem)++[(⟨(Ba s.idx n).2.1,(⟨r.t,r.v⟩:Row)⟩:Smp)])⟩:Sto) ((Ba s.idx n).2.1)).length):Int) > 24) (fun ab=>.d<|.ct<|.s<|.g<|RG.Ln 5 Z<|RG.Ss 3 Z fun w Z=>.r 1<|.d<|T.r2 func50 results50 (.B 3 Z) (.t (.bool false)) ⟨⟨_,(DG rfl (AG (by rw [Ih ‹_› ‹_› ‹_› ‹_›]))),Z.rS (g:=1) s [7,6,5,4] (by rw [Ih ‹_› ‹_› ‹_› ‹_›])⟩,Z.xt⟩) fun ab=>.d<|.cf<|.sk<|.s<|.g<|RG.Ln 1 Z<|RG.Ss 3 Z fun w Z=>.r 1<|.d ?_
   have Z:=Z.sl 0
   exact T.r2 func50 results50 (.B 2 Z) (.t (.bool true)) ⟨⟨_,(DG rfl (AG (by (rw [Ii ‹_› ‹_› ‹_› ‹_›] <;> rfl)))),Z.rS (g:=1) (⟨(⟨(Ba s.idx n).1.names,((Ba s.idx n).1).AX⟩:Idx),s.parts,(([]++s.mem)++[(⟨(Ba s.idx n).2.1,(⟨r.t,r.v⟩:Row)⟩:Smp)])⟩:Sto) [2,3,6,0] (by (rw [Ii ‹_› ‹_› ‹_› ‹_›] <;> rfl))⟩,Z.xt⟩
  refine GE.Nb 1 Z fun aM w Z=>.go 3<|GE.An (hs:=by (simp only [List.nil_append,List.length_nil,List.length_append,List.length_cons] <;> exact (by have:=p0.2.2.2; omega))) 1 3 ([]:List Smp) s.mem [2,3,4,5,6] Z fun aN aO w Z=>GA.Do Z fun w Z=>RG.Ap (hs:=by (simp only [List.nil_append,List.length_nil,List.length_append,List.length_cons] <;> exact (by have:=p0.2.2.2; omega))) 0 0 ([]++s.mem) (⟨(Ba s.idx n).2.1,(⟨r.t,r.v⟩:Row)⟩:Smp) [] Z fun aP aQ w Z=>.r 1<|RG.Ss 1 Z fun w Z=>.d<|.s<|.s<|.g<|RG.Ln 1 Z<|.r 1<|RG.CL (EH (⟨(⟨(Ba s.idx n).1.names,((Ba s.idx n).1).AX⟩:Idx),s.parts,(([]++s.mem)++[(⟨(Ba s.idx n).2.1,(⟨r.t,r.v⟩:Row)⟩:Smp)])⟩:Sto) ((Ba s.idx n).2.1) (Z.a 0) (Z.a 1) (Z.a 4) (Z.oa 0) p0.2.1 p0.2.2.1 (by have:=p0.2.2.2; simp; omega)) Z fun aR aS w Z=>.r 1<|.bp ((((rowsOf (⟨(⟨(Ba s.idx n).1.names,((Ba s.idx n).1).AX⟩:Idx),s.parts,(([]++s.mem)++[(⟨(Ba s.idx n).2.1,(⟨r.t,r.v⟩:Row)⟩:Smp)])⟩:Sto) ((Ba s.idx n).2.1)).length):Int) > 24) (fun ac=>.d<|.ct<|.s<|.g<|RG.Ln 5 Z<|RG.Ss 3 Z fun w Z=>.r 1<|.d<|T.r2 func50 results50 (.B 3 Z) (.t (.bool false)) ⟨⟨_,(DG rfl (AG (by rw [Ih ‹_› ‹_› ‹_› ‹_›]))),Z.rS (g:=1) s [7,6,5,4] (by rw [Ih ‹_› ‹_› ‹_› ‹_›])⟩,Z.xt⟩) fun ac=>.d<|.cf<|.sk<|.s<|.g<|RG.Ln 1 Z<|RG.Ss 3 Z fun w Z=>.r 1<|.d ?_
  have Z:=Z.sl 0
  exact T.r2 func50 results50 (.B 2 Z) (.t (.bool true)) ⟨⟨_,(DG rfl (AG (by (rw [Ii ‹_› ‹_› ‹_› ‹_›] <;> rfl)))),Z.rS (g:=1) (⟨(⟨(Ba s.idx n).1.names,((Ba s.idx n).1).AX⟩:Idx),s.parts,(([]++s.mem)++[(⟨(Ba s.idx n).2.1,(⟨r.t,r.v⟩:Row)⟩:Smp)])⟩:Sto) [2,3,6,0] (by (rw [Ii ‹_› ‹_› ‹_› ‹_›] <;> rfl))⟩,Z.xt⟩
 refine GE.Nb 1 Z fun aT w Z=>.go 0<|GE.N0 Smp 1 Z fun aU w Z=>.go 3<|GE.An (hs:=by (simp only [List.nil_append,List.length_nil,List.length_append,List.length_cons] <;> exact (by have:=p0.2.2.2; omega))) 0 3 ([]:List Smp) s.mem [2,3,4,5,6] Z fun aV aW w Z=>GA.Do Z fun w Z=>RG.Ap (hs:=by (simp only [List.nil_append,List.length_nil,List.length_append,List.length_cons] <;> exact (by have:=p0.2.2.2; omega))) 0 1 ([]++s.mem) (⟨(Ba s.idx n).2.1,(⟨r.t,r.v⟩:Row)⟩:Smp) [] Z fun aX aY w Z=>.r 1<|RG.Ss 1 Z fun w Z=>.d<|.s<|.s<|.g<|RG.Ln 1 Z<|.r 1<|RG.CL (EH (⟨(⟨(Ba s.idx n).1.names,((Ba s.idx n).1).AX⟩:Idx),s.parts,(([]++s.mem)++[(⟨(Ba s.idx n).2.1,(⟨r.t,r.v⟩:Row)⟩:Smp)])⟩:Sto) ((Ba s.idx n).2.1) (Z.a 0) (Z.a 1) (Z.a 4) (Z.oa 0) p0.2.1 p0.2.2.1 (by have:=p0.2.2.2; simp; omega)) Z fun aZ ba w Z=>.r 1<|.bp ((((rowsOf (⟨(⟨(Ba s.idx n).1.names,((Ba s.idx n).1).AX⟩:Idx),s.parts,(([]++s.mem)++[(⟨(Ba s.idx n).2.1,(⟨r.t,r.v⟩:Row)⟩:Smp)])⟩:Sto) ((Ba s.idx n).2.1)).length):Int) > 24) (fun ae=>.d<|.ct<|.s<|.g<|RG.Ln 5 Z<|RG.Ss 3 Z fun w Z=>.r 1<|.d<|T.r2 func50 results50 (.B 3 Z) (.t (.bool false)) ⟨⟨_,(DG rfl (AG (by rw [Ih ‹_› ‹_› ‹_› ‹_›]))),Z.rS (g:=1) s [7,6,5,4] (by rw [Ih ‹_› ‹_› ‹_› ‹_›])⟩,Z.xt⟩) fun ae=>.d<|.cf<|.sk<|.s<|.g<|RG.Ln 1 Z<|RG.Ss 3 Z fun w Z=>.r 1<|.d ?_
 have Z:=Z.sl 0
 exact T.r2 func50 results50 (.B 2 Z) (.t (.bool true)) ⟨⟨_,(DG rfl (AG (by (rw [Ii ‹_› ‹_› ‹_› ‹_›] <;> rfl)))),Z.rS (g:=1) (⟨(⟨(Ba s.idx n).1.names,((Ba s.idx n).1).AX⟩:Idx),s.parts,(([]++s.mem)++[(⟨(Ba s.idx n).2.1,(⟨r.t,r.v⟩:Row)⟩:Smp)])⟩:Sto) [2,3,6,0] (by (rw [Ii ‹_› ‹_› ‹_› ‹_›] <;> rfl))⟩,Z.xt⟩
end Go.Proofs.YtcginoabkicdiaaGreat
namespace Go.Proofs.YtcginoabkicdiaaGreat
def AY (s:Sto):Sto:=⟨idxOf s.idx.names,s.parts,s.mem⟩
def BV (d:Dsk):Dsk:=⟨d.files.filter (fun f=>d.list.contains f.num),d.list,d.names,d.next⟩
def BF (d:Dsk) (s:Sto):List Stp :=
 if s.mem.length=0∨d.list.length≥6∨d.next≥999∨d.files.length≥20 then []
 else [⟨1,d.next,Ah s.mem,[],[]⟩,⟨2,0,⟨[],[]⟩,d.list++[d.next],s.idx.names⟩]
theorem FM {d:Dsk}{s:Sto}(h:(s.mem.length:Int)=0∨(d.list.length:Int)≥6∨d.next≥999∨(d.files.length:Int)≥20):BF d s=[]:=by unfold BF; rw [if_pos AB]
theorem DL {d:Dsk}{s:Sto}(h1:(s.mem.length:Int)≠0) (h2:¬ (d.list.length:Int)≥6) (h3:¬ d.next≥999) (h4:¬ (d.files.length:Int)≥20) :
 BF d s=[⟨1,d.next,Ah s.mem,[],[]⟩,⟨2,0,⟨[],[]⟩,d.list++[d.next],s.idx.names⟩]:=by unfold BF; rw [if_neg AB]
theorem RX {α:Type}{l:List (List α)}{i:Nat}{k:List (List α)}{q:List α}(h:k++l.drop i=l) (hd:l.drop i=q::l.drop (i+1)):(k++[[]++q])++l.drop (i+1)=l:=by
 rw [hd] at h
 simpa using h
theorem TR {l:List Prt}{i:Nat}{k:List Prt}{q:Prt}{a:List Int}{b:List (List Row)}(h:k++l.drop i=l) (hd:l.drop i=q::l.drop (i+1)) (ha:a=q.ids) (hb:b=q.blocks):(k++[⟨a,b⟩])++l.drop (i+1)=l:=by
 subst ha hb
 rw [hd] at h
 simpa using h
end Go.Proofs.YtcginoabkicdiaaGreat
namespace Go.Proofs.YtcginoabkicdiaaGreat
set_option maxRecDepth 100000
set_option maxHeartbeats 4000000
variable {w:World} {F:Nat→Prop} {a1 a2 a3 a4 a5 a6 a7:Option Addr} {n1 c1 n2 c2 n3 c3 n4 c4 n5 c5 n6 c6 n7 c7:Nat}
theorem Lw (d:Dsk) (h1:RepS w F a1 n1 c1 d.files) (h2:RepS w F a2 n2 c2 d.list) (h3:RepS w F a3 n3 c3 d.names) (p0:d.files.length≤1000):Calls Tryz.prog 118 [.agg #[.slice a1 n1 c1,.slice a2 n2 c2,.slice a3 n3 c3,.int .i64 d.next]].toArray w (Af fun rv w'=>VS (fo F w.heap.size) w' (BV d:Dsk) rv∧Ext w w'):=by
 cases h1.len
 cases h2.len
 cases h3.len
 refine goT func118 ?_
 have Z:=(((St.i0 F w).p h1).p h2).p h3
 refine .s<|.g<|RG.Np Z fun ag w Z=>RG.Np Z fun ah w Z=>.d<|.s<|.g<|RG.N0 Fil 1 Z fun ai w Z=>.r 1<|.d<|.s<|.s<|.g<|.r 1<|.d<|.b 0<|T.Lp (([]:List Fil),ai,(0:Nat),(0:Nat)) (fun (files,r_files,c_files,i)=>([(1,vP ag),(2,vP ah),(3,vS r_files files.length c_files),(4,vI (i:Int))],[(0,.own 1 r_files 148 c_files files)],[],d.files.length - i,(i≤d.files.length)∧(files.length≤i)∧(files++(d.files.drop i).filter (fun f=>d.list.contains f.num)=d.files.filter (fun f=>d.list.contains f.num)))) [] Z ⟨AD,AD,AD⟩ ?_
 rintro ⟨files,r_files,c_files,i⟩ aB w Z ⟨ar,ax,ay⟩ aa
 refine .s<|.s<|.g<|.r 2<|RG.Lb 2 Z<|.r 1<|.bp ((i:Int)< (d.files.length:Int)) (fun ae=>?_) (fun ae=>?_)
 ·refine .d<|.ct<|.sk<|.s<|.b 1<|.s<|T.Gd 7 Z fun w Z=>GA.Ln 0 2 Z<|.r [1]<|GA.Lb 2 2 Z<|.r [3]<|gx d.files i fun ac ab=>?_
  have az:=Ab ab
  refine GA.Ix 4 2 ab Z<|.r [5]<|Z.el 2 ab fun aC aD aE aF Z=>GA.Lh 6 0 0 Z<|GA.Dn Z fun w Z=>RG.C0 (F8 d ac.num (Z.a 5) (Z.a 4) (Z.a 3)) Z fun w Z=>?_
  cases aA:(d.list.contains ac.num)
  ·exact .d<|.cf<|.sk<|.ib 1<|.g<|.r 1<|.it ((i:Int)+1)<|.r 1<|.d<|aa (files,r_files,c_files,i+1) _ _ AA (Z.to 0 [] 3) ⟨AB,AB,(by grind)⟩ (by (simp only []; omega))
  exact .d<|.ct<|.g<|.r 2<|RG.Lb 2 Z<|.r 1<|RG.Ix 5 ab Z<|RG.Lg 0 0 Z<|RG.Nb 1 Z fun aG w Z=>RG.Ap 0 0 files ac [1,2] Z fun aj ak w Z=>.r 1<|.d<|.ib 1<|.g<|.r 1<|.it ((i:Int)+1)<|.r 1<|.d<|aa ((files++[ac]),aj,ak,i+1) _ _ AA (Z.to 0 [] 3) ⟨AB,(by (simp; omega)),(by grind)⟩ (by (simp only []; omega))
 refine .d<|.cf<|.x 0 rfl<|.s<|.g<|.r 2<|RG.Ss 2 Z fun w Z=>.d<|.s<|.g<|RG.Ln 2 Z<|RG.Ss 1 Z fun w Z=>.d ?_
 have Z:=Z.sl 0
 exact T.Rb 0 func118 results118 Z ⟨Z.rS (g:=1) (⟨files,d.list,d.names,d.next⟩:Dsk) [0,2,1] (by grind [BV,Aa]),Z.xt⟩
theorem Ks (d:Dsk) (s:Sto) (h1:RepS w F a1 n1 c1 d.files) (h2:RepS w F a2 n2 c2 d.list) (h3:RepS w F a3 n3 c3 d.names) (h4:RepS w F a4 n4 c4 s.idx.names) (h5:RepS w F a5 n5 c5 s.idx.AX) (h6:RepS w F a6 n6 c6 s.parts) (h7:RepS w F a7 n7 c7 s.mem) (p0:s.mem.length≤1000) (p1:∀ m∈s.mem,1≤m.id∧m.id≤6) (p2:d.list.length≤1000) (p3:s.idx.names.length≤1000) (p4:∀ n∈s.idx.names,n.length≤1000):Calls Tryz.prog 53 [.agg #[.slice a1 n1 c1,.slice a2 n2 c2,.slice a3 n3 c3,.int .i64 d.next],.agg #[.slice a4 n4 c4,.slice a5 n5 c5,.slice a6 n6 c6,.slice a7 n7 c7]].toArray w (Af fun rv w'=>VL (ge w.heap.size) w' (BF d s:List Stp) rv∧Ext w w'):=by
 cases h1.len
 cases h2.len
 cases h3.len
 cases h4.len
 cases h5.len
 cases h6.len
 cases h7.len
 refine goT func53 ?_
 have Z:=(((((((St.i0 F w).p h1).p h2).p h3).p h4).p h5).p h6).p h7
 have ah:=h1.max
 refine .s<|.g<|RG.Np Z fun af w Z=>RG.Np Z fun ag w Z=>.r 1<|.d<|.s<|.s<|.g<|.r 1<|RG.Lb 0 Z<|.r 1<|.eq (s.mem.length:Int) 0 (fun aa=>.r 17<|.d<|.ct<|.s<|.g<|RG.N0 Stp 0 Z fun ar w Z=>.r 1<|.d<|T.Rt func53 results53 ⟨Z.rM 0 ([]:List Stp) (by rw [FM AB]),Z.xt⟩) fun aa=>.r 2<|RG.Lb 1 Z<|.r 1<|.bp ((d.list.length:Int)≥6) (fun ab=>.r 12<|.d<|.ct<|.s<|.g<|RG.N0 Stp 0 Z fun ax w Z=>.r 1<|.d<|T.Rt func53 results53 ⟨Z.rM 0 ([]:List Stp) (by rw [FM AB]),Z.xt⟩) fun ab=>.r 3<|RG.Lb 1 Z<|.bp (d.next≥999) (fun ac=>.r 7<|.d<|.ct<|.s<|.g<|RG.N0 Stp 0 Z fun ay w Z=>.r 1<|.d<|T.Rt func53 results53 ⟨Z.rM 0 ([]:List Stp) (by rw [FM AB]),Z.xt⟩) fun ac=>.r 3<|RG.Lb 1 Z<|.r 1<|.bp ((d.files.length:Int)≥20) (fun ae=>.r 1<|.d<|.ct<|.s<|.g<|RG.N0 Stp 0 Z fun az w Z=>.r 1<|.d<|T.Rt func53 results53 ⟨Z.rM 0 ([]:List Stp) (by rw [FM AB]),Z.xt⟩) fun ae=>.r 1<|.d<|.cf<|.sk<|.s<|T.GS 7 [ag,af] Z fun _ w Z=>.r [1]<|GA.Lb (q:=1) 2 1 Z<|.r [4]<|GA.Lb (q:=1) 5 1 Z<|.tw 0 6 ?_ ?_
 ·refine GE.N0 Int 0 Z fun aA w Z=>.tw 3 6 ?_ ?_
  ·exact GE.An (hf:=.inr Av) 0 5 ([]:List Int) d.list [1,2] Z fun aB aC w Z=>.go 6<|GE.Nb 1 Z fun aD w Z=>GA.Do Z fun w Z=>RG.Ap 0 0 ([]++d.list) d.next [] Z fun aE aF w Z=>.r 1<|.d<|.s<|T.Gd 11 Z fun w Z=>.r [0]<|GA.Lb 1 2 Z<|GA.Ln 2 1 Z<|.r [5,6,7]<|GA.Lb 8 1 Z<|.go 3<|GE.CS (fun w Z=>Ek s (Z.a 3) (Z.a 2) (Z.a 1) (Z.a 0) p0 p1) Z fun aG aH aI aJ w Z=>.r [4]<|.go 9<|GE.CO 0 (fun w Z=>BP s.idx.names (Z.a 5) AB (by intro n hn; have:=p4 n hn; omega)) Z fun aK aL w Z=>.r [10]<|GA.Dn Z fun w Z=>RG.Nl 0 ([(⟨1,d.next,(⟨(Ah s.mem).ids,(Ah s.mem).blocks⟩:Prt),([]:List Int),([]:List (List Tag))⟩:Stp),(⟨2,0,(⟨([]:List Int),([]:List (List Row))⟩:Prt),(([]++d.list)++[d.next]),s.idx.names⟩:Stp)]:List Stp) [[6,7,5,4],[1,0,3,2]] ((((((Z.nl Int).nl (List Tag)).sl 1).sl 0).nl Int).nl (List Row)) fun aM w Z=>.r 1<|.d<|T.Rt func53 results53 ⟨Z.rM 0 ([(⟨1,d.next,(⟨(Ah s.mem).ids,(Ah s.mem).blocks⟩:Prt),([]:List Int),([]:List (List Tag))⟩:Stp),(⟨2,0,(⟨([]:List Int),([]:List (List Row))⟩:Prt),(([]++d.list)++[d.next]),s.idx.names⟩:Stp)]:List Stp) (by (rw [DL ‹_› ‹_› ‹_› ‹_›] <;> simp)),Z.xt⟩
  exact GE.Nb 1 Z fun aN w Z=>.go 3<|GE.An (hf:=.inr Av) 1 5 ([]:List Int) d.list [2,3] Z fun aO aP w Z=>GA.Do Z fun w Z=>RG.Ap 0 0 ([]++d.list) d.next [] Z fun aQ aR w Z=>.r 1<|.d<|.s<|T.Gd 11 Z fun w Z=>.r [0]<|GA.Lb 1 2 Z<|GA.Ln 2 1 Z<|.r [5,6,7]<|GA.Lb 8 1 Z<|.go 3<|GE.CS (fun w Z=>Ek s (Z.a 3) (Z.a 2) (Z.a 1) (Z.a 0) p0 p1) Z fun aS aT aU aV w Z=>.r [4]<|.go 9<|GE.CO 0 (fun w Z=>BP s.idx.names (Z.a 5) AB (by intro n hn; have:=p4 n hn; omega)) Z fun aW aX w Z=>.r [10]<|GA.Dn Z fun w Z=>RG.Nl 0 ([(⟨1,d.next,(⟨(Ah s.mem).ids,(Ah s.mem).blocks⟩:Prt),([]:List Int),([]:List (List Tag))⟩:Stp),(⟨2,0,(⟨([]:List Int),([]:List (List Row))⟩:Prt),(([]++d.list)++[d.next]),s.idx.names⟩:Stp)]:List Stp) [[6,7,5,4],[1,0,3,2]] ((((((Z.nl Int).nl (List Tag)).sl 1).sl 0).nl Int).nl (List Row)) fun aY w Z=>.r 1<|.d<|T.Rt func53 results53 ⟨Z.rM 0 ([(⟨1,d.next,(⟨(Ah s.mem).ids,(Ah s.mem).blocks⟩:Prt),([]:List Int),([]:List (List Tag))⟩:Stp),(⟨2,0,(⟨([]:List Int),([]:List (List Row))⟩:Prt),(([]++d.list)++[d.next]),s.idx.names⟩:Stp)]:List Stp) (by (rw [DL ‹_› ‹_› ‹_› ‹_›] <;> simp)),Z.xt⟩
 exact GE.Nb 1 Z fun aZ w Z=>.go 0<|GE.N0 Int 0 Z fun ba w Z=>.go 3<|GE.An (hf:=.inr Av) 0 5 ([]:List Int) d.list [2,3] Z fun bg bh w Z=>GA.Do Z fun w Z=>RG.Ap 0 1 ([]++d.list) d.next [] Z fun bi bj w Z=>.r 1<|.d<|.s<|T.Gd 11 Z fun w Z=>.r [0]<|GA.Lb 1 2 Z<|GA.Ln 2 1 Z<|.r [5,6,7]<|GA.Lb 8 1 Z<|.go 3<|GE.CS (fun w Z=>Ek s (Z.a 3) (Z.a 2) (Z.a 1) (Z.a 0) p0 p1) Z fun bk bm bn bo w Z=>.r [4]<|.go 9<|GE.CO 0 (fun w Z=>BP s.idx.names (Z.a 5) AB (by intro n hn; have:=p4 n hn; omega)) Z fun bq br w Z=>.r [10]<|GA.Dn Z fun w Z=>RG.Nl 0 ([(⟨1,d.next,(⟨(Ah s.mem).ids,(Ah s.mem).blocks⟩:Prt),([]:List Int),([]:List (List Tag))⟩:Stp),(⟨2,0,(⟨([]:List Int),([]:List (List Row))⟩:Prt),(([]++d.list)++[d.next]),s.idx.names⟩:Stp)]:List Stp) [[6,7,5,4],[1,0,3,2]] ((((((Z.nl Int).nl (List Tag)).sl 1).sl 0).nl Int).nl (List Row)) fun bu w Z=>.r 1<|.d<|T.Rt func53 results53 ⟨Z.rM 0 ([(⟨1,d.next,(⟨(Ah s.mem).ids,(Ah s.mem).blocks⟩:Prt),([]:List Int),([]:List (List Tag))⟩:Stp),(⟨2,0,(⟨([]:List Int),([]:List (List Row))⟩:Prt),(([]++d.list)++[d.next]),s.idx.names⟩:Stp)]:List Stp) (by (rw [DL ‹_› ‹_› ‹_› ‹_›] <;> simp)),Z.xt⟩
theorem HH (s:Sto) (h1:RepS w F a1 n1 c1 s.idx.names) (h2:RepS w F a2 n2 c2 s.idx.AX) (h3:RepS w F a3 n3 c3 s.parts) (h4:RepS w F a4 n4 c4 s.mem) (p0:PD s):Calls Tryz.prog 57 [.agg #[.slice a1 n1 c1,.slice a2 n2 c2,.slice a3 n3 c3,.slice a4 n4 c4]].toArray w (Af fun rv w'=>(∃ (a0:Option Addr) (n0 c0:Nat) (a1:Option Addr) (n1 c1:Nat) (a2:Option Addr) (n2 c2:Nat) (r3 n3 c3:Nat),rv=.agg #[.slice a0 n0 c0,.slice a1 n1 c1,.slice a2 n2 c2,.slice (some ⟨r3,0,none⟩) n3 c3]∧RepS w' (nin (ge w.heap.size) [r3]) a0 n0 c0 ((((AY s)).idx).names)∧RepS w' (nin (ge w.heap.size) [r3]) a1 n1 c1 ((((AY s)).idx).AX)∧RepS w' (nin (ge w.heap.size) [r3]) a2 n2 c2 (((AY s)).parts)∧Own w' r3 158 (nin (ge w.heap.size) [r3]) n3 c3 (((AY s)).mem)∧w.heap.size≤r3)∧Ext w w'):=by
 cases h1.len
 cases h2.len
 cases h3.len
 cases h4.len
 refine goT func57 ?_
 have Z:=((((St.i0 F w).p h1).p h2).p h3).p h4
 have bh:=h3.max
 have bi:=h4.max
 refine .s<|.g<|RG.Np Z fun az w Z=>RG.Np Z fun aA w Z=>.d<|.s<|.g<|RG.N0 Prt 0 Z fun aG w Z=>.r 1<|.d<|.s<|.s<|.g<|.r 1<|.d<|.b 0<|T.Lp (([]:List Prt),aG,(0:Nat),(0:Nat)) (fun (k,r_k,c_k,k1)=>([(1,vP az),(2,vP aA),(3,vS r_k k.length c_k),(4,vI (k1:Int))],[(0,.own 0 r_k 146 c_k k)],[],s.parts.length - k1,(k1≤s.parts.length)∧(k.length≤k1)∧(k++s.parts.drop k1=s.parts))) [] Z ⟨AD,AD,AD⟩ ?_
 rintro ⟨k,r_k,c_k,k1⟩ bP w Z ⟨bj,bk,bm⟩ ao
 have bn:=Z.mo 0 k
 refine .s<|.s<|.g<|.r 2<|RG.Lb 2 Z<|.r 1<|.bp ((k1:Int)< (s.parts.length:Int)) (fun aC=>?_) (fun aC=>?_)
 ·refine .d<|.ct<|.sk<|.s<|.b 1<|.s<|.g<|RG.N0 Int 0 Z fun bQ w Z=>.r 1<|RG.Lb 3 Z<|.r 1<|gx s.parts k1 fun ab ae=>?_
  have bo:=Ab ae; have aE:=AV ae
  refine RG.Ix 1 ae Z<|.r 1<|Z.el 1 ae fun bR bS bT bU Z=>?_
  have br:=Z.mf 2 ab.blocks
  refine RG.Lh 0 0 Z<|RG.An (hs:=by (simp only [List.nil_append,List.length_nil,List.length_append,List.length_cons] <;> exact (by have q1:=p0.2.1; (have q3:=p0.2.2.1 _ ‹_›; have q4:=q3.1; have q5:=q3.2.1; omega)))) (hf:=.inr Av) 0 1 ([]:List Int) ab.ids Z fun aH aI w Z=>?_
  refine RG.N0 (List Row) 0 Z fun aJ w Z=>.r 1<|RG.Np Z fun aB w Z=>RG.Ss 0 Z fun w Z=>.d<|.s<|.s<|.g<|.r 1<|.d<|.b 2<|T.Lp ((0:Nat),(([]++ab.ids):List Int),aH,aI,([]:List (List Row)),aJ,(0:Nat)) (fun (k2,ag,r_k_0,c_k_0,ac,r_k_1,c_k_1)=>([(1,vP az),(2,vP aA),(3,vS r_k k.length c_k),(4,vI (k1:Int)),(5,vP aB),(6,vI (k2:Int))],[(0,.box aB 146 [vS r_k_0 ag.length c_k_0,vS r_k_1 ac.length c_k_1]),(1,.own 0 r_k_1 159 c_k_1 ac),(2,.own 0 r_k_0 3 c_k_0 ag)],[],ab.blocks.length - k2,(k2≤ab.blocks.length)∧(ag=ab.ids)∧(ac.length≤k2)∧(ac++ab.blocks.drop k2=ab.blocks))) [] Z ⟨AD,AD,AD,AD⟩ ?_
  rintro ⟨k2,ag,r_k_0,c_k_0,ac,r_k_1,c_k_1⟩ bV w Z ⟨bv,bw,bz,bA⟩ ay
  have bD:=Z.mo 1 ac
  refine .s<|.s<|.g<|.r 2<|RG.Lb 5 Z<|.r 1<|RG.Ix 4 ae Z<|.r 1<|RG.Lh 0 1 Z<|.r 1<|.bp ((k2:Int)< (ab.blocks.length:Int)) (fun aD=>?_) (fun aD=>?_)
  ·refine .d<|.ct<|.sk<|.s<|.b 3<|T.GS 14 [aB,aA,az] Z fun _ w Z=>.r [0]<|GA.Lb 1 0 Z<|.r [3]<|GA.Lb (q:=2) 4 5 Z<|.r [5]<|GA.Ix 6 4 ae Z<|.r [7]<|GA.Lh 8 0 1 Z<|.r [9]<|gx ab.blocks k2 fun ak aj=>?_
   have bE:=Ab aj; have aF:=AV aj
   refine GA.Ix 10 2 aj Z<|Z.el 2 aj fun bW bX Z=>?_
   have bF:=Z.mf 1 ak
   refine GA.Lh 11 0 0 Z<|.go 2<|GE.N0 Row 0 Z fun bY w Z=>.go 12<|GE.An (hs:=by (simp only [List.nil_append,List.length_nil,List.length_append,List.length_cons] <;> exact (by have q1:=p0.2.1; (have q3:=p0.2.2.1 _ ‹_›; (have q6:=q3.2.2 _ ‹_›; omega))))) (hf:=.inr Bn) 0 1 ([]:List Row) ak [1,5,6] Z fun bZ b6 w Z=>?_
   refine .go 13<|GE.Nb 1 Z fun b7 w Z=>GA.Do Z fun w Z=>RG.Ap (hs:=by exact (by have q1:=p0.2.1; (have q3:=p0.2.2.1 _ ‹_›; have q5:=q3.2.1; omega))) 1 0 ac ([]++ak) [0] (Z.sl 1) fun aK aL w Z=>?_
   exact .r 1<|RG.Ss 0 Z fun w Z=>.d<|.ib 3<|.g<|.r 1<|.it ((k2:Int)+1)<|.r 1<|.d<|ay (k2+1,ag,r_k_0,c_k_0,(ac++[([]++ak)]),aK,aL) _ _ AA (Z.to 0 [] 3) ⟨AB,‹_›,(by simp; omega),(by exact RX ‹_› ‹_›)⟩ (by (simp only []; omega))
  refine .d<|.cf<|.x 2 rfl<|.g<|.r 1<|RG.Ln 0 Z<|RG.Nb 1 Z fun b8 w Z=>RG.Ap (hs:=by exact (by have q1:=p0.2.1; omega)) 1 0 k (⟨ag,ac⟩:Prt) [1,0] ((Z.sl 3).sl 2) fun aM aN w Z=>?_
  exact .r 1<|.d<|.ib 1<|.g<|.r 1<|.it ((k1:Int)+1)<|.r 1<|.d<|ao ((k++[(⟨ag,ac⟩:Prt)]),aM,aN,k1+1) _ _ AA (Z.to 1 [] 5) ⟨AB,(by simp; omega),(by exact TR ‹_› ‹_› ‹_› (by have q1:=Aa (xs:=ab.blocks) (k:=k2) AB; have q2:ac++ab.blocks.drop k2=ab.blocks:=‹_›; rw [q1,List.append_nil] at q2; exact q2))⟩ (by (simp only []; omega))
 refine .d<|.cf<|.x 0 rfl<|.s<|T.GS 9 [aA,az] Z fun _ w Z=>.r [0,1]<|GA.Lb (q:=1) 2 2 Z<|.r [4,6]<|GA.Lb (q:=1) 7 2 Z<|.tw 3 5 ?_ ?_
 ·refine GE.CS (fun w Z=>E6 s.idx.names (Z.a 3) p0.1.1 p0.1.2) Z fun aO aP aQ aR w Z=>?_
  refine .go 5<|GE.N0 Smp 0 Z fun b9 w Z=>.go 8<|GE.An (hs:=by (simp only [List.nil_append,List.length_nil,List.length_append,List.length_cons] <;> exact (by have q1:=p0.2.1; have q2:=p0.2.2.2; omega))) (hf:=.inr G7) 0 2 ([]:List Smp) s.mem [2,3] Z fun aS aT w Z=>?_
  refine GA.Do Z fun w Z=>.r 1<|RG.Ss 2 Z fun w Z=>.d ?_
  have Z:=Z.sl 1
  exact T.Rb 1 func57 results57 Z ⟨⟨aO,((idxOf s.idx.names).names.length),aP,aQ,((idxOf s.idx.names).AX.length),aR,(some ⟨r_k,0,none⟩),k.length,c_k,aS,(([]++s.mem).length),aT,AA,Z.qr [0] 1 ((idxOf s.idx.names).names) AF,Z.qr [0] 2 ((idxOf s.idx.names).AX) AF,Z.qr [0] 0 k (by have q1:=Aa (xs:=s.parts) (k:=k1) AB; have q2:k++s.parts.drop k1=s.parts:=‹_›; rw [q1,List.append_nil] at q2; exact q2),Z.qo [0] 0 ([]++s.mem) AF,Z.qb 0⟩,Z.xt⟩
 refine GE.N0 Smp 0 Z fun cd w Z=>.go 3<|GE.CS (fun w Z=>E6 s.idx.names (Z.a 3) p0.1.1 p0.1.2) Z fun aU aV aW aX w Z=>?_
 refine .go 8<|GE.An (hs:=by (simp only [List.nil_append,List.length_nil,List.length_append,List.length_cons] <;> exact (by have q1:=p0.2.1; have q2:=p0.2.2.2; omega))) (hf:=.inr G7) 0 2 ([]:List Smp) s.mem [2,3] Z fun aY aZ w Z=>?_
 refine GA.Do Z fun w Z=>.r 1<|RG.Ss 2 Z fun w Z=>.d ?_
 have Z:=Z.sl 1
 exact T.Rb 1 func57 results57 Z ⟨⟨aU,((idxOf s.idx.names).names.length),aV,aW,((idxOf s.idx.names).AX.length),aX,(some ⟨r_k,0,none⟩),k.length,c_k,aY,(([]++s.mem).length),aZ,AA,Z.qr [0] 1 ((idxOf s.idx.names).names) AF,Z.qr [0] 2 ((idxOf s.idx.names).AX) AF,Z.qr [0] 0 k (by have q1:=Aa (xs:=s.parts) (k:=k1) AB; have q2:k++s.parts.drop k1=s.parts:=‹_›; rw [q1,List.append_nil] at q2; exact q2),Z.qo [0] 0 ([]++s.mem) AF,Z.qb 0⟩,Z.xt⟩
end Go.Proofs.YtcginoabkicdiaaGreat
namespace Go.Proofs.YtcginoabkicdiaaGreat
def Ao (d:Dsk) (n:Int):Prt:=(d.files.getD (Al d n).toNat default).part
def Aj (d:Dsk):Sto:=⟨idxOf d.names,d.list.map (Ao d),[]⟩
def Lx (f:Fil):Fil:=⟨f.num,BB f.part ⟨[],[]⟩⟩
def BL (d:Dsk):Dsk:=⟨d.files.map Lx,d.list,d.names,d.next⟩
def EI (d:Dsk) (n:Int):List Fil:=if Al d n≥0∧d.list.contains n=false then d.files.take (Al d n).toNat++d.files.drop ((Al d n).toNat+1) else d.files
def doD (d:Dsk) (x:Stp):Dsk :=
 if x.kind=1 then ⟨d.files++[⟨x.num,x.part⟩],d.list,d.names,x.num+1⟩
 else if x.kind=2 then ⟨d.files,x.list,x.names,d.next⟩
 else if x.kind=3 then ⟨EI d x.num,d.list,d.names,d.next⟩
 else d
def toD (d:Dsk) (steps:List Stp) (cut:Int):Dsk:=(steps.take cut.toNat).foldl doD d
def BG (d:Dsk) (at_:Int):List Stp :=
 if !(inR at_ 0 ((d.list.length:Int) - 2)) || decide (d.next≥999) || decide (d.files.length≥20) then []
 else
  let a:=d.list.getD at_.toNat 0
  let b:=d.list.getD (at_.toNat+1) 0
  [⟨1,d.next,BB (Ao d a) (Ao d b),[],[]⟩,⟨2,0,⟨[],[]⟩,d.list.take at_.toNat++[d.next]++d.list.drop (at_.toNat+2),d.names⟩,⟨3,a,⟨[],[]⟩,[],[]⟩,⟨3,b,⟨[],[]⟩,[],[]⟩]
def BY (w:Wld):Wld:=⟨AY (Aj (BL (BV w.disk))),BL (BV w.disk)⟩
def Bo (w:Wld) (steps:List Stp) (cut:Int) (s:Sto):Wld :=
 if steps.length=0∨cut< 0 then w
 else if cut< steps.length then BY ⟨w.store,toD w.disk steps cut⟩ else ⟨s,toD w.disk steps cut⟩
def doW (w:Wld) (e:Evt):Wld :=
 if e.kind=1 then (if As e.name then ⟨(Ch w.store e.name e.row).1,w.disk⟩ else w)
 else if e.kind=2 then Bo w (BF w.disk w.store) e.cut (BE w.store).1
 else if e.kind=3 then Bo w (BG w.disk e.at_) e.cut (BI w.store e.at_).1
 else if e.kind=4 then BY w
 else w
def Ex (w:Wld):Wld:=⟨AY w.store,BL w.disk⟩
theorem LN (n:Int):∀ (fs:List Fil) (i:Nat),DH n i fs< (i:Int)+fs.length∧(DH n i fs = -1∨(i:Int)≤DH n i fs):=by
 intro fs
 induction fs with
 | nil=>intro i; simp [DH]; omega
 | cons f fs ih =>
   intro i
   have h:=ih (i+1)
   simp only [DH,List.length_cons]
   split <;> omega
theorem Cb (d:Dsk) (n:Int):Al d n< d.files.length:=by have:=LN n d.files 0; unfold Al; omega
theorem I4 (d:Dsk) (n:Int):Al d n ≥ -1:=by have:=LN n d.files 0; unfold Al; omega
theorem Hv {d:Dsk}{n:Int}(h:∀ n∈d.list,0≤Al d n) (hm:n∈d.list):(Al d n).toNat< d.files.length:=by
 have h1:=h n hm
 have h2:=Cb d n
 omega
theorem Hw {d:Dsk}{n:Int}(h:∀ n∈d.list,0≤Al d n) (hm:n∈d.list):Al d n=((Al d n).toNat:Int):=by
 have h1:=h n hm
 omega
theorem DR {d:Dsk}{n:Int}{f:Fil}(h:d.files[(Al d n).toNat]? = some f):Ao d n=f.part:=by
 unfold Ao; rw [List.getD_eq_getElem?_getD,h]; rfl
theorem mapStep {α β:Type}{l:List α}{f:α→β}{i:Nat}{k:List β}{q:α}{y:β}(h:k++(l.drop i).map f=l.map f) (hd:l.drop i=q::l.drop (i+1)) (hy:y=f q):(k++[y])++(l.drop (i+1)).map f=l.map f:=by
 subst hy
 rw [hd] at h
 simpa using h
theorem GY {α β:Type}{l:List α}{f:α→β}{i:Nat}{k:List β}(h:k++(l.drop i).map f=l.map f) (hi:l.length≤i):k=l.map f:=by
 rw [Aa hi] at h
 simpa using h
theorem toStep {l:List Stp}{c:Nat}{i:Nat}{d:Dsk}{q:Stp}{Y:Dsk}(h:((l.take c).drop i).foldl doD d=Y) (hd:l.drop i=q::l.drop (i+1)) (hc:i< c):((l.take c).drop (i+1)).foldl doD (doD d q)=Y:=by
 have h1:(l.take c).drop i=q::(l.take c).drop (i+1):=by
  rw [List.drop_take,List.drop_take,hd,show c - i=(c - (i+1))+1 by omega]
  rfl
 rw [h1] at h
 exact h
theorem toEnd {l:List Stp}{c:Nat}{i:Nat}{d:Dsk}{Y:Dsk}(h:((l.take c).drop i).foldl doD d=Y) (hc:l.length≤i∨c≤i):d=Y:=by
 rw [List.drop_of_length_le (by rw [List.length_take]; omega)] at h
 exact h
theorem FN {d:Dsk}{x:Stp}(h:x.kind=1):doD d x=⟨d.files++[⟨x.num,x.part⟩],d.list,d.names,x.num+1⟩:=by unfold doD; rw [if_pos h]
theorem HI {d:Dsk}{x:Stp}(h:x.kind=2):doD d x=⟨d.files,x.list,x.names,d.next⟩:=by unfold doD; rw [if_neg AB,if_pos h]
theorem Fg {d:Dsk}{x:Stp}(h:x.kind=3):doD d x=⟨EI d x.num,d.list,d.names,d.next⟩:=by unfold doD; rw [if_neg AB,if_neg AB,if_pos h]
theorem XG {d:Dsk}{x:Stp}(h:x.kind≠1) (h2:x.kind≠2) (h3:x.kind≠3):doD d x=d:=by unfold doD; rw [if_neg h,if_neg h2,if_neg h3]
theorem TS {d:Dsk}{n:Int}(h:Al d n≥0) (h2:d.list.contains n=false):EI d n=d.files.take (Al d n).toNat++d.files.drop ((Al d n).toNat+1):=by unfold EI; rw [if_pos ⟨h,h2⟩]
theorem OU {d:Dsk}{n:Int}(h:¬ Al d n≥0∨d.list.contains n=true):EI d n=d.files:=by unfold EI; rw [if_neg]; rintro ⟨h1,h2⟩; rcases h with h | h; exact h h1; rw [h2] at h; cases h
theorem I5 {d:Dsk}{a:Int}(h:inR a 0 ((d.list.length:Int) - 2)=false∨d.next≥999∨(d.files.length:Int)≥20):BG d a=[]:=by
 unfold BG
 rw [if_pos]
 rcases h with h | h | h
 ·simp [h]
 ·simp [h]
 ·have h:d.files.length≥20:=by omega
  simp [h]
theorem Ee {d:Dsk}{at_ a b:Int}{f g:Fil}(h:inR at_ 0 ((d.list.length:Int) - 2)=true) (h2:¬ d.next≥999) (h3:¬ (d.files.length:Int)≥20) (ha:d.list[at_.toNat]? = some a) (hb:d.list[(at_+1).toNat]? = some b)
 (hf:d.files[(Al d a).toNat]? = some f) (hg:d.files[(Al d b).toNat]? = some g) :
 BG d at_=[⟨1,d.next,BB f.part g.part,[],[]⟩,⟨2,0,⟨[],[]⟩,(([]++(d.list.take at_.toNat).drop 0)++[d.next])++(d.list.take d.list.length).drop (at_+2).toNat,d.names⟩,⟨3,a,⟨[],[]⟩,[],[]⟩,⟨3,b,⟨[],[]⟩,[],[]⟩]:=by
 have h0:=Bt h
 have e1:(at_+1).toNat=at_.toNat+1:=by omega
 have e2:(at_+2).toNat=at_.toNat+2:=by omega
 rw [e1] at hb
 have h4:¬ d.files.length≥20:=by omega
 unfold BG
 rw [if_neg (by simp [h]; omega),← DR hf,← DR hg,e2,List.getD_eq_getElem?_getD,List.getD_eq_getElem?_getD,ha,hb]
 simp
theorem RY {d:Dsk}{x:Stp}(h:x.list.length≤1000) (hd:d.list.length≤1000):(doD d x).files.length≤d.files.length+1∧(doD d x).list.length≤1000:=by
 unfold doD EI
 split
 ·simp; exact hd
 ·split
  ·simp; exact h
  ·split
   ·simp only
    split <;> simp <;> omega
   ·omega
def KZ (x:Stp):Prop:=x.list.length≤1000∧x.names.length≤1000∧(∀ n∈x.names,n.length≤1000) ∧ -9000000≤x.num∧x.num≤9000000
end Go.Proofs.YtcginoabkicdiaaGreat
namespace Go.Proofs.YtcginoabkicdiaaGreat
set_option maxRecDepth 100000
set_option maxHeartbeats 4000000
variable {w:World} {F:Nat→Prop} {a1 a2 a3 a4 a5 a6 a7:Option Addr} {n1 c1 n2 c2 n3 c3 n4 c4 n5 c5 n6 c6 n7 c7:Nat}
theorem Ly (d:Dsk) (h1:RepS w F a1 n1 c1 d.files) (h2:RepS w F a2 n2 c2 d.list) (h3:RepS w F a3 n3 c3 d.names) (p0:d.names.length≤1000) (p1:∀ n∈d.names,HA n) (p2:d.list.length≤1000) (p3:∀ n∈d.list,0≤Al d n):Calls Tryz.prog 119 [.agg #[.slice a1 n1 c1,.slice a2 n2 c2,.slice a3 n3 c3,.int .i64 d.next]].toArray w (Af fun rv w'=>VS (fo F w.heap.size) w' (Aj d:Sto) rv∧Ext w w'):=by
 cases h1.len
 cases h2.len
 cases h3.len
 refine goT func119 ?_
 have Z:=(((St.i0 F w).p h1).p h2).p h3
 refine .s<|.g<|RG.Np Z fun ak w Z=>RG.Np Z fun am w Z=>.d<|.s<|.g<|.r 1<|RG.Lb 1 Z<|RG.CS (E6 d.names (Z.a 0) p0 p1) Z fun ay az aA aB w Z=>RG.N0 Prt 1 Z fun aC w Z=>RG.N0 Smp 1 Z fun aD w Z=>.r 1<|RG.Np Z fun ai w Z=>RG.Ss 0 Z fun w Z=>.d<|.s<|.s<|.g<|.r 1<|.d<|.b 0<|T.Lp ((0:Nat),((idxOf d.names).names:List (List Tag)),ay,az,((idxOf d.names).AX:List Pst),aA,aB,([]:List Prt),aC,(0:Nat),([]:List Smp),aD,(0:Nat)) (fun (i,ae,a_s_0,c_s_0,af,a_s_1,c_s_1,aa,r_s_2,c_s_2,ag,r_s_3,c_s_3)=>([(1,vP ak),(2,vP am),(3,vP ai),(4,vI (i:Int))],[(0,.box ai 31 [.slice a_s_0 ae.length c_s_0,.slice a_s_1 af.length c_s_1,vS r_s_2 aa.length c_s_2,vS r_s_3 ag.length c_s_3]),(1,.own 1 r_s_3 158 c_s_3 ag),(2,.own 1 r_s_2 146 c_s_2 aa)],[⟨0,none,.rep a_s_0 c_s_0 ae⟩,⟨0,none,.rep a_s_1 c_s_1 af⟩],d.list.length - i,(i≤d.list.length)∧(ae=d.names)∧(af=Be d.names)∧(ag=[])∧(aa.length≤i)∧(aa++(d.list.drop i).map (Ao d)=d.list.map (Ao d)))) [0,1] Z ⟨AD,AF,AF,AF,AD,AF⟩ ?_
 rintro ⟨i,ae,a_s_0,c_s_0,af,a_s_1,c_s_1,aa,r_s_2,c_s_2,ag,r_s_3,c_s_3⟩ aR w Z ⟨aJ,aK,aL,aM,aN,aO⟩ ah
 refine .s<|.s<|.g<|.r 2<|RG.Lb 4 Z<|.r 1<|.bp ((i:Int)< (d.list.length:Int)) (fun ao=>?_) (fun ao=>?_)
 ·refine .d<|.ct<|.sk<|.s<|.b 1<|T.GS 15 [ai,am,ak] Z fun _ w Z=>.r [0]<|GA.Lb 1 0 Z<|.r [2]<|GA.Lb (q:=2) 3 4 Z<|GA.Ln (q:=2) 4 4 Z<|.r [5]<|GA.Lb (q:=2) 6 4 Z<|.r [7]<|gx (h:=AB) d.list i fun aj ab=>?_
  have aP:=Ab ab; have ar:=AV ab
  refine GA.Ix 8 5 ab Z<|Z.el 5 ab fun Z=>GA.Lh 9 0 0 Z<|GA.D0 10 Z (fun w Y=>Cs d aj (Y.a 7) (Y.a 6) (Y.a 5))<|gx (h:=(by exact Hv p3 ‹_›)) d.files ((Al d aj).toNat) fun aq ac=>?_
  exact GA.Jx (hz:=(by exact Hw p3 ‹_›)) 11 7 (Al d aj) ac Z<|.r [12]<|Z.el 7 ac fun aS aT aU aV Z=>GA.Lg 13 0 1 Z<|.go 14<|GE.Nb 1 Z fun aW w Z=>GA.Do Z fun w Z=>RG.Ap 2 0 aa aq.part [1,2] Z fun aE aF w Z=>.r 1<|RG.Ss 0 Z fun w Z=>.d<|.ib 1<|.g<|.r 1<|.it ((i:Int)+1)<|.r 1<|.d<|ah (i+1,ae,a_s_0,c_s_0,af,a_s_1,c_s_1,(aa++[aq.part]),aE,aF,ag,r_s_3,c_s_3) _ _ AA (Z.to 0 [4,5] 6) ⟨AB,‹_›,‹_›,‹_›,(by simp; omega),(by exact mapStep ‹_› ‹_› (DR ‹_›).symm)⟩ (by (simp only []; omega))
 refine .d<|.cf<|.x 0 rfl<|.s<|.g<|RG.Ln 0 Z<|RG.Ss 3 Z fun w Z=>.d ?_
 have Z:=(Z.sl 2).sl 1
 exact T.Rb 1 func119 results119 Z ⟨Z.rS (g:=1) (⟨(⟨ae,af⟩:Idx),aa,ag⟩:Sto) [2,3,1,0] (by have q1:aa=_:=GY ‹_› AB; subst_vars; rfl),Z.xt⟩
theorem HJ (d:Dsk) (h1:RepS w F a1 n1 c1 d.files) (h2:RepS w F a2 n2 c2 d.list) (h3:RepS w F a3 n3 c3 d.names) (p0:d.names.length≤1000) (p1:∀ n∈d.names,n.length≤1000) (p2:d.list.length≤1000) (p3:d.files.length≤1000) (p4:∀ f∈d.files,CR f.part):Calls Tryz.prog 58 [.agg #[.slice a1 n1 c1,.slice a2 n2 c2,.slice a3 n3 c3,.int .i64 d.next]].toArray w (Af fun rv w'=>(∃ (r0 n0 c0:Nat) (r1 n1 c1:Nat) (r2 n2 c2:Nat),rv=.agg #[.slice (some ⟨r0,0,none⟩) n0 c0,.slice (some ⟨r1,0,none⟩) n1 c1,.slice (some ⟨r2,0,none⟩) n2 c2,.int .i64 (((BL d)).next)]∧Own w' r0 148 (nin (ge w.heap.size) [r0,r1,r2]) n0 c0 (((BL d)).files)∧w.heap.size≤r0∧Own w' r1 3 (nin (ge w.heap.size) [r0,r1,r2]) n1 c1 (((BL d)).list)∧w.heap.size≤r1∧Nb r1 r0∧Own w' r2 69 (nin (ge w.heap.size) [r0,r1,r2]) n2 c2 (((BL d)).names)∧w.heap.size≤r2∧Nb r2 r0∧Nb r2 r1)∧Ext w w'):=by
 cases h1.len
 cases h2.len
 cases h3.len
 refine goT func58 ?_
 have Z:=(((St.i0 F w).p h1).p h2).p h3
 refine .s<|.g<|RG.Np Z fun ae w Z=>RG.Np Z fun af w Z=>.d<|.s<|.g<|RG.N0 Fil 0 Z fun ai w Z=>.r 1<|.d<|.s<|.s<|.g<|.r 1<|.d<|.b 0<|T.Lp (([]:List Fil),ai,(0:Nat),(0:Nat)) (fun (files,r_files,c_files,i)=>([(1,vP ae),(2,vP af),(3,vS r_files files.length c_files),(4,vI (i:Int))],[(0,.own 0 r_files 148 c_files files)],[],d.files.length - i,(i≤d.files.length)∧(files.length≤i)∧(files++(d.files.drop i).map Lx=d.files.map Lx))) [] Z ⟨AD,AD,AD⟩ ?_
 rintro ⟨files,r_files,c_files,i⟩ aE w Z ⟨aA,aB,aC⟩ ac
 refine .s<|.s<|.g<|.r 2<|RG.Lb 2 Z<|.r 1<|.bp ((i:Int)< (d.files.length:Int)) (fun ag=>?_) (fun ag=>.d<|.cf<|.x 0 rfl<|.s<|T.GS 10 [af,ae] Z fun _ w Z=>.r [0,2]<|GA.Lb (q:=1) 3 2 Z<|.r [5]<|GA.Lb (q:=1) 6 2 Z<|.r [8]<|GA.Lb (q:=1) 9 2 Z<|.go 1<|GE.N0 Int 0 Z fun aF w Z=>.go 4<|GE.An (hs:=by exact (by (simp; omega))) (hf:=.inr Av) 0 1 ([]:List Int) d.list [2,3] Z fun aj ak w Z=>.go 7<|GE.CO 0 (fun w Z=>BP d.names (Z.a 0) AB (by intro n hn; have:=p1 n hn; omega)) Z fun am ao w Z=>GA.Do Z fun w Z=>.r 1<|RG.Ss 3 Z fun w Z=>.d<|T.Rb 3 func58 results58 Z ⟨⟨r_files,files.length,c_files,aj,(([]++d.list).length),ak,am,d.names.length,ao,(by rw [show (((BL d)).next)=d.next from Eq.symm AF]; kernel_rfl),Z.qo [2,1,0] 2 files (by exact GY ‹_› AB),Z.qb 2,Z.qo [2,1,0] 1 ([]++d.list) AF,Z.qb 1,Z.qn 1 2,Z.qo [2,1,0] 0 d.names AF,Z.qb 0,Z.qn 0 2,Z.qn 0 1⟩,Z.xt⟩)
 refine .d<|.ct<|.sk<|.s<|.b 1<|T.GS 17 [af,ae] Z fun _ w Z=>.r [0,1]<|GA.Lb (q:=1) 2 2 Z<|.r [3]<|gx d.files i fun ab aa=>?_
 have aD:=Ab aa; have ah:=AV aa
 exact GA.Ix 4 2 aa Z<|.r [5]<|Z.el 2 aa fun aG aH aI aJ Z=>GA.Lh 6 0 0 Z<|.r [7]<|GA.Lb (q:=1) 8 2 Z<|.r [9]<|GA.Ix 10 5 aa Z<|.r [11]<|GA.Lg 12 0 1 Z<|.r [13]<|.go 14<|GE.CS (fun w Z=>Di ab.part (⟨([]:List Int),([]:List (List Row))⟩:Prt) (Z.a 1) (Z.a 2) Z.na Z.na (p4 _ ‹_›) (by simp [CR])) Z fun aK aL aM aN w Z=>.r [15]<|.go 16<|GE.Nb 1 Z fun aO w Z=>GA.Do Z fun w Z=>RG.Ap (hs:=by exact AB) 0 0 files (⟨ab.num,(⟨(BB ab.part (⟨([]:List Int),([]:List (List Row))⟩:Prt)).ids,(BB ab.part (⟨([]:List Int),([]:List (List Row))⟩:Prt)).blocks⟩:Prt)⟩:Fil) [0,1] Z fun aq ar w Z=>.r 1<|.d<|.ib 1<|.g<|.r 1<|.it ((i:Int)+1)<|.r 1<|.d<|ac ((files++[(⟨ab.num,(⟨(BB ab.part (⟨([]:List Int),([]:List (List Row))⟩:Prt)).ids,(BB ab.part (⟨([]:List Int),([]:List (List Row))⟩:Prt)).blocks⟩:Prt)⟩:Fil)]),aq,ar,i+1) _ _ AA (Z.to 0 [] 5) ⟨AB,(by simp; omega),(by exact mapStep ‹_› ‹_› rfl)⟩ (by (simp only []; omega))
theorem OV (d:Dsk) (x:Stp) (h1:RepS w F a1 n1 c1 d.files) (h2:RepS w F a2 n2 c2 d.list) (h3:RepS w F a3 n3 c3 d.names) (h4:RepS w F a4 n4 c4 x.part.ids) (h5:RepS w F a5 n5 c5 x.part.blocks) (h6:RepS w F a6 n6 c6 x.list) (h7:RepS w F a7 n7 c7 x.names) (p0:d.files.length≤2000) (p1:d.list.length≤2000) (p2:KZ x):Calls Tryz.prog 172 [.agg #[.slice a1 n1 c1,.slice a2 n2 c2,.slice a3 n3 c3,.int .i64 d.next],.agg #[.int .i64 x.kind,.int .i64 x.num,.slice a4 n4 c4,.slice a5 n5 c5,.slice a6 n6 c6,.slice a7 n7 c7]].toArray w (Af fun rv w'=>VS (fo F w.heap.size) w' (doD d x:Dsk) rv∧Ext w w'):=by
 cases h1.len
 cases h2.len
 cases h3.len
 cases h4.len
 cases h5.len
 cases h6.len
 cases h7.len
 refine goT func172 ?_
 have Z:=(((((((St.i0 F w).p h1).p h2).p h3).p h4).p h5).p h6).p h7
 have ay:=h6.max
 have az:=h7.max
 refine .s<|.g<|RG.Np Z fun ac w Z=>RG.Np Z fun ae w Z=>RG.Np Z fun af w Z=>.d<|.s<|.s<|.g<|.r 1<|RG.Lb 1 Z<|.d<|.b 0<|.s<|.g<|.eq x.kind 1 (fun ag=>?_) (fun ag=>?_)
 ·refine .r 1<|.d<|.ct<|.s<|T.GS 10 [af,ae,ac] Z fun _ w Z=>.r [1]<|GA.Lb (q:=2) 2 2 Z<|.r [4]<|GA.Lb (q:=1) 5 1 Z<|.r [6]<|GA.Ln (q:=1) 7 1 Z<|.r [8]<|.tw 0 9 ?_ ?_
  ·refine GE.N0 Fil 1 Z fun aB w Z=>.tw 3 9 ?_ ?_
   ·refine GE.An (hs:=by (simp only [List.nil_append,List.length_nil,List.length_append,List.length_cons] <;> exact (by have:=p2.1; omega))) 0 6 ([]:List Fil) d.files [1,2,3] Z fun aC aD w Z=>.go 9<|GE.Nb 1 Z fun aE w Z=>GA.Do Z fun w Z=>RG.Ap (hs:=by (simp only [List.nil_append,List.length_nil,List.length_append,List.length_cons] <;> exact (by have:=p2.1; omega))) 0 0 ([]++d.files) (⟨x.num,(⟨x.part.ids,x.part.blocks⟩:Prt)⟩:Fil) [3,2] Z fun aF aG w Z=>.r 1<|RG.Ss 3 Z fun w Z=>.d<|.g<|.r 1<|RG.Lb 2 Z<|RG.int (x.num+1) AA (by have q1:=Cb d x.num; have q2:=p2.2.2.2; omega)<|.r 1<|RG.Ss 3 Z fun w Z=>.d<|.ib 0<|.s<|.g<|RG.Ln 3 Z<|RG.Ss 1 Z fun w Z=>.d ?_
    have Z:=Z.sl 0
    exact T.Rb 0 func172 results172 Z ⟨Z.rS (g:=1) (⟨(([]++d.files)++[(⟨x.num,(⟨x.part.ids,x.part.blocks⟩:Prt)⟩:Fil)]),d.list,d.names,x.num+1⟩:Dsk) [0,6,5] (by (rw [FN ‹_›]; simp; done)),Z.xt⟩
   refine GE.Nb 1 Z fun aH w Z=>.go 3<|GE.An (hs:=by (simp only [List.nil_append,List.length_nil,List.length_append,List.length_cons] <;> exact (by have:=p2.1; omega))) 1 6 ([]:List Fil) d.files [2,3,4] Z fun aI aJ w Z=>GA.Do Z fun w Z=>RG.Ap (hs:=by (simp only [List.nil_append,List.length_nil,List.length_append,List.length_cons] <;> exact (by have:=p2.1; omega))) 0 0 ([]++d.files) (⟨x.num,(⟨x.part.ids,x.part.blocks⟩:Prt)⟩:Fil) [3,2] Z fun aK aL w Z=>.r 1<|RG.Ss 3 Z fun w Z=>.d<|.g<|.r 1<|RG.Lb 2 Z<|RG.int (x.num+1) AA (by have q1:=Cb d x.num; have q2:=p2.2.2.2; omega)<|.r 1<|RG.Ss 3 Z fun w Z=>.d<|.ib 0<|.s<|.g<|RG.Ln 3 Z<|RG.Ss 1 Z fun w Z=>.d ?_
   have Z:=Z.sl 0
   exact T.Rb 0 func172 results172 Z ⟨Z.rS (g:=1) (⟨(([]++d.files)++[(⟨x.num,(⟨x.part.ids,x.part.blocks⟩:Prt)⟩:Fil)]),d.list,d.names,x.num+1⟩:Dsk) [0,6,5] (by (rw [FN ‹_›]; simp; done)),Z.xt⟩
  refine GE.Nb 1 Z fun aM w Z=>.go 0<|GE.N0 Fil 1 Z fun aN w Z=>.go 3<|GE.An (hs:=by (simp only [List.nil_append,List.length_nil,List.length_append,List.length_cons] <;> exact (by have:=p2.1; omega))) 0 6 ([]:List Fil) d.files [2,3,4] Z fun aO aP w Z=>GA.Do Z fun w Z=>RG.Ap (hs:=by (simp only [List.nil_append,List.length_nil,List.length_append,List.length_cons] <;> exact (by have:=p2.1; omega))) 0 1 ([]++d.files) (⟨x.num,(⟨x.part.ids,x.part.blocks⟩:Prt)⟩:Fil) [3,2] Z fun aQ aR w Z=>.r 1<|RG.Ss 3 Z fun w Z=>.d<|.g<|.r 1<|RG.Lb 2 Z<|RG.int (x.num+1) AA (by have q1:=Cb d x.num; have q2:=p2.2.2.2; omega)<|.r 1<|RG.Ss 3 Z fun w Z=>.d<|.ib 0<|.s<|.g<|RG.Ln 3 Z<|RG.Ss 1 Z fun w Z=>.d ?_
  have Z:=Z.sl 0
  exact T.Rb 0 func172 results172 Z ⟨Z.rS (g:=1) (⟨(([]++d.files)++[(⟨x.num,(⟨x.part.ids,x.part.blocks⟩:Prt)⟩:Fil)]),d.list,d.names,x.num+1⟩:Dsk) [0,6,5] (by (rw [FN ‹_›]; simp; done)),Z.xt⟩
 refine .r 1<|.d<|.cf<|.s<|.g<|.eq x.kind 2 (fun ah=>?_) (fun ah=>?_)
 ·refine .r 1<|.d<|.ct<|.s<|.g<|RG.N0 Int 1 Z fun aS w Z=>.r 1<|RG.Lb 2 Z<|RG.An (hs:=by (simp only [List.nil_append,List.length_nil,List.length_append,List.length_cons] <;> exact (by have:=p2.1; omega))) 0 1 ([]:List Int) x.list Z fun aT aU w Z=>.r 1<|RG.Ss 3 Z fun w Z=>.d<|.g<|.r 1<|RG.Lb 2 Z<|RG.CO 1 (BP x.names (Z.a 0) (by have:=p2.2.1; omega) (by intro n hn; have:=p2.2.2.1 n hn; omega)) Z fun aV aW w Z=>.r 1<|RG.Ss 4 Z fun w Z=>.d<|.ib 0<|.s<|.g<|RG.Ln 4 Z<|RG.Ss 2 Z fun w Z=>.d ?_
  have Z:=(Z.sl 1).sl 0
  exact T.Rb 0 func172 results172 Z ⟨Z.rS (g:=1) (⟨d.files,([]++x.list),x.names,d.next⟩:Dsk) [8,1,0] (by (rw [HI ‹_›]; simp; done)),Z.xt⟩
 refine .r 1<|.d<|.cf<|.s<|.g<|.eq x.kind 3 (fun ai=>?_) (fun ai=>.r 1<|.d<|.cf<|.sk<|.ib 0<|.s<|.g<|RG.Ln 2 Z<|RG.Ss 0 Z fun w Z=>.d<|T.Rb 0 func172 results172 Z ⟨Z.rS (g:=1) d [6,5,4] (by rw [XG ‹_› ‹_› ‹_›]),Z.xt⟩)
 refine .r 1<|.d<|.ct<|.s<|.g<|RG.Ln 2 Z<|.r 1<|RG.Lb 1 Z<|RG.C0 (Cs d x.num (Z.a 6) (Z.a 5) (Z.a 4)) Z fun w Z=>.r 1<|.d<|.s<|.g<|.r 1<|.bp (Al d x.num≥0) (fun aj=>?_) (fun aj=>.r 7<|.d<|.cf<|.sk<|.ib 0<|.s<|.g<|RG.Ln 2 Z<|RG.Ss 0 Z fun w Z=>.d<|T.Rb 0 func172 results172 Z ⟨Z.rS (g:=1) d [6,5,4] (by (rw [Fg ‹_›,OU (.inl ‹_›)])),Z.xt⟩)
 refine .r 1<|RG.Ln 2 Z<|.r 1<|RG.Lb 1 Z<|RG.C0 (F8 d x.num (Z.a 6) (Z.a 5) (Z.a 4)) Z fun w Z=>?_
 cases aA:(d.list.contains x.num)
 ·refine .r 2<|.d<|.ct<|T.GS 11 [af,ae,ac] Z fun _ w Z=>.r [1]<|GA.Lb (q:=2) 2 2 Z<|.r [3]<|GA.Sb (hlh:=(by have q1:=Cb d x.num; omega)) (hh:=(by have q1:=Cb d x.num; omega)) (hhi:=bdI (Al d x.num)) 4 6 0 ((Al d x.num).toNat) d.files Z fun aX aY Z=>.r [6]<|GA.Lb (q:=2) 7 2 Z<|.r [8]<|GA.int (i:=9) (Al d x.num+1) AA (by have q1:=Cb d x.num; omega)<|GA.Sb (hlh:=(by have q1:=Cb d x.num; omega)) (hh:=(by have q1:=Cb d x.num; omega)) (hlo:=bdI (Al d x.num+1)) 10 7 ((Al d x.num+1).toNat) d.files.length d.files Z fun aZ ba Z=>.go 0<|GE.N0 Fil 1 Z fun bg w Z=>.go 5<|GE.An (hs:=by (simp <;> omega)) 0 1 ([]:List Fil) ((d.files.take ((Al d x.num).toNat)).drop 0) [1,2,3] Z fun bh bi w Z=>GA.Do Z fun w Z=>RG.An (hs:=by (simp <;> omega)) 0 0 ([]++((d.files.take ((Al d x.num).toNat)).drop 0)) ((d.files.take d.files.length).drop ((Al d x.num+1).toNat)) Z fun bj bk w Z=>.r 1<|RG.Ss 3 Z fun w Z=>.d<|.ib 0<|.s<|.g<|RG.Ln 3 Z<|RG.Ss 1 Z fun w Z=>.d ?_
  have Z:=Z.sl 0
  exact T.Rb 0 func172 results172 Z ⟨Z.rS (g:=1) (⟨(([]++((d.files.take ((Al d x.num).toNat)).drop 0))++((d.files.take d.files.length).drop ((Al d x.num+1).toNat))),d.list,d.names,d.next⟩:Dsk) [0,8,7] (by (rw [Fg ‹_›,TS ‹_› ‹_›]; have e1:(Al d x.num+1).toNat=(Al d x.num).toNat+1:=AB; simp [e1]; done)),Z.xt⟩
 exact .r 2<|.d<|.cf<|.sk<|.ib 0<|.s<|.g<|RG.Ln 2 Z<|RG.Ss 0 Z fun w Z=>.d<|T.Rb 0 func172 results172 Z ⟨Z.rS (g:=1) d [6,5,4] (by (rw [Fg ‹_›,OU (.inr ‹_›)])),Z.xt⟩
theorem OW (d:Dsk) (steps:List Stp) (cut:Int) (h1:RepS w F a1 n1 c1 d.files) (h2:RepS w F a2 n2 c2 d.list) (h3:RepS w F a3 n3 c3 d.names) (h4:RepS w F a4 n4 c4 steps) (p0:d.files.length≤1000) (p1:steps.length≤1000) (p2:d.list.length≤1000) (p3:∀ x∈steps,KZ x):Calls Tryz.prog 114 [.agg #[.slice a1 n1 c1,.slice a2 n2 c2,.slice a3 n3 c3,.int .i64 d.next],.slice a4 n4 c4,.int .i64 cut].toArray w (Af fun rv w'=>VS (fo F w.heap.size) w' (toD d steps cut:Dsk) rv∧Ext w w'):=by
 cases h1.len
 cases h2.len
 cases h3.len
 cases h4.len
 refine goT func114 ?_
 have Z:=((((St.i0 F w).p h1).p h2).p h3).p h4
 refine .s<|.g<|RG.Np Z fun ai w Z=>RG.Np Z fun ao w Z=>.d<|.s<|.s<|.g<|.r 1<|.d<|.b 0<|T.Lp ((0:Nat),(d.files:List Fil),a1,c1,(d.list:List Int),a2,c2,(d.names:List (List Tag)),a3,c3,d.next) (fun (i,aa,a_d_0,c_d_0,ab,a_d_1,c_d_1,ac,a_d_2,c_d_2,ae)=>([(1,.slice a4 steps.length c4),(2,vI cut),(3,vP ai),(6,vP ao),(7,vI (i:Int))],[(1,.box ai 35 [.slice a_d_0 aa.length c_d_0,.slice a_d_1 ab.length c_d_1,.slice a_d_2 ac.length c_d_2,vI ae])],[⟨1,none,.rep a_d_0 c_d_0 aa⟩,⟨1,none,.rep a_d_1 c_d_1 ab⟩,⟨1,none,.rep a_d_2 c_d_2 ac⟩],steps.length - i,(i≤steps.length)∧(aa.length≤d.files.length+i)∧(ab.length≤1000)∧(((steps.take cut.toNat).drop i).foldl doD ⟨aa,ab,ac,ae⟩=toD d steps cut))) [3,2,1] Z ⟨AB,AB,AB,AF⟩ ?_
 rintro ⟨i,aa,a_d_0,c_d_0,ab,a_d_1,c_d_1,ac,a_d_2,c_d_2,ae⟩ aM w Z ⟨aH,aI,aJ,aK⟩ ag
 refine .s<|.s<|.g<|.r 3<|.bp ((i:Int)< (steps.length:Int)) (fun aj=>?_) (fun aj=>.r 5<|.d<|.cf<|.x 0 rfl<|.s<|.g<|RG.Ln 1 Z<|RG.Ss 0 Z fun w Z=>.d<|T.Rb 0 func114 results114 Z ⟨Z.rS (g:=1) (⟨aa,ab,ac,ae⟩:Dsk) [0,1,2] (by exact toEnd ‹_› AB),Z.xt⟩)
 refine .r 3<|.bp ((i:Int)< cut) (fun ak=>?_) (fun ak=>.r 1<|.d<|.cf<|.x 0 rfl<|.s<|.g<|RG.Ln 1 Z<|RG.Ss 0 Z fun w Z=>.d<|T.Rb 0 func114 results114 Z ⟨Z.rS (g:=1) (⟨aa,ab,ac,ae⟩:Dsk) [0,1,2] (by exact toEnd ‹_› AB),Z.xt⟩)
 refine .r 1<|.d<|.ct<|.sk<|.s<|.b 1<|T.Gd 5 Z fun w Z=>GA.Ln 0 1 Z<|.r [1,2]<|gx steps i fun ah af=>?_
 have aL:=Ab af; have am:=AV af
 exact GA.Ix 3 3 af Z<|Z.el 3 af fun aN aO aP aQ aR aS aT aU Z=>GA.Lg 4 0 0 Z<|GA.Dn Z fun w Z=>RG.CS (OV (⟨aa,ab,ac,ae⟩:Dsk) ah (Z.mg 1 5) (Z.mg 1 6) (Z.mg 1 7) (Z.mg 1 1) (Z.mg 1 2) (Z.mg 1 3) (Z.mg 1 4) (by simp only; omega) (by simp only; omega) (p3 _ ‹_›)) Z fun aq ar ax ay az aA w Z=>RG.Ss 1 Z fun w Z=>.d<|.ib 1<|.g<|.r 1<|.it ((i:Int)+1)<|.r 1<|.d<|ag (i+1,(doD (⟨aa,ab,ac,ae⟩:Dsk) ah).files,aq,ar,(doD (⟨aa,ab,ac,ae⟩:Dsk) ah).list,ax,ay,(doD (⟨aa,ab,ac,ae⟩:Dsk) ah).names,az,aA,(doD (⟨aa,ab,ac,ae⟩:Dsk) ah).next) _ _ AA (Z.to 0 [0,1,2] 11) ⟨AB,(by have q1:=p3 _ ‹_›; have q2:=RY (d:=⟨aa,ab,ac,ae⟩) q1.1 ‹_›; dsimp only at q2; omega),(by have q1:=p3 _ ‹_›; have q2:=RY (d:=⟨aa,ab,ac,ae⟩) q1.1 ‹_›; dsimp only at q2; omega),(by exact toStep ‹_› ‹_› AB)⟩ (by (simp only []; omega))
theorem Kt (d:Dsk) (at_:Int) (h1:RepS w F a1 n1 c1 d.files) (h2:RepS w F a2 n2 c2 d.list) (h3:RepS w F a3 n3 c3 d.names) (p0:d.names.length≤1000) (p1:∀ n∈d.names,n.length≤1000) (p2:d.list.length≤1000) (p3:∀ n∈d.list,0≤Al d n) (p4:∀ f∈d.files,CR f.part):Calls Tryz.prog 55 [.agg #[.slice a1 n1 c1,.slice a2 n2 c2,.slice a3 n3 c3,.int .i64 d.next],.int .i64 at_].toArray w (Af fun rv w'=>VL (ge w.heap.size) w' (BG d at_:List Stp) rv∧Ext w w'):=by
 cases h1.len
 cases h2.len
 cases h3.len
 refine goT func55 ?_
 have Z:=(((St.i0 F w).p h1).p h2).p h3
 refine .s<|.g<|RG.Np Z fun ak w Z=>.r 1<|.d<|.s<|.s<|.g<|.r 2<|RG.Lb 0 Z<|.r 1<|.it ((d.list.length:Int) - 2)<|RG.C0 (CD at_ 0 ((d.list.length:Int) - 2) (F:=all)) Z fun w Z=>?_
 cases aj:(inR at_ 0 ((d.list.length:Int) - 2))
 ·exact .r 12<|.d<|.ct<|.s<|.g<|RG.N0 Stp 0 Z fun bN w Z=>.r 1<|.d<|T.Rt func55 results55 ⟨Z.rM 0 ([]:List Stp) (by rw [I5 (.inl ‹_›)]),Z.xt⟩
 have aF:=Bt aj
 refine .r 3<|RG.Lb 0 Z<|.bp (d.next≥999) (fun am=>.r 7<|.d<|.ct<|.s<|.g<|RG.N0 Stp 0 Z fun bO w Z=>.r 1<|.d<|T.Rt func55 results55 ⟨Z.rM 0 ([]:List Stp) (by rw [I5 (.inr (.inl ‹_›))]),Z.xt⟩) fun am=>.r 3<|RG.Lb 0 Z<|.r 1<|.bp ((d.files.length:Int)≥20) (fun ao=>.r 1<|.d<|.ct<|.s<|.g<|RG.N0 Stp 0 Z fun bP w Z=>.r 1<|.d<|T.Rt func55 results55 ⟨Z.rM 0 ([]:List Stp) (by rw [I5 (.inr (.inr ‹_›))]),Z.xt⟩) fun ao=>.r 1<|.d<|.cf<|.sk<|.s<|.g<|.r 1<|RG.Lb 0 Z<|.r 1<|gx (h:=AB) d.list (at_.toNat) fun ac af=>?_
 have ar:=AV af
 refine RG.Jx (hz:=AB) 1 at_ af Z<|Z.el 1 af fun Z=>RG.Lh 0 0 Z<|.r 1<|.d<|.s<|.g<|.r 1<|RG.Lb 0 Z<|.r 1<|.it (at_+1)<|gx (h:=AB) d.list ((at_+1).toNat) fun ae ag=>?_
 have ax:=AV ag
 refine RG.Jx (hz:=AB) 2 (at_+1) ag Z<|Z.el 2 ag fun Z=>RG.Lh 0 0 Z<|.r 1<|.d<|.s<|T.Gd 18 Z fun w Z=>.r [0]<|GA.Lb 1 0 Z<|GA.Ln 2 0 Z<|.r [3]<|GA.C0 4 Z (fun w Z=>Cs d ac (Z.a 4) (Z.a 3) (Z.a 2))<|gx (h:=(by exact Hv p3 ‹_›)) d.files ((Al d ac).toNat) fun aa ah=>?_
 have ay:=AV ah
 refine GA.Jx (hz:=(by exact Hw p3 ‹_›)) 5 4 (Al d ac) ah Z<|.r [6]<|Z.el 4 ah fun bQ bR bS bT Z=>GA.Lg 7 0 1 Z<|.r [8]<|GA.Lb 9 0 Z<|GA.Ln 10 0 Z<|.r [11]<|GA.C0 12 Z (fun w Z=>Cs d ae (Z.a 7) (Z.a 6) (Z.a 5))<|gx (h:=(by exact Hv p3 ‹_›)) d.files ((Al d ae).toNat) fun ab ai=>?_
 have az:=AV ai
 refine GA.Jx (hz:=(by exact Hw p3 ‹_›)) 13 7 (Al d ae) ai Z<|.r [14]<|Z.el 7 ai fun bU bV bW bX Z=>GA.Lg 15 0 1 Z<|.tw 16 17 ?_ ?_
 ·refine GE.CS (fun w Z=>Di aa.part ab.part (Z.a 4) (Z.a 5) (Z.a 1) (Z.a 2) (p4 _ ‹_›) (p4 _ ‹_›)) Z fun bY bZ b6 b7 w Z=>.go 17<|GE.Np Z fun aA w Z=>GA.Dn Z fun w Z=>RG.Ss 0 Z fun w Z=>.d<|.s<|T.GS 15 [aA,ak] Z fun _ w Z=>.r [1]<|GA.Lb (q:=1) 2 1 Z<|.r [3]<|GA.Sb (hhi:=bdI at_) 4 11 0 (at_.toNat) d.list Z fun b8 b9 Z=>.r [6]<|GA.Lb (q:=1) 7 1 Z<|.r [10]<|GA.Lb (q:=1) 11 1 Z<|.r [12]<|GA.int (i:=13) (at_+2) AA AB<|GA.Sb (hlo:=bdI (at_+2)) 14 12 ((at_+2).toNat) d.list.length d.list Z fun cd ce Z=>.tw 0 8 ?_ ?_
  ·refine GE.N0 Int 0 Z fun cg w Z=>.tw 5 8 ?_ ?_
   ·exact GE.An (hf:=.inr Av) 0 1 ([]:List Int) ((d.list.take (at_.toNat)).drop 0) [1,2] Z fun ci cj w Z=>.go 8<|GE.Nb 1 Z fun ck w Z=>.go 9<|GE.Ap 0 0 ([]++((d.list.take (at_.toNat)).drop 0)) d.next [] [1,2] Z fun cm co w Z=>GA.Do Z fun w Z=>RG.An (hf:=.inr Av) 0 0 (([]++((d.list.take (at_.toNat)).drop 0))++[d.next]) ((d.list.take d.list.length).drop ((at_+2).toNat)) Z fun cp cq w Z=>.r 1<|.d<|.s<|T.Gd 13 Z fun w Z=>.r [0]<|GA.Lb 1 2 Z<|GA.Ln 2 1 Z<|.r [3,4,5]<|GA.Lb 6 2 Z<|.r [9,10,11,12]<|.go 7<|GE.CO 0 (fun w Z=>BP d.names (Z.a 12) AB (by intro n hn; have:=p1 n hn; omega)) Z fun cr cu w Z=>.r [8]<|GA.Dn Z fun w Z=>RG.Nl 0 ([(⟨1,d.next,(⟨(BB aa.part ab.part).ids,(BB aa.part ab.part).blocks⟩:Prt),([]:List Int),([]:List (List Tag))⟩:Stp),(⟨2,0,(⟨([]:List Int),([]:List (List Row))⟩:Prt),((([]++((d.list.take (at_.toNat)).drop 0))++[d.next])++((d.list.take d.list.length).drop ((at_+2).toNat))),d.names⟩:Stp),(⟨3,ac,(⟨([]:List Int),([]:List (List Row))⟩:Prt),([]:List Int),([]:List (List Tag))⟩:Stp),(⟨3,ae,(⟨([]:List Int),([]:List (List Row))⟩:Prt),([]:List Int),([]:List (List Tag))⟩:Stp)]:List Stp) [[16,17,13,12],[9,8,11,10],[7,6,5,4],[3,2,1,0]] ((((((((((((((Z.nl Int).nl (List Tag)).sl 1).sl 0).nl Int).nl (List Row)).nl Int).nl (List Row)).nl Int).nl (List Tag)).nl Int).nl (List Row)).nl Int).nl (List Tag)) fun cw w Z=>.r 1<|.d<|T.Rt func55 results55 ⟨Z.rM 0 ([(⟨1,d.next,(⟨(BB aa.part ab.part).ids,(BB aa.part ab.part).blocks⟩:Prt),([]:List Int),([]:List (List Tag))⟩:Stp),(⟨2,0,(⟨([]:List Int),([]:List (List Row))⟩:Prt),((([]++((d.list.take (at_.toNat)).drop 0))++[d.next])++((d.list.take d.list.length).drop ((at_+2).toNat))),d.names⟩:Stp),(⟨3,ac,(⟨([]:List Int),([]:List (List Row))⟩:Prt),([]:List Int),([]:List (List Tag))⟩:Stp),(⟨3,ae,(⟨([]:List Int),([]:List (List Row))⟩:Prt),([]:List Int),([]:List (List Tag))⟩:Stp)]:List Stp) (by rw [Ee ‹_› ‹_› ‹_› ‹_› ‹_› ‹_› ‹_›]),Z.xt⟩
   exact GE.Nb 1 Z fun cx w Z=>.go 5<|GE.An (hf:=.inr Av) 1 1 ([]:List Int) ((d.list.take (at_.toNat)).drop 0) [2,3] Z fun cy cz w Z=>.go 9<|GE.Ap 0 0 ([]++((d.list.take (at_.toNat)).drop 0)) d.next [] [1,2] Z fun cA cB w Z=>GA.Do Z fun w Z=>RG.An (hf:=.inr Av) 0 0 (([]++((d.list.take (at_.toNat)).drop 0))++[d.next]) ((d.list.take d.list.length).drop ((at_+2).toNat)) Z fun cC cD w Z=>.r 1<|.d<|.s<|T.Gd 13 Z fun w Z=>.r [0]<|GA.Lb 1 2 Z<|GA.Ln 2 1 Z<|.r [3,4,5]<|GA.Lb 6 2 Z<|.r [9,10,11,12]<|.go 7<|GE.CO 0 (fun w Z=>BP d.names (Z.a 12) AB (by intro n hn; have:=p1 n hn; omega)) Z fun cE cF w Z=>.r [8]<|GA.Dn Z fun w Z=>RG.Nl 0 ([(⟨1,d.next,(⟨(BB aa.part ab.part).ids,(BB aa.part ab.part).blocks⟩:Prt),([]:List Int),([]:List (List Tag))⟩:Stp),(⟨2,0,(⟨([]:List Int),([]:List (List Row))⟩:Prt),((([]++((d.list.take (at_.toNat)).drop 0))++[d.next])++((d.list.take d.list.length).drop ((at_+2).toNat))),d.names⟩:Stp),(⟨3,ac,(⟨([]:List Int),([]:List (List Row))⟩:Prt),([]:List Int),([]:List (List Tag))⟩:Stp),(⟨3,ae,(⟨([]:List Int),([]:List (List Row))⟩:Prt),([]:List Int),([]:List (List Tag))⟩:Stp)]:List Stp) [[16,17,13,12],[9,8,11,10],[7,6,5,4],[3,2,1,0]] ((((((((((((((Z.nl Int).nl (List Tag)).sl 1).sl 0).nl Int).nl (List Row)).nl Int).nl (List Row)).nl Int).nl (List Tag)).nl Int).nl (List Row)).nl Int).nl (List Tag)) fun cG w Z=>.r 1<|.d<|T.Rt func55 results55 ⟨Z.rM 0 ([(⟨1,d.next,(⟨(BB aa.part ab.part).ids,(BB aa.part ab.part).blocks⟩:Prt),([]:List Int),([]:List (List Tag))⟩:Stp),(⟨2,0,(⟨([]:List Int),([]:List (List Row))⟩:Prt),((([]++((d.list.take (at_.toNat)).drop 0))++[d.next])++((d.list.take d.list.length).drop ((at_+2).toNat))),d.names⟩:Stp),(⟨3,ac,(⟨([]:List Int),([]:List (List Row))⟩:Prt),([]:List Int),([]:List (List Tag))⟩:Stp),(⟨3,ae,(⟨([]:List Int),([]:List (List Row))⟩:Prt),([]:List Int),([]:List (List Tag))⟩:Stp)]:List Stp) (by rw [Ee ‹_› ‹_› ‹_› ‹_› ‹_› ‹_› ‹_›]),Z.xt⟩
  exact GE.Nb 1 Z fun cH w Z=>.go 0<|GE.N0 Int 0 Z fun cI w Z=>.go 5<|GE.An (hf:=.inr Av) 0 1 ([]:List Int) ((d.list.take (at_.toNat)).drop 0) [2,3] Z fun cJ cK w Z=>.go 9<|GE.Ap 0 1 ([]++((d.list.take (at_.toNat)).drop 0)) d.next [] [1,2] Z fun cL cM w Z=>GA.Do Z fun w Z=>RG.An (hf:=.inr Av) 0 0 (([]++((d.list.take (at_.toNat)).drop 0))++[d.next]) ((d.list.take d.list.length).drop ((at_+2).toNat)) Z fun cN cO w Z=>.r 1<|.d<|.s<|T.Gd 13 Z fun w Z=>.r [0]<|GA.Lb 1 2 Z<|GA.Ln 2 1 Z<|.r [3,4,5]<|GA.Lb 6 2 Z<|.r [9,10,11,12]<|.go 7<|GE.CO 0 (fun w Z=>BP d.names (Z.a 12) AB (by intro n hn; have:=p1 n hn; omega)) Z fun aK aL w Z=>.r [8]<|GA.Dn Z fun w Z=>RG.Nl 0 ([(⟨1,d.next,(⟨(BB aa.part ab.part).ids,(BB aa.part ab.part).blocks⟩:Prt),([]:List Int),([]:List (List Tag))⟩:Stp),(⟨2,0,(⟨([]:List Int),([]:List (List Row))⟩:Prt),((([]++((d.list.take (at_.toNat)).drop 0))++[d.next])++((d.list.take d.list.length).drop ((at_+2).toNat))),d.names⟩:Stp),(⟨3,ac,(⟨([]:List Int),([]:List (List Row))⟩:Prt),([]:List Int),([]:List (List Tag))⟩:Stp),(⟨3,ae,(⟨([]:List Int),([]:List (List Row))⟩:Prt),([]:List Int),([]:List (List Tag))⟩:Stp)]:List Stp) [[16,17,13,12],[9,8,11,10],[7,6,5,4],[3,2,1,0]] ((((((((((((((Z.nl Int).nl (List Tag)).sl 1).sl 0).nl Int).nl (List Row)).nl Int).nl (List Row)).nl Int).nl (List Tag)).nl Int).nl (List Row)).nl Int).nl (List Tag)) fun aM w Z=>.r 1<|.d<|T.Rt func55 results55 ⟨Z.rM 0 ([(⟨1,d.next,(⟨(BB aa.part ab.part).ids,(BB aa.part ab.part).blocks⟩:Prt),([]:List Int),([]:List (List Tag))⟩:Stp),(⟨2,0,(⟨([]:List Int),([]:List (List Row))⟩:Prt),((([]++((d.list.take (at_.toNat)).drop 0))++[d.next])++((d.list.take d.list.length).drop ((at_+2).toNat))),d.names⟩:Stp),(⟨3,ac,(⟨([]:List Int),([]:List (List Row))⟩:Prt),([]:List Int),([]:List (List Tag))⟩:Stp),(⟨3,ae,(⟨([]:List Int),([]:List (List Row))⟩:Prt),([]:List Int),([]:List (List Tag))⟩:Stp)]:List Stp) (by rw [Ee ‹_› ‹_› ‹_› ‹_› ‹_› ‹_› ‹_›]),Z.xt⟩
 refine GE.Np Z fun aq w Z=>.go 16<|GE.CS (fun w Z=>Di aa.part ab.part (Z.a 4) (Z.a 5) (Z.a 1) (Z.a 2) (p4 _ ‹_›) (p4 _ ‹_›)) Z fun aN aO aP aQ w Z=>GA.Dn Z fun w Z=>RG.Ss 0 Z fun w Z=>.d<|.s<|T.GS 15 [aq,ak] Z fun _ w Z=>.r [1]<|GA.Lb (q:=1) 2 1 Z<|.r [3]<|GA.Sb (hhi:=bdI at_) 4 11 0 (at_.toNat) d.list Z fun aR aS Z=>.r [6]<|GA.Lb (q:=1) 7 1 Z<|.r [10]<|GA.Lb (q:=1) 11 1 Z<|.r [12]<|GA.int (i:=13) (at_+2) AA AB<|GA.Sb (hlo:=bdI (at_+2)) 14 12 ((at_+2).toNat) d.list.length d.list Z fun aT aU Z=>.tw 0 8 ?_ ?_
 ·refine GE.N0 Int 0 Z fun aV w Z=>.tw 5 8 ?_ ?_
  ·exact GE.An (hf:=.inr Av) 0 1 ([]:List Int) ((d.list.take (at_.toNat)).drop 0) [1,2] Z fun aW aX w Z=>.go 8<|GE.Nb 1 Z fun aY w Z=>.go 9<|GE.Ap 0 0 ([]++((d.list.take (at_.toNat)).drop 0)) d.next [] [1,2] Z fun aZ ba w Z=>GA.Do Z fun w Z=>RG.An (hf:=.inr Av) 0 0 (([]++((d.list.take (at_.toNat)).drop 0))++[d.next]) ((d.list.take d.list.length).drop ((at_+2).toNat)) Z fun bg bh w Z=>.r 1<|.d<|.s<|T.Gd 13 Z fun w Z=>.r [0]<|GA.Lb 1 2 Z<|GA.Ln 2 1 Z<|.r [3,4,5]<|GA.Lb 6 2 Z<|.r [9,10,11,12]<|.go 7<|GE.CO 0 (fun w Z=>BP d.names (Z.a 12) AB (by intro n hn; have:=p1 n hn; omega)) Z fun bi bj w Z=>.r [8]<|GA.Dn Z fun w Z=>RG.Nl 0 ([(⟨1,d.next,(⟨(BB aa.part ab.part).ids,(BB aa.part ab.part).blocks⟩:Prt),([]:List Int),([]:List (List Tag))⟩:Stp),(⟨2,0,(⟨([]:List Int),([]:List (List Row))⟩:Prt),((([]++((d.list.take (at_.toNat)).drop 0))++[d.next])++((d.list.take d.list.length).drop ((at_+2).toNat))),d.names⟩:Stp),(⟨3,ac,(⟨([]:List Int),([]:List (List Row))⟩:Prt),([]:List Int),([]:List (List Tag))⟩:Stp),(⟨3,ae,(⟨([]:List Int),([]:List (List Row))⟩:Prt),([]:List Int),([]:List (List Tag))⟩:Stp)]:List Stp) [[16,17,13,12],[9,8,11,10],[7,6,5,4],[3,2,1,0]] ((((((((((((((Z.nl Int).nl (List Tag)).sl 1).sl 0).nl Int).nl (List Row)).nl Int).nl (List Row)).nl Int).nl (List Tag)).nl Int).nl (List Row)).nl Int).nl (List Tag)) fun bk w Z=>.r 1<|.d<|T.Rt func55 results55 ⟨Z.rM 0 ([(⟨1,d.next,(⟨(BB aa.part ab.part).ids,(BB aa.part ab.part).blocks⟩:Prt),([]:List Int),([]:List (List Tag))⟩:Stp),(⟨2,0,(⟨([]:List Int),([]:List (List Row))⟩:Prt),((([]++((d.list.take (at_.toNat)).drop 0))++[d.next])++((d.list.take d.list.length).drop ((at_+2).toNat))),d.names⟩:Stp),(⟨3,ac,(⟨([]:List Int),([]:List (List Row))⟩:Prt),([]:List Int),([]:List (List Tag))⟩:Stp),(⟨3,ae,(⟨([]:List Int),([]:List (List Row))⟩:Prt),([]:List Int),([]:List (List Tag))⟩:Stp)]:List Stp) (by rw [Ee ‹_› ‹_› ‹_› ‹_› ‹_› ‹_› ‹_›]),Z.xt⟩
  exact GE.Nb 1 Z fun bm w Z=>.go 5<|GE.An (hf:=.inr Av) 1 1 ([]:List Int) ((d.list.take (at_.toNat)).drop 0) [2,3] Z fun bn bo w Z=>.go 9<|GE.Ap 0 0 ([]++((d.list.take (at_.toNat)).drop 0)) d.next [] [1,2] Z fun bq br w Z=>GA.Do Z fun w Z=>RG.An (hf:=.inr Av) 0 0 (([]++((d.list.take (at_.toNat)).drop 0))++[d.next]) ((d.list.take d.list.length).drop ((at_+2).toNat)) Z fun bu bv w Z=>.r 1<|.d<|.s<|T.Gd 13 Z fun w Z=>.r [0]<|GA.Lb 1 2 Z<|GA.Ln 2 1 Z<|.r [3,4,5]<|GA.Lb 6 2 Z<|.r [9,10,11,12]<|.go 7<|GE.CO 0 (fun w Z=>BP d.names (Z.a 12) AB (by intro n hn; have:=p1 n hn; omega)) Z fun bw bz w Z=>.r [8]<|GA.Dn Z fun w Z=>RG.Nl 0 ([(⟨1,d.next,(⟨(BB aa.part ab.part).ids,(BB aa.part ab.part).blocks⟩:Prt),([]:List Int),([]:List (List Tag))⟩:Stp),(⟨2,0,(⟨([]:List Int),([]:List (List Row))⟩:Prt),((([]++((d.list.take (at_.toNat)).drop 0))++[d.next])++((d.list.take d.list.length).drop ((at_+2).toNat))),d.names⟩:Stp),(⟨3,ac,(⟨([]:List Int),([]:List (List Row))⟩:Prt),([]:List Int),([]:List (List Tag))⟩:Stp),(⟨3,ae,(⟨([]:List Int),([]:List (List Row))⟩:Prt),([]:List Int),([]:List (List Tag))⟩:Stp)]:List Stp) [[16,17,13,12],[9,8,11,10],[7,6,5,4],[3,2,1,0]] ((((((((((((((Z.nl Int).nl (List Tag)).sl 1).sl 0).nl Int).nl (List Row)).nl Int).nl (List Row)).nl Int).nl (List Tag)).nl Int).nl (List Row)).nl Int).nl (List Tag)) fun bA w Z=>.r 1<|.d<|T.Rt func55 results55 ⟨Z.rM 0 ([(⟨1,d.next,(⟨(BB aa.part ab.part).ids,(BB aa.part ab.part).blocks⟩:Prt),([]:List Int),([]:List (List Tag))⟩:Stp),(⟨2,0,(⟨([]:List Int),([]:List (List Row))⟩:Prt),((([]++((d.list.take (at_.toNat)).drop 0))++[d.next])++((d.list.take d.list.length).drop ((at_+2).toNat))),d.names⟩:Stp),(⟨3,ac,(⟨([]:List Int),([]:List (List Row))⟩:Prt),([]:List Int),([]:List (List Tag))⟩:Stp),(⟨3,ae,(⟨([]:List Int),([]:List (List Row))⟩:Prt),([]:List Int),([]:List (List Tag))⟩:Stp)]:List Stp) (by rw [Ee ‹_› ‹_› ‹_› ‹_› ‹_› ‹_› ‹_›]),Z.xt⟩
 exact GE.Nb 1 Z fun bC w Z=>.go 0<|GE.N0 Int 0 Z fun bD w Z=>.go 5<|GE.An (hf:=.inr Av) 0 1 ([]:List Int) ((d.list.take (at_.toNat)).drop 0) [2,3] Z fun bE bF w Z=>.go 9<|GE.Ap 0 1 ([]++((d.list.take (at_.toNat)).drop 0)) d.next [] [1,2] Z fun bG bH w Z=>GA.Do Z fun w Z=>RG.An (hf:=.inr Av) 0 0 (([]++((d.list.take (at_.toNat)).drop 0))++[d.next]) ((d.list.take d.list.length).drop ((at_+2).toNat)) Z fun bI bJ w Z=>.r 1<|.d<|.s<|T.Gd 13 Z fun w Z=>.r [0]<|GA.Lb 1 2 Z<|GA.Ln 2 1 Z<|.r [3,4,5]<|GA.Lb 6 2 Z<|.r [9,10,11,12]<|.go 7<|GE.CO 0 (fun w Z=>BP d.names (Z.a 12) AB (by intro n hn; have:=p1 n hn; omega)) Z fun bK bL w Z=>.r [8]<|GA.Dn Z fun w Z=>RG.Nl 0 ([(⟨1,d.next,(⟨(BB aa.part ab.part).ids,(BB aa.part ab.part).blocks⟩:Prt),([]:List Int),([]:List (List Tag))⟩:Stp),(⟨2,0,(⟨([]:List Int),([]:List (List Row))⟩:Prt),((([]++((d.list.take (at_.toNat)).drop 0))++[d.next])++((d.list.take d.list.length).drop ((at_+2).toNat))),d.names⟩:Stp),(⟨3,ac,(⟨([]:List Int),([]:List (List Row))⟩:Prt),([]:List Int),([]:List (List Tag))⟩:Stp),(⟨3,ae,(⟨([]:List Int),([]:List (List Row))⟩:Prt),([]:List Int),([]:List (List Tag))⟩:Stp)]:List Stp) [[16,17,13,12],[9,8,11,10],[7,6,5,4],[3,2,1,0]] ((((((((((((((Z.nl Int).nl (List Tag)).sl 1).sl 0).nl Int).nl (List Row)).nl Int).nl (List Row)).nl Int).nl (List Tag)).nl Int).nl (List Row)).nl Int).nl (List Tag)) fun bM w Z=>.r 1<|.d<|T.Rt func55 results55 ⟨Z.rM 0 ([(⟨1,d.next,(⟨(BB aa.part ab.part).ids,(BB aa.part ab.part).blocks⟩:Prt),([]:List Int),([]:List (List Tag))⟩:Stp),(⟨2,0,(⟨([]:List Int),([]:List (List Row))⟩:Prt),((([]++((d.list.take (at_.toNat)).drop 0))++[d.next])++((d.list.take d.list.length).drop ((at_+2).toNat))),d.names⟩:Stp),(⟨3,ac,(⟨([]:List Int),([]:List (List Row))⟩:Prt),([]:List Int),([]:List (List Tag))⟩:Stp),(⟨3,ae,(⟨([]:List Int),([]:List (List Row))⟩:Prt),([]:List Int),([]:List (List Tag))⟩:Stp)]:List Stp) (by rw [Ee ‹_› ‹_› ‹_› ‹_› ‹_› ‹_› ‹_›]),Z.xt⟩
end Go.Proofs.YtcginoabkicdiaaGreat
namespace Go.Proofs.YtcginoabkicdiaaGreat
def Blk (b:List Row):Prop:=By none b=true
theorem Bb {o:Option Row}{r:Row}{rs:List Row}:By o (r::rs)=true↔BS r=true∧(∀ q,o=some q→q.t< r.t)∧By (some r) rs=true:=by
 simp only [By,AW]
 cases o <;> simp [and_assoc]
theorem PE {o:Option Row}{b:List Row}(h:By o b=true):Blk b:=by
 cases b with
 | nil=>rfl
 | cons r rs=>exact Bb.2 ⟨(Bb.1 h).1,by simp,(Bb.1 h).2.2⟩
theorem LO {r:Row}(h:BS r=true):0≤r.t∧r.t≤99:=by
 simp only [BS,AW] at h
 exact Bt h.1
theorem RZ {r:Row}(h:BS r=true):-99≤r.v∧r.v≤99:=by
 simp only [BS,AW] at h
 exact Bt h.2
theorem QZ:∀ (b:List Row) (q:Row),By (some q) b=true→q.t≤99→(b.length:Int)≤99 - q.t:=by
 intro b
 induction b with
 | nil=>intro q _ h; simp; omega
 | cons r rs ih =>
   intro q h hq
   obtain ⟨h1,h2,h3⟩:=Bb.1 h
   have h4:=h2 q rfl
   have h5:=LO h1
   have h6:=ih r h3 AB
   simp only [List.length_cons]
   omega
theorem Blk.len {b:List Row}(h:Blk b):b.length≤100:=by
 cases b with
 | nil=>simp
 | cons r rs =>
   obtain ⟨h1,_,h3⟩:=Bb.1 h
   have h5:=LO h1
   have h6:=QZ rs r h3 AB
   simp only [List.length_cons]
   omega
theorem PF:∀ (b:List Row) (o:Option Row),By o b=true→∀ r∈b,BS r=true:=by
 intro b
 induction b with
 | nil=>intro o _ r hr; cases hr
 | cons x xs ih =>
   intro o h r hr
   obtain ⟨h1,_,h3⟩:=Bb.1 h
   rcases List.mem_cons.1 hr with rfl | hr
   ·exact h1
   ·exact ih _ h3 r hr
theorem Blk.rows {b:List Row}(h:Blk b):∀ r∈b,BS r=true:=PF b none h
theorem NZ:∀ (b:List Row) (q:Row),By (some q) b=true→∀ r∈b,q.t< r.t:=by
 intro b
 induction b with
 | nil=>intro q _ r hr; cases hr
 | cons x xs ih =>
   intro q h r hr
   obtain ⟨_,h2,h3⟩:=Bb.1 h
   have h4:=h2 q rfl
   rcases List.mem_cons.1 hr with rfl | hr
   ·exact h4
   ·have:=ih x h3 r hr; omega
def C4 (r:Row):List Row→List Row
 | []=>[r]
 | x::xs=>if r.t< x.t then r::x::xs else if r.t=x.t then r::xs else x::C4 r xs
theorem Na (r:Row):∀ (b out:List Row),(∀ x∈b,r.t< x.t)→Cf out r true b=out++b:=by
 intro b
 induction b with
 | nil=>intro out _; simp [Cf]
 | cons x xs ih =>
   intro out h
   have h1:=h x AD
   have h2:(x.t != r.t)=true:=by simp; omega
   unfold Cf
   simp only [Bool.not_true,Bool.false_and,if_neg,h2,if_true]
   rw [if_neg AD,ih _ (fun y hy=>h y (by simp [hy]))]
   simp
theorem TT (r:Row):∀ (b out:List Row) (o:Option Row),By o b=true→Cf out r false b=out++C4 r b:=by
 intro b
 induction b with
 | nil=>intro out o _; simp [Cf,C4]
 | cons x xs ih =>
   intro out o h
   obtain ⟨_,_,h3⟩:=Bb.1 h
   have hg:=NZ xs x h3
   unfold Cf C4
   by_cases h1:r.t< x.t
   ·have e1:(x.t != r.t)=true:=by simp; omega
    have e2:(!false&&decide (x.t≥r.t))=true:=by simp; omega
    rw [if_pos e2,if_pos e1,if_pos h1,Na r xs _ (fun y hy=>by have:=hg y hy; omega)]
    simp
   ·by_cases h2:r.t=x.t
    ·have e1:¬ (x.t != r.t)=true:=by simp; omega
     have e2:(!false&&decide (x.t≥r.t))=true:=by simp; omega
     rw [if_pos e2,if_neg e1,if_neg h1,if_pos h2,Na r xs _ (fun y hy=>by have:=hg y hy; omega)]
     simp
    ·have e1:(x.t != r.t)=true:=by simp; omega
     have e2:¬ (!false&&decide (x.t≥r.t))=true:=by simp; omega
     rw [if_neg e2,if_pos e1,if_neg h1,if_neg h2,ih _ _ h3]
     simp
theorem F9 {b:List Row}(h:Blk b) (r:Row):EU b r=C4 r b:=by
 unfold EU
 rw [TT r b [] none h]
 rfl
theorem Vj {r:Row}(hr:BS r=true):∀ (b:List Row) (o:Option Row),By o b=true→(∀ q,o=some q→q.t< r.t)→By o (C4 r b)=true:=by
 intro b
 induction b with
 | nil=>intro o _ ho; exact Bb.2 ⟨hr,ho,rfl⟩
 | cons x xs ih =>
   intro o h ho
   obtain ⟨h1,h2,h3⟩:=Bb.1 h
   unfold C4
   split
   ·exact Bb.2 ⟨hr,ho,Bb.2 ⟨h1,fun q hq=>by cases hq; assumption,h3⟩⟩
   ·split
    ·rename_i _ he
     refine Bb.2 ⟨hr,ho,?_⟩
     cases xs with
     | nil=>rfl
     | cons y ys =>
       obtain ⟨g1,g2,g3⟩:=Bb.1 h3
       exact Bb.2 ⟨g1,fun q hq=>by cases hq; have:=g2 x rfl; omega,g3⟩
    ·exact Bb.2 ⟨h1,h2,ih _ h3 (fun q hq=>by cases hq; omega)⟩
theorem Blk.put {b:List Row}(h:Blk b){r:Row}(hr:BS r=true):Blk (EU b r):=by
 rw [F9 h]
 exact Vj hr b none h AD
theorem Blk.nil:Blk []:=rfl
theorem Blk.foldl {b:List Row}:∀ {a:List Row},Blk a→(∀ r∈b,BS r=true)→Blk (b.foldl EU a):=by
 induction b with
 | nil=>intro a h _; exact h
 | cons x xs ih=>intro a h hr; exact ih (h.put (hr x AD)) (fun r hr'=>hr r (by simp [hr']))
theorem Blk.merge {a b:List Row}(ha:Blk a) (hb:Blk b):Blk (Bg a b):=Blk.foldl ha hb.rows
structure PrtI (p:Prt):Prop where
 len:p.ids.length=p.blocks.length
 le:p.blocks.length≤6
 blk:∀ b∈p.blocks,Blk b
theorem PrtI.sz {p:Prt}(h:PrtI p):CR p:=⟨h.len,by have:=h.le; omega,fun b hb=>by have:=(h.blk b hb).len; omega⟩
theorem PrtI.nil:PrtI ⟨[],[]⟩:=⟨rfl,by simp,by simp⟩
theorem PrtI.of {p:Prt}(h:PrtI p) (id:Int):Blk (partOf p id):=by
 rcases Jl id p.ids p.blocks with h1 | h1
 ·unfold partOf; rw [h1]; exact Blk.nil
 ·exact h.blk _ h1
theorem Nc:∀ (bs:List (List Row)) (i:Nat),(BN i bs).1.length=(BN i bs).2.length∧(BN i bs).2.length≤bs.length∧∀ b∈(BN i bs).2,b∈bs:=by
 intro bs
 induction bs with
 | nil=>intro i; simp [BN]
 | cons b bs ih =>
   intro i
   obtain ⟨h1,h2,h3⟩:=ih (i+1)
   unfold BN
   split
   ·refine ⟨by simp [h1],by simp; omega,fun x hx=>?_⟩
    rcases List.mem_cons.1 hx with rfl | hx
    ·simp
    ·exact List.mem_cons_of_mem _ (h3 x hx)
   ·exact ⟨h1,by simp; omega,fun x hx=>List.mem_cons_of_mem _ (h3 x hx)⟩
theorem PrtI.make {bs:List (List Row)}(hl:bs.length≤6) (h:∀ b∈bs,Blk b):PrtI (EC bs):=by
 obtain ⟨h1,h2,h3⟩:=Nc bs 0
 exact ⟨h1,by unfold EC; dsimp only; omega,fun b hb=>h b (h3 b hb)⟩
theorem PrtI.merge {p q:Prt}(hp:PrtI p) (hq:PrtI q):PrtI (BB p q):=by
 refine PrtI.make (by rw [D1]; omega) (fun b hb=>?_)
 simp only [BX,List.mem_map] at hb
 obtain ⟨i,_,rfl⟩:=hb
 exact (hp.of _).merge (hq.of _)
theorem TU:∀ (mem:List Smp) (bl:List (List Row)),bl.length=6→(∀ b∈bl,Blk b)→(∀ m∈mem,BS m.row=true)→(mem.foldl Gy bl).length=6∧∀ b∈mem.foldl Gy bl,Blk b:=by
 intro mem
 induction mem with
 | nil=>intro bl h1 h2 _; exact ⟨h1,h2⟩
 | cons m ms ih =>
   intro bl h1 h2 h3
   refine ih (Gy bl m) (by rw [TP,h1]) (fun b hb=>?_) (fun x hx=>h3 x (by simp [hx]))
   unfold Gy at hb
   rcases List.mem_or_eq_of_mem_set hb with hb | rfl
   ·exact h2 b hb
   ·refine Blk.put ?_ (h3 m AD)
    rw [List.getD_eq_getElem?_getD]
    cases hx:bl[(m.id - 1).toNat]? with
    | none=>exact Blk.nil
    | some y=>exact h2 y (AV hx)
theorem PrtI.mem {mem:List Smp}(h:∀ m∈mem,BS m.row=true):PrtI (Ah mem):=by
 obtain ⟨h1,h2⟩:=TU mem [[],[],[],[],[],[]] rfl (by simp [Blk.nil]) h
 exact PrtI.make AB h2
structure NmI (names:List (List Tag)):Prop where
 len:names.length≤6
 ok:∀ n∈names,As n=true
 nodup:(names.map text).Nodup
theorem Dc {lo hi:Int}{s:Str}(h:My lo hi s=true):s.length=1:=by
 match s,h with
 | [x],_=>rfl
 | [],h=>simp [My] at h
 | x::y::r,h=>simp [My] at h
theorem GZ:∀ (n:List Tag) (o:Option Tag),DW o n=true→∀ t∈n,CX t=true:=by
 intro n
 induction n with
 | nil=>intro o _ t ht; cases ht
 | cons x xs ih =>
   intro o h t ht
   simp only [DW,AW] at h
   rcases List.mem_cons.1 ht with rfl | ht
   ·exact h.1.1
   ·exact ih _ h.2 t ht
theorem FE {n:List Tag}(h:As n=true):n.length≤3∧HA n:=by
 simp only [As,AW] at h
 have h1:=Bt h.2
 refine ⟨by omega,by omega,fun t ht=>?_⟩
 have h2:=GZ n none h.1 t ht
 simp only [CX,AW] at h2
 have h3:=Dc h2.1
 have h4:=Dc h2.2
 omega
theorem NmI.sz {names:List (List Tag)}(h:NmI names):∀ n∈names,HA n:=fun n hn=>(FE (h.ok n hn)).2
theorem PG (t:Str):∀ (ns:List (List Tag)) (i:Nat),(nmF t i ns=0∧t∉ns.map text)∨((i:Int)< nmF t i ns∧nmF t i ns≤i+ns.length∧t∈ns.map text):=by
 intro ns
 induction ns with
 | nil=>intro i; simp [nmF]
 | cons x xs ih =>
   intro i
   unfold nmF
   by_cases h:text x=t
   ·right
    simp [h]
    omega
   ·have h1:¬ (text x==t)=true:=by simpa using h
    rw [if_neg h1]
    rcases ih (i+1) with ⟨h2,h3⟩ | ⟨h2,h3,h4⟩
    ·left
     refine ⟨h2,?_⟩
     simp only [List.map_cons,List.mem_cons,not_or]
     exact ⟨fun e=>h e.symm,h3⟩
    ·right
     refine ⟨by omega,by simp only [List.length_cons]; omega,?_⟩
     simp only [List.map_cons,List.mem_cons]
     exact .inr h4
theorem NmI.add {names:List (List Tag)}{ps:List Pst}(h:NmI names){n:List Tag}(hn:As n=true) (h0:¬ Gx ⟨names,ps⟩ n > 0) (hl:names.length< 6):NmI (names++[n]):=by
 refine ⟨by simp; omega,fun m hm=>?_,?_⟩
 ·rcases List.mem_append.1 hm with hm | hm
  ·exact h.ok m hm
  ·simp at hm; rw [hm]; exact hn
 ·rw [List.map_append]
  refine List.nodup_append.2 ⟨h.nodup,by simp,fun a ha b hb=>?_⟩
  simp at hb
  subst hb
  rintro rfl
  rcases PG (text n) names 0 with ⟨h2,h3⟩ | ⟨h2,_,_⟩
  ·exact h3 ha
  ·exact h0 (by unfold Gx; simpa using h2)
structure StoI (s:Sto):Prop where
 idx:s.idx=idxOf s.idx.names
 nm:NmI s.idx.names
 np:s.parts.length≤6
 part:∀ p∈s.parts,PrtI p
 nm2:s.mem.length≤20
 mem:∀ m∈s.mem,1≤m.id∧m.id≤s.idx.names.length∧BS m.row=true
theorem StoI.sz {s:Sto}(h:StoI s):PD s:=⟨⟨by have:=h.nm.len; omega,h.nm.sz⟩,by have:=h.np; omega,fun p hp=>(h.part p hp).sz,by have:=h.nm2; omega⟩
theorem StoI.copy {s:Sto}(h:StoI s):AY s=s:=by
 have:=h.idx
 unfold AY
 rw [← this]
theorem StoI.Jq {s:Sto}(h:StoI s):∀ m∈s.mem,1≤m.id∧m.id≤6:=fun m hm=>by
 have h1:=h.mem m hm
 have h2:=h.nm.len
 omega
theorem StoI.new:StoI ⟨⟨[],[]⟩,[],[]⟩:=⟨by rfl,⟨by simp,by simp,by simp⟩,by simp,by simp,by simp,by simp⟩
theorem TV {ix:Idx}(h:ix=idxOf ix.names) (hn:NmI ix.names) (n:List Tag) :
 (Ba ix n).1=idxOf (Ba ix n).1.names∧NmI (Ba ix n).1.names∧ix.names.length≤(Ba ix n).1.names.length∧((Ba ix n).2.2=true→1≤(Ba ix n).2.1∧(Ba ix n).2.1≤(Ba ix n).1.names.length):=by
 by_cases h1:Gx ix n > 0
 ·rw [HF h1]
  refine ⟨h,hn,Nat.le_refl _,fun _=>?_⟩
  rcases PG (text n) ix.names 0 with ⟨h2,_⟩ | ⟨h2,h3,_⟩
  ·unfold Gx at h1; omega
  ·unfold Gx at h1 ⊢; simp only; omega
 ·by_cases h2:As n=false∨(ix.names.length:Int)≥6
  ·rw [Ff h1 h2]
   exact ⟨h,hn,Nat.le_refl _,by simp⟩
  ·have h3:As n=true:=by
    cases h4:As n
    ·exact absurd (.inl h4) h2
    ·rfl
   have h4:¬ (ix.names.length:Int)≥6:=fun h=>h2 (.inr h)
   rw [HG h1 h3 h4]
   refine ⟨rfl,?_,by simp [idxOf],fun _=>by simp [idxOf]; omega⟩
   exact NmI.add (ps:=ix.AX) hn h3 h1 AB
theorem StoI.add {s:Sto}(h:StoI s) (n:List Tag) (r:Row):StoI (Ch s n r).1:=by
 unfold Ch
 split
 ·exact h
 ·rename_i h1
  split
  ·exact h
  ·simp only [Bool.or_eq_true,not_or] at h1
   obtain ⟨⟨h1,h2⟩,h3⟩:=h1
   obtain ⟨g1,g2,g3,g4⟩:=TV h.idx h.nm n
   have h5:=g4 (by simpa using h1)
   refine ⟨g1,g2,h.np,h.part,?_,fun m hm=>?_⟩
   ·have:¬ s.mem.length≥20:=by simpa using h3
    simp only [Jp,List.length_append,List.length_cons,List.length_nil]; omega
   ·rcases List.mem_append.1 hm with hm | hm
    ·have:=h.mem m hm
     refine ⟨this.1,?_,this.2.2⟩
     have h6:=this.2.1
     show m.id≤((Ba s.idx n).1.names.length:Int)
     omega
    ·simp at hm
     subst hm
     exact ⟨h5.1,h5.2,by simpa using h2⟩
theorem StoI.flush {s:Sto}(h:StoI s):StoI (BE s).1:=by
 unfold BE
 split
 ·exact h
 ·rename_i h1
  refine ⟨h.idx,h.nm,by simp; omega,fun p hp=>?_,by simp,by simp⟩
  rcases List.mem_append.1 hp with hp | hp
  ·exact h.part p hp
  ·simp at hp; subst hp; exact PrtI.mem (fun m hm=>(h.mem m hm).2.2)
theorem StoI.merge {s:Sto}(h:StoI s) (a:Int):StoI (BI s a).1:=by
 unfold BI
 split
 ·rename_i h1
  have h2:=Bt h1
  have h3:a.toNat+1< s.parts.length:=by omega
  refine ⟨h.idx,h.nm,?_,fun p hp=>?_,h.nm2,h.mem⟩
  ·show (GX s.parts a.toNat).length≤6
   rw [Hu (AU AB) (AU h3)]
   have:=h.np
   simp only [List.length_append,List.length_take,List.length_drop,List.length_cons,List.length_nil]
   omega
  ·change p∈GX s.parts a.toNat at hp
   rw [Hu (AU AB) (AU h3)] at hp
   rcases List.mem_append.1 hp with hp | hp
   ·rcases List.mem_append.1 hp with hp | hp
    ·exact h.part p (List.mem_of_mem_take hp)
    ·simp at hp; subst hp
     exact (h.part _ (List.getElem_mem _)).merge (h.part _ (List.getElem_mem _))
   ·exact h.part p (List.mem_of_mem_drop hp)
 ·exact h
structure DskI (d:Dsk):Prop where
 nm:NmI d.names
 nf:d.files.length≤20
 file:∀ f∈d.files,PrtI f.part
 nl:d.list.length≤6
 there:∀ n∈d.list,∃ f∈d.files,f.num=n
 num:∀ n∈d.list,0≤n∧n≤999
 next:1≤d.next∧d.next≤999
theorem SL (n:Int):∀ (fs:List Fil) (i:Nat),0≤DH n i fs↔∃ f∈fs,f.num=n:=by
 intro fs
 induction fs with
 | nil=>intro i; simp [DH]
 | cons f fs ih =>
   intro i
   unfold DH
   by_cases h:f.num=n
   ·simp [h]
   ·have h1:¬ (f.num==n)=true:=by simpa using h
    rw [if_neg h1,ih]
    simp [h]
theorem Ga (d:Dsk) (n:Int):0≤Al d n↔∃ f∈d.files,f.num=n:=SL n d.files 0
theorem DskI.at {d:Dsk}(h:DskI d):∀ n∈d.list,0≤Al d n:=fun n hn=>(Ga d n).2 (h.there n hn)
theorem DskI.new:DskI ⟨[],[],[],1⟩:=⟨⟨by simp,by simp,by simp⟩,by simp,by simp,by simp,by simp,by simp,by simp⟩
theorem DskI.part {d:Dsk}(h:DskI d) (n:Int):PrtI (Ao d n):=by
 unfold Ao
 rw [List.getD_eq_getElem?_getD]
 cases hx:d.files[(Al d n).toNat]? with
 | none=>exact PrtI.nil
 | some f=>exact h.file f (AV hx)
theorem DskI.copy {d:Dsk}(h:DskI d):DskI (BL d):=by
 refine ⟨h.nm,by simp [BL]; exact h.nf,fun f hf=>?_,h.nl,fun n hn=>?_,h.num,h.next⟩
 ·simp only [BL,List.mem_map] at hf
  obtain ⟨g,hg,rfl⟩:=hf
  exact (h.file g hg).merge PrtI.nil
 ·obtain ⟨f,hf,he⟩:=h.there n hn
  exact ⟨Lx f,by simp only [BL,List.mem_map]; exact ⟨f,hf,rfl⟩,he⟩
theorem DskI.tidy {d:Dsk}(h:DskI d):DskI (BV d):=by
 refine ⟨h.nm,Nat.le_trans (List.length_filter_le _ _) h.nf,fun f hf=>h.file f (List.mem_filter.1 hf).1,h.nl,fun n hn=>?_,h.num,h.next⟩
 obtain ⟨f,hf,he⟩:=h.there n hn
 exact ⟨f,List.mem_filter.2 ⟨hf,by rw [he]; have h1:n∈d.list:=hn; simpa using h1⟩,he⟩
theorem DskI.open {d:Dsk}(h:DskI d):StoI (Aj d):=by
 refine ⟨rfl,h.nm,by simp [Aj]; exact h.nl,fun p hp=>?_,by simp [Aj],by simp [Aj]⟩
 simp only [Aj,List.mem_map] at hp
 obtain ⟨n,_,rfl⟩:=hp
 exact h.part n
theorem DskI.gone {d:Dsk}(h:DskI d) (n:Int):DskI ⟨EI d n,d.list,d.names,d.next⟩:=by
 unfold EI
 split
 ·rename_i h1
  refine ⟨h.nm,?_,fun f hf=>?_,h.nl,fun k hk=>?_,h.num,h.next⟩
  ·have:=h.nf
   simp only [List.length_append,List.length_take,List.length_drop]; omega
  ·rcases List.mem_append.1 hf with hf | hf
   ·exact h.file f (List.mem_of_mem_take hf)
   ·exact h.file f (List.mem_of_mem_drop hf)
  ·obtain ⟨f,hf,he⟩:=h.there k hk
   obtain ⟨i,hi,hif⟩:=List.mem_iff_getElem.1 hf
   have hne:k≠n:=by rintro rfl; have:=h1.2; simp at this; exact this hk
   have hat:∀ (fs:List Fil) (j:Nat) (g:Fil),0≤DH n j fs→fs[(DH n j fs).toNat - j]? = some g→g.num=n:=by
    intro fs
    induction fs with
    | nil=>intro j g hj; simp [DH] at hj
    | cons y ys ih =>
      intro j g hj hg
      unfold DH at hj hg
      by_cases hy:(y.num==n)=true
      ·rw [if_pos hy] at hg
       simp at hg
       subst hg
       simpa using hy
      ·rw [if_neg hy] at hj hg
       have h3:=LN n ys (j+1)
       have h4:(DH n (j+1) ys).toNat - j=((DH n (j+1) ys).toNat - (j+1))+1:=by omega
       rw [h4,List.getElem?_cons_succ] at hg
       exact ih _ _ hj hg
   have hin:i≠(Al d n).toNat:=by
    rintro rfl
    have:=hat d.files 0 f h1.1 (by show d.files[(Al d n).toNat - 0]? = _; rw [Nat.sub_zero,AU hi,hif])
    exact hne (he▸this)
   refine ⟨f,?_,he⟩
   rcases Nat.lt_or_gt_of_ne hin with hlt | hgt
   ·refine List.mem_append.2 (.inl (List.mem_iff_getElem.2 ⟨i,by simp; omega,?_⟩))
    rw [List.getElem_take]; exact hif
   ·refine List.mem_append.2 (.inr (List.mem_iff_getElem.2 ⟨i - ((Al d n).toNat+1),by simp; omega,?_⟩))
    rw [List.getElem_drop]
    simp only [show (Al d n).toNat+1+(i - ((Al d n).toNat+1))=i by omega]
    exact hif
 ·exact h
theorem DskI.XH {d:Dsk}(h:DskI d){p:Prt}(hp:PrtI p) (hf:d.files.length< 20) (hn:d.next< 999):DskI ⟨d.files++[⟨d.next,p⟩],d.list,d.names,d.next+1⟩:=by
 refine ⟨h.nm,by simp; omega,fun f hf=>?_,h.nl,fun n hn=>?_,h.num,by have:=h.next; simp only; omega⟩
 ·rcases List.mem_append.1 hf with hf | hf
  ·exact h.file f hf
  ·simp at hf; subst hf; exact hp
 ·obtain ⟨f,hf,he⟩:=h.there n hn
  exact ⟨f,List.mem_append.2 (.inl hf),he⟩
structure WI (w:Wld):Prop where
 sto:StoI w.store
 dsk:DskI w.disk
theorem WI.new:WI ⟨⟨⟨[],[]⟩,[],[]⟩,⟨[],[],[],1⟩⟩:=⟨StoI.new,DskI.new⟩
theorem WI.VV {w:Wld}(h:DskI w.disk):WI (BY w):=by
 have h1:=h.tidy.copy
 refine ⟨?_,h1⟩
 show StoI (AY (Aj (BL (BV w.disk))))
 rw [h1.open.copy]
 exact h1.open
theorem WI.copy {w:Wld}(h:WI w):WI (Ex w):=⟨by show StoI (AY w.store); rw [h.sto.copy]; exact h.sto,h.dsk.copy⟩
structure StI (d:Dsk) (st:List Stp):Prop where
 len:st.length≤4
 sz:∀ x∈st,KZ x
 ok:∀ k:Nat,DskI ((st.take k).foldl doD d)
theorem StI.nil {d:Dsk}(h:DskI d):StI d []:=⟨by simp,by simp,by simpa using h⟩
theorem Jr {d:Dsk}{x:Stp}{xs:List Stp}(h0:DskI d) (h:∀ k:Nat,DskI ((xs.take k).foldl doD (doD d x))):∀ k:Nat,DskI (((x::xs).take k).foldl doD d):=by
 intro k
 cases k with
 | zero=>exact h0
 | succ k=>exact h k
theorem Ra {d:Dsk}(h0:DskI d):∀ k:Nat,DskI ((([]:List Stp).take k).foldl doD d):=by intro k; simpa using h0
theorem StI.flush {w:Wld}(h:WI w):StI w.disk (BF w.disk w.store):=by
 unfold BF
 split
 ·exact StI.nil h.dsk
 ·rename_i h1
  have hd:=h.dsk
  have hs:=h.sto
  have hp:PrtI (Ah w.store.mem):=PrtI.mem (fun m hm=>(hs.mem m hm).2.2)
  have h2:=hd.XH hp AB AB
  have hn:=hd.next
  refine ⟨by simp,fun x hx=>?_,?_⟩
  ·simp only [List.mem_cons,List.not_mem_nil,or_false] at hx
   rcases hx with rfl | rfl
   ·exact ⟨by simp,by simp,by simp,by simp only; omega,by simp only; omega⟩
   ·refine ⟨?_,?_,fun n hn=>?_,by simp,by simp⟩
    ·have:=hd.nl; simp; omega
    ·have:=hs.nm.len; simp only; omega
    ·have:=(hs.nm.sz n hn).1; omega
  ·refine Jr hd (Jr ?_ (Ra ?_))
   ·rw [FN rfl]; exact h2
   ·rw [HI rfl,FN rfl]
    refine ⟨hs.nm,h2.nf,h2.file,by simp only [List.length_append,List.length_cons,List.length_nil]; omega,fun n hn'=>?_,fun n hn'=>?_,h2.next⟩
    ·rcases List.mem_append.1 hn' with hn' | hn'
     ·exact h2.there n hn'
     ·simp at hn'; subst hn'
      exact ⟨⟨w.disk.next,Ah w.store.mem⟩,by simp,rfl⟩
    ·rcases List.mem_append.1 hn' with hn' | hn'
     ·exact h2.num n hn'
     ·simp at hn'; omega
theorem StI.merge {d:Dsk}(hd:DskI d) (at_:Int):StI d (BG d at_):=by
 unfold BG
 split
 ·exact StI.nil hd
 ·rename_i h1
  simp only [Bool.or_eq_true,not_or,Bool.not_eq_true,Bool.not_eq_false',decide_eq_true_eq] at h1
  obtain ⟨⟨h1,h3⟩,h4⟩:=h1
  have h0:=Bt (by simpa using h1)
  have hl:at_.toNat+1< d.list.length:=by omega
  have ha:d.list.getD at_.toNat 0∈d.list:=by rw [List.getD_eq_getElem?_getD,AU AB]; exact List.getElem_mem _
  have hb:d.list.getD (at_.toNat+1) 0∈d.list:=by rw [List.getD_eq_getElem?_getD,AU hl]; exact List.getElem_mem _
  have na:=hd.num _ ha
  have nb:=hd.num _ hb
  generalize d.list.getD at_.toNat 0=a at *
  generalize d.list.getD (at_.toNat+1) 0=b at *
  have hp:PrtI (BB (Ao d a) (Ao d b)):=(hd.part a).merge (hd.part b)
  have h2:=hd.XH hp AB AB
  have hn:=hd.next
  have hlen:(d.list.take at_.toNat++[d.next]++d.list.drop (at_.toNat+2)).length≤6:=by
   have:=hd.nl
   simp only [List.length_append,List.length_take,List.length_drop,List.length_cons,List.length_nil]; omega
  have hm:∀ n∈d.list.take at_.toNat++[d.next]++d.list.drop (at_.toNat+2),n∈d.list∨n=d.next:=by
   intro n hn
   rcases List.mem_append.1 hn with hn | hn
   ·rcases List.mem_append.1 hn with hn | hn
    ·exact .inl (List.mem_of_mem_take hn)
    ·simp at hn; exact .inr hn
   ·exact .inl (List.mem_of_mem_drop hn)
  have h5:DskI ⟨d.files++[⟨d.next,BB (Ao d a) (Ao d b)⟩],d.list.take at_.toNat++[d.next]++d.list.drop (at_.toNat+2),d.names,d.next+1⟩:=by
   refine ⟨h2.nm,h2.nf,h2.file,hlen,fun n hn'=>?_,fun n hn'=>?_,h2.next⟩
   ·rcases hm n hn' with hn' | rfl
    ·exact h2.there n hn'
    ·exact ⟨⟨d.next,BB (Ao d a) (Ao d b)⟩,by simp,rfl⟩
   ·rcases hm n hn' with hn' | rfl
    ·exact h2.num n hn'
    ·omega
  refine ⟨by simp,fun x hx=>?_,?_⟩
  ·simp only [List.mem_cons,List.not_mem_nil,or_false] at hx
   rcases hx with rfl | rfl | rfl | rfl
   ·exact ⟨by simp,by simp,by simp,by simp only; omega,by simp only; omega⟩
   ·refine ⟨by simp only; omega,by have:=hd.nm.len; simp only; omega,fun n hn=>?_,by simp,by simp⟩
    have:=(hd.nm.sz n hn).1; omega
   ·exact ⟨by simp,by simp,by simp,by simp only; omega,by simp only; omega⟩
   ·exact ⟨by simp,by simp,by simp,by simp only; omega,by simp only; omega⟩
  ·refine Jr hd (Jr ?_ (Jr ?_ (Jr ?_ (Ra ?_))))
   ·rw [FN rfl]; exact h2
   ·rw [HI rfl,FN rfl]; exact h5
   ·rw [Fg rfl,HI rfl,FN rfl]; exact h5.gone a
   ·rw [Fg rfl,Fg rfl,HI rfl,FN rfl]; exact (h5.gone a).gone b
theorem WI.steps {w:Wld}(h:WI w){st:List Stp}(hs:StI w.disk st) (cut:Int){s:Sto}(h2:StoI s):WI (Bo w st cut s):=by
 unfold Bo
 split
 ·exact h
 ·split
  ·exact WI.VV (hs.ok _)
  ·exact ⟨h2,hs.ok _⟩
theorem WI.do {w:Wld}(h:WI w) (e:Evt):WI (doW w e):=by
 unfold doW
 split
 ·split
  ·exact ⟨h.sto.add _ _,h.dsk⟩
  ·exact h
 ·split
  ·exact h.steps (StI.flush h) _ h.sto.flush
  ·split
   ·exact h.steps (StI.merge h.dsk _) _ (h.sto.merge _)
   ·split
    ·exact WI.VV h.dsk
    ·exact h
theorem GB {w:Wld}{st:List Stp}{c:Int}{s:Sto}(h:(st.length:Int)=0∨c< 0):Bo w st c s=w:=by unfold Bo; rw [if_pos AB]
theorem HL {w:Wld}{st:List Stp}{c:Int}{s:Sto}(h:(st.length:Int)≠0) (h2:¬ c< 0) (h3:c< st.length):Bo w st c s=BY ⟨w.store,toD w.disk st c⟩:=by unfold Bo; rw [if_neg AB,if_pos h3]
theorem HM {w:Wld}{st:List Stp}{c:Int}{s:Sto}(h:(st.length:Int)≠0) (h2:¬ c< 0) (h3:¬ c< st.length):Bo w st c s=⟨s,toD w.disk st c⟩:=by unfold Bo; rw [if_neg AB,if_neg h3]
theorem Rc {w:Wld}{e:Evt}(h:e.kind=1) (h2:As e.name=true):doW w e=⟨(Ch w.store e.name e.row).1,w.disk⟩:=by unfold doW; rw [if_pos h,if_pos h2]
theorem OX {w:Wld}{e:Evt}(h:e.kind=1) (h2:As e.name=false):doW w e=w:=by unfold doW; rw [if_pos h,if_neg (by simp [h2])]
theorem PH {w:Wld}{e:Evt}(h:e.kind=2):doW w e=Bo w (BF w.disk w.store) e.cut (BE w.store).1:=by unfold doW; rw [if_neg AB,if_pos h]
theorem PI {w:Wld}{e:Evt}(h:e.kind=3):doW w e=Bo w (BG w.disk e.at_) e.cut (BI w.store e.at_).1:=by unfold doW; rw [if_neg AB,if_neg AB,if_pos h]
theorem TW {w:Wld}{e:Evt}(h:e.kind=4):doW w e=BY w:=by unfold doW; rw [if_neg AB,if_neg AB,if_neg AB,if_pos h]
theorem TX {w:Wld}{e:Evt}(h:e.kind≠1) (h2:e.kind≠2) (h3:e.kind≠3) (h4:e.kind≠4):doW w e=w:=by unfold doW; rw [if_neg h,if_neg h2,if_neg h3,if_neg h4]
end Go.Proofs.YtcginoabkicdiaaGreat
namespace Go.Proofs.YtcginoabkicdiaaGreat
set_option maxRecDepth 100000
set_option maxHeartbeats 4000000
variable {w:World} {F:Nat→Prop} {a1 a2 a3 a4 a5 a6 a7 a8 a9 a10 a11 a12:Option Addr} {n1 c1 n2 c2 n3 c3 n4 c4 n5 c5 n6 c6 n7 c7 n8 c8 n9 c9 n10 c10 n11 c11 n12 c12:Nat}
theorem Lz (w_:Wld) (h1:RepS w F a1 n1 c1 w_.store.idx.names) (h2:RepS w F a2 n2 c2 w_.store.idx.AX) (h3:RepS w F a3 n3 c3 w_.store.parts) (h4:RepS w F a4 n4 c4 w_.store.mem) (h5:RepS w F a5 n5 c5 w_.disk.files) (h6:RepS w F a6 n6 c6 w_.disk.list) (h7:RepS w F a7 n7 c7 w_.disk.names) (p0:WI w_):Calls Tryz.prog 24 [.agg #[.slice a1 n1 c1,.slice a2 n2 c2,.slice a3 n3 c3,.slice a4 n4 c4,.slice a5 n5 c5,.slice a6 n6 c6,.slice a7 n7 c7,.int .i64 w_.disk.next]].toArray w (Af fun rv w'=>(∃ (a0:Option Addr) (n0 c0:Nat) (a1:Option Addr) (n1 c1:Nat) (a2:Option Addr) (n2 c2:Nat) (r3 n3 c3:Nat) (r4 n4 c4:Nat) (r5 n5 c5:Nat) (r6 n6 c6:Nat),rv=.agg #[.slice a0 n0 c0,.slice a1 n1 c1,.slice a2 n2 c2,.slice (some ⟨r3,0,none⟩) n3 c3,.slice (some ⟨r4,0,none⟩) n4 c4,.slice (some ⟨r5,0,none⟩) n5 c5,.slice (some ⟨r6,0,none⟩) n6 c6,.int .i64 ((((Ex w_)).disk).next)]∧RepS w' (nin (ge w.heap.size) [r3,r4,r5,r6]) a0 n0 c0 (((((Ex w_)).store).idx).names)∧RepS w' (nin (ge w.heap.size) [r3,r4,r5,r6]) a1 n1 c1 (((((Ex w_)).store).idx).AX)∧RepS w' (nin (ge w.heap.size) [r3,r4,r5,r6]) a2 n2 c2 ((((Ex w_)).store).parts)∧Own w' r3 158 (nin (ge w.heap.size) [r3,r4,r5,r6]) n3 c3 ((((Ex w_)).store).mem)∧w.heap.size≤r3∧Own w' r4 148 (nin (ge w.heap.size) [r3,r4,r5,r6]) n4 c4 ((((Ex w_)).disk).files)∧w.heap.size≤r4∧Nb r4 r3∧Own w' r5 3 (nin (ge w.heap.size) [r3,r4,r5,r6]) n5 c5 ((((Ex w_)).disk).list)∧w.heap.size≤r5∧Nb r5 r3∧Nb r5 r4∧Own w' r6 69 (nin (ge w.heap.size) [r3,r4,r5,r6]) n6 c6 ((((Ex w_)).disk).names)∧w.heap.size≤r6∧Nb r6 r3∧Nb r6 r4∧Nb r6 r5)∧Ext w w'):=by
 cases h1.len
 cases h2.len
 cases h3.len
 cases h4.len
 cases h5.len
 cases h6.len
 cases h7.len
 refine goT func24 ?_
 have Z:=(((((((St.i0 F w).p h1).p h2).p h3).p h4).p h5).p h6).p h7
 have aR:=h5.max
 have aS:=h6.max
 have aT:=h7.max
 refine .s<|.g<|RG.Np Z fun aU w Z=>RG.Np Z fun aV w Z=>.d<|.s<|T.Gd 5 Z fun w Z=>.r [0]<|GA.Ln 1 1 Z<|.r [3]<|GA.Ln 4 1 Z<|.go 2<|GE.Cg (fun w Z=>HH w_.store (Z.a 6) (Z.a 5) (Z.a 4) (Z.a 3) p0.sto.sz) Z ?_
 rintro w _ w Z ⟨⟨ag,aW,ah,ai,aX,aj,ak,aY,am,ao,aZ,aq,rfl,ar,ax,ay,aa,az⟩,ab⟩
 refine ⟨Ext.chg ab,?_⟩
 cases ar.len
 cases ax.len
 cases ay.len
 cases aa.len
 have Z:=Z.so ab [.own 0 ao 158 aq (((AY w_.store)).mem)] [.rep ag ah ((((AY w_.store)).idx).names),.rep ai aj ((((AY w_.store)).idx).AX),.rep ak am (((AY w_.store)).parts)] nd1 (oN aa az o0) (fc ar (fc ax (fc ay fn_)))
 refine GA.Dn Z fun w Z=>RG.cl (HJ w_.disk (Z.a 5) (Z.a 4) (Z.a 3) (by have:=p0.dsk.nm.len; omega) (fun n hn=>by have:=(p0.dsk.nm.sz n hn).1; omega) (by have:=p0.dsk.nl; omega) (by have:=p0.dsk.nf; omega) (fun f hf=>(p0.dsk.file f hf).sz)) ?_
 rintro _ w ⟨⟨aA,ba,aB,aC,bg,aD,aE,bh,aF,rfl,ac,aG,ae,aH,aI,af,aJ,aK,aL⟩,aM⟩
 cases ac.len
 cases ae.len
 cases af.len
 have Z:=Z.so aM [.own 0 aA 148 aB (((BL w_.disk)).files),.own 0 aC 3 aD (((BL w_.disk)).list),.own 0 aE 69 aF (((BL w_.disk)).names)] [] (nd3 aI aK aL) (oN ac aG (oN ae aH (oN af aJ o0))) fn_
 exact .r 1<|RG.Ss 4 Z fun w Z=>.d<|T.Rb 4 func24 results24 Z ⟨⟨ag,(((((AY w_.store)).idx).names).length),ah,ai,(((((AY w_.store)).idx).AX).length),aj,ak,((((AY w_.store)).parts).length),am,ao,((((AY w_.store)).mem).length),aq,aA,((((BL w_.disk)).files).length),aB,aC,((((BL w_.disk)).list).length),aD,aE,((((BL w_.disk)).names).length),aF,(by rw [show ((((Ex w_)).disk).next)=(((BL w_.disk)).next) from Eq.symm AF]; kernel_rfl),Z.qr [3,0,1,2] 0 ((((AY w_.store)).idx).names) AF,Z.qr [3,0,1,2] 1 ((((AY w_.store)).idx).AX) AF,Z.qr [3,0,1,2] 2 (((AY w_.store)).parts) AF,Z.qo [3,0,1,2] 3 (((AY w_.store)).mem) AF,Z.qb 3,Z.qo [3,0,1,2] 0 (((BL w_.disk)).files) AF,Z.qb 0,Z.qn 0 3,Z.qo [3,0,1,2] 1 (((BL w_.disk)).list) AF,Z.qb 1,Z.qn 1 3,Z.qn 1 0,Z.qo [3,0,1,2] 2 (((BL w_.disk)).names) AF,Z.qb 2,Z.qn 2 3,Z.qn 2 0,Z.qn 2 1⟩,Z.xt⟩
theorem HN (w_:Wld) (h1:RepS w F a1 n1 c1 w_.store.idx.names) (h2:RepS w F a2 n2 c2 w_.store.idx.AX) (h3:RepS w F a3 n3 c3 w_.store.parts) (h4:RepS w F a4 n4 c4 w_.store.mem) (h5:RepS w F a5 n5 c5 w_.disk.files) (h6:RepS w F a6 n6 c6 w_.disk.list) (h7:RepS w F a7 n7 c7 w_.disk.names) (p0:DskI w_.disk):Calls Tryz.prog 56 [.agg #[.slice a1 n1 c1,.slice a2 n2 c2,.slice a3 n3 c3,.slice a4 n4 c4,.slice a5 n5 c5,.slice a6 n6 c6,.slice a7 n7 c7,.int .i64 w_.disk.next]].toArray w (Af fun rv w'=>VS (ge w.heap.size) w' (BY w_:Wld) rv∧Ext w w'):=by
 cases h1.len
 cases h2.len
 cases h3.len
 cases h4.len
 cases h5.len
 cases h6.len
 cases h7.len
 refine goT func56 ?_
 have Z:=(((((((St.i0 F w).p h1).p h2).p h3).p h4).p h5).p h6).p h7
 have aR:=h5.max
 refine .s<|.g<|RG.Np Z fun aU w Z=>RG.Np Z fun aV w Z=>.d<|.s<|.g<|.r 1<|RG.Ln 1 Z<|RG.CS (Lw w_.disk (Z.mg 1 2) (Z.mg 1 1) (Z.mg 1 0) (by have:=p0.nf; omega)) Z fun aW aX aY aZ ba bg w Z=>RG.cl (HJ (BV w_.disk) (Z.a 0) (Z.a 1) (Z.a 2) (by have:=p0.tidy.nm.len; omega) (fun n hn=>by have:=(p0.tidy.nm.sz n hn).1; omega) (by have:=p0.tidy.nl; omega) (by have:=p0.tidy.nf; omega) (fun f hf=>(p0.tidy.file f hf).sz)) ?_
 rintro _ w ⟨⟨az,bh,aA,aB,bi,aC,aD,bj,aE,rfl,aa,af,ab,ag,ah,ac,ai,aj,ak⟩,am⟩
 cases aa.len
 cases ab.len
 cases ac.len
 have Z:=Z.so am [.own 0 az 148 aA (((BL (BV w_.disk))).files),.own 0 aB 3 aC (((BL (BV w_.disk))).list),.own 0 aD 69 aE (((BL (BV w_.disk))).names)] [] (nd3 ah aj ak) (oN aa af (oN ab ag (oN ac ai o0))) fn_
 refine .r 1<|RG.Ss 4 Z fun w Z=>.d<|.s<|.g<|.r 1<|RG.Ln 4 Z ?_
 have Z:=((Z.sl 0).sl 0).sl 0
 refine RG.CS (Ly ((BL (BV w_.disk))) (Z.mg 1 2) (Z.mg 1 1) (Z.mg 1 0) (by have:=p0.tidy.copy.nm.len; omega) p0.tidy.copy.nm.sz (by have:=p0.tidy.copy.nl; omega) p0.tidy.copy.at) Z fun bk bm bn bo bq br bu bv w Z=>RG.cl (HH (⟨(⟨((Aj ((BL (BV w_.disk)))).idx).names,((Aj ((BL (BV w_.disk)))).idx).AX⟩:Idx),(Aj ((BL (BV w_.disk)))).parts,(Aj ((BL (BV w_.disk)))).mem⟩:Sto) (Z.a 0) (Z.a 1) (Z.a 2) (Z.a 3) p0.tidy.copy.open.sz) ?_
 rintro _ w ⟨⟨aF,bw,aG,aH,bz,aI,aJ,bA,aK,aL,bC,aM,rfl,ao,aq,ar,ae,ax⟩,ay⟩
 cases ao.len
 cases aq.len
 cases ar.len
 cases ae.len
 have Z:=Z.so ay [.own 0 aL 158 aM (((AY (⟨(⟨((Aj ((BL (BV w_.disk)))).idx).names,((Aj ((BL (BV w_.disk)))).idx).AX⟩:Idx),(Aj ((BL (BV w_.disk)))).parts,(Aj ((BL (BV w_.disk)))).mem⟩:Sto))).mem)] [.rep aF aG ((((AY (⟨(⟨((Aj ((BL (BV w_.disk)))).idx).names,((Aj ((BL (BV w_.disk)))).idx).AX⟩:Idx),(Aj ((BL (BV w_.disk)))).parts,(Aj ((BL (BV w_.disk)))).mem⟩:Sto))).idx).names),.rep aH aI ((((AY (⟨(⟨((Aj ((BL (BV w_.disk)))).idx).names,((Aj ((BL (BV w_.disk)))).idx).AX⟩:Idx),(Aj ((BL (BV w_.disk)))).parts,(Aj ((BL (BV w_.disk)))).mem⟩:Sto))).idx).AX),.rep aJ aK (((AY (⟨(⟨((Aj ((BL (BV w_.disk)))).idx).names,((Aj ((BL (BV w_.disk)))).idx).AX⟩:Idx),(Aj ((BL (BV w_.disk)))).parts,(Aj ((BL (BV w_.disk)))).mem⟩:Sto))).parts)] nd1 (oN ae ax o0) (fc ao (fc aq (fc ar fn_)))
 refine .r 1<|RG.Ss 2 Z fun w Z=>.d<|.s<|.g<|RG.Ln 2 Z<|RG.Ss 1 Z fun w Z=>.d ?_
 have Z:=Z.sl 0
 exact T.Rb 0 func56 results56 Z ⟨Z.rS (⟨(⟨(⟨(((AY (⟨(⟨((Aj ((BL (BV w_.disk)))).idx).names,((Aj ((BL (BV w_.disk)))).idx).AX⟩:Idx),(Aj ((BL (BV w_.disk)))).parts,(Aj ((BL (BV w_.disk)))).mem⟩:Sto))).idx).names,(((AY (⟨(⟨((Aj ((BL (BV w_.disk)))).idx).names,((Aj ((BL (BV w_.disk)))).idx).AX⟩:Idx),(Aj ((BL (BV w_.disk)))).parts,(Aj ((BL (BV w_.disk)))).mem⟩:Sto))).idx).AX⟩:Idx),((AY (⟨(⟨((Aj ((BL (BV w_.disk)))).idx).names,((Aj ((BL (BV w_.disk)))).idx).AX⟩:Idx),(Aj ((BL (BV w_.disk)))).parts,(Aj ((BL (BV w_.disk)))).mem⟩:Sto))).parts,((AY (⟨(⟨((Aj ((BL (BV w_.disk)))).idx).names,((Aj ((BL (BV w_.disk)))).idx).AX⟩:Idx),(Aj ((BL (BV w_.disk)))).parts,(Aj ((BL (BV w_.disk)))).mem⟩:Sto))).mem⟩:Sto),(⟨((BL (BV w_.disk))).files,((BL (BV w_.disk))).list,((BL (BV w_.disk))).names,((BL (BV w_.disk))).next⟩:Dsk)⟩:Wld) [1,2,3,0,10,9,8] AF,Z.xt⟩
theorem Gq (w_:Wld) (steps:List Stp) (cut:Int) (s:Sto) (h1:RepS w F a1 n1 c1 w_.store.idx.names) (h2:RepS w F a2 n2 c2 w_.store.idx.AX) (h3:RepS w F a3 n3 c3 w_.store.parts) (h4:RepS w F a4 n4 c4 w_.store.mem) (h5:RepS w F a5 n5 c5 w_.disk.files) (h6:RepS w F a6 n6 c6 w_.disk.list) (h7:RepS w F a7 n7 c7 w_.disk.names) (h8:RepS w F a8 n8 c8 steps) (h9:RepS w F a9 n9 c9 s.idx.names) (h10:RepS w F a10 n10 c10 s.idx.AX) (h11:RepS w F a11 n11 c11 s.parts) (h12:RepS w F a12 n12 c12 s.mem) (p0:WI w_) (p1:StI w_.disk steps) (p2:StoI s):Calls Tryz.prog 52 [.agg #[.slice a1 n1 c1,.slice a2 n2 c2,.slice a3 n3 c3,.slice a4 n4 c4,.slice a5 n5 c5,.slice a6 n6 c6,.slice a7 n7 c7,.int .i64 w_.disk.next],.slice a8 n8 c8,.int .i64 cut,.agg #[.slice a9 n9 c9,.slice a10 n10 c10,.slice a11 n11 c11,.slice a12 n12 c12]].toArray w (Af fun rv w'=>VS (fo F w.heap.size) w' (Bo w_ steps cut s:Wld) rv∧Ext w w'):=by
 cases h1.len
 cases h2.len
 cases h3.len
 cases h4.len
 cases h5.len
 cases h6.len
 cases h7.len
 cases h8.len
 cases h9.len
 cases h10.len
 cases h11.len
 cases h12.len
 refine goT func52 ?_
 have Z:=((((((((((((St.i0 F w).p h1).p h2).p h3).p h4).p h5).p h6).p h7).p h8).p h9).p h10).p h11).p h12
 have ai:=h5.max
 have aj:=h6.max
 have am:=h8.max
 exact .s<|.g<|RG.Np Z fun ay w Z=>RG.Np Z fun az w Z=>RG.Np Z fun aA w Z=>.d<|.s<|.s<|.g<|.r 2<|.eq (steps.length:Int) 0 (fun aa=>.r 4<|.d<|.ct<|.s<|.g<|RG.Ln 2 Z<|RG.Ss 0 Z fun w Z=>.d<|T.Rb 0 func52 results52 Z ⟨Z.rS (g:=1) w_ [11,10,9,8,7,6,5] (by rw [GB AB]),Z.xt⟩) fun aa=>.r 2<|.bp (cut< 0) (fun ab=>.r 1<|.d<|.ct<|.s<|.g<|RG.Ln 2 Z<|RG.Ss 0 Z fun w Z=>.d<|T.Rb 0 func52 results52 Z ⟨Z.rS (g:=1) w_ [11,10,9,8,7,6,5] (by rw [GB AB]),Z.xt⟩) fun ab=>.r 1<|.d<|.cf<|.sk<|.s<|.g<|.r 1<|RG.Ln 2 Z<|.r 2<|RG.CS (OW w_.disk steps cut (Z.mg 1 7) (Z.mg 1 6) (Z.mg 1 5) (Z.mg 1 4) (by have:=p0.dsk.nf; omega) (by have:=p1.len; omega) (by have:=p0.dsk.nl; omega) p1.sz) Z fun aB aC aD aE aF aG w Z=>.r 1<|RG.Ss 2 Z fun w Z=>.d<|.s<|.s<|.g<|.r 3<|.bp (cut< (steps.length:Int)) (fun ac=>.d<|.ct<|.s<|.g<|RG.Ln 2 Z<|RG.CS (HN (⟨(⟨(⟨w_.store.idx.names,w_.store.idx.AX⟩:Idx),w_.store.parts,w_.store.mem⟩:Sto),(⟨(toD w_.disk steps cut).files,(toD w_.disk steps cut).list,(toD w_.disk steps cut).names,(toD w_.disk steps cut).next⟩:Dsk)⟩:Wld) (Z.a 14) (Z.a 13) (Z.a 12) (Z.a 11) (Z.a 0) (Z.a 1) (Z.a 2) (p1.ok _)) Z fun aH aI aJ aK aL aM aN aO aP aQ aR aS aT aU w Z=>RG.Ss 0 Z fun w Z=>.d<|T.Rb 0 func52 results52 Z ⟨Z.rS (g:=1) (⟨(⟨(⟨(((BY (⟨(⟨(⟨w_.store.idx.names,w_.store.idx.AX⟩:Idx),w_.store.parts,w_.store.mem⟩:Sto),(⟨(toD w_.disk steps cut).files,(toD w_.disk steps cut).list,(toD w_.disk steps cut).names,(toD w_.disk steps cut).next⟩:Dsk)⟩:Wld)).store).idx).names,(((BY (⟨(⟨(⟨w_.store.idx.names,w_.store.idx.AX⟩:Idx),w_.store.parts,w_.store.mem⟩:Sto),(⟨(toD w_.disk steps cut).files,(toD w_.disk steps cut).list,(toD w_.disk steps cut).names,(toD w_.disk steps cut).next⟩:Dsk)⟩:Wld)).store).idx).AX⟩:Idx),((BY (⟨(⟨(⟨w_.store.idx.names,w_.store.idx.AX⟩:Idx),w_.store.parts,w_.store.mem⟩:Sto),(⟨(toD w_.disk steps cut).files,(toD w_.disk steps cut).list,(toD w_.disk steps cut).names,(toD w_.disk steps cut).next⟩:Dsk)⟩:Wld)).store).parts,((BY (⟨(⟨(⟨w_.store.idx.names,w_.store.idx.AX⟩:Idx),w_.store.parts,w_.store.mem⟩:Sto),(⟨(toD w_.disk steps cut).files,(toD w_.disk steps cut).list,(toD w_.disk steps cut).names,(toD w_.disk steps cut).next⟩:Dsk)⟩:Wld)).store).mem⟩:Sto),(⟨((BY (⟨(⟨(⟨w_.store.idx.names,w_.store.idx.AX⟩:Idx),w_.store.parts,w_.store.mem⟩:Sto),(⟨(toD w_.disk steps cut).files,(toD w_.disk steps cut).list,(toD w_.disk steps cut).names,(toD w_.disk steps cut).next⟩:Dsk)⟩:Wld)).disk).files,((BY (⟨(⟨(⟨w_.store.idx.names,w_.store.idx.AX⟩:Idx),w_.store.parts,w_.store.mem⟩:Sto),(⟨(toD w_.disk steps cut).files,(toD w_.disk steps cut).list,(toD w_.disk steps cut).names,(toD w_.disk steps cut).next⟩:Dsk)⟩:Wld)).disk).list,((BY (⟨(⟨(⟨w_.store.idx.names,w_.store.idx.AX⟩:Idx),w_.store.parts,w_.store.mem⟩:Sto),(⟨(toD w_.disk steps cut).files,(toD w_.disk steps cut).list,(toD w_.disk steps cut).names,(toD w_.disk steps cut).next⟩:Dsk)⟩:Wld)).disk).names,((BY (⟨(⟨(⟨w_.store.idx.names,w_.store.idx.AX⟩:Idx),w_.store.parts,w_.store.mem⟩:Sto),(⟨(toD w_.disk steps cut).files,(toD w_.disk steps cut).list,(toD w_.disk steps cut).names,(toD w_.disk steps cut).next⟩:Dsk)⟩:Wld)).disk).next⟩:Dsk)⟩:Wld) [0,1,2,3,4,5,6] (by rw [HL AB AB AB]),Z.xt⟩) fun ac=>.d<|.cf<|.sk<|.s<|.g<|RG.Ln 1 Z<|.r 1<|RG.Ss 2 Z fun w Z=>.d<|.s<|.g<|RG.Ln 2 Z<|RG.Ss 0 Z fun w Z=>.d<|T.Rb 0 func52 results52 Z ⟨Z.rS (g:=1) (⟨(⟨(⟨s.idx.names,s.idx.AX⟩:Idx),s.parts,s.mem⟩:Sto),(⟨(toD w_.disk steps cut).files,(toD w_.disk steps cut).list,(toD w_.disk steps cut).names,(toD w_.disk steps cut).next⟩:Dsk)⟩:Wld) [6,5,4,3,0,1,2] (by rw [HM AB AB AB]),Z.xt⟩
end Go.Proofs.YtcginoabkicdiaaGreat
namespace Go.Proofs.YtcginoabkicdiaaGreat
def XI (n m:Nat) (ops:Array Oper) (l is:List Nat) (e:Env):Bool :=
 is.all (fun i=>Cr n m ops l i&&CC n ops i e)&&decide (LZ ops l=is) && !is.isEmpty
section
variable {P:Program} {S:Nat→Prop} {n m:Nat} {L:Env→World→Prop} {ops:Array Oper} {l:List Nat} {e:Env} {w:World}
theorem GE.many (is:List Nat) (h:XI n m ops l is e=true) (H:∀ i∈is,GE P S n m L ops l i e w):GA P S n m L ops l e w:=by
 intro hB f a hf ha inv
 simp only [XI,AW,decide_eq_true_eq,List.all_eq_true] at h
 obtain ⟨⟨h1,hready⟩,hne⟩:=h
 rw [Ji] at hready
 have hne:is≠[]:=by rintro rfl; simp at hne
 obtain ⟨i0,hi0⟩:=List.exists_mem_of_ne_nil is hne
 have hlm:=(Dl (h1 i0 hi0).1).1
 obtain ⟨f,rfl⟩:∃ g,f=g+1:=⟨f - 1,by omega⟩
 have key:∀ k,Cr n m ops l k=true→CC n ops k e=true→GE P S n m L ops l k e w→∀ w1,Ext w w1→k< m∧gOp P S ops k (Kk P S ops m (fun listed a' w'=>listed=fin ops m∧∃ e',Sees n a' e'∧L e' w') f ((lst ops.size l).setIfInBounds k true)) a w1:=by
  intro k hk1 hk2 HK w1 hx
  obtain ⟨_,him,hd,hi,hr⟩:=Dl hk1
  refine ⟨him,?_⟩
  simp only [CC,AW] at hk2
  unfold gOp
  simp only [hi]
  rw [ha.want,hk2.2,if_pos rfl,ha.eval]
  refine Ea (fun v w2 _ hq=>?_) (HK w1 hx)
  have:=hq hB f (a.put (Ad ops k).dst v) (by simp only [List.length_cons]; omega) (ha.Mt hd v) (by rw [Cz]; exact inv.set hr him)
  rwa [Cz] at this
 refine ⟨by rw [hready]; exact hne,fun w1 hx k hk=>?_⟩
 rw [hready] at hk
 exact key k (h1 k hk).1 (h1 k hk).2 (H k hk) w1 hx
end
theorem GA.quo {P:Program}{S:Nat→Prop}{n m:Nat}{L:Env→World→Prop}{ops:Array Oper}{l:List Nat}{e:Env}{w:World}{i:Nat}{t:TypeId}{a b:Int}(hb:gB n m ops l i=true) (h:G8 n ops i e=some (.quo,t,.int .i64 a,.int .i64 b)) (hb0:b≠0) (hr:-9223372036854775808≤a.tdiv b∧a.tdiv b≤9223372036854775807)
 (H:GA P S n m L ops (i::l) (Ag e (Ad ops i).dst (.int .i64 (a.tdiv b))) w):GA P S n m L ops l e w :=
 GA.OM hb (fun w=>Ei h (fun _ _=>RM hb0 hr w)) H
theorem Cov.mk1 (w:World) (b:Nat):Cov (Go.Proofs.YtcginoabkicdiaaGreat.one b) w b:=⟨.inl rfl⟩
instance {w:World}{b:Nat}:Cov (Go.Proofs.YtcginoabkicdiaaGreat.one b) w b:=⟨.inl rfl⟩
def pA (t:Tag):Prop:=t.key.length≤1000∧t.val.length≤1000
def NmD (n:List Tag):Prop:=n.length≤5∧∀ t∈n,pA t
def PJ (r:Row):Prop:=-1≤r.t∧r.t≤100 ∧ -100≤r.v∧r.v≤100
end Go.Proofs.YtcginoabkicdiaaGreat
namespace Go.Proofs.YtcginoabkicdiaaGreat
def Vk (P:Program) (s d:TypeId):Bool :=
 match P.underlying s,P.underlying d with
 | some (.slice e),some .string=>(match P.underlying e with | some (.int .u8)=>true | _=>false)
 | _,_=>false
theorem L1 {P:Program}{w:World}{r:Nat}{src dst:TypeId}{y:UInt8}{c:Nat}(h:Has w ⟨r,0,none⟩ [.int .u8 (y.toNat:Int)]) (hb:Vk P src dst=true) :
 (convert src dst (.slice (some ⟨r,0,none⟩) 1 c)).run P w=.ok (.string (bs [y])) w:=by
 unfold Vk at hb
 split at hb
 ·rename_i e h1 h2
  split at hb
  ·rename_i h3
   have h4:=run_loadCellsFrom (P:=P) ⟨r,0,none⟩ [.int .u8 (y.toNat:Int)] 0 #[] _ rfl h
   have h5:(loadCells ⟨r,0,none⟩ 1).run P w=.ok #[.int .u8 (y.toNat:Int)] w:=h4
   have h6:(Conv.bytesToString (.slice (some ⟨r,0,none⟩) 1 c)).run P w=.ok (.string (bs [y])) w:=by
    unfold Conv.bytesToString
    simp only []
    rw [AZ h5]
    simp [go_sem]
    rfl
   unfold convert
   rw [AZ (run_underlying h1 w),AZ (run_underlying h2 w)]
   simp only []
   rw [AZ (run_underlying h3 w)]
   exact h6
  ·cases hb
 ·cases hb
def TY (n:Nat) (ops:Array Oper) (j:Nat) (e:Env):Option (TypeId × TypeId × Value) :=
 bif CC n ops j e then
  match (Ad ops j).op with
  | .convert s d x=>some (s,d,ev e x)
  | _=>none
 else none
theorem Js {P:Program}{n:Nat}{ops:Array Oper}{j:Nat}{e:Env}{s d:TypeId}{a v:Value}{w:World}(h:TY n ops j e=some (s,d,a))
 (hr:(convert s d a).run P w=.ok v w):CC n ops j e=true∧(execOp (ev e) (Ad ops j)).run P w=.ok (.value v) w:=by
 obtain ⟨hg,h⟩:=CG h
 refine ⟨hg,?_⟩
 split at h
 ·rename_i s' d' x hop
  simp only [Option.some.injEq,Prod.mk.injEq] at h
  obtain ⟨rfl,rfl,rfl⟩:=h
  simp only [execOp,hop]
  exact AZ hr
 ·cases h
theorem GA.b2s {P:Program}{n m:Nat}{L:Env→World→Prop}{ops:Array Oper}{l:List Nat}{e:Env}{w:World}{i:Nat}{s d:TypeId}{r c:Nat}{y:UInt8}{t:TypeId}{F:Nat→Prop}
 (hb:gB n m ops l i=true) (ho:Own w r t F 1 c [y]) (h:TY n ops i e=some (s,d,.slice (some ⟨r,0,none⟩) 1 c)) (ht:Vk P s d=true)
 (H:GA P nil n m L ops (i::l) (Ag e (Ad ops i).dst (.string (bs [y]))) w):GA P nil n m L ops l e w:=by
 obtain ⟨cs,h1,h2⟩:=ho.elem 0 y rfl
 cases h1
 have h3:Has w ⟨r,0,none⟩ [.int .u8 (y.toNat:Int)]:=by simpa using h2
 have h4:=Js (P:=P) (w:=w) h (L1 h3 ht)
 refine GA.det (by unfold gB at hb; rw [hb,h4.1]; rfl) (fun w1 hx=>?_) H
 exact (Js (P:=P) (w:=w1) h (L1 (h3.ext hx) ht)).2
end Go.Proofs.YtcginoabkicdiaaGreat
namespace Go.Proofs.YtcginoabkicdiaaGreat
theorem NmD.sz {n:List Tag}(h:NmD n):HA n:=⟨Nat.le_trans h.1 AE,h.2⟩
theorem NmD.nil:NmD []:=⟨by simp,by simp⟩
def NsD (ns:List (List Tag)):Prop:=∀ n∈ns,NmD n
structure WD (w:Wld):Prop where
 wi:WI w
 sn:NsD w.store.idx.names
 dn:NsD w.disk.names
theorem NsD.nil:NsD []:=by intro n hn; cases hn
theorem WD.new:WD ⟨⟨⟨[],[]⟩,[],[]⟩,⟨[],[],[],1⟩⟩:=⟨WI.new,NsD.nil,NsD.nil⟩
theorem SM (Q:List (List Tag)→Prop):∀ (st:List Stp) (d:Dsk),Q d.names→(∀ x∈st,x.kind=2→Q x.names)→Q (st.foldl doD d).names:=by
 intro st
 induction st with
 | nil=>intro d h _; exact h
 | cons x xs ih =>
   intro d h hs
   refine ih (doD d x) ?_ (fun y hy=>hs y (by simp [hy]))
   unfold doD
   split
   ·exact h
   ·split
    ·exact hs x AD ‹_›
    ·split
     ·exact h
     ·exact h
theorem WD.steps {w:Wld}(h:WD w){st:List Stp}(hs:∀ x∈st,x.kind=2→NsD x.names) (cut:Int){s:Sto}(h2:NsD s.idx.names):NsD (Bo w st cut s).store.idx.names∧NsD (Bo w st cut s).disk.names:=by
 have h3:NsD (toD w.disk st cut).names:=SM NsD _ _ h.dn (fun x hx hk=>hs x (List.mem_of_mem_take hx) hk)
 unfold Bo
 split
 ·exact ⟨h.sn,h.dn⟩
 ·split
  ·exact ⟨h3,h3⟩
  ·exact ⟨h2,h3⟩
theorem Qa {s:Sto}{n:List Tag}{r:Row}(h:NsD s.idx.names) (hn:NmD n):NsD (Ch s n r).1.idx.names:=by
 have h1:NsD (Ba s.idx n).1.names:=by
  unfold Ba
  split
  ·exact h
  ·split
   ·exact h
   ·intro m hm
    rcases List.mem_append.1 hm with hm | hm
    ·exact h m hm
    ·simp at hm; rw [hm]; exact hn
 unfold Ch
 split
 ·exact h
 ·split
  ·exact h
  ·exact h1
theorem Qb (s:Sto):(BE s).1.idx=s.idx:=by unfold BE; split <;> rfl
theorem Qc (s:Sto) (a:Int):(BI s a).1.idx=s.idx:=by unfold BI; split <;> rfl
theorem SN {w:Wld}(h:WD w):∀ x∈BF w.disk w.store,x.kind=2→NsD x.names:=by
 unfold BF
 split
 ·intro x hx; cases hx
 ·intro x hx _
  simp only [List.mem_cons,List.not_mem_nil,or_false] at hx
  rcases hx with rfl | rfl
  ·exact NsD.nil
  ·exact h.sn
theorem SO {d:Dsk}(h:NsD d.names) (a:Int):∀ x∈BG d a,x.kind=2→NsD x.names:=by
 unfold BG
 split
 ·intro x hx; cases hx
 ·intro x hx _
  simp only [List.mem_cons,List.not_mem_nil,or_false] at hx
  rcases hx with rfl | rfl | rfl | rfl
  ·exact NsD.nil
  ·exact h
  ·exact NsD.nil
  ·exact NsD.nil
theorem WD.do {w:Wld}(h:WD w){e:Evt}(he:NmD e.name):WD (doW w e):=by
 have key:NsD (doW w e).store.idx.names∧NsD (doW w e).disk.names:=by
  unfold doW
  split
  ·split
   ·exact ⟨Qa h.sn he,h.dn⟩
   ·exact ⟨h.sn,h.dn⟩
  ·split
   ·exact h.steps (SN h) _ (by rw [Qb]; exact h.sn)
   ·split
    ·exact h.steps (SO h.dn _) _ (by rw [Qc]; exact h.sn)
    ·split
     ·exact ⟨h.dn,h.dn⟩
     ·exact ⟨h.sn,h.dn⟩
 exact ⟨h.wi.do e,key.1,key.2⟩
theorem WD.copy {w:Wld}(h:WD w):WD (Ex w):=⟨h.wi.copy,h.sn,h.dn⟩
def EvD (e:Evt):Prop:=NmD e.name∧PJ e.row
structure SD (s:Sto):Prop where
 idx:s.idx=idxOf s.idx.names
 nm:NmI s.idx.names
 nd:NsD s.idx.names
 np:s.parts.length≤6
 part:∀ p∈s.parts,PrtI p
 nm2:s.mem.length≤21
 mem:∀ m∈s.mem,0≤m.id∧m.id≤7∧PJ m.row
theorem PK {r:Row}(h:BS r=true):PJ r:=by
 have h1:=LO h
 have h2:=RZ h
 unfold PJ
 omega
theorem WD.sd {w:Wld}(h:WD w):SD w.store:=⟨h.wi.sto.idx,h.wi.sto.nm,h.sn,h.wi.sto.np,h.wi.sto.part,by have:=h.wi.sto.nm2; omega,fun m hm=>by
 have h1:=h.wi.sto.Jq m hm
 exact ⟨by omega,by omega,PK (h.wi.sto.mem m hm).2.2⟩⟩
end Go.Proofs.YtcginoabkicdiaaGreat
namespace Go.Proofs.YtcginoabkicdiaaGreat
def Ey:List Tag:=(List.range' 97 4).flatMap (fun k=>(List.range' 112 11).map (Gp k))
theorem SQ (names:List (List Tag)) (k:Nat):∀ f v,Fs names k f v=((List.range' v f).map (Gp k)).flatMap (D3 names):=by
 intro f
 induction f with
 | zero=>intro v; rfl
 | succ f ih=>intro v; rw [Fs,ih,List.range'_succ]; rfl
theorem SR (names:List (List Tag)):∀ f k,FL names f k=((List.range' k f).flatMap (fun k=>(List.range' 112 11).map (Gp k))).flatMap (D3 names):=by
 intro f
 induction f with
 | zero=>intro k; rfl
 | succ f ih=>intro k; rw [FL,ih,SQ,show List.range' k (f+1)=k::List.range' (k+1) f from rfl,List.flatMap_cons,List.flatMap_append]
theorem FO (names:List (List Tag)):Be names=Ey.flatMap (D3 names):=SR names 4 97
theorem I6:Ey.Pairwise (fun a b=>CM a b=true):=by decide +kernel
theorem SS {t:Tag}(h:CX t=true):t∈Ey:=by
 simp only [CX,AW] at h
 obtain ⟨h1,h2⟩:=h
 obtain ⟨x,hx⟩:∃ x,t.key=[x]:=by
  have:=Dc h1
  match t.key,this with
  | [x],_=>exact ⟨x,rfl⟩
 obtain ⟨y,hy⟩:∃ y,t.val=[y]:=by
  have:=Dc h2
  match t.val,this with
  | [y],_=>exact ⟨y,rfl⟩
 rw [hx] at h1
 rw [hy] at h2
 have g1:=Bt h1
 have g2:=Bt h2
 unfold Ey
 refine List.mem_flatMap.2 ⟨x.toNat,?_,List.mem_map.2 ⟨y.toNat,?_,?_⟩⟩
 ·rw [List.mem_range'_1]; omega
 ·rw [List.mem_range'_1]; omega
 ·cases t
  simp only at hx hy
  subst hx hy
  simp [Gp]
theorem Hx {names:List (List Tag)}{p:Pst}(h:p∈Be names):p.ids=ids names p.tag∧0< p.ids.length∧p.tag∈Ey:=by
 rw [FO] at h
 obtain ⟨t,ht,hp⟩:=List.mem_flatMap.1 h
 unfold D3 at hp
 split at hp
 ·simp at hp
  subst hp
  exact ⟨rfl,by assumption,ht⟩
 ·cases hp
theorem PL {names:List (List Tag)}{t:Tag}(h:t∈Ey) (h2:0< (ids names t).length):⟨t,ids names t⟩∈Be names:=by
 rw [FO]
 refine List.mem_flatMap.2 ⟨t,h,?_⟩
 unfold D3
 rw [if_pos h2]
 simp
theorem Gc (names:List (List Tag)):(Be names).Pairwise (fun a b=>CM a.tag b.tag=true):=by
 rw [FO,List.pairwise_flatMap]
 refine ⟨fun t _=>?_,I6.imp ?_⟩
 ·unfold D3
  split <;> simp
 ·intro a b hab x hx y hy
  have h1:x.tag=a:=by
   unfold D3 at hx
   split at hx
   ·simp at hx; rw [hx]
   ·cases hx
  have h2:y.tag=b:=by
   unfold D3 at hy
   split at hy
   ·simp at hy; rw [hy]
   ·cases hy
  rw [h1,h2]
  exact hab
def Ct (names:List (List Tag)):Nat:=(names.map List.length).sum
def Ez (ps:List Pst):Nat:=(ps.map (fun p=>p.ids.length)).sum
theorem TZ (t:Tag):∀ (ns:List (List Tag)) (i:Nat),(FZ t i ns).length=(ns.map (fun n=>if has n t then 1 else 0)).sum:=by
 intro ns
 induction ns with
 | nil=>intro i; rfl
 | cons n ns ih =>
   intro i
   rw [FZ,List.length_append,ih,List.map_cons,List.sum_cons]
   split <;> simp_all
theorem PM (names:List (List Tag)):Ez (Be names)=(Ey.map (fun t=>(ids names t).length)).sum:=by
 rw [FO]
 generalize Ey=U
 induction U with
 | nil=>rfl
 | cons t ts ih =>
   rw [List.flatMap_cons]
   unfold Ez at ih ⊢
   rw [List.map_append,List.sum_append,ih,List.map_cons,List.sum_cons]
   congr 1
   unfold D3
   split
   ·simp
   ·simp; omega
theorem L2 {α:Type}(U:List α) (f:α→Nat) (h:∀ a∈U,f a=0):(U.map f).sum=0:=by
 induction U with
 | nil=>rfl
 | cons a U ih=>rw [List.map_cons,List.sum_cons,h a AD,ih (fun b hb=>h b (by simp [hb]))]
theorem Re {α:Type}(U:List α) (f g:α→Nat):(U.map (fun a=>f a+g a)).sum=(U.map f).sum+(U.map g).sum:=by
 induction U with
 | nil=>rfl
 | cons a U ih=>simp only [List.map_cons,List.sum_cons,ih]; omega
theorem Vl {U:List Tag}(hU:U.Nodup){t:Tag}(ht:t∈U):(U.map (fun u=>if t==u then 1 else 0)).sum=1:=by
 induction U with
 | nil=>cases ht
 | cons a U ih =>
   rw [List.map_cons,List.sum_cons]
   obtain ⟨h1,h2⟩:=List.nodup_cons.1 hU
   rcases List.mem_cons.1 ht with rfl | ht
   ·rw [L2 U _ (fun b hb=>by
     have:¬ (t==b)=true:=fun e=>h1 (by rw [eq_of_beq e]; exact hb)
     simp only [this]; rfl)]
    simp
   ·have:¬ (t==a)=true:=fun e=>h1 (by rw [← eq_of_beq e]; exact ht)
    rw [ih h2 ht,if_neg this]
theorem Vm {U:List Tag}(hU:U.Nodup):∀ (n:List Tag),n.Nodup→(∀ t∈n,t∈U)→(U.map (fun u=>if has n u then 1 else 0)).sum=n.length:=by
 intro n
 induction n with
 | nil=>intro _ _; exact L2 U _ (fun a _=>by simp [has])
 | cons t ts ih =>
   intro hn hm
   obtain ⟨h1,h2⟩:=List.nodup_cons.1 hn
   have e:(U.map (fun u=>if has (t::ts) u then 1 else 0))=U.map (fun u=>(if t==u then 1 else 0)+(if has ts u then 1 else 0)):=by
    apply List.map_congr_left
    intro u _
    by_cases hu:(t==u)=true
    ·have h3:has ts u=false:=by
      rw [← eq_of_beq hu]
      unfold has
      rw [List.any_eq_false]
      intro x hx hxt
      exact h1 (by rw [← eq_of_beq hxt]; exact hx)
     simp [has,hu]
     unfold has at h3
     rw [List.any_eq_false] at h3
     exact fun hm=>h3 u hm AD
    ·simp [has,hu]
   rw [e,Re,Vl hU (hm t AD),ih h2 (fun x hx=>hm x (by simp [hx])),List.length_cons]
   omega
theorem Hy:∀ (s:Str),Bh s s=false:=by
 intro s
 induction s with
 | nil=>rfl
 | cons x xs ih =>
   have ih':Op.bytesLess xs xs=false:=ih
   show (decide (x< x) || x==x&&Op.bytesLess xs xs)=false
   simp [ih']
theorem Nd {a b:Tag}(ha:CX a=true) (hb:CX b=true) (h:Bh a.key b.key=true):∃ x y,a.key=[x]∧b.key=[y]∧x.toNat< y.toNat:=by
 simp only [CX,AW] at ha hb
 have h1:=Dc ha.1
 have h2:=Dc hb.1
 match ha':a.key,h1,hb':b.key,h2 with
 | [x], _, [y], _ =>
   rw [ha',hb',Lk] at h
   exact ⟨x,y,rfl,rfl,by simpa using h⟩
theorem Qd:∀ (n:List Tag) (o:Option Tag),DW o n=true→(∀ q,o=some q→CX q=true)→(∀ q,o=some q→∀ t∈n,Bh q.key t.key=true)∧n.Nodup:=by
 intro n
 induction n with
 | nil=>intro o _ _; exact ⟨fun _ _ t ht=>(by cases ht),by simp⟩
 | cons t ts ih =>
   intro o h ho
   simp only [DW,AW] at h
   obtain ⟨⟨h1,h2⟩,h3⟩:=h
   obtain ⟨g1,g2⟩:=ih (some t) h3 (fun q hq=>by cases hq; exact h1)
   refine ⟨fun q hq u hu=>?_,List.nodup_cons.2 ⟨fun hm=>?_,g2⟩⟩
   ·subst hq
    have h4:Bh q.key t.key=true:=h2
    rcases List.mem_cons.1 hu with rfl | hu
    ·exact h4
    ·have h5:=g1 t rfl u hu
     obtain ⟨x,y,e1,e2,l1⟩:=Nd (ho q rfl) h1 h4
     obtain ⟨y',z,e3,e4,l2⟩:=Nd h1 (GZ ts (some t) h3 u hu) h5
     rw [e2] at e3
     cases e3
     rw [e1,e4,Lk]
     simp; omega
   ·have h5:=g1 t rfl t hm
    rw [Hy] at h5
    cases h5
theorem E7 {n:List Tag}(h:As n=true):n.Nodup∧∀ t∈n,t∈Ey:=by
 simp only [As,AW] at h
 exact ⟨(Qd n none h.1 AD).2,fun t ht=>SS (GZ n none h.1 t ht)⟩
theorem PN:Ey.Nodup:=I6.imp (fun {a b} h e=>by
 subst e
 unfold CM at h
 simp [Hy] at h)
theorem Ta {names:List (List Tag)}(h:∀ n∈names,As n=true):Ez (Be names)=Ct names:=by
 rw [PM]
 unfold ids
 have e:(Ey.map (fun t=>(FZ t 0 names).length))=Ey.map (fun t=>(names.map (fun n=>if has n t then 1 else 0)).sum):=by
  apply List.map_congr_left
  intro t _
  exact TZ t names 0
 rw [e]
 clear e
 induction names with
 | nil=>exact L2 _ _ (fun _ _=>rfl)
 | cons n ns ih =>
   have e:(Ey.map (fun t=>((n::ns).map (fun n=>if has n t then 1 else 0)).sum))=Ey.map (fun t=>(if has n t then 1 else 0)+(ns.map (fun n=>if has n t then 1 else 0)).sum):=by
    apply List.map_congr_left
    intro t _
    rfl
   have g:=E7 (h n AD)
   rw [e,Re,Vm PN n g.1 g.2,ih (fun m hm=>h m (by simp [hm]))]
   rfl
end Go.Proofs.YtcginoabkicdiaaGreat
namespace Go.Proofs.YtcginoabkicdiaaGreat
structure IxI (x:Idx):Prop where
 eq:x=idxOf x.names
 nm:NmI x.names
theorem IxI.AX {x:Idx}(h:IxI x):x.AX=Be x.names:=by have:=h.eq; rw [this]; rfl
theorem IxI.sz {x:Idx}(h:IxI x):TQ x:=⟨by have:=h.nm.len; omega,h.nm.sz⟩
theorem SD.ix {s:Sto}(h:SD s):IxI s.idx:=⟨h.idx,h.nm⟩
theorem SD.sz {s:Sto}(h:SD s):PD s:=⟨h.ix.sz,by have:=h.np; omega,fun p hp=>(h.part p hp).sz,by have:=h.nm2; omega⟩
theorem Tb {names:List (List Tag)}(h:(names.map text).Nodup){i k:Nat}{x y:List Tag}(hx:names[i]? = some x) (hy:names[k]? = some y) (hk:k< i):¬ (text x=text y):=by
 intro e
 have h1:(names.map text)[i]? = some (text x):=by rw [List.getElem?_map,hx]; rfl
 have h2:(names.map text)[k]? = some (text y):=by rw [List.getElem?_map,hy]; rfl
 obtain ⟨g1,g2⟩:=List.getElem?_eq_some_iff.1 h1
 obtain ⟨g3,g4⟩:=List.getElem?_eq_some_iff.1 h2
 exact (List.pairwise_iff_getElem.1 h) k i g3 g1 hk (by rw [g2,g4,e])
theorem I7 (names:List (List Tag)) (t:Tag):(ids names t).length≤names.length:=by
 unfold ids
 have:∀ (ns:List (List Tag)) (i:Nat),(FZ t i ns).length≤ns.length:=by
  intro ns
  induction ns with
  | nil=>intro i; simp [FZ]
  | cons n ns ih =>
    intro i
    have:=ih (i+1)
    rw [FZ,List.length_append,List.length_cons]
    split <;> simp <;> omega
 exact this names 0
theorem LP {α:Type}{f:α→Nat}{l:List α}{i:Nat}{x:α}(h:l[i]? = some x):((l.take (i+1)).map f).sum=((l.take i).map f).sum+f x:=by
 obtain ⟨h1,h2⟩:=List.getElem?_eq_some_iff.1 h
 rw [List.take_add_one,h]
 simp
theorem Qe {names:List (List Tag)}{i:Nat}{x y:Pst}(hx:(Be names)[i]? = some x) (hy:(Be names)[i - 1]? = some y) (hi:0< i):CM y.tag x.tag=true:=by
 have h:=Gc names
 rw [List.pairwise_iff_getElem] at h
 obtain ⟨g1,g2⟩:=List.getElem?_eq_some_iff.1 hx
 obtain ⟨g3,g4⟩:=List.getElem?_eq_some_iff.1 hy
 have:=h (i - 1) i g3 g1 AB
 rw [g2,g4] at this
 exact this
theorem Nf (names:List (List Tag)):(Be names).length≤44:=by
 rw [FO]
 have h:∀ U:List Tag,(U.flatMap (D3 names)).length≤U.length:=by
  intro U
  induction U with
  | nil=>simp
  | cons t ts ih =>
    rw [List.flatMap_cons,List.length_append,List.length_cons]
    have:(D3 names t).length≤1:=by unfold D3; split <;> simp
    omega
 have h2:Ey.length=44:=by decide +kernel
 have:=h Ey
 omega
theorem I8 {α:Type}{f:α→Bool}{l:List α}{i:Nat}{x:α}{b:Bool}(h:(l.drop i).all f=b) (hd:l.drop i=x::l.drop (i+1)) (hx:f x=true):(l.drop (i+1)).all f=b:=by
 rw [hd,List.all_cons,hx,Bool.true_and] at h
 exact h
theorem I9 {α:Type}{f:α→Bool}{l:List α}{i:Nat}{x:α}{b:Bool}(h:(l.drop i).all f=b) (hd:l.drop i=x::l.drop (i+1)) (hx:f x=false):b=false:=by
 rw [hd,List.all_cons,hx,Bool.false_and] at h
 exact h.symm
theorem L3 {α:Type}{f:α→Bool}{l:List α}{i:Nat}{b:Bool}(h:(l.drop i).all f=b) (hi:l.length≤i):b=true:=by
 rw [Aa hi] at h
 exact h.symm
def DM (n:Nat) (m:Smp):Bool:=inR m.id 1 n&&BS m.row
def Ep (s:Sto) (i:Nat):Bool:=decide ((rowsOf s ((i:Int)+1)).length≤24)
def Ae (s:Sto):Bool :=
 decide (s.parts.length≤6)&&decide (s.mem.length≤20)&&s.parts.all (fun p=>BT p s.idx.names.length)&&s.mem.all (DM s.idx.names.length)&&(List.range s.idx.names.length).all (Ep s)
theorem Hz {s:Sto}(h:(s.parts.length:Int) > 6∨(s.mem.length:Int) > 20):Ae s=false:=by
 unfold Ae
 rcases h with h | h
 ·rw [decide_eq_false AB]; simp
 ·rw [decide_eq_false (p:=s.mem.length≤20) AB]; simp
theorem H0 {s:Sto}(h:s.parts.all (fun p=>BT p s.idx.names.length)=false):Ae s=false:=by unfold Ae; rw [h]; simp
theorem H3 {s:Sto}(h:s.mem.all (DM s.idx.names.length)=false):Ae s=false:=by unfold Ae; rw [h]; simp
theorem Ng {s:Sto}(h:(List.range s.idx.names.length).all (Ep s)=false):Ae s=false:=by unfold Ae; rw [h]; simp
theorem Nh {s:Sto}(h1:¬ (s.parts.length:Int) > 6) (h2:¬ (s.mem.length:Int) > 20) (h3:s.parts.all (fun p=>BT p s.idx.names.length)=true) (h4:s.mem.all (DM s.idx.names.length)=true) (h5:(List.range s.idx.names.length).all (Ep s)=true):Ae s=true:=by
 unfold Ae
 rw [h3,h4,h5,decide_eq_true AB,decide_eq_true AB]
 rfl
theorem PO {n i:Nat}(h:i< n):(List.range n).drop i=i::(List.range n).drop (i+1):=by
 rw [List.drop_eq_getElem_cons (by simpa using h)]
 simp
def Dq (s:Sto) (n:List Tag) (r:Row):Sto × Bool:=if Ae s=true∧As n=true then Ch (AY s) n r else (⟨⟨[],[]⟩,[],[]⟩,false)
theorem LQ {s:Sto}{n:List Tag}{r:Row}(h:Ae s=false∨As n=false):Dq s n r=(⟨⟨[],[]⟩,[],[]⟩,false):=by
 unfold Dq
 rw [if_neg]
 rintro ⟨h1,h2⟩
 rcases h with h | h
 ·rw [h] at h1; cases h1
 ·rw [h] at h2; cases h2
theorem HO {s:Sto}{n:List Tag}{r:Row}(h:Ae s=true) (h2:As n=true):Dq s n r=Ch (AY s) n r:=by unfold Dq; rw [if_pos ⟨h,h2⟩]
theorem SD.copy {s:Sto}(h:SD s):AY s=s:=by
 have:=h.idx
 unfold AY
 rw [← this]
theorem Rf {s:Sto}{n k:Nat}{b:Bool}(h:((List.range n).drop (k - 1)).all (Ep s)=b) (h1:1≤k) (h2:k≤n) (h3:((rowsOf s (k:Int)).length:Int)≤24):((List.range n).drop (k+1 - 1)).all (Ep s)=b:=by
 have hd:=PO (n:=n) (i:=k - 1) AB
 have:=I8 h hd (by unfold Ep; rw [show ((k - 1:Nat):Int)+1=(k:Int) by omega]; simp; omega)
 rw [show k+1 - 1=k - 1+1 by omega]
 exact this
theorem XJ {s:Sto}{n k:Nat}{b:Bool}(h:((List.range n).drop (k - 1)).all (Ep s)=b) (h1:1≤k) (h2:k≤n) (h3:((rowsOf s (k:Int)).length:Int) > 24):b=false:=by
 have hd:=PO (n:=n) (i:=k - 1) AB
 exact I9 h hd (by unfold Ep; rw [show ((k - 1:Nat):Int)+1=(k:Int) by omega]; simp; omega)
theorem Tc {s:Sto}{n k:Nat}{b:Bool}(h:((List.range n).drop (k - 1)).all (Ep s)=b) (h1:n+1≤k):b=true:=L3 h (by simp; omega)
end Go.Proofs.YtcginoabkicdiaaGreat
