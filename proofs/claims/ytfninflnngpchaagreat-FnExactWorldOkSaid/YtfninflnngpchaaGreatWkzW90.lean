/- walks; squeezed -/
import Derived.Test.YtfninflnngpchaaGreatWkzMod90
open Go.Proofs.Tryz
set_option linter.unusedVariables false
set_option linter.unusedSimpArgs false
namespace Go.Proofs.YtfninflnngpchaaGreat
set_option maxRecDepth 100000
set_option maxHeartbeats 4000000
variable {w:World} {F:Nat→Prop} {a1 a2 a3 a4 a5 a6 a7 a8 a9 a10 a11 a12 a13 a14:Option Addr} {n1 c1 n2 c2 n3 c3 n4 c4 n5 c5 n6 c6 n7 c7 n8 c8 n9 c9 n10 c10 n11 c11 n12 c12 n13 c13 n14 c14:Nat}
theorem Fp (a:Tag) (left:Int){F:Nat→Prop}  (p0:TgB a) (p1:0≤left∧left≤1048576):Calls Tryz.prog 114 [.agg #[.string (bs a.key),.string (bs a.val)],.int .i64 left].toArray w (Ad fun rv w'=>rv=.int .i64 (szI (mT a) left)∧Ext w w'):=by
 refine goT func114 ?_
 have Z:=St.i0 F w
 exact .s<|.g<|RG.Np Z fun ac w Z=>.r 1<|.d<|.s<|.g<|.r 2<|RG.Lb 0 Z<|RG.eqv (v:=vI (a.key.length:Int)) AA (HM a.key)<|RG.int (left - (a.key.length:Int)) AA (by first | omega | (have q1:=p0.1; have q2:=p0.2; omega))<|.r 1<|.d<|.s<|.s<|.g<|.r 1<|.bp (left - (a.key.length:Int)< 0) (fun aa=>.d<|.ct<|.s<|.g<|.r 1<|.d<|T.rt func114 results114 (vI (-1)) ⟨(congrArg (Value.int .i64) (by grind [szI,mT])),Z.xt⟩) fun aa=>.d<|.cf<|.sk<|.s<|.g<|.r 2<|RG.Lb 0 Z<|RG.eqv (v:=vI (a.val.length:Int)) AA (HM a.val)<|RG.int ((left - (a.key.length:Int)) - (a.val.length:Int)) AA (by first | omega | (have q1:=p0.1; have q2:=p0.2; omega))<|.r 1<|.d<|.s<|.s<|.g<|.r 1<|.bp ((left - (a.key.length:Int)) - (a.val.length:Int)< 0) (fun ab=>.d<|.ct<|.s<|.g<|.r 1<|.d<|T.rt func114 results114 (vI (-1)) ⟨(congrArg (Value.int .i64) (by grind [szI,mT])),Z.xt⟩) fun ab=>.d<|.cf<|.sk<|.s<|.g<|.r 2<|.d<|T.rt func114 results114 (vI ((left - (a.key.length:Int)) - (a.val.length:Int))) ⟨(congrArg (Value.int .i64) (by grind [szI,mT])),Z.xt⟩
theorem IY (a:List Tag) (left:Int) (h1:RepS w F a1 n1 c1 a) (p0:NmB a) (p1:0≤left∧left≤1048576):Calls Tryz.prog 43 [.slice a1 n1 c1,.int .i64 left].toArray w (Ad fun rv w'=>rv=.int .i64 (szI (mNm a) left)∧Ext w w'):=by
 cases h1.len
 refine goT func43 ?_
 have Z:=(St.i0 F w).p h1
 have aj:=h1.max
 refine .s<|.g<|.r 1<|.d<|.s<|.g<|.r 3<|.it (left - (a.length:Int))<|.r 1<|.d<|.s<|.s<|.g<|.r 1<|.bp (left - (a.length:Int)< 0) (fun af=>.d<|.ct<|.s<|.g<|.r 1<|.d<|T.rt func43 results43 (vI (-1)) ⟨(congrArg (Value.int .i64) (by first | exact Cc ‹_› AB AB | exact EH ‹_› ‹_› ‹_› AB | exact BV ‹_› rfl | (grind [szI]))),Z.xt⟩) fun af=>.d<|.cf<|.sk<|.s<|.s<|.g<|.r 1<|.d<|.b 0<|T.Lp (left - (a.length:Int),(0:Nat)) (fun (aa,i)=>([(0,.slice a1 a.length c1),(1,vI aa),(5,vI (i:Int))],[],[],a.length - i,(i≤a.length)∧(0≤aa∧aa≤1048576)∧(szI (Du mT (a.drop i)) aa=szI (mNm a) left))) [] Z ⟨AB,AB,(by exact Eu rfl AB rfl)⟩ ?_
 rintro ⟨aa,i⟩ ar w Z ⟨ak,am,ao⟩ ac
 refine .s<|.s<|.g<|.r 3<|.bp ((i:Int)< (a.length:Int)) (fun ag=>?_) (fun ag=>.d<|.cf<|.x 0 rfl<|.s<|.g<|.r 2<|.d<|T.rt func43 results43 (vI aa) ⟨(congrArg (Value.int .i64) (by first | exact Cc ‹_› AB AB | exact EH ‹_› ‹_› ‹_› AB | exact BV ‹_› rfl | (grind [szI]))),Z.xt⟩)
 refine .d<|.ct<|.sk<|.s<|.b 1<|.s<|.g<|.r 2<|gx a i fun ae ab=>?_
 have aq:=drop_at ab; have ai:=AV ab
 exact RG.Ix 0 ab Z<|Z.el 0 ab fun Z=>RG.Lg 0 0 Z<|.r 1<|RG.C0 (Fp ae aa (p0 _ ‹_›) AB (F:=all)) Z fun w Z=>.r 1<|.d<|.s<|.g<|.r 1<|.bp (szI (mT ae) aa< 0) (fun ah=>.d<|.ct<|.s<|.g<|.r 1<|.d<|T.rt func43 results43 (vI (-1)) ⟨(congrArg (Value.int .i64) (by first | exact Cc ‹_› AB AB | exact EH ‹_› ‹_› ‹_› AB | exact BV ‹_› rfl | (grind [szI]))),Z.xt⟩) fun ah=>.d<|.cf<|.sk<|.ib 1<|.g<|.r 1<|.it ((i:Int)+1)<|.r 1<|.d<|ac (szI (mT ae) aa,i+1) _ _ AA (Z.to 0 [] 1) ⟨AB,(by have q1:=Aq ‹_›; omega),(by exact Gc ‹_› ‹_› ‹_›)⟩ (by first | omega | (simp only []; omega))
theorem Ec (a:List (List Tag)) (left:Int) (h1:RepS w F a1 n1 c1 a) (p0:NsB a) (p1:0≤left∧left≤1048576):Calls Tryz.prog 55 [.slice a1 n1 c1,.int .i64 left].toArray w (Ad fun rv w'=>rv=.int .i64 (szI (mNs a) left)∧Ext w w'):=by
 cases h1.len
 refine goT func55 ?_
 have Z:=(St.i0 F w).p h1
 have aj:=h1.max
 refine .s<|.g<|.r 1<|.d<|.s<|.g<|.r 3<|.it (left - (a.length:Int))<|.r 1<|.d<|.s<|.s<|.g<|.r 1<|.bp (left - (a.length:Int)< 0) (fun af=>.d<|.ct<|.s<|.g<|.r 1<|.d<|T.rt func55 results55 (vI (-1)) ⟨(congrArg (Value.int .i64) (by first | exact Cc ‹_› AB AB | exact EH ‹_› ‹_› ‹_› AB | exact BV ‹_› rfl | (grind [szI]))),Z.xt⟩) fun af=>.d<|.cf<|.sk<|.s<|.s<|.g<|.r 1<|.d<|.b 0<|T.Lp (left - (a.length:Int),(0:Nat)) (fun (aa,i)=>([(0,.slice a1 a.length c1),(1,vI aa),(5,vI (i:Int))],[],[],a.length - i,(i≤a.length)∧(0≤aa∧aa≤1048576)∧(szI (Du mNm (a.drop i)) aa=szI (mNs a) left))) [] Z ⟨AB,AB,(by exact Eu rfl AB rfl)⟩ ?_
 rintro ⟨aa,i⟩ ar w Z ⟨ak,am,ao⟩ ac
 refine .s<|.s<|.g<|.r 3<|.bp ((i:Int)< (a.length:Int)) (fun ag=>?_) (fun ag=>.d<|.cf<|.x 0 rfl<|.s<|.g<|.r 2<|.d<|T.rt func55 results55 (vI aa) ⟨(congrArg (Value.int .i64) (by first | exact Cc ‹_› AB AB | exact EH ‹_› ‹_› ‹_› AB | exact BV ‹_› rfl | (grind [szI]))),Z.xt⟩)
 refine .d<|.ct<|.sk<|.s<|.b 1<|.s<|.g<|.r 2<|gx a i fun ae ab=>?_
 have aq:=drop_at ab; have ai:=AV ab
 exact RG.Ix 0 ab Z<|Z.el 0 ab fun ax ay Z=>RG.Lh 0 0 Z<|.r 1<|RG.C0 (IY ae aa (Z.a 1) (p0 _ ‹_›) AB) Z fun w Z=>.r 1<|.d<|.s<|.g<|.r 1<|.bp (szI (mNm ae) aa< 0) (fun ah=>.d<|.ct<|.s<|.g<|.r 1<|.d<|T.rt func55 results55 (vI (-1)) ⟨(congrArg (Value.int .i64) (by first | exact Cc ‹_› AB AB | exact EH ‹_› ‹_› ‹_› AB | exact BV ‹_› rfl | (grind [szI]))),Z.xt⟩) fun ah=>.d<|.cf<|.sk<|.ib 1<|.g<|.r 1<|.it ((i:Int)+1)<|.r 1<|.d<|ac (szI (mNm ae) aa,i+1) _ _ AA (Z.to 0 [] 2) ⟨AB,(by have q1:=Aq ‹_›; omega),(by exact Gc ‹_› ‹_› ‹_›)⟩ (by first | omega | (simp only []; omega))
theorem DW (a:List Int) (left:Int) (h1:RepS w F a1 n1 c1 a) (p0:0≤left∧left≤1048576):Calls Tryz.prog 54 [.slice a1 n1 c1,.int .i64 left].toArray w (Ad fun rv w'=>rv=.int .i64 (szI (mIs a) left)∧Ext w w'):=by
 cases h1.len
 refine goT func54 ?_
 have Z:=(St.i0 F w).p h1
 have ab:=h1.max
 exact .s<|.g<|.r 1<|.d<|.s<|.g<|.r 3<|.it (left - (a.length:Int))<|.r 1<|.d<|.s<|.s<|.g<|.r 1<|.bp (left - (a.length:Int)< 0) (fun aa=>.d<|.ct<|.s<|.g<|.r 1<|.d<|T.rt func54 results54 (vI (-1)) ⟨(congrArg (Value.int .i64) (by grind [szI,mIs])),Z.xt⟩) fun aa=>.d<|.cf<|.sk<|.s<|.g<|.r 2<|.d<|T.rt func54 results54 (vI (left - (a.length:Int))) ⟨(congrArg (Value.int .i64) (by grind [szI,mIs])),Z.xt⟩
theorem IZ (a:Pst) (left:Int) (h1:RepS w F a1 n1 c1 a.ids) (p0:(fun (p:Pst)=>TgB p.tag) a) (p1:0≤left∧left≤1048576):Calls Tryz.prog 182 [.agg #[.string (bs a.tag.key),.string (bs a.tag.val),.slice a1 n1 c1],.int .i64 left].toArray w (Ad fun rv w'=>rv=.int .i64 (szI (mPo a) left)∧Ext w w'):=by
 cases h1.len
 refine goT func182 ?_
 have Z:=(St.i0 F w).p h1
 have ae:=h1.max
 exact .s<|.g<|RG.Np Z fun af w Z=>.r 1<|.d<|.s<|.g<|.r 1<|RG.Ln 0 Z<|.r 1<|RG.C0 (Fp a.tag left p0 (by first | omega | (have q1:=Aq ‹_›; omega) | (have q1:=Aq (by assumption:¬ szI _ (szI _ left)< 0); have q2:=Aq (by assumption:¬ szI _ left< 0); omega)) (F:=all)) Z fun w Z=>.r 1<|.d<|.s<|.s<|.g<|.r 1<|.bp (szI (mT a.tag) left< 0) (fun aa=>.d<|.ct<|.s<|.g<|.r 1<|.d<|T.rt func182 results182 (vI (-1)) ⟨(congrArg (Value.int .i64) (by grind [szI,mPo])),Z.xt⟩) fun aa=>.d<|.cf<|.sk<|.s<|.g<|.r 1<|RG.Lb 0 Z<|.r 1<|RG.C0 (DW a.ids (szI (mT a.tag) left) (Z.a 0) (by first | omega | (have q1:=Aq ‹_›; omega) | (have q1:=Aq (by assumption:¬ szI _ (szI _ left)< 0); have q2:=Aq (by assumption:¬ szI _ left< 0); omega))) Z fun w Z=>.r 1<|.d<|.s<|.s<|.g<|.r 1<|.bp (szI (mIs a.ids) (szI (mT a.tag) left)< 0) (fun ab=>.d<|.ct<|.s<|.g<|.r 1<|.d<|T.rt func182 results182 (vI (-1)) ⟨(congrArg (Value.int .i64) (by grind [szI,mPo])),Z.xt⟩) fun ab=>.d<|.cf<|.sk<|.s<|.g<|.r 2<|.d<|T.rt func182 results182 (vI (szI (mIs a.ids) (szI (mT a.tag) left))) ⟨(congrArg (Value.int .i64) (by grind [szI,mPo])),Z.xt⟩
theorem Hx (a:List Pst) (left:Int) (h1:RepS w F a1 n1 c1 a) (p0:PoB a) (p1:0≤left∧left≤1048576):Calls Tryz.prog 121 [.slice a1 n1 c1,.int .i64 left].toArray w (Ad fun rv w'=>rv=.int .i64 (szI (LK a) left)∧Ext w w'):=by
 cases h1.len
 refine goT func121 ?_
 have Z:=(St.i0 F w).p h1
 have aj:=h1.max
 refine .s<|.g<|.r 1<|.d<|.s<|.g<|.r 3<|.it (left - (a.length:Int))<|.r 1<|.d<|.s<|.s<|.g<|.r 1<|.bp (left - (a.length:Int)< 0) (fun af=>.d<|.ct<|.s<|.g<|.r 1<|.d<|T.rt func121 results121 (vI (-1)) ⟨(congrArg (Value.int .i64) (by first | exact Cc ‹_› AB AB | exact EH ‹_› ‹_› ‹_› AB | exact BV ‹_› rfl | (grind [szI]))),Z.xt⟩) fun af=>.d<|.cf<|.sk<|.s<|.s<|.g<|.r 1<|.d<|.b 0<|T.Lp (left - (a.length:Int),(0:Nat)) (fun (aa,i)=>([(0,.slice a1 a.length c1),(1,vI aa),(5,vI (i:Int))],[],[],a.length - i,(i≤a.length)∧(0≤aa∧aa≤1048576)∧(szI (Du mPo (a.drop i)) aa=szI (LK a) left))) [] Z ⟨AB,AB,(by exact Eu rfl AB rfl)⟩ ?_
 rintro ⟨aa,i⟩ ar w Z ⟨ak,am,ao⟩ ac
 refine .s<|.s<|.g<|.r 3<|.bp ((i:Int)< (a.length:Int)) (fun ag=>?_) (fun ag=>.d<|.cf<|.x 0 rfl<|.s<|.g<|.r 2<|.d<|T.rt func121 results121 (vI aa) ⟨(congrArg (Value.int .i64) (by first | exact Cc ‹_› AB AB | exact EH ‹_› ‹_› ‹_› AB | exact BV ‹_› rfl | (grind [szI]))),Z.xt⟩)
 refine .d<|.ct<|.sk<|.s<|.b 1<|.s<|.g<|.r 2<|gx a i fun ae ab=>?_
 have aq:=drop_at ab; have ai:=AV ab
 exact RG.Ix 0 ab Z<|Z.el 0 ab fun ax ay Z=>RG.Lg 0 0 Z<|.r 1<|RG.C0 (IZ ae aa (Z.a 1) (p0 _ ‹_›) AB) Z fun w Z=>.r 1<|.d<|.s<|.g<|.r 1<|.bp (szI (mPo ae) aa< 0) (fun ah=>.d<|.ct<|.s<|.g<|.r 1<|.d<|T.rt func121 results121 (vI (-1)) ⟨(congrArg (Value.int .i64) (by first | exact Cc ‹_› AB AB | exact EH ‹_› ‹_› ‹_› AB | exact BV ‹_› rfl | (grind [szI]))),Z.xt⟩) fun ah=>.d<|.cf<|.sk<|.ib 1<|.g<|.r 1<|.it ((i:Int)+1)<|.r 1<|.d<|ac (szI (mPo ae) aa,i+1) _ _ AA (Z.to 0 [] 2) ⟨AB,(by have q1:=Aq ‹_›; omega),(by exact Gc ‹_› ‹_› ‹_›)⟩ (by first | omega | (simp only []; omega))
theorem Hy (a:Idx) (left:Int) (h1:RepS w F a1 n1 c1 a.names) (h2:RepS w F a2 n2 c2 a.Ae) (p0:IxB a) (p1:0≤left∧left≤1048576):Calls Tryz.prog 50 [.agg #[.slice a1 n1 c1,.slice a2 n2 c2],.int .i64 left].toArray w (Ad fun rv w'=>rv=.int .i64 (szI (mIx a) left)∧Ext w w'):=by
 cases h1.len
 cases h2.len
 refine goT func50 ?_
 have Z:=((St.i0 F w).p h1).p h2
 have ae:=h1.max
 have af:=h2.max
 exact .s<|.g<|RG.Np Z fun ag w Z=>.r 1<|.d<|.s<|.g<|.r 1<|RG.Lb 0 Z<|.r 1<|RG.C0 (Ec a.names left (Z.a 1) p0.1 (by first | omega | (have q1:=Aq ‹_›; omega) | (have q1:=Aq (by assumption:¬ szI _ (szI _ left)< 0); have q2:=Aq (by assumption:¬ szI _ left< 0); omega))) Z fun w Z=>.r 1<|.d<|.s<|.s<|.g<|.r 1<|.bp (szI (mNs a.names) left< 0) (fun aa=>.d<|.ct<|.s<|.g<|.r 1<|.d<|T.rt func50 results50 (vI (-1)) ⟨(congrArg (Value.int .i64) (by grind [szI,mIx])),Z.xt⟩) fun aa=>.d<|.cf<|.sk<|.s<|.g<|.r 1<|RG.Lb 0 Z<|.r 1<|RG.C0 (Hx a.Ae (szI (mNs a.names) left) (Z.a 0) p0.2 (by first | omega | (have q1:=Aq ‹_›; omega) | (have q1:=Aq (by assumption:¬ szI _ (szI _ left)< 0); have q2:=Aq (by assumption:¬ szI _ left< 0); omega))) Z fun w Z=>.r 1<|.d<|.s<|.s<|.g<|.r 1<|.bp (szI (LK a.Ae) (szI (mNs a.names) left)< 0) (fun ab=>.d<|.ct<|.s<|.g<|.r 1<|.d<|T.rt func50 results50 (vI (-1)) ⟨(congrArg (Value.int .i64) (by grind [szI,mIx])),Z.xt⟩) fun ab=>.d<|.cf<|.sk<|.s<|.g<|.r 2<|.d<|T.rt func50 results50 (vI (szI (LK a.Ae) (szI (mNs a.names) left))) ⟨(congrArg (Value.int .i64) (by grind [szI,mIx])),Z.xt⟩
theorem Ia (a:List Row) (left:Int) (h1:RepS w F a1 n1 c1 a) (p0:0≤left∧left≤1048576):Calls Tryz.prog 219 [.slice a1 n1 c1,.int .i64 left].toArray w (Ad fun rv w'=>rv=.int .i64 (szI (mRw a) left)∧Ext w w'):=by
 cases h1.len
 refine goT func219 ?_
 have Z:=(St.i0 F w).p h1
 have ab:=h1.max
 exact .s<|.g<|.r 1<|.d<|.s<|.g<|.r 3<|.it (left - (a.length:Int))<|.r 1<|.d<|.s<|.s<|.g<|.r 1<|.bp (left - (a.length:Int)< 0) (fun aa=>.d<|.ct<|.s<|.g<|.r 1<|.d<|T.rt func219 results219 (vI (-1)) ⟨(congrArg (Value.int .i64) (by grind [szI,mRw])),Z.xt⟩) fun aa=>.d<|.cf<|.sk<|.s<|.g<|.r 2<|.d<|T.rt func219 results219 (vI (left - (a.length:Int))) ⟨(congrArg (Value.int .i64) (by grind [szI,mRw])),Z.xt⟩
theorem Hz (a:List (List Row)) (left:Int) (h1:RepS w F a1 n1 c1 a) (p0:0≤left∧left≤1048576):Calls Tryz.prog 183 [.slice a1 n1 c1,.int .i64 left].toArray w (Ad fun rv w'=>rv=.int .i64 (szI (LM a) left)∧Ext w w'):=by
 cases h1.len
 refine goT func183 ?_
 have Z:=(St.i0 F w).p h1
 have aj:=h1.max
 refine .s<|.g<|.r 1<|.d<|.s<|.g<|.r 3<|.it (left - (a.length:Int))<|.r 1<|.d<|.s<|.s<|.g<|.r 1<|.bp (left - (a.length:Int)< 0) (fun af=>.d<|.ct<|.s<|.g<|.r 1<|.d<|T.rt func183 results183 (vI (-1)) ⟨(congrArg (Value.int .i64) (by first | exact Cc ‹_› AB AB | exact EH ‹_› ‹_› ‹_› AB | exact BV ‹_› rfl | (grind [szI]))),Z.xt⟩) fun af=>.d<|.cf<|.sk<|.s<|.s<|.g<|.r 1<|.d<|.b 0<|T.Lp (left - (a.length:Int),(0:Nat)) (fun (aa,i)=>([(0,.slice a1 a.length c1),(1,vI aa),(5,vI (i:Int))],[],[],a.length - i,(i≤a.length)∧(0≤aa∧aa≤1048576)∧(szI (Du mRw (a.drop i)) aa=szI (LM a) left))) [] Z ⟨AB,AB,(by exact Eu rfl AB rfl)⟩ ?_
 rintro ⟨aa,i⟩ ar w Z ⟨ak,am,ao⟩ ac
 refine .s<|.s<|.g<|.r 3<|.bp ((i:Int)< (a.length:Int)) (fun ag=>?_) (fun ag=>.d<|.cf<|.x 0 rfl<|.s<|.g<|.r 2<|.d<|T.rt func183 results183 (vI aa) ⟨(congrArg (Value.int .i64) (by first | exact Cc ‹_› AB AB | exact EH ‹_› ‹_› ‹_› AB | exact BV ‹_› rfl | (grind [szI]))),Z.xt⟩)
 refine .d<|.ct<|.sk<|.s<|.b 1<|.s<|.g<|.r 2<|gx a i fun ae ab=>?_
 have aq:=drop_at ab; have ai:=AV ab
 exact RG.Ix 0 ab Z<|Z.el 0 ab fun ax ay Z=>RG.Lh 0 0 Z<|.r 1<|RG.C0 (Ia ae aa (Z.a 1) AB) Z fun w Z=>.r 1<|.d<|.s<|.g<|.r 1<|.bp (szI (mRw ae) aa< 0) (fun ah=>.d<|.ct<|.s<|.g<|.r 1<|.d<|T.rt func183 results183 (vI (-1)) ⟨(congrArg (Value.int .i64) (by first | exact Cc ‹_› AB AB | exact EH ‹_› ‹_› ‹_› AB | exact BV ‹_› rfl | (grind [szI]))),Z.xt⟩) fun ah=>.d<|.cf<|.sk<|.ib 1<|.g<|.r 1<|.it ((i:Int)+1)<|.r 1<|.d<|ac (szI (mRw ae) aa,i+1) _ _ AA (Z.to 0 [] 2) ⟨AB,(by have q1:=Aq ‹_›; omega),(by exact Gc ‹_› ‹_› ‹_›)⟩ (by first | omega | (simp only []; omega))
theorem E3 (a:Prt) (left:Int) (h1:RepS w F a1 n1 c1 a.ids) (h2:RepS w F a2 n2 c2 a.blocks) (p0:0≤left∧left≤1048576):Calls Tryz.prog 122 [.agg #[.slice a1 n1 c1,.slice a2 n2 c2],.int .i64 left].toArray w (Ad fun rv w'=>rv=.int .i64 (szI (mPt a) left)∧Ext w w'):=by
 cases h1.len
 cases h2.len
 refine goT func122 ?_
 have Z:=((St.i0 F w).p h1).p h2
 have ae:=h1.max
 have af:=h2.max
 exact .s<|.g<|RG.Np Z fun ag w Z=>.r 1<|.d<|.s<|.g<|.r 1<|RG.Lb 0 Z<|.r 1<|RG.C0 (DW a.ids left (Z.a 1) (by first | omega | (have q1:=Aq ‹_›; omega) | (have q1:=Aq (by assumption:¬ szI _ (szI _ left)< 0); have q2:=Aq (by assumption:¬ szI _ left< 0); omega))) Z fun w Z=>.r 1<|.d<|.s<|.s<|.g<|.r 1<|.bp (szI (mIs a.ids) left< 0) (fun aa=>.d<|.ct<|.s<|.g<|.r 1<|.d<|T.rt func122 results122 (vI (-1)) ⟨(congrArg (Value.int .i64) (by grind [szI,mPt])),Z.xt⟩) fun aa=>.d<|.cf<|.sk<|.s<|.g<|.r 1<|RG.Lb 0 Z<|.r 1<|RG.C0 (Hz a.blocks (szI (mIs a.ids) left) (Z.a 0) (by first | omega | (have q1:=Aq ‹_›; omega) | (have q1:=Aq (by assumption:¬ szI _ (szI _ left)< 0); have q2:=Aq (by assumption:¬ szI _ left< 0); omega))) Z fun w Z=>.r 1<|.d<|.s<|.s<|.g<|.r 1<|.bp (szI (LM a.blocks) (szI (mIs a.ids) left)< 0) (fun ab=>.d<|.ct<|.s<|.g<|.r 1<|.d<|T.rt func122 results122 (vI (-1)) ⟨(congrArg (Value.int .i64) (by grind [szI,mPt])),Z.xt⟩) fun ab=>.d<|.cf<|.sk<|.s<|.g<|.r 2<|.d<|T.rt func122 results122 (vI (szI (LM a.blocks) (szI (mIs a.ids) left))) ⟨(congrArg (Value.int .i64) (by grind [szI,mPt])),Z.xt⟩
theorem H0 (a:List Prt) (left:Int) (h1:RepS w F a1 n1 c1 a) (p0:0≤left∧left≤1048576):Calls Tryz.prog 51 [.slice a1 n1 c1,.int .i64 left].toArray w (Ad fun rv w'=>rv=.int .i64 (szI (Jl a) left)∧Ext w w'):=by
 cases h1.len
 refine goT func51 ?_
 have Z:=(St.i0 F w).p h1
 have aj:=h1.max
 refine .s<|.g<|.r 1<|.d<|.s<|.g<|.r 3<|.it (left - (a.length:Int))<|.r 1<|.d<|.s<|.s<|.g<|.r 1<|.bp (left - (a.length:Int)< 0) (fun af=>.d<|.ct<|.s<|.g<|.r 1<|.d<|T.rt func51 results51 (vI (-1)) ⟨(congrArg (Value.int .i64) (by first | exact Cc ‹_› AB AB | exact EH ‹_› ‹_› ‹_› AB | exact BV ‹_› rfl | (grind [szI]))),Z.xt⟩) fun af=>.d<|.cf<|.sk<|.s<|.s<|.g<|.r 1<|.d<|.b 0<|T.Lp (left - (a.length:Int),(0:Nat)) (fun (aa,i)=>([(0,.slice a1 a.length c1),(1,vI aa),(5,vI (i:Int))],[],[],a.length - i,(i≤a.length)∧(0≤aa∧aa≤1048576)∧(szI (Du mPt (a.drop i)) aa=szI (Jl a) left))) [] Z ⟨AB,AB,(by exact Eu rfl AB rfl)⟩ ?_
 rintro ⟨aa,i⟩ ar w Z ⟨ak,am,ao⟩ ac
 refine .s<|.s<|.g<|.r 3<|.bp ((i:Int)< (a.length:Int)) (fun ag=>?_) (fun ag=>.d<|.cf<|.x 0 rfl<|.s<|.g<|.r 2<|.d<|T.rt func51 results51 (vI aa) ⟨(congrArg (Value.int .i64) (by first | exact Cc ‹_› AB AB | exact EH ‹_› ‹_› ‹_› AB | exact BV ‹_› rfl | (grind [szI]))),Z.xt⟩)
 refine .d<|.ct<|.sk<|.s<|.b 1<|.s<|.g<|.r 2<|gx a i fun ae ab=>?_
 have aq:=drop_at ab; have ai:=AV ab
 exact RG.Ix 0 ab Z<|Z.el 0 ab fun ax ay az aA Z=>RG.Lg 0 0 Z<|.r 1<|RG.C0 (E3 ae aa (Z.a 1) (Z.a 2) AB) Z fun w Z=>.r 1<|.d<|.s<|.g<|.r 1<|.bp (szI (mPt ae) aa< 0) (fun ah=>.d<|.ct<|.s<|.g<|.r 1<|.d<|T.rt func51 results51 (vI (-1)) ⟨(congrArg (Value.int .i64) (by first | exact Cc ‹_› AB AB | exact EH ‹_› ‹_› ‹_› AB | exact BV ‹_› rfl | (grind [szI]))),Z.xt⟩) fun ah=>.d<|.cf<|.sk<|.ib 1<|.g<|.r 1<|.it ((i:Int)+1)<|.r 1<|.d<|ac (szI (mPt ae) aa,i+1) _ _ AA (Z.to 0 [] 3) ⟨AB,(by have q1:=Aq ‹_›; omega),(by exact Gc ‹_› ‹_› ‹_›)⟩ (by first | omega | (simp only []; omega))
theorem Gf (a:List Smp) (left:Int) (h1:RepS w F a1 n1 c1 a) (p0:0≤left∧left≤1048576):Calls Tryz.prog 52 [.slice a1 n1 c1,.int .i64 left].toArray w (Ad fun rv w'=>rv=.int .i64 (szI (mSm a) left)∧Ext w w'):=by
 cases h1.len
 refine goT func52 ?_
 have Z:=(St.i0 F w).p h1
 have ab:=h1.max
 exact .s<|.g<|.r 1<|.d<|.s<|.g<|.r 3<|.it (left - (a.length:Int))<|.r 1<|.d<|.s<|.s<|.g<|.r 1<|.bp (left - (a.length:Int)< 0) (fun aa=>.d<|.ct<|.s<|.g<|.r 1<|.d<|T.rt func52 results52 (vI (-1)) ⟨(congrArg (Value.int .i64) (by grind [szI,mSm])),Z.xt⟩) fun aa=>.d<|.cf<|.sk<|.s<|.g<|.r 2<|.d<|T.rt func52 results52 (vI (left - (a.length:Int))) ⟨(congrArg (Value.int .i64) (by grind [szI,mSm])),Z.xt⟩
theorem H2 (a:Sto) (left:Int) (h1:RepS w F a1 n1 c1 a.idx.names) (h2:RepS w F a2 n2 c2 a.idx.Ae) (h3:RepS w F a3 n3 c3 a.parts) (h4:RepS w F a4 n4 c4 a.mem) (p0:StB a) (p1:0≤left∧left≤1048576):Calls Tryz.prog 25 [.agg #[.slice a1 n1 c1,.slice a2 n2 c2,.slice a3 n3 c3,.slice a4 n4 c4],.int .i64 left].toArray w (Ad fun rv w'=>rv=.int .i64 (szI (mSt a) left)∧Ext w w'):=by
 cases h1.len
 cases h2.len
 cases h3.len
 cases h4.len
 refine goT func25 ?_
 have Z:=((((St.i0 F w).p h1).p h2).p h3).p h4
 have af:=h1.max
 have ag:=h2.max
 have ah:=h3.max
 have ai:=h4.max
 exact .s<|.g<|RG.Np Z fun ak w Z=>.r 1<|.d<|.s<|.g<|.r 1<|RG.Ln 0 Z<|.r 1<|RG.C0 (Hy a.idx left (Z.a 3) (Z.a 2) p0 (by first | omega | (have q1:=Aq ‹_›; omega) | (have q1:=Aq (by assumption:¬ szI _ (szI _ left)< 0); have q2:=Aq (by assumption:¬ szI _ left< 0); omega))) Z fun w Z=>.r 1<|.d<|.s<|.s<|.g<|.r 1<|.bp (szI (mIx a.idx) left< 0) (fun ab=>.d<|.ct<|.s<|.g<|.r 1<|.d<|T.rt func25 results25 (vI (-1)) ⟨(congrArg (Value.int .i64) (by grind [szI,mSt])),Z.xt⟩) fun ab=>.d<|.cf<|.sk<|.s<|.g<|.r 1<|RG.Lb 0 Z<|.r 1<|RG.C0 (H0 a.parts (szI (mIx a.idx) left) (Z.a 1) (by first | omega | (have q1:=Aq ‹_›; omega) | (have q1:=Aq (by assumption:¬ szI _ (szI _ left)< 0); have q2:=Aq (by assumption:¬ szI _ left< 0); omega))) Z fun w Z=>.r 1<|.d<|.s<|.s<|.g<|.r 1<|.bp (szI (Jl a.parts) (szI (mIx a.idx) left)< 0) (fun ac=>.d<|.ct<|.s<|.g<|.r 1<|.d<|T.rt func25 results25 (vI (-1)) ⟨(congrArg (Value.int .i64) (by grind [szI,mSt])),Z.xt⟩) fun ac=>.d<|.cf<|.sk<|.s<|.g<|.r 1<|RG.Lb 0 Z<|.r 1<|RG.C0 (Gf a.mem (szI (Jl a.parts) (szI (mIx a.idx) left)) (Z.a 0) (by first | omega | (have q1:=Aq ‹_›; omega) | (have q1:=Aq (by assumption:¬ szI _ (szI _ left)< 0); have q2:=Aq (by assumption:¬ szI _ left< 0); omega))) Z fun w Z=>.r 1<|.d<|.s<|.s<|.g<|.r 1<|.bp (szI (mSm a.mem) (szI (Jl a.parts) (szI (mIx a.idx) left))< 0) (fun ae=>.d<|.ct<|.s<|.g<|.r 1<|.d<|T.rt func25 results25 (vI (-1)) ⟨(congrArg (Value.int .i64) (by grind [szI,mSt])),Z.xt⟩) fun ae=>.d<|.cf<|.sk<|.s<|.g<|.r 2<|.d<|T.rt func25 results25 (vI (szI (mSm a.mem) (szI (Jl a.parts) (szI (mIx a.idx) left)))) ⟨(congrArg (Value.int .i64) (by grind [szI,mSt])),Z.xt⟩
theorem Ib (a:Fil) (left:Int) (h1:RepS w F a1 n1 c1 a.part.ids) (h2:RepS w F a2 n2 c2 a.part.blocks) (p0:0≤left∧left≤1048576):Calls Tryz.prog 123 [.agg #[.int .i64 a.num,.slice a1 n1 c1,.slice a2 n2 c2],.int .i64 left].toArray w (Ad fun rv w'=>rv=.int .i64 (szI (mFl a) left)∧Ext w w'):=by
 cases h1.len
 cases h2.len
 refine goT func123 ?_
 have Z:=((St.i0 F w).p h1).p h2
 have ab:=h1.max
 have ac:=h2.max
 exact .s<|.g<|RG.Np Z fun ae w Z=>.r 1<|.d<|.s<|.g<|.r 1<|RG.Ln 0 Z<|.r 1<|RG.C0 (E3 a.part left (Z.a 1) (Z.a 0) (by first | omega | (have q1:=Aq ‹_›; omega) | (have q1:=Aq (by assumption:¬ szI _ (szI _ left)< 0); have q2:=Aq (by assumption:¬ szI _ left< 0); omega))) Z fun w Z=>.r 1<|.d<|.s<|.s<|.g<|.r 1<|.bp (szI (mPt a.part) left< 0) (fun aa=>.d<|.ct<|.s<|.g<|.r 1<|.d<|T.rt func123 results123 (vI (-1)) ⟨(congrArg (Value.int .i64) (by grind [szI,mFl])),Z.xt⟩) fun aa=>.d<|.cf<|.sk<|.s<|.g<|.r 2<|.d<|T.rt func123 results123 (vI (szI (mPt a.part) left)) ⟨(congrArg (Value.int .i64) (by grind [szI,mFl])),Z.xt⟩
theorem H3 (a:List Fil) (left:Int) (h1:RepS w F a1 n1 c1 a) (p0:0≤left∧left≤1048576):Calls Tryz.prog 53 [.slice a1 n1 c1,.int .i64 left].toArray w (Ad fun rv w'=>rv=.int .i64 (szI (Ht a) left)∧Ext w w'):=by
 cases h1.len
 refine goT func53 ?_
 have Z:=(St.i0 F w).p h1
 have aj:=h1.max
 refine .s<|.g<|.r 1<|.d<|.s<|.g<|.r 3<|.it (left - (a.length:Int))<|.r 1<|.d<|.s<|.s<|.g<|.r 1<|.bp (left - (a.length:Int)< 0) (fun af=>.d<|.ct<|.s<|.g<|.r 1<|.d<|T.rt func53 results53 (vI (-1)) ⟨(congrArg (Value.int .i64) (by first | exact Cc ‹_› AB AB | exact EH ‹_› ‹_› ‹_› AB | exact BV ‹_› rfl | (grind [szI]))),Z.xt⟩) fun af=>.d<|.cf<|.sk<|.s<|.s<|.g<|.r 1<|.d<|.b 0<|T.Lp (left - (a.length:Int),(0:Nat)) (fun (aa,i)=>([(0,.slice a1 a.length c1),(1,vI aa),(5,vI (i:Int))],[],[],a.length - i,(i≤a.length)∧(0≤aa∧aa≤1048576)∧(szI (Du mFl (a.drop i)) aa=szI (Ht a) left))) [] Z ⟨AB,AB,(by exact Eu rfl AB rfl)⟩ ?_
 rintro ⟨aa,i⟩ ar w Z ⟨ak,am,ao⟩ ac
 refine .s<|.s<|.g<|.r 3<|.bp ((i:Int)< (a.length:Int)) (fun ag=>?_) (fun ag=>.d<|.cf<|.x 0 rfl<|.s<|.g<|.r 2<|.d<|T.rt func53 results53 (vI aa) ⟨(congrArg (Value.int .i64) (by first | exact Cc ‹_› AB AB | exact EH ‹_› ‹_› ‹_› AB | exact BV ‹_› rfl | (grind [szI]))),Z.xt⟩)
 refine .d<|.ct<|.sk<|.s<|.b 1<|.s<|.g<|.r 2<|gx a i fun ae ab=>?_
 have aq:=drop_at ab; have ai:=AV ab
 exact RG.Ix 0 ab Z<|Z.el 0 ab fun ax ay az aA Z=>RG.Lg 0 0 Z<|.r 1<|RG.C0 (Ib ae aa (Z.a 1) (Z.a 2) AB) Z fun w Z=>.r 1<|.d<|.s<|.g<|.r 1<|.bp (szI (mFl ae) aa< 0) (fun ah=>.d<|.ct<|.s<|.g<|.r 1<|.d<|T.rt func53 results53 (vI (-1)) ⟨(congrArg (Value.int .i64) (by first | exact Cc ‹_› AB AB | exact EH ‹_› ‹_› ‹_› AB | exact BV ‹_› rfl | (grind [szI]))),Z.xt⟩) fun ah=>.d<|.cf<|.sk<|.ib 1<|.g<|.r 1<|.it ((i:Int)+1)<|.r 1<|.d<|ac (szI (mFl ae) aa,i+1) _ _ AA (Z.to 0 [] 3) ⟨AB,(by have q1:=Aq ‹_›; omega),(by exact Gc ‹_› ‹_› ‹_›)⟩ (by first | omega | (simp only []; omega))
theorem Ic (a:Dsk) (left:Int) (h1:RepS w F a1 n1 c1 a.files) (h2:RepS w F a2 n2 c2 a.list) (h3:RepS w F a3 n3 c3 a.names) (p0:DkB a) (p1:0≤left∧left≤1048576):Calls Tryz.prog 26 [.agg #[.slice a1 n1 c1,.slice a2 n2 c2,.slice a3 n3 c3,.int .i64 a.next],.int .i64 left].toArray w (Ad fun rv w'=>rv=.int .i64 (szI (mDk a) left)∧Ext w w'):=by
 cases h1.len
 cases h2.len
 cases h3.len
 refine goT func26 ?_
 have Z:=(((St.i0 F w).p h1).p h2).p h3
 have af:=h1.max
 have ag:=h2.max
 have ah:=h3.max
 exact .s<|.g<|RG.Np Z fun aj w Z=>.r 1<|.d<|.s<|.g<|.r 1<|RG.Lb 0 Z<|.r 1<|RG.C0 (H3 a.files left (Z.a 2) (by first | omega | (have q1:=Aq ‹_›; omega) | (have q1:=Aq (by assumption:¬ szI _ (szI _ left)< 0); have q2:=Aq (by assumption:¬ szI _ left< 0); omega))) Z fun w Z=>.r 1<|.d<|.s<|.s<|.g<|.r 1<|.bp (szI (Ht a.files) left< 0) (fun ab=>.d<|.ct<|.s<|.g<|.r 1<|.d<|T.rt func26 results26 (vI (-1)) ⟨(congrArg (Value.int .i64) (by grind [szI,mDk])),Z.xt⟩) fun ab=>.d<|.cf<|.sk<|.s<|.g<|.r 1<|RG.Lb 0 Z<|.r 1<|RG.C0 (DW a.list (szI (Ht a.files) left) (Z.a 1) (by first | omega | (have q1:=Aq ‹_›; omega) | (have q1:=Aq (by assumption:¬ szI _ (szI _ left)< 0); have q2:=Aq (by assumption:¬ szI _ left< 0); omega))) Z fun w Z=>.r 1<|.d<|.s<|.s<|.g<|.r 1<|.bp (szI (mIs a.list) (szI (Ht a.files) left)< 0) (fun ac=>.d<|.ct<|.s<|.g<|.r 1<|.d<|T.rt func26 results26 (vI (-1)) ⟨(congrArg (Value.int .i64) (by grind [szI,mDk])),Z.xt⟩) fun ac=>.d<|.cf<|.sk<|.s<|.g<|.r 1<|RG.Lb 0 Z<|.r 1<|RG.C0 (Ec a.names (szI (mIs a.list) (szI (Ht a.files) left)) (Z.a 0) p0 (by first | omega | (have q1:=Aq ‹_›; omega) | (have q1:=Aq (by assumption:¬ szI _ (szI _ left)< 0); have q2:=Aq (by assumption:¬ szI _ left< 0); omega))) Z fun w Z=>.r 1<|.d<|.s<|.s<|.g<|.r 1<|.bp (szI (mNs a.names) (szI (mIs a.list) (szI (Ht a.files) left))< 0) (fun ae=>.d<|.ct<|.s<|.g<|.r 1<|.d<|T.rt func26 results26 (vI (-1)) ⟨(congrArg (Value.int .i64) (by grind [szI,mDk])),Z.xt⟩) fun ae=>.d<|.cf<|.sk<|.s<|.g<|.r 2<|.d<|T.rt func26 results26 (vI (szI (mNs a.names) (szI (mIs a.list) (szI (Ht a.files) left)))) ⟨(congrArg (Value.int .i64) (by grind [szI,mDk])),Z.xt⟩
theorem H4 (a:Wld) (left:Int) (h1:RepS w F a1 n1 c1 a.store.idx.names) (h2:RepS w F a2 n2 c2 a.store.idx.Ae) (h3:RepS w F a3 n3 c3 a.store.parts) (h4:RepS w F a4 n4 c4 a.store.mem) (h5:RepS w F a5 n5 c5 a.disk.files) (h6:RepS w F a6 n6 c6 a.disk.list) (h7:RepS w F a7 n7 c7 a.disk.names) (p0:WdB a) (p1:0≤left∧left≤1048576):Calls Tryz.prog 6 [.agg #[.slice a1 n1 c1,.slice a2 n2 c2,.slice a3 n3 c3,.slice a4 n4 c4,.slice a5 n5 c5,.slice a6 n6 c6,.slice a7 n7 c7,.int .i64 a.disk.next],.int .i64 left].toArray w (Ad fun rv w'=>rv=.int .i64 (szI (mWd a) left)∧Ext w w'):=by
 cases h1.len
 cases h2.len
 cases h3.len
 cases h4.len
 cases h5.len
 cases h6.len
 cases h7.len
 refine goT func6 ?_
 have Z:=(((((((St.i0 F w).p h1).p h2).p h3).p h4).p h5).p h6).p h7
 have ae:=h1.max
 have af:=h2.max
 have ag:=h3.max
 have ah:=h4.max
 have ai:=h5.max
 have aj:=h6.max
 have ak:=h7.max
 exact .s<|.g<|RG.Np Z fun am w Z=>.r 1<|.d<|.s<|.g<|.r 1<|RG.Ln 0 Z<|.r 1<|RG.C0 (H2 a.store left (Z.a 6) (Z.a 5) (Z.a 4) (Z.a 3) p0.1 (by first | omega | (have q1:=Aq ‹_›; omega) | (have q1:=Aq (by assumption:¬ szI _ (szI _ left)< 0); have q2:=Aq (by assumption:¬ szI _ left< 0); omega))) Z fun w Z=>.r 1<|.d<|.s<|.s<|.g<|.r 1<|.bp (szI (mSt a.store) left< 0) (fun aa=>.d<|.ct<|.s<|.g<|.r 1<|.d<|T.rt func6 results6 (vI (-1)) ⟨(congrArg (Value.int .i64) (by grind [szI,mWd])),Z.xt⟩) fun aa=>.d<|.cf<|.sk<|.s<|.g<|.r 1<|RG.Ln 0 Z<|.r 1<|RG.C0 (Ic a.disk (szI (mSt a.store) left) (Z.a 2) (Z.a 1) (Z.a 0) p0.2 (by first | omega | (have q1:=Aq ‹_›; omega) | (have q1:=Aq (by assumption:¬ szI _ (szI _ left)< 0); have q2:=Aq (by assumption:¬ szI _ left< 0); omega))) Z fun w Z=>.r 1<|.d<|.s<|.s<|.g<|.r 1<|.bp (szI (mDk a.disk) (szI (mSt a.store) left)< 0) (fun ab=>.d<|.ct<|.s<|.g<|.r 1<|.d<|T.rt func6 results6 (vI (-1)) ⟨(congrArg (Value.int .i64) (by grind [szI,mWd])),Z.xt⟩) fun ab=>.d<|.cf<|.sk<|.s<|.g<|.r 2<|.d<|T.rt func6 results6 (vI (szI (mDk a.disk) (szI (mSt a.store) left))) ⟨(congrArg (Value.int .i64) (by grind [szI,mWd])),Z.xt⟩
theorem Fq (a:Tag){F:Nat→Prop}   : Calls Tryz.prog 115 [.agg #[.string (bs a.key),.string (bs a.val)]].toArray w (Ad fun rv w'=>VS (ge w.heap.size) w' (a:Tag) rv∧Ext w w'):=by
 refine goT func115 ?_
 have Z:=St.i0 F w
 exact .s<|.g<|RG.Np Z fun aa w Z=>RG.Np Z fun ab w Z=>.d<|.s<|.g<|RG.Np Z fun ac w Z=>.d<|.s<|.g<|.r 1<|RG.Lb 2 Z<|.r 1<|RG.Ss 0 Z fun w Z=>.d<|.s<|.g<|.r 1<|RG.Lb 2 Z<|.r 1<|RG.Ss 0 Z fun w Z=>.d<|.s<|.g<|RG.Ln 0 Z<|RG.Ss 1 Z fun w Z=>.d<|T.Rb 1 func115 results115 Z ⟨Z.rS a [] rfl,Z.xt⟩
theorem Ie (a:List Tag) (h1:RepS w F a1 n1 c1 a) (p0:a.length≤1100000):Calls Tryz.prog 44 [.slice a1 n1 c1].toArray w (Ad fun rv w'=>VL (ge w.heap.size) w' (a:List Tag) rv∧Ext w w'):=by
 cases h1.len
 refine goT func44 ?_
 have Z:=(St.i0 F w).p h1
 have aj:=h1.max
 refine .s<|.g<|.r 1<|.d<|.s<|.g<|.r 2<|RG.Mk (hb:=(by first | omega | (have q1:=p0.1; omega))) 0 (⟨([]:Str),([]:Str)⟩:Tag) a.length (fun _ _=>fn_) Z fun af w Z=>.r 1<|.d<|.s<|.s<|.g<|.r 1<|.d<|.b 0<|T.Lp ((0:Nat),(List.replicate a.length (⟨([]:Str),([]:Str)⟩:Tag))) (fun (i,xs)=>([(0,.slice a1 a.length c1),(3,vS af a.length a.length),(4,vI (i:Int))],[(0,.own 0 af 128 a.length xs)],[],a.length - i,(i≤a.length)∧(xs.length=a.length)∧(xs.take i=a.take i))) [] Z ⟨AB,AD,AD⟩ ?_
 rintro ⟨i,xs⟩ ax w Z ⟨ak,am,ao⟩ ac
 refine .s<|.s<|.g<|.r 3<|.bp ((i:Int)< (a.length:Int)) (fun ag=>?_) (fun ag=>?_)
 ·refine .d<|.ct<|.sk<|.s<|.b 1<|.g<|.r 4<|gx a i fun ae ab=>?_
  have aq:=drop_at ab; have ah:=AV ab
  refine RG.Ix 0 ab Z<|Z.el 0 ab fun Z=>RG.Lg 0 0 Z<|RG.CS (Fq ae (F:=all)) Z fun  w Z=>gx xs i fun ay aa=>?_
  have ar:=drop_at aa; have ai:=AV aa
  exact RG.Ko 0 a.length (i:Int) aa Z<|Z.eo 0 aa fun Z=>RG.Se 0 0 0 aa ae [] Z fun w Z=>.d<|.ib 1<|.g<|.r 1<|.it ((i:Int)+1)<|.r 1<|.d<|ac (i+1,(xs.set i ae)) _ _ AA (Z.to 0 [] 1) ⟨AB,(by (simp; omega)),(by exact C4 ‹_› ‹_› ‹_›)⟩ (by first | omega | (simp only []; omega))
 refine .d<|.cf<|.x 0 rfl<|.s<|.g<|.r 2<|.d ?_
 obtain rfl:a=xs:=EA ‹_› ‹_› AB
 exact T.Rt func44 results44 ⟨Z.rM 0 a AF,Z.xt⟩
theorem Ed (a:List (List Tag)) (h1:RepS w F a1 n1 c1 a) (p0:LL a):Calls Tryz.prog 67 [.slice a1 n1 c1].toArray w (Ad fun rv w'=>VL (ge w.heap.size) w' (a:List (List Tag)) rv∧Ext w w'):=by
 cases h1.len
 refine goT func67 ?_
 have Z:=(St.i0 F w).p h1
 have aj:=h1.max
 refine .s<|.g<|.r 1<|.d<|.s<|.g<|.r 2<|RG.Mk (hb:=(by first | omega | (have q1:=p0.1; omega))) 0 ([]:List Tag) a.length (fun _ _=>(fc (RepS.DI _ _ none 0 AE) fn_)) Z fun af w Z=>.r 1<|.d<|.s<|.s<|.g<|.r 1<|.d<|.b 0<|T.Lp ((0:Nat),(List.replicate a.length ([]:List Tag))) (fun (i,xs)=>([(0,.slice a1 a.length c1),(3,vS af a.length a.length),(4,vI (i:Int))],[(0,.own 0 af 71 a.length xs)],[],a.length - i,(i≤a.length)∧(xs.length=a.length)∧(xs.take i=a.take i))) [] Z ⟨AB,AD,AD⟩ ?_
 rintro ⟨i,xs⟩ ax w Z ⟨ak,am,ao⟩ ac
 refine .s<|.s<|.g<|.r 3<|.bp ((i:Int)< (a.length:Int)) (fun ag=>?_) (fun ag=>?_)
 ·refine .d<|.ct<|.sk<|.s<|.b 1<|.g<|.r 4<|gx a i fun ae ab=>?_
  have aq:=drop_at ab; have ah:=AV ab
  refine RG.Ix 0 ab Z<|Z.el 0 ab fun ay az Z=>RG.Lh 0 0 Z<|RG.CL (Ie ae (Z.a 1) (p0.2 _ ‹_›)) Z fun aA aB w Z=>gx xs i fun aC aa=>?_
  have ar:=drop_at aa; have ai:=AV aa
  exact RG.Ko 0 a.length (i:Int) aa Z<|Z.eo 0 aa fun aD aE Z=>RG.Se 0 0 0 aa ae [1] Z fun w Z=>.d<|.ib 1<|.g<|.r 1<|.it ((i:Int)+1)<|.r 1<|.d<|ac (i+1,(xs.set i ae)) _ _ AA (Z.to 0 [] 4) ⟨AB,(by (simp; omega)),(by exact C4 ‹_› ‹_› ‹_›)⟩ (by first | omega | (simp only []; omega))
 refine .d<|.cf<|.x 0 rfl<|.s<|.g<|.r 2<|.d ?_
 obtain rfl:a=xs:=EA ‹_› ‹_› AB
 exact T.Rt func67 results67 ⟨Z.rM 0 a AF,Z.xt⟩
theorem DX (a:List Int) (h1:RepS w F a1 n1 c1 a) (p0:a.length≤1100000):Calls Tryz.prog 66 [.slice a1 n1 c1].toArray w (Ad fun rv w'=>VL (ge w.heap.size) w' (a:List Int) rv∧Ext w w'):=by
 cases h1.len
 refine goT func66 ?_
 have Z:=(St.i0 F w).p h1
 have aj:=h1.max
 refine .s<|.g<|.r 1<|.d<|.s<|.g<|.r 2<|RG.Mk (hb:=(by first | omega | (have q1:=p0.1; omega))) 0 (0:Int) a.length (fun _ _=>fn_) Z fun ae w Z=>.r 1<|.d<|.s<|.s<|.g<|.r 1<|.d<|.b 0<|T.Lp ((0:Nat),(List.replicate a.length (0:Int))) (fun (i,xs)=>([(0,.slice a1 a.length c1),(3,vS ae a.length a.length),(4,vI (i:Int))],[(0,.own 0 ae 3 a.length xs)],[],a.length - i,(i≤a.length)∧(xs.length=a.length)∧(xs.take i=a.take i))) [] Z ⟨AB,AD,AD⟩ ?_
 rintro ⟨i,xs⟩ ax w Z ⟨ak,am,ao⟩ ac
 refine .s<|.s<|.g<|.r 3<|.bp ((i:Int)< (a.length:Int)) (fun af=>?_) (fun af=>?_)
 ·refine .d<|.ct<|.sk<|.s<|.b 1<|.g<|.r 4<|gx a i fun ag ab=>?_
  have aq:=drop_at ab; have ah:=AV ab
  refine RG.Ix 0 ab Z<|Z.el 0 ab fun Z=>RG.Lh 0 0 Z<|gx xs i fun ay aa=>?_
  have ar:=drop_at aa; have ai:=AV aa
  exact RG.Ko 0 a.length (i:Int) aa Z<|Z.eo 0 aa fun Z=>RG.Se 0 0 0 aa ag [] Z fun w Z=>.d<|.ib 1<|.g<|.r 1<|.it ((i:Int)+1)<|.r 1<|.d<|ac (i+1,(xs.set i ag)) _ _ AA (Z.to 0 [] 1) ⟨AB,(by (simp; omega)),(by exact C4 ‹_› ‹_› ‹_›)⟩ (by first | omega | (simp only []; omega))
 refine .d<|.cf<|.x 0 rfl<|.s<|.g<|.r 2<|.d ?_
 obtain rfl:a=xs:=EA ‹_› ‹_› AB
 exact T.Rt func66 results66 ⟨Z.rM 0 a AF,Z.xt⟩
theorem Ig (a:Pst) (h1:RepS w F a1 n1 c1 a.ids) (p0:a.ids.length≤1100000):Calls Tryz.prog 191 [.agg #[.string (bs a.tag.key),.string (bs a.tag.val),.slice a1 n1 c1]].toArray w (Ad fun rv w'=>VS (ge w.heap.size) w' (a:Pst) rv∧Ext w w'):=by
 cases h1.len
 refine goT func191 ?_
 have Z:=(St.i0 F w).p h1
 have aa:=h1.max
 exact .s<|.g<|RG.Np Z fun ab w Z=>RG.Np Z fun ac w Z=>.d<|.s<|.g<|RG.Np Z fun ae w Z=>.d<|.s<|.g<|.r 1<|RG.Ln 2 Z<|RG.CS (Fq a.tag (F:=all)) Z fun  w Z=>.r 1<|RG.Ss 0 Z fun w Z=>.d<|.s<|.g<|.r 1<|RG.Lb 2 Z<|RG.CL (DX a.ids (Z.a 0) p0) Z fun af ag w Z=>.r 1<|RG.Ss 0 Z fun w Z=>.d<|.s<|.g<|RG.Ln 0 Z<|RG.Ss 1 Z fun w Z=>.d<|T.Rb 1 func191 results191 Z ⟨Z.rS a [0] rfl,Z.xt⟩
theorem H5 (a:List Pst) (h1:RepS w F a1 n1 c1 a) (p0:PoL a):Calls Tryz.prog 134 [.slice a1 n1 c1].toArray w (Ad fun rv w'=>VL (ge w.heap.size) w' (a:List Pst) rv∧Ext w w'):=by
 cases h1.len
 refine goT func134 ?_
 have Z:=(St.i0 F w).p h1
 have aj:=h1.max
 refine .s<|.g<|.r 1<|.d<|.s<|.g<|.r 2<|RG.Mk (hb:=(by first | omega | (have q1:=p0.1; omega))) 0 (⟨(⟨([]:Str),([]:Str)⟩:Tag),([]:List Int)⟩:Pst) a.length (fun _ _=>(fc (RepS.DI _ _ none 0 AE) fn_)) Z fun af w Z=>.r 1<|.d<|.s<|.s<|.g<|.r 1<|.d<|.b 0<|T.Lp ((0:Nat),(List.replicate a.length (⟨(⟨([]:Str),([]:Str)⟩:Tag),([]:List Int)⟩:Pst))) (fun (i,xs)=>([(0,.slice a1 a.length c1),(3,vS af a.length a.length),(4,vI (i:Int))],[(0,.own 0 af 214 a.length xs)],[],a.length - i,(i≤a.length)∧(xs.length=a.length)∧(xs.take i=a.take i))) [] Z ⟨AB,AD,AD⟩ ?_
 rintro ⟨i,xs⟩ ax w Z ⟨ak,am,ao⟩ ac
 refine .s<|.s<|.g<|.r 3<|.bp ((i:Int)< (a.length:Int)) (fun ag=>?_) (fun ag=>?_)
 ·refine .d<|.ct<|.sk<|.s<|.b 1<|.g<|.r 4<|gx a i fun ae ab=>?_
  have aq:=drop_at ab; have ah:=AV ab
  refine RG.Ix 0 ab Z<|Z.el 0 ab fun ay az Z=>RG.Lg 0 0 Z<|RG.CS (Ig ae (Z.a 1) (p0.2 _ ‹_›)) Z fun aA aB w Z=>gx xs i fun aC aa=>?_
  have ar:=drop_at aa; have ai:=AV aa
  exact RG.Ko 0 a.length (i:Int) aa Z<|Z.eo 0 aa fun aD aE Z=>RG.Se 0 0 0 aa ae [1] Z fun w Z=>.d<|.ib 1<|.g<|.r 1<|.it ((i:Int)+1)<|.r 1<|.d<|ac (i+1,(xs.set i ae)) _ _ AA (Z.to 0 [] 4) ⟨AB,(by (simp; omega)),(by exact C4 ‹_› ‹_› ‹_›)⟩ (by first | omega | (simp only []; omega))
 refine .d<|.cf<|.x 0 rfl<|.s<|.g<|.r 2<|.d ?_
 obtain rfl:a=xs:=EA ‹_› ‹_› AB
 exact T.Rt func134 results134 ⟨Z.rM 0 a AF,Z.xt⟩
theorem H6 (a:Idx) (h1:RepS w F a1 n1 c1 a.names) (h2:RepS w F a2 n2 c2 a.Ae) (p0:IxL a):Calls Tryz.prog 62 [.agg #[.slice a1 n1 c1,.slice a2 n2 c2]].toArray w (Ad fun rv w'=>VS (ge w.heap.size) w' (a:Idx) rv∧Ext w w'):=by
 cases h1.len
 cases h2.len
 refine goT func62 ?_
 have Z:=((St.i0 F w).p h1).p h2
 have aa:=h1.max
 have ab:=h2.max
 exact .s<|.g<|RG.Np Z fun ac w Z=>RG.Np Z fun ae w Z=>.d<|.s<|.g<|RG.Np Z fun af w Z=>.d<|.s<|.g<|.r 1<|RG.Lb 2 Z<|RG.CL (Ed a.names (Z.a 1) p0.1) Z fun ag ah w Z=>.r 1<|RG.Ss 0 Z fun w Z=>.d<|.s<|.g<|.r 1<|RG.Lb 2 Z<|RG.CL (H5 a.Ae (Z.a 1) p0.2) Z fun ai aj w Z=>.r 1<|RG.Ss 0 Z fun w Z=>.d<|.s<|.g<|RG.Ln 0 Z<|RG.Ss 1 Z fun w Z=>.d<|T.Rb 1 func62 results62 Z ⟨Z.rS a [1,0] rfl,Z.xt⟩
theorem Fs (a:Row){F:Nat→Prop}   : Calls Tryz.prog 45 [.agg #[.int .i64 a.t,.int .i64 a.v]].toArray w (Ad fun rv w'=>VS (ge w.heap.size) w' (a:Row) rv∧Ext w w'):=by
 refine goT func45 ?_
 have Z:=St.i0 F w
 exact .s<|.g<|RG.Np Z fun aa w Z=>RG.Np Z fun ab w Z=>.d<|.s<|.g<|RG.Np Z fun ac w Z=>.d<|.s<|.g<|.r 1<|RG.Lb 2 Z<|.r 1<|RG.Ss 0 Z fun w Z=>.d<|.s<|.g<|.r 1<|RG.Lb 2 Z<|.r 1<|RG.Ss 0 Z fun w Z=>.d<|.s<|.g<|RG.Ln 0 Z<|RG.Ss 1 Z fun w Z=>.d<|T.Rb 1 func45 results45 Z ⟨Z.rS a [] rfl,Z.xt⟩
theorem Ih (a:List Row) (h1:RepS w F a1 n1 c1 a) (p0:a.length≤1100000):Calls Tryz.prog 221 [.slice a1 n1 c1].toArray w (Ad fun rv w'=>VL (ge w.heap.size) w' (a:List Row) rv∧Ext w w'):=by
 cases h1.len
 refine goT func221 ?_
 have Z:=(St.i0 F w).p h1
 have aj:=h1.max
 refine .s<|.g<|.r 1<|.d<|.s<|.g<|.r 2<|RG.Mk (hb:=(by first | omega | (have q1:=p0.1; omega))) 0 (⟨(0:Int),(0:Int)⟩:Row) a.length (fun _ _=>fn_) Z fun af w Z=>.r 1<|.d<|.s<|.s<|.g<|.r 1<|.d<|.b 0<|T.Lp ((0:Nat),(List.replicate a.length (⟨(0:Int),(0:Int)⟩:Row))) (fun (i,xs)=>([(0,.slice a1 a.length c1),(3,vS af a.length a.length),(4,vI (i:Int))],[(0,.own 0 af 72 a.length xs)],[],a.length - i,(i≤a.length)∧(xs.length=a.length)∧(xs.take i=a.take i))) [] Z ⟨AB,AD,AD⟩ ?_
 rintro ⟨i,xs⟩ ax w Z ⟨ak,am,ao⟩ ac
 refine .s<|.s<|.g<|.r 3<|.bp ((i:Int)< (a.length:Int)) (fun ag=>?_) (fun ag=>?_)
 ·refine .d<|.ct<|.sk<|.s<|.b 1<|.g<|.r 4<|gx a i fun ae ab=>?_
  have aq:=drop_at ab; have ah:=AV ab
  refine RG.Ix 0 ab Z<|Z.el 0 ab fun Z=>RG.Lg 0 0 Z<|RG.CS (Fs ae (F:=all)) Z fun  w Z=>gx xs i fun ay aa=>?_
  have ar:=drop_at aa; have ai:=AV aa
  exact RG.Ko 0 a.length (i:Int) aa Z<|Z.eo 0 aa fun Z=>RG.Se 0 0 0 aa ae [] Z fun w Z=>.d<|.ib 1<|.g<|.r 1<|.it ((i:Int)+1)<|.r 1<|.d<|ac (i+1,(xs.set i ae)) _ _ AA (Z.to 0 [] 1) ⟨AB,(by (simp; omega)),(by exact C4 ‹_› ‹_› ‹_›)⟩ (by first | omega | (simp only []; omega))
 refine .d<|.cf<|.x 0 rfl<|.s<|.g<|.r 2<|.d ?_
 obtain rfl:a=xs:=EA ‹_› ‹_› AB
 exact T.Rt func221 results221 ⟨Z.rM 0 a AF,Z.xt⟩
theorem H7 (a:List (List Row)) (h1:RepS w F a1 n1 c1 a) (p0:LL a):Calls Tryz.prog 192 [.slice a1 n1 c1].toArray w (Ad fun rv w'=>VL (ge w.heap.size) w' (a:List (List Row)) rv∧Ext w w'):=by
 cases h1.len
 refine goT func192 ?_
 have Z:=(St.i0 F w).p h1
 have aj:=h1.max
 refine .s<|.g<|.r 1<|.d<|.s<|.g<|.r 2<|RG.Mk (hb:=(by first | omega | (have q1:=p0.1; omega))) 0 ([]:List Row) a.length (fun _ _=>(fc (RepS.DI _ _ none 0 AE) fn_)) Z fun af w Z=>.r 1<|.d<|.s<|.s<|.g<|.r 1<|.d<|.b 0<|T.Lp ((0:Nat),(List.replicate a.length ([]:List Row))) (fun (i,xs)=>([(0,.slice a1 a.length c1),(3,vS af a.length a.length),(4,vI (i:Int))],[(0,.own 0 af 115 a.length xs)],[],a.length - i,(i≤a.length)∧(xs.length=a.length)∧(xs.take i=a.take i))) [] Z ⟨AB,AD,AD⟩ ?_
 rintro ⟨i,xs⟩ ax w Z ⟨ak,am,ao⟩ ac
 refine .s<|.s<|.g<|.r 3<|.bp ((i:Int)< (a.length:Int)) (fun ag=>?_) (fun ag=>?_)
 ·refine .d<|.ct<|.sk<|.s<|.b 1<|.g<|.r 4<|gx a i fun ae ab=>?_
  have aq:=drop_at ab; have ah:=AV ab
  refine RG.Ix 0 ab Z<|Z.el 0 ab fun ay az Z=>RG.Lh 0 0 Z<|RG.CL (Ih ae (Z.a 1) (p0.2 _ ‹_›)) Z fun aA aB w Z=>gx xs i fun aC aa=>?_
  have ar:=drop_at aa; have ai:=AV aa
  exact RG.Ko 0 a.length (i:Int) aa Z<|Z.eo 0 aa fun aD aE Z=>RG.Se 0 0 0 aa ae [1] Z fun w Z=>.d<|.ib 1<|.g<|.r 1<|.it ((i:Int)+1)<|.r 1<|.d<|ac (i+1,(xs.set i ae)) _ _ AA (Z.to 0 [] 4) ⟨AB,(by (simp; omega)),(by exact C4 ‹_› ‹_› ‹_›)⟩ (by first | omega | (simp only []; omega))
 refine .d<|.cf<|.x 0 rfl<|.s<|.g<|.r 2<|.d ?_
 obtain rfl:a=xs:=EA ‹_› ‹_› AB
 exact T.Rt func192 results192 ⟨Z.rM 0 a AF,Z.xt⟩
theorem E4 (a:Prt) (h1:RepS w F a1 n1 c1 a.ids) (h2:RepS w F a2 n2 c2 a.blocks) (p0:PtL a):Calls Tryz.prog 135 [.agg #[.slice a1 n1 c1,.slice a2 n2 c2]].toArray w (Ad fun rv w'=>VS (ge w.heap.size) w' (a:Prt) rv∧Ext w w'):=by
 cases h1.len
 cases h2.len
 refine goT func135 ?_
 have Z:=((St.i0 F w).p h1).p h2
 have aa:=h1.max
 have ab:=h2.max
 exact .s<|.g<|RG.Np Z fun ac w Z=>RG.Np Z fun ae w Z=>.d<|.s<|.g<|RG.Np Z fun af w Z=>.d<|.s<|.g<|.r 1<|RG.Lb 2 Z<|RG.CL (DX a.ids (Z.a 1) p0.1) Z fun ag ah w Z=>.r 1<|RG.Ss 0 Z fun w Z=>.d<|.s<|.g<|.r 1<|RG.Lb 2 Z<|RG.CL (H7 a.blocks (Z.a 1) p0.2) Z fun ai aj w Z=>.r 1<|RG.Ss 0 Z fun w Z=>.d<|.s<|.g<|RG.Ln 0 Z<|RG.Ss 1 Z fun w Z=>.d<|T.Rb 1 func135 results135 Z ⟨Z.rS a [1,0] rfl,Z.xt⟩
theorem H8 (a:List Prt) (h1:RepS w F a1 n1 c1 a) (p0:QT a):Calls Tryz.prog 63 [.slice a1 n1 c1].toArray w (Ad fun rv w'=>VL (ge w.heap.size) w' (a:List Prt) rv∧Ext w w'):=by
 cases h1.len
 refine goT func63 ?_
 have Z:=(St.i0 F w).p h1
 have aj:=h1.max
 refine .s<|.g<|.r 1<|.d<|.s<|.g<|.r 2<|RG.Mk (hb:=(by first | omega | (have q1:=p0.1; omega))) 0 (⟨([]:List Int),([]:List (List Row))⟩:Prt) a.length (fun _ _=>(fc (RepS.DI _ _ none 0 AE) (fc (RepS.DI _ _ none 0 AE) fn_))) Z fun af w Z=>.r 1<|.d<|.s<|.s<|.g<|.r 1<|.d<|.b 0<|T.Lp ((0:Nat),(List.replicate a.length (⟨([]:List Int),([]:List (List Row))⟩:Prt))) (fun (i,xs)=>([(0,.slice a1 a.length c1),(3,vS af a.length a.length),(4,vI (i:Int))],[(0,.own 0 af 111 a.length xs)],[],a.length - i,(i≤a.length)∧(xs.length=a.length)∧(xs.take i=a.take i))) [] Z ⟨AB,AD,AD⟩ ?_
 rintro ⟨i,xs⟩ ax w Z ⟨ak,am,ao⟩ ac
 refine .s<|.s<|.g<|.r 3<|.bp ((i:Int)< (a.length:Int)) (fun ag=>?_) (fun ag=>?_)
 ·refine .d<|.ct<|.sk<|.s<|.b 1<|.g<|.r 4<|gx a i fun ae ab=>?_
  have aq:=drop_at ab; have ah:=AV ab
  refine RG.Ix 0 ab Z<|Z.el 0 ab fun ay az aA aB Z=>RG.Lg 0 0 Z<|RG.CS (E4 ae (Z.a 1) (Z.a 2) (p0.2 _ ‹_›)) Z fun aC aD aE aF w Z=>gx xs i fun aG aa=>?_
  have ar:=drop_at aa; have ai:=AV aa
  exact RG.Ko 0 a.length (i:Int) aa Z<|Z.eo 0 aa fun aH aI aJ aK Z=>RG.Se 0 0 0 aa ae [2,3] Z fun w Z=>.d<|.ib 1<|.g<|.r 1<|.it ((i:Int)+1)<|.r 1<|.d<|ac (i+1,(xs.set i ae)) _ _ AA (Z.to 0 [] 7) ⟨AB,(by (simp; omega)),(by exact C4 ‹_› ‹_› ‹_›)⟩ (by first | omega | (simp only []; omega))
 refine .d<|.cf<|.x 0 rfl<|.s<|.g<|.r 2<|.d ?_
 obtain rfl:a=xs:=EA ‹_› ‹_› AB
 exact T.Rt func63 results63 ⟨Z.rM 0 a AF,Z.xt⟩
theorem Gz (a:Smp){F:Nat→Prop}   : Calls Tryz.prog 136 [.agg #[.int .i64 a.id,.int .i64 a.row.t,.int .i64 a.row.v]].toArray w (Ad fun rv w'=>VS (ge w.heap.size) w' (a:Smp) rv∧Ext w w'):=by
 refine goT func136 ?_
 have Z:=St.i0 F w
 exact .s<|.g<|RG.Np Z fun aa w Z=>RG.Np Z fun ab w Z=>.d<|.s<|.g<|RG.Np Z fun ac w Z=>.d<|.s<|.g<|.r 1<|RG.Lb 2 Z<|.r 1<|RG.Ss 0 Z fun w Z=>.d<|.s<|.g<|.r 1<|RG.Ln 2 Z<|RG.CS (Fs a.row (F:=all)) Z fun  w Z=>.r 1<|RG.Ss 0 Z fun w Z=>.d<|.s<|.g<|RG.Ln 0 Z<|RG.Ss 1 Z fun w Z=>.d<|T.Rb 1 func136 results136 Z ⟨Z.rS a [] rfl,Z.xt⟩
theorem Gg (a:List Smp) (h1:RepS w F a1 n1 c1 a) (p0:a.length≤1100000):Calls Tryz.prog 64 [.slice a1 n1 c1].toArray w (Ad fun rv w'=>VL (ge w.heap.size) w' (a:List Smp) rv∧Ext w w'):=by
 cases h1.len
 refine goT func64 ?_
 have Z:=(St.i0 F w).p h1
 have aj:=h1.max
 refine .s<|.g<|.r 1<|.d<|.s<|.g<|.r 2<|RG.Mk (hb:=(by first | omega | (have q1:=p0.1; omega))) 0 (⟨(0:Int),(⟨(0:Int),(0:Int)⟩:Row)⟩:Smp) a.length (fun _ _=>fn_) Z fun af w Z=>.r 1<|.d<|.s<|.s<|.g<|.r 1<|.d<|.b 0<|T.Lp ((0:Nat),(List.replicate a.length (⟨(0:Int),(⟨(0:Int),(0:Int)⟩:Row)⟩:Smp))) (fun (i,xs)=>([(0,.slice a1 a.length c1),(3,vS af a.length a.length),(4,vI (i:Int))],[(0,.own 0 af 175 a.length xs)],[],a.length - i,(i≤a.length)∧(xs.length=a.length)∧(xs.take i=a.take i))) [] Z ⟨AB,AD,AD⟩ ?_
 rintro ⟨i,xs⟩ ax w Z ⟨ak,am,ao⟩ ac
 refine .s<|.s<|.g<|.r 3<|.bp ((i:Int)< (a.length:Int)) (fun ag=>?_) (fun ag=>?_)
 ·refine .d<|.ct<|.sk<|.s<|.b 1<|.g<|.r 4<|gx a i fun ae ab=>?_
  have aq:=drop_at ab; have ah:=AV ab
  refine RG.Ix 0 ab Z<|Z.el 0 ab fun Z=>RG.Lg 0 0 Z<|RG.CS (Gz ae (F:=all)) Z fun  w Z=>gx xs i fun ay aa=>?_
  have ar:=drop_at aa; have ai:=AV aa
  exact RG.Ko 0 a.length (i:Int) aa Z<|Z.eo 0 aa fun Z=>RG.Se 0 0 0 aa ae [] Z fun w Z=>.d<|.ib 1<|.g<|.r 1<|.it ((i:Int)+1)<|.r 1<|.d<|ac (i+1,(xs.set i ae)) _ _ AA (Z.to 0 [] 1) ⟨AB,(by (simp; omega)),(by exact C4 ‹_› ‹_› ‹_›)⟩ (by first | omega | (simp only []; omega))
 refine .d<|.cf<|.x 0 rfl<|.s<|.g<|.r 2<|.d ?_
 obtain rfl:a=xs:=EA ‹_› ‹_› AB
 exact T.Rt func64 results64 ⟨Z.rM 0 a AF,Z.xt⟩
theorem H9 (a:Sto) (h1:RepS w F a1 n1 c1 a.idx.names) (h2:RepS w F a2 n2 c2 a.idx.Ae) (h3:RepS w F a3 n3 c3 a.parts) (h4:RepS w F a4 n4 c4 a.mem) (p0:StL a):Calls Tryz.prog 28 [.agg #[.slice a1 n1 c1,.slice a2 n2 c2,.slice a3 n3 c3,.slice a4 n4 c4]].toArray w (Ad fun rv w'=>VS (ge w.heap.size) w' (a:Sto) rv∧Ext w w'):=by
 cases h1.len
 cases h2.len
 cases h3.len
 cases h4.len
 refine goT func28 ?_
 have Z:=((((St.i0 F w).p h1).p h2).p h3).p h4
 have aa:=h1.max
 have ab:=h2.max
 have ac:=h3.max
 have ae:=h4.max
 exact .s<|.g<|RG.Np Z fun af w Z=>RG.Np Z fun ag w Z=>.d<|.s<|.g<|RG.Np Z fun ah w Z=>.d<|.s<|.g<|.r 1<|RG.Ln 2 Z<|RG.CS (H6 a.idx (Z.a 3) (Z.a 2) p0.1) Z fun ai aj ak am w Z=>.r 1<|RG.Ss 0 Z fun w Z=>.d<|.s<|.g<|.r 1<|RG.Lb 2 Z<|RG.CL (H8 a.parts (Z.a 3) p0.2.1) Z fun ao aq w Z=>.r 1<|RG.Ss 0 Z fun w Z=>.d<|.s<|.g<|.r 1<|RG.Lb 2 Z<|RG.CL (Gg a.mem (Z.a 3) p0.2.2) Z fun ar ax w Z=>.r 1<|RG.Ss 0 Z fun w Z=>.d<|.s<|.g<|RG.Ln 0 Z<|RG.Ss 1 Z fun w Z=>.d<|T.Rb 1 func28 results28 Z ⟨Z.rS a [2,3,1,0] rfl,Z.xt⟩
theorem Ii (a:Fil) (h1:RepS w F a1 n1 c1 a.part.ids) (h2:RepS w F a2 n2 c2 a.part.blocks) (p0:PtL a.part):Calls Tryz.prog 137 [.agg #[.int .i64 a.num,.slice a1 n1 c1,.slice a2 n2 c2]].toArray w (Ad fun rv w'=>VS (ge w.heap.size) w' (a:Fil) rv∧Ext w w'):=by
 cases h1.len
 cases h2.len
 refine goT func137 ?_
 have Z:=((St.i0 F w).p h1).p h2
 have aa:=h1.max
 have ab:=h2.max
 exact .s<|.g<|RG.Np Z fun ac w Z=>RG.Np Z fun ae w Z=>.d<|.s<|.g<|RG.Np Z fun af w Z=>.d<|.s<|.g<|.r 1<|RG.Lb 2 Z<|.r 1<|RG.Ss 0 Z fun w Z=>.d<|.s<|.g<|.r 1<|RG.Ln 2 Z<|RG.CS (E4 a.part (Z.a 1) (Z.a 0) p0) Z fun ag ah ai aj w Z=>.r 1<|RG.Ss 0 Z fun w Z=>.d<|.s<|.g<|RG.Ln 0 Z<|RG.Ss 1 Z fun w Z=>.d<|T.Rb 1 func137 results137 Z ⟨Z.rS a [0,1] rfl,Z.xt⟩
theorem IA (a:List Fil) (h1:RepS w F a1 n1 c1 a) (p0:QU a):Calls Tryz.prog 65 [.slice a1 n1 c1].toArray w (Ad fun rv w'=>VL (ge w.heap.size) w' (a:List Fil) rv∧Ext w w'):=by
 cases h1.len
 refine goT func65 ?_
 have Z:=(St.i0 F w).p h1
 have aj:=h1.max
 refine .s<|.g<|.r 1<|.d<|.s<|.g<|.r 2<|RG.Mk (hb:=(by first | omega | (have q1:=p0.1; omega))) 0 (⟨(0:Int),(⟨([]:List Int),([]:List (List Row))⟩:Prt)⟩:Fil) a.length (fun _ _=>(fc (RepS.DI _ _ none 0 AE) (fc (RepS.DI _ _ none 0 AE) fn_))) Z fun af w Z=>.r 1<|.d<|.s<|.s<|.g<|.r 1<|.d<|.b 0<|T.Lp ((0:Nat),(List.replicate a.length (⟨(0:Int),(⟨([]:List Int),([]:List (List Row))⟩:Prt)⟩:Fil))) (fun (i,xs)=>([(0,.slice a1 a.length c1),(3,vS af a.length a.length),(4,vI (i:Int))],[(0,.own 0 af 113 a.length xs)],[],a.length - i,(i≤a.length)∧(xs.length=a.length)∧(xs.take i=a.take i))) [] Z ⟨AB,AD,AD⟩ ?_
 rintro ⟨i,xs⟩ ax w Z ⟨ak,am,ao⟩ ac
 refine .s<|.s<|.g<|.r 3<|.bp ((i:Int)< (a.length:Int)) (fun ag=>?_) (fun ag=>?_)
 ·refine .d<|.ct<|.sk<|.s<|.b 1<|.g<|.r 4<|gx a i fun ae ab=>?_
  have aq:=drop_at ab; have ah:=AV ab
  refine RG.Ix 0 ab Z<|Z.el 0 ab fun ay az aA aB Z=>RG.Lg 0 0 Z<|RG.CS (Ii ae (Z.a 1) (Z.a 2) (p0.2 _ ‹_›)) Z fun aC aD aE aF w Z=>gx xs i fun aG aa=>?_
  have ar:=drop_at aa; have ai:=AV aa
  exact RG.Ko 0 a.length (i:Int) aa Z<|Z.eo 0 aa fun aH aI aJ aK Z=>RG.Se 0 0 0 aa ae [2,3] Z fun w Z=>.d<|.ib 1<|.g<|.r 1<|.it ((i:Int)+1)<|.r 1<|.d<|ac (i+1,(xs.set i ae)) _ _ AA (Z.to 0 [] 7) ⟨AB,(by (simp; omega)),(by exact C4 ‹_› ‹_› ‹_›)⟩ (by first | omega | (simp only []; omega))
 refine .d<|.cf<|.x 0 rfl<|.s<|.g<|.r 2<|.d ?_
 obtain rfl:a=xs:=EA ‹_› ‹_› AB
 exact T.Rt func65 results65 ⟨Z.rM 0 a AF,Z.xt⟩
theorem Ij (a:Dsk) (h1:RepS w F a1 n1 c1 a.files) (h2:RepS w F a2 n2 c2 a.list) (h3:RepS w F a3 n3 c3 a.names) (p0:DkL a):Calls Tryz.prog 29 [.agg #[.slice a1 n1 c1,.slice a2 n2 c2,.slice a3 n3 c3,.int .i64 a.next]].toArray w (Ad fun rv w'=>VS (ge w.heap.size) w' (a:Dsk) rv∧Ext w w'):=by
 cases h1.len
 cases h2.len
 cases h3.len
 refine goT func29 ?_
 have Z:=(((St.i0 F w).p h1).p h2).p h3
 have aa:=h1.max
 have ab:=h2.max
 have ac:=h3.max
 exact .s<|.g<|RG.Np Z fun ae w Z=>RG.Np Z fun af w Z=>.d<|.s<|.g<|RG.Np Z fun ag w Z=>.d<|.s<|.g<|.r 1<|RG.Lb 2 Z<|RG.CL (IA a.files (Z.a 2) p0.1) Z fun ah ai w Z=>.r 1<|RG.Ss 0 Z fun w Z=>.d<|.s<|.g<|.r 1<|RG.Lb 2 Z<|RG.CL (DX a.list (Z.a 2) p0.2.1) Z fun aj ak w Z=>.r 1<|RG.Ss 0 Z fun w Z=>.d<|.s<|.g<|.r 1<|RG.Lb 2 Z<|RG.CL (Ed a.names (Z.a 2) p0.2.2) Z fun am ao w Z=>.r 1<|RG.Ss 0 Z fun w Z=>.d<|.s<|.g<|.r 1<|RG.Lb 2 Z<|.r 1<|RG.Ss 0 Z fun w Z=>.d<|.s<|.g<|RG.Ln 0 Z<|RG.Ss 1 Z fun w Z=>.d<|T.Rb 1 func29 results29 Z ⟨Z.rS a [2,1,0] rfl,Z.xt⟩
theorem DH (a:Wld) (h1:RepS w F a1 n1 c1 a.store.idx.names) (h2:RepS w F a2 n2 c2 a.store.idx.Ae) (h3:RepS w F a3 n3 c3 a.store.parts) (h4:RepS w F a4 n4 c4 a.store.mem) (h5:RepS w F a5 n5 c5 a.disk.files) (h6:RepS w F a6 n6 c6 a.disk.list) (h7:RepS w F a7 n7 c7 a.disk.names) (p0:WdL a):Calls Tryz.prog 8 [.agg #[.slice a1 n1 c1,.slice a2 n2 c2,.slice a3 n3 c3,.slice a4 n4 c4,.slice a5 n5 c5,.slice a6 n6 c6,.slice a7 n7 c7,.int .i64 a.disk.next]].toArray w (Ad fun rv w'=>VS (ge w.heap.size) w' (a:Wld) rv∧Ext w w'):=by
 cases h1.len
 cases h2.len
 cases h3.len
 cases h4.len
 cases h5.len
 cases h6.len
 cases h7.len
 refine goT func8 ?_
 have Z:=(((((((St.i0 F w).p h1).p h2).p h3).p h4).p h5).p h6).p h7
 have aa:=h1.max
 have ab:=h2.max
 have ac:=h3.max
 have ae:=h4.max
 have af:=h5.max
 have ag:=h6.max
 have ah:=h7.max
 exact .s<|.g<|RG.Np Z fun ai w Z=>RG.Np Z fun aj w Z=>.d<|.s<|.g<|RG.Np Z fun ak w Z=>.d<|.s<|.g<|.r 1<|RG.Ln 2 Z<|RG.CS (H9 a.store (Z.a 6) (Z.a 5) (Z.a 4) (Z.a 3) p0.1) Z fun am ao aq ar ax ay az aA w Z=>.r 1<|RG.Ss 0 Z fun w Z=>.d<|.s<|.g<|.r 1<|RG.Ln 2 Z<|RG.CS (Ij a.disk (Z.a 6) (Z.a 5) (Z.a 4) p0.2) Z fun aB aC aD aE aF aG w Z=>.r 1<|RG.Ss 0 Z fun w Z=>.d<|.s<|.g<|RG.Ln 0 Z<|RG.Ss 1 Z fun w Z=>.d<|T.Rb 1 func8 results8 Z ⟨Z.rS a [3,4,5,6,0,1,2] rfl,Z.xt⟩
theorem Ft (a:Tag) (b:Tag){F:Nat→Prop}   : Calls Tryz.prog 120 [.agg #[.string (bs a.key),.string (bs a.val)],.agg #[.string (bs b.key),.string (bs b.val)]].toArray w (Ad fun rv w'=>rv=.bool ((a==b))∧Ext w w'):=by
 refine goT func120 ?_
 have Z:=St.i0 F w
 refine .s<|.g<|RG.Np Z fun ac w Z=>RG.Np Z fun ae w Z=>.r 1<|.d<|.s<|.s<|.g<|.r 1<|RG.Lb 1 Z<|.r 1<|RG.Lb 0 Z<|RG.eqv (v:=.bool (!(a.key==b.key))) AA (Oh a.key b.key) ?_
 cases aa:(a.key==b.key)
 ·exact .d<|.ct<|.s<|.g<|.r 1<|.d<|T.rt func120 results120 (.bool false) ⟨(AG (by cases a; cases b; first | grind | simp_all)),Z.xt⟩
 refine .d<|.cf<|.sk<|.s<|.s<|.g<|.r 1<|RG.Lb 1 Z<|.r 1<|RG.Lb 0 Z<|RG.eqv (v:=.bool (!(a.val==b.val))) AA (Oh a.val b.val) ?_
 cases ab:(a.val==b.val)
 ·exact .d<|.ct<|.s<|.g<|.r 1<|.d<|T.rt func120 results120 (.bool false) ⟨(AG (by cases a; cases b; first | grind | simp_all)),Z.xt⟩
 exact .d<|.cf<|.sk<|.s<|.g<|.r 1<|.d<|T.rt func120 results120 (.bool true) ⟨(AG (by cases a; cases b; first | grind | simp_all)),Z.xt⟩
theorem Ik (a:List Tag) (b:List Tag) (h1:RepS w F a1 n1 c1 a) (h2:RepS w F a2 n2 c2 b)  : Calls Tryz.prog 48 [.slice a1 n1 c1,.slice a2 n2 c2].toArray w (Ad fun rv w'=>rv=.bool ((a==b))∧Ext w w'):=by
 cases h1.len
 cases h2.len
 refine goT func48 ?_
 have Z:=((St.i0 F w).p h1).p h2
 have ak:=h1.max
 have am:=h2.max
 refine .s<|.g<|.r 1<|.d<|.s<|.s<|.g<|.r 4<|.ne (a.length:Int) (b.length:Int) (fun ae=>.d<|.ct<|.s<|.g<|.r 1<|.d<|T.rt func48 results48 (.bool false) ⟨(AG (by grind [AY])),Z.xt⟩) fun ae=>.d<|.cf<|.sk<|.s<|.s<|.g<|.r 1<|.d<|.b 0<|T.Lp (0:Nat) (fun i=>([(0,.slice a1 a.length c1),(1,.slice a2 b.length c2),(5,vI (i:Int))],[],[],a.length - i,(i≤a.length)∧(a.drop i=b.drop i↔a=b))) [] Z ⟨AD,AD⟩ ?_
 rintro i az w Z ⟨ao,aq⟩ ac
 refine .s<|.s<|.g<|.r 3<|.bp ((i:Int)< (a.length:Int)) (fun af=>?_) (fun af=>.d<|.cf<|.x 0 rfl<|.s<|.g<|.r 1<|.d<|T.rt func48 results48 (.bool true) ⟨(AG (by grind [AY])),Z.xt⟩)
 refine .d<|.ct<|.sk<|.s<|.b 1<|.s<|T.Gd 8 Z fun w Z=>.r [0,1]<|gx a i fun ag aa=>?_
 have ar:=drop_at aa; have ai:=AV aa
 refine GA.Ix 2 1 aa Z<|Z.el 1 aa fun Z=>GA.Lg 3 0 0 Z<|.r [4,5]<|gx b i fun ah ab=>?_
 have ax:=drop_at ab; have aj:=AV ab
 refine GA.Ix 6 1 ab Z<|Z.el 1 ab fun Z=>GA.Lg 7 0 0 Z<|GA.Dn Z fun w Z=>RG.C0 (Ft ag ah (F:=all)) Z fun w Z=>?_
 cases ay:(ag==ah)
 ·exact .r 1<|.d<|.ct<|.s<|.g<|.r 1<|.d<|T.rt func48 results48 (.bool false) ⟨(AG (by grind [AY])),Z.xt⟩
 exact .r 1<|.d<|.cf<|.sk<|.ib 1<|.g<|.r 1<|.it ((i:Int)+1)<|.r 1<|.d<|ac (i+1) _ _ AA (Z.to 0 [] 2) ⟨AB,(by grind)⟩ (by first | omega | (simp only []; omega))
theorem Ee (a:List (List Tag)) (b:List (List Tag)) (h1:RepS w F a1 n1 c1 a) (h2:RepS w F a2 n2 c2 b)  : Calls Tryz.prog 80 [.slice a1 n1 c1,.slice a2 n2 c2].toArray w (Ad fun rv w'=>rv=.bool ((a==b))∧Ext w w'):=by
 cases h1.len
 cases h2.len
 refine goT func80 ?_
 have Z:=((St.i0 F w).p h1).p h2
 have ak:=h1.max
 have am:=h2.max
 refine .s<|.g<|.r 1<|.d<|.s<|.s<|.g<|.r 4<|.ne (a.length:Int) (b.length:Int) (fun ae=>.d<|.ct<|.s<|.g<|.r 1<|.d<|T.rt func80 results80 (.bool false) ⟨(AG (by grind [AY])),Z.xt⟩) fun ae=>.d<|.cf<|.sk<|.s<|.s<|.g<|.r 1<|.d<|.b 0<|T.Lp (0:Nat) (fun i=>([(0,.slice a1 a.length c1),(1,.slice a2 b.length c2),(5,vI (i:Int))],[],[],a.length - i,(i≤a.length)∧(a.drop i=b.drop i↔a=b))) [] Z ⟨AD,AD⟩ ?_
 rintro i az w Z ⟨ao,aq⟩ ac
 refine .s<|.s<|.g<|.r 3<|.bp ((i:Int)< (a.length:Int)) (fun af=>?_) (fun af=>.d<|.cf<|.x 0 rfl<|.s<|.g<|.r 1<|.d<|T.rt func80 results80 (.bool true) ⟨(AG (by grind [AY])),Z.xt⟩)
 refine .d<|.ct<|.sk<|.s<|.b 1<|.s<|T.Gd 8 Z fun w Z=>.r [0,1]<|gx a i fun ag aa=>?_
 have ar:=drop_at aa; have ai:=AV aa
 refine GA.Ix 2 1 aa Z<|Z.el 1 aa fun aA aB Z=>GA.Lh 3 0 0 Z<|.r [4,5]<|gx b i fun ah ab=>?_
 have ax:=drop_at ab; have aj:=AV ab
 refine GA.Ix 6 2 ab Z<|Z.el 2 ab fun aC aD Z=>GA.Lh 7 0 0 Z<|GA.Dn Z fun w Z=>RG.C0 (Ik ag ah (Z.a 3) (Z.a 1)) Z fun w Z=>?_
 cases ay:(ag==ah)
 ·exact .r 1<|.d<|.ct<|.s<|.g<|.r 1<|.d<|T.rt func80 results80 (.bool false) ⟨(AG (by grind [AY])),Z.xt⟩
 exact .r 1<|.d<|.cf<|.sk<|.ib 1<|.g<|.r 1<|.it ((i:Int)+1)<|.r 1<|.d<|ac (i+1) _ _ AA (Z.to 0 [] 4) ⟨AB,(by grind)⟩ (by first | omega | (simp only []; omega))
theorem DY (a:List Int) (b:List Int) (h1:RepS w F a1 n1 c1 a) (h2:RepS w F a2 n2 c2 b)  : Calls Tryz.prog 79 [.slice a1 n1 c1,.slice a2 n2 c2].toArray w (Ad fun rv w'=>rv=.bool ((a==b))∧Ext w w'):=by
 cases h1.len
 cases h2.len
 refine goT func79 ?_
 have Z:=((St.i0 F w).p h1).p h2
 have am:=h1.max
 have ao:=h2.max
 refine .s<|.g<|.r 1<|.d<|.s<|.s<|.g<|.r 4<|.ne (a.length:Int) (b.length:Int) (fun ae=>.d<|.ct<|.s<|.g<|.r 1<|.d<|T.rt func79 results79 (.bool false) ⟨(AG (by grind [AY])),Z.xt⟩) fun ae=>.d<|.cf<|.sk<|.s<|.s<|.g<|.r 1<|.d<|.b 0<|T.Lp (0:Nat) (fun i=>([(0,.slice a1 a.length c1),(1,.slice a2 b.length c2),(5,vI (i:Int))],[],[],a.length - i,(i≤a.length)∧(a.drop i=b.drop i↔a=b))) [] Z ⟨AD,AD⟩ ?_
 rintro i az w Z ⟨aq,ar⟩ ac
 refine .s<|.s<|.g<|.r 3<|.bp ((i:Int)< (a.length:Int)) (fun af=>?_) (fun af=>.d<|.cf<|.x 0 rfl<|.s<|.g<|.r 1<|.d<|T.rt func79 results79 (.bool true) ⟨(AG (by grind [AY])),Z.xt⟩)
 refine .d<|.ct<|.sk<|.s<|.b 1<|.s<|T.Gd 8 Z fun w Z=>.r [0,1]<|gx a i fun aj aa=>?_
 have ax:=drop_at aa; have ah:=AV aa
 refine GA.Ix 2 1 aa Z<|Z.el 1 aa fun Z=>GA.Lh 3 0 0 Z<|.r [4,5]<|gx b i fun ak ab=>?_
 have ay:=drop_at ab; have ai:=AV ab
 exact GA.Ix 6 1 ab Z<|Z.el 1 ab fun Z=>GA.Lh 7 0 0 Z<|GA.Dn Z fun w Z=>.ne aj ak (fun ag=>.d<|.ct<|.s<|.g<|.r 1<|.d<|T.rt func79 results79 (.bool false) ⟨(AG (by grind [AY])),Z.xt⟩) fun ag=>.d<|.cf<|.sk<|.ib 1<|.g<|.r 1<|.it ((i:Int)+1)<|.r 1<|.d<|ac (i+1) _ _ AA (Z.to 0 [] 2) ⟨AB,(by grind)⟩ (by first | omega | (simp only []; omega))
theorem Il (a:Pst) (b:Pst) (h1:RepS w F a1 n1 c1 a.ids) (h2:RepS w F a2 n2 c2 b.ids)  : Calls Tryz.prog 202 [.agg #[.string (bs a.tag.key),.string (bs a.tag.val),.slice a1 n1 c1],.agg #[.string (bs b.tag.key),.string (bs b.tag.val),.slice a2 n2 c2]].toArray w (Ad fun rv w'=>rv=.bool ((a==b))∧Ext w w'):=by
 cases h1.len
 cases h2.len
 refine goT func202 ?_
 have Z:=((St.i0 F w).p h1).p h2
 have aa:=h1.max
 have ab:=h2.max
 refine .s<|.g<|RG.Np Z fun af w Z=>RG.Np Z fun ag w Z=>.r 1<|.d<|.s<|.s<|.g<|.r 1<|RG.Ln 1 Z<|.r 1<|RG.Ln 0 Z<|RG.C0 (Ft a.tag b.tag (F:=all)) Z fun w Z=>?_
 cases ac:(a.tag==b.tag)
 ·exact .r 1<|.d<|.ct<|.s<|.g<|.r 1<|.d<|T.rt func202 results202 (.bool false) ⟨(AG (by cases a; cases b; first | grind | simp_all)),Z.xt⟩
 refine .r 1<|.d<|.cf<|.sk<|.s<|.s<|.g<|.r 1<|RG.Lb 1 Z<|.r 1<|RG.Lb 0 Z<|RG.C0 (DY a.ids b.ids (Z.a 1) (Z.a 0)) Z fun w Z=>?_
 cases ae:(a.ids==b.ids)
 ·exact .r 1<|.d<|.ct<|.s<|.g<|.r 1<|.d<|T.rt func202 results202 (.bool false) ⟨(AG (by cases a; cases b; first | grind | simp_all)),Z.xt⟩
 exact .r 1<|.d<|.cf<|.sk<|.s<|.g<|.r 1<|.d<|T.rt func202 results202 (.bool true) ⟨(AG (by cases a; cases b; first | grind | simp_all)),Z.xt⟩
theorem IB (a:List Pst) (b:List Pst) (h1:RepS w F a1 n1 c1 a) (h2:RepS w F a2 n2 c2 b)  : Calls Tryz.prog 149 [.slice a1 n1 c1,.slice a2 n2 c2].toArray w (Ad fun rv w'=>rv=.bool ((a==b))∧Ext w w'):=by
 cases h1.len
 cases h2.len
 refine goT func149 ?_
 have Z:=((St.i0 F w).p h1).p h2
 have ak:=h1.max
 have am:=h2.max
 refine .s<|.g<|.r 1<|.d<|.s<|.s<|.g<|.r 4<|.ne (a.length:Int) (b.length:Int) (fun ae=>.d<|.ct<|.s<|.g<|.r 1<|.d<|T.rt func149 results149 (.bool false) ⟨(AG (by grind [AY])),Z.xt⟩) fun ae=>.d<|.cf<|.sk<|.s<|.s<|.g<|.r 1<|.d<|.b 0<|T.Lp (0:Nat) (fun i=>([(0,.slice a1 a.length c1),(1,.slice a2 b.length c2),(5,vI (i:Int))],[],[],a.length - i,(i≤a.length)∧(a.drop i=b.drop i↔a=b))) [] Z ⟨AD,AD⟩ ?_
 rintro i az w Z ⟨ao,aq⟩ ac
 refine .s<|.s<|.g<|.r 3<|.bp ((i:Int)< (a.length:Int)) (fun af=>?_) (fun af=>.d<|.cf<|.x 0 rfl<|.s<|.g<|.r 1<|.d<|T.rt func149 results149 (.bool true) ⟨(AG (by grind [AY])),Z.xt⟩)
 refine .d<|.ct<|.sk<|.s<|.b 1<|.s<|T.Gd 8 Z fun w Z=>.r [0,1]<|gx a i fun ag aa=>?_
 have ar:=drop_at aa; have ai:=AV aa
 refine GA.Ix 2 1 aa Z<|Z.el 1 aa fun aA aB Z=>GA.Lg 3 0 0 Z<|.r [4,5]<|gx b i fun ah ab=>?_
 have ax:=drop_at ab; have aj:=AV ab
 refine GA.Ix 6 2 ab Z<|Z.el 2 ab fun aC aD Z=>GA.Lg 7 0 0 Z<|GA.Dn Z fun w Z=>RG.C0 (Il ag ah (Z.a 3) (Z.a 1)) Z fun w Z=>?_
 cases ay:(ag==ah)
 ·exact .r 1<|.d<|.ct<|.s<|.g<|.r 1<|.d<|T.rt func149 results149 (.bool false) ⟨(AG (by grind [AY])),Z.xt⟩
 exact .r 1<|.d<|.cf<|.sk<|.ib 1<|.g<|.r 1<|.it ((i:Int)+1)<|.r 1<|.d<|ac (i+1) _ _ AA (Z.to 0 [] 4) ⟨AB,(by grind)⟩ (by first | omega | (simp only []; omega))
theorem IC (a:Idx) (b:Idx) (h1:RepS w F a1 n1 c1 a.names) (h2:RepS w F a2 n2 c2 a.Ae) (h3:RepS w F a3 n3 c3 b.names) (h4:RepS w F a4 n4 c4 b.Ae)  : Calls Tryz.prog 75 [.agg #[.slice a1 n1 c1,.slice a2 n2 c2],.agg #[.slice a3 n3 c3,.slice a4 n4 c4]].toArray w (Ad fun rv w'=>rv=.bool ((a==b))∧Ext w w'):=by
 cases h1.len
 cases h2.len
 cases h3.len
 cases h4.len
 refine goT func75 ?_
 have Z:=((((St.i0 F w).p h1).p h2).p h3).p h4
 have aa:=h1.max
 have ab:=h2.max
 have ac:=h3.max
 have ae:=h4.max
 refine .s<|.g<|RG.Np Z fun ah w Z=>RG.Np Z fun ai w Z=>.r 1<|.d<|.s<|.s<|.g<|.r 1<|RG.Lb 1 Z<|.r 1<|RG.Lb 0 Z<|RG.C0 (Ee a.names b.names (Z.a 3) (Z.a 1)) Z fun w Z=>?_
 cases af:(a.names==b.names)
 ·exact .r 1<|.d<|.ct<|.s<|.g<|.r 1<|.d<|T.rt func75 results75 (.bool false) ⟨(AG (by cases a; cases b; first | grind | simp_all)),Z.xt⟩
 refine .r 1<|.d<|.cf<|.sk<|.s<|.s<|.g<|.r 1<|RG.Lb 1 Z<|.r 1<|RG.Lb 0 Z<|RG.C0 (IB a.Ae b.Ae (Z.a 2) (Z.a 0)) Z fun w Z=>?_
 cases ag:(a.Ae==b.Ae)
 ·exact .r 1<|.d<|.ct<|.s<|.g<|.r 1<|.d<|T.rt func75 results75 (.bool false) ⟨(AG (by cases a; cases b; first | grind | simp_all)),Z.xt⟩
 exact .r 1<|.d<|.cf<|.sk<|.s<|.g<|.r 1<|.d<|T.rt func75 results75 (.bool true) ⟨(AG (by cases a; cases b; first | grind | simp_all)),Z.xt⟩
theorem Fu (a:Row) (b:Row){F:Nat→Prop}   : Calls Tryz.prog 49 [.agg #[.int .i64 a.t,.int .i64 a.v],.agg #[.int .i64 b.t,.int .i64 b.v]].toArray w (Ad fun rv w'=>rv=.bool ((a==b))∧Ext w w'):=by
 refine goT func49 ?_
 have Z:=St.i0 F w
 exact .s<|.g<|RG.Np Z fun ac w Z=>RG.Np Z fun ae w Z=>.r 1<|.d<|.s<|.s<|.g<|.r 1<|RG.Lb 1 Z<|.r 1<|RG.Lb 0 Z<|.ne a.t b.t (fun aa=>.d<|.ct<|.s<|.g<|.r 1<|.d<|T.rt func49 results49 (.bool false) ⟨(AG (by cases a; cases b; first | grind | simp_all)),Z.xt⟩) fun aa=>.d<|.cf<|.sk<|.s<|.s<|.g<|.r 1<|RG.Lb 1 Z<|.r 1<|RG.Lb 0 Z<|.ne a.v b.v (fun ab=>.d<|.ct<|.s<|.g<|.r 1<|.d<|T.rt func49 results49 (.bool false) ⟨(AG (by cases a; cases b; first | grind | simp_all)),Z.xt⟩) fun ab=>.d<|.cf<|.sk<|.s<|.g<|.r 1<|.d<|T.rt func49 results49 (.bool true) ⟨(AG (by cases a; cases b; first | grind | simp_all)),Z.xt⟩
theorem Im (a:List Row) (b:List Row) (h1:RepS w F a1 n1 c1 a) (h2:RepS w F a2 n2 c2 b)  : Calls Tryz.prog 223 [.slice a1 n1 c1,.slice a2 n2 c2].toArray w (Ad fun rv w'=>rv=.bool ((a==b))∧Ext w w'):=by
 cases h1.len
 cases h2.len
 refine goT func223 ?_
 have Z:=((St.i0 F w).p h1).p h2
 have ak:=h1.max
 have am:=h2.max
 refine .s<|.g<|.r 1<|.d<|.s<|.s<|.g<|.r 4<|.ne (a.length:Int) (b.length:Int) (fun ae=>.d<|.ct<|.s<|.g<|.r 1<|.d<|T.rt func223 results223 (.bool false) ⟨(AG (by grind [AY])),Z.xt⟩) fun ae=>.d<|.cf<|.sk<|.s<|.s<|.g<|.r 1<|.d<|.b 0<|T.Lp (0:Nat) (fun i=>([(0,.slice a1 a.length c1),(1,.slice a2 b.length c2),(5,vI (i:Int))],[],[],a.length - i,(i≤a.length)∧(a.drop i=b.drop i↔a=b))) [] Z ⟨AD,AD⟩ ?_
 rintro i az w Z ⟨ao,aq⟩ ac
 refine .s<|.s<|.g<|.r 3<|.bp ((i:Int)< (a.length:Int)) (fun af=>?_) (fun af=>.d<|.cf<|.x 0 rfl<|.s<|.g<|.r 1<|.d<|T.rt func223 results223 (.bool true) ⟨(AG (by grind [AY])),Z.xt⟩)
 refine .d<|.ct<|.sk<|.s<|.b 1<|.s<|T.Gd 8 Z fun w Z=>.r [0,1]<|gx a i fun ag aa=>?_
 have ar:=drop_at aa; have ai:=AV aa
 refine GA.Ix 2 1 aa Z<|Z.el 1 aa fun Z=>GA.Lg 3 0 0 Z<|.r [4,5]<|gx b i fun ah ab=>?_
 have ax:=drop_at ab; have aj:=AV ab
 refine GA.Ix 6 1 ab Z<|Z.el 1 ab fun Z=>GA.Lg 7 0 0 Z<|GA.Dn Z fun w Z=>RG.C0 (Fu ag ah (F:=all)) Z fun w Z=>?_
 cases ay:(ag==ah)
 ·exact .r 1<|.d<|.ct<|.s<|.g<|.r 1<|.d<|T.rt func223 results223 (.bool false) ⟨(AG (by grind [AY])),Z.xt⟩
 exact .r 1<|.d<|.cf<|.sk<|.ib 1<|.g<|.r 1<|.it ((i:Int)+1)<|.r 1<|.d<|ac (i+1) _ _ AA (Z.to 0 [] 2) ⟨AB,(by grind)⟩ (by first | omega | (simp only []; omega))
theorem ID (a:List (List Row)) (b:List (List Row)) (h1:RepS w F a1 n1 c1 a) (h2:RepS w F a2 n2 c2 b)  : Calls Tryz.prog 203 [.slice a1 n1 c1,.slice a2 n2 c2].toArray w (Ad fun rv w'=>rv=.bool ((a==b))∧Ext w w'):=by
 cases h1.len
 cases h2.len
 refine goT func203 ?_
 have Z:=((St.i0 F w).p h1).p h2
 have ak:=h1.max
 have am:=h2.max
 refine .s<|.g<|.r 1<|.d<|.s<|.s<|.g<|.r 4<|.ne (a.length:Int) (b.length:Int) (fun ae=>.d<|.ct<|.s<|.g<|.r 1<|.d<|T.rt func203 results203 (.bool false) ⟨(AG (by grind [AY])),Z.xt⟩) fun ae=>.d<|.cf<|.sk<|.s<|.s<|.g<|.r 1<|.d<|.b 0<|T.Lp (0:Nat) (fun i=>([(0,.slice a1 a.length c1),(1,.slice a2 b.length c2),(5,vI (i:Int))],[],[],a.length - i,(i≤a.length)∧(a.drop i=b.drop i↔a=b))) [] Z ⟨AD,AD⟩ ?_
 rintro i az w Z ⟨ao,aq⟩ ac
 refine .s<|.s<|.g<|.r 3<|.bp ((i:Int)< (a.length:Int)) (fun af=>?_) (fun af=>.d<|.cf<|.x 0 rfl<|.s<|.g<|.r 1<|.d<|T.rt func203 results203 (.bool true) ⟨(AG (by grind [AY])),Z.xt⟩)
 refine .d<|.ct<|.sk<|.s<|.b 1<|.s<|T.Gd 8 Z fun w Z=>.r [0,1]<|gx a i fun ag aa=>?_
 have ar:=drop_at aa; have ai:=AV aa
 refine GA.Ix 2 1 aa Z<|Z.el 1 aa fun aA aB Z=>GA.Lh 3 0 0 Z<|.r [4,5]<|gx b i fun ah ab=>?_
 have ax:=drop_at ab; have aj:=AV ab
 refine GA.Ix 6 2 ab Z<|Z.el 2 ab fun aC aD Z=>GA.Lh 7 0 0 Z<|GA.Dn Z fun w Z=>RG.C0 (Im ag ah (Z.a 3) (Z.a 1)) Z fun w Z=>?_
 cases ay:(ag==ah)
 ·exact .r 1<|.d<|.ct<|.s<|.g<|.r 1<|.d<|T.rt func203 results203 (.bool false) ⟨(AG (by grind [AY])),Z.xt⟩
 exact .r 1<|.d<|.cf<|.sk<|.ib 1<|.g<|.r 1<|.it ((i:Int)+1)<|.r 1<|.d<|ac (i+1) _ _ AA (Z.to 0 [] 4) ⟨AB,(by grind)⟩ (by first | omega | (simp only []; omega))
theorem E5 (a:Prt) (b:Prt) (h1:RepS w F a1 n1 c1 a.ids) (h2:RepS w F a2 n2 c2 a.blocks) (h3:RepS w F a3 n3 c3 b.ids) (h4:RepS w F a4 n4 c4 b.blocks)  : Calls Tryz.prog 150 [.agg #[.slice a1 n1 c1,.slice a2 n2 c2],.agg #[.slice a3 n3 c3,.slice a4 n4 c4]].toArray w (Ad fun rv w'=>rv=.bool ((a==b))∧Ext w w'):=by
 cases h1.len
 cases h2.len
 cases h3.len
 cases h4.len
 refine goT func150 ?_
 have Z:=((((St.i0 F w).p h1).p h2).p h3).p h4
 have aa:=h1.max
 have ab:=h2.max
 have ac:=h3.max
 have ae:=h4.max
 refine .s<|.g<|RG.Np Z fun ah w Z=>RG.Np Z fun ai w Z=>.r 1<|.d<|.s<|.s<|.g<|.r 1<|RG.Lb 1 Z<|.r 1<|RG.Lb 0 Z<|RG.C0 (DY a.ids b.ids (Z.a 3) (Z.a 1)) Z fun w Z=>?_
 cases af:(a.ids==b.ids)
 ·exact .r 1<|.d<|.ct<|.s<|.g<|.r 1<|.d<|T.rt func150 results150 (.bool false) ⟨(AG (by cases a; cases b; first | grind | simp_all)),Z.xt⟩
 refine .r 1<|.d<|.cf<|.sk<|.s<|.s<|.g<|.r 1<|RG.Lb 1 Z<|.r 1<|RG.Lb 0 Z<|RG.C0 (ID a.blocks b.blocks (Z.a 2) (Z.a 0)) Z fun w Z=>?_
 cases ag:(a.blocks==b.blocks)
 ·exact .r 1<|.d<|.ct<|.s<|.g<|.r 1<|.d<|T.rt func150 results150 (.bool false) ⟨(AG (by cases a; cases b; first | grind | simp_all)),Z.xt⟩
 exact .r 1<|.d<|.cf<|.sk<|.s<|.g<|.r 1<|.d<|T.rt func150 results150 (.bool true) ⟨(AG (by cases a; cases b; first | grind | simp_all)),Z.xt⟩
theorem IE (a:List Prt) (b:List Prt) (h1:RepS w F a1 n1 c1 a) (h2:RepS w F a2 n2 c2 b)  : Calls Tryz.prog 76 [.slice a1 n1 c1,.slice a2 n2 c2].toArray w (Ad fun rv w'=>rv=.bool ((a==b))∧Ext w w'):=by
 cases h1.len
 cases h2.len
 refine goT func76 ?_
 have Z:=((St.i0 F w).p h1).p h2
 have ak:=h1.max
 have am:=h2.max
 refine .s<|.g<|.r 1<|.d<|.s<|.s<|.g<|.r 4<|.ne (a.length:Int) (b.length:Int) (fun ae=>.d<|.ct<|.s<|.g<|.r 1<|.d<|T.rt func76 results76 (.bool false) ⟨(AG (by grind [AY])),Z.xt⟩) fun ae=>.d<|.cf<|.sk<|.s<|.s<|.g<|.r 1<|.d<|.b 0<|T.Lp (0:Nat) (fun i=>([(0,.slice a1 a.length c1),(1,.slice a2 b.length c2),(5,vI (i:Int))],[],[],a.length - i,(i≤a.length)∧(a.drop i=b.drop i↔a=b))) [] Z ⟨AD,AD⟩ ?_
 rintro i az w Z ⟨ao,aq⟩ ac
 refine .s<|.s<|.g<|.r 3<|.bp ((i:Int)< (a.length:Int)) (fun af=>?_) (fun af=>.d<|.cf<|.x 0 rfl<|.s<|.g<|.r 1<|.d<|T.rt func76 results76 (.bool true) ⟨(AG (by grind [AY])),Z.xt⟩)
 refine .d<|.ct<|.sk<|.s<|.b 1<|.s<|T.Gd 8 Z fun w Z=>.r [0,1]<|gx a i fun ag aa=>?_
 have ar:=drop_at aa; have ai:=AV aa
 refine GA.Ix 2 1 aa Z<|Z.el 1 aa fun aA aB aC aD Z=>GA.Lg 3 0 0 Z<|.r [4,5]<|gx b i fun ah ab=>?_
 have ax:=drop_at ab; have aj:=AV ab
 refine GA.Ix 6 3 ab Z<|Z.el 3 ab fun aE aF aG aH Z=>GA.Lg 7 0 0 Z<|GA.Dn Z fun w Z=>RG.C0 (E5 ag ah (Z.a 4) (Z.a 5) (Z.a 1) (Z.a 2)) Z fun w Z=>?_
 cases ay:(ag==ah)
 ·exact .r 1<|.d<|.ct<|.s<|.g<|.r 1<|.d<|T.rt func76 results76 (.bool false) ⟨(AG (by grind [AY])),Z.xt⟩
 exact .r 1<|.d<|.cf<|.sk<|.ib 1<|.g<|.r 1<|.it ((i:Int)+1)<|.r 1<|.d<|ac (i+1) _ _ AA (Z.to 0 [] 6) ⟨AB,(by grind)⟩ (by first | omega | (simp only []; omega))
theorem G0 (a:Smp) (b:Smp){F:Nat→Prop}   : Calls Tryz.prog 151 [.agg #[.int .i64 a.id,.int .i64 a.row.t,.int .i64 a.row.v],.agg #[.int .i64 b.id,.int .i64 b.row.t,.int .i64 b.row.v]].toArray w (Ad fun rv w'=>rv=.bool ((a==b))∧Ext w w'):=by
 refine goT func151 ?_
 have Z:=St.i0 F w
 refine .s<|.g<|RG.Np Z fun ac w Z=>RG.Np Z fun ae w Z=>.r 1<|.d<|.s<|.s<|.g<|.r 1<|RG.Lb 1 Z<|.r 1<|RG.Lb 0 Z<|.ne a.id b.id (fun aa=>.d<|.ct<|.s<|.g<|.r 1<|.d<|T.rt func151 results151 (.bool false) ⟨(AG (by cases a; cases b; first | grind | simp_all)),Z.xt⟩) fun aa=>.d<|.cf<|.sk<|.s<|.s<|.g<|.r 1<|RG.Ln 1 Z<|.r 1<|RG.Ln 0 Z<|RG.C0 (Fu a.row b.row (F:=all)) Z fun w Z=>?_
 cases ab:(a.row==b.row)
 ·exact .r 1<|.d<|.ct<|.s<|.g<|.r 1<|.d<|T.rt func151 results151 (.bool false) ⟨(AG (by cases a; cases b; first | grind | simp_all)),Z.xt⟩
 exact .r 1<|.d<|.cf<|.sk<|.s<|.g<|.r 1<|.d<|T.rt func151 results151 (.bool true) ⟨(AG (by cases a; cases b; first | grind | simp_all)),Z.xt⟩
theorem Gh (a:List Smp) (b:List Smp) (h1:RepS w F a1 n1 c1 a) (h2:RepS w F a2 n2 c2 b)  : Calls Tryz.prog 77 [.slice a1 n1 c1,.slice a2 n2 c2].toArray w (Ad fun rv w'=>rv=.bool ((a==b))∧Ext w w'):=by
 cases h1.len
 cases h2.len
 refine goT func77 ?_
 have Z:=((St.i0 F w).p h1).p h2
 have ak:=h1.max
 have am:=h2.max
 refine .s<|.g<|.r 1<|.d<|.s<|.s<|.g<|.r 4<|.ne (a.length:Int) (b.length:Int) (fun ae=>.d<|.ct<|.s<|.g<|.r 1<|.d<|T.rt func77 results77 (.bool false) ⟨(AG (by grind [AY])),Z.xt⟩) fun ae=>.d<|.cf<|.sk<|.s<|.s<|.g<|.r 1<|.d<|.b 0<|T.Lp (0:Nat) (fun i=>([(0,.slice a1 a.length c1),(1,.slice a2 b.length c2),(5,vI (i:Int))],[],[],a.length - i,(i≤a.length)∧(a.drop i=b.drop i↔a=b))) [] Z ⟨AD,AD⟩ ?_
 rintro i az w Z ⟨ao,aq⟩ ac
 refine .s<|.s<|.g<|.r 3<|.bp ((i:Int)< (a.length:Int)) (fun af=>?_) (fun af=>.d<|.cf<|.x 0 rfl<|.s<|.g<|.r 1<|.d<|T.rt func77 results77 (.bool true) ⟨(AG (by grind [AY])),Z.xt⟩)
 refine .d<|.ct<|.sk<|.s<|.b 1<|.s<|T.Gd 8 Z fun w Z=>.r [0,1]<|gx a i fun ag aa=>?_
 have ar:=drop_at aa; have ai:=AV aa
 refine GA.Ix 2 1 aa Z<|Z.el 1 aa fun Z=>GA.Lg 3 0 0 Z<|.r [4,5]<|gx b i fun ah ab=>?_
 have ax:=drop_at ab; have aj:=AV ab
 refine GA.Ix 6 1 ab Z<|Z.el 1 ab fun Z=>GA.Lg 7 0 0 Z<|GA.Dn Z fun w Z=>RG.C0 (G0 ag ah (F:=all)) Z fun w Z=>?_
 cases ay:(ag==ah)
 ·exact .r 1<|.d<|.ct<|.s<|.g<|.r 1<|.d<|T.rt func77 results77 (.bool false) ⟨(AG (by grind [AY])),Z.xt⟩
 exact .r 1<|.d<|.cf<|.sk<|.ib 1<|.g<|.r 1<|.it ((i:Int)+1)<|.r 1<|.d<|ac (i+1) _ _ AA (Z.to 0 [] 2) ⟨AB,(by grind)⟩ (by first | omega | (simp only []; omega))
theorem IF (a:Sto) (b:Sto) (h1:RepS w F a1 n1 c1 a.idx.names) (h2:RepS w F a2 n2 c2 a.idx.Ae) (h3:RepS w F a3 n3 c3 a.parts) (h4:RepS w F a4 n4 c4 a.mem) (h5:RepS w F a5 n5 c5 b.idx.names) (h6:RepS w F a6 n6 c6 b.idx.Ae) (h7:RepS w F a7 n7 c7 b.parts) (h8:RepS w F a8 n8 c8 b.mem)  : Calls Tryz.prog 31 [.agg #[.slice a1 n1 c1,.slice a2 n2 c2,.slice a3 n3 c3,.slice a4 n4 c4],.agg #[.slice a5 n5 c5,.slice a6 n6 c6,.slice a7 n7 c7,.slice a8 n8 c8]].toArray w (Ad fun rv w'=>rv=.bool ((a==b))∧Ext w w'):=by
 cases h1.len
 cases h2.len
 cases h3.len
 cases h4.len
 cases h5.len
 cases h6.len
 cases h7.len
 cases h8.len
 refine goT func31 ?_
 have Z:=((((((((St.i0 F w).p h1).p h2).p h3).p h4).p h5).p h6).p h7).p h8
 have aa:=h1.max
 have ab:=h2.max
 have ac:=h3.max
 have ae:=h4.max
 have af:=h5.max
 have ag:=h6.max
 have ah:=h7.max
 have ai:=h8.max
 refine .s<|.g<|RG.Np Z fun ao w Z=>RG.Np Z fun aq w Z=>.r 1<|.d<|.s<|.s<|.g<|.r 1<|RG.Ln 1 Z<|.r 1<|RG.Ln 0 Z<|RG.C0 (IC a.idx b.idx (Z.a 7) (Z.a 6) (Z.a 3) (Z.a 2)) Z fun w Z=>?_
 cases aj:(a.idx==b.idx)
 ·exact .r 1<|.d<|.ct<|.s<|.g<|.r 1<|.d<|T.rt func31 results31 (.bool false) ⟨(AG (by cases a; cases b; first | grind | simp_all)),Z.xt⟩
 refine .r 1<|.d<|.cf<|.sk<|.s<|.s<|.g<|.r 1<|RG.Lb 1 Z<|.r 1<|RG.Lb 0 Z<|RG.C0 (IE a.parts b.parts (Z.a 5) (Z.a 1)) Z fun w Z=>?_
 cases ak:(a.parts==b.parts)
 ·exact .r 1<|.d<|.ct<|.s<|.g<|.r 1<|.d<|T.rt func31 results31 (.bool false) ⟨(AG (by cases a; cases b; first | grind | simp_all)),Z.xt⟩
 refine .r 1<|.d<|.cf<|.sk<|.s<|.s<|.g<|.r 1<|RG.Lb 1 Z<|.r 1<|RG.Lb 0 Z<|RG.C0 (Gh a.mem b.mem (Z.a 4) (Z.a 0)) Z fun w Z=>?_
 cases am:(a.mem==b.mem)
 ·exact .r 1<|.d<|.ct<|.s<|.g<|.r 1<|.d<|T.rt func31 results31 (.bool false) ⟨(AG (by cases a; cases b; first | grind | simp_all)),Z.xt⟩
 exact .r 1<|.d<|.cf<|.sk<|.s<|.g<|.r 1<|.d<|T.rt func31 results31 (.bool true) ⟨(AG (by cases a; cases b; first | grind | simp_all)),Z.xt⟩
theorem Io (a:Fil) (b:Fil) (h1:RepS w F a1 n1 c1 a.part.ids) (h2:RepS w F a2 n2 c2 a.part.blocks) (h3:RepS w F a3 n3 c3 b.part.ids) (h4:RepS w F a4 n4 c4 b.part.blocks)  : Calls Tryz.prog 152 [.agg #[.int .i64 a.num,.slice a1 n1 c1,.slice a2 n2 c2],.agg #[.int .i64 b.num,.slice a3 n3 c3,.slice a4 n4 c4]].toArray w (Ad fun rv w'=>rv=.bool ((a==b))∧Ext w w'):=by
 cases h1.len
 cases h2.len
 cases h3.len
 cases h4.len
 refine goT func152 ?_
 have Z:=((((St.i0 F w).p h1).p h2).p h3).p h4
 have ab:=h1.max
 have ac:=h2.max
 have ae:=h3.max
 have af:=h4.max
 refine .s<|.g<|RG.Np Z fun ah w Z=>RG.Np Z fun ai w Z=>.r 1<|.d<|.s<|.s<|.g<|.r 1<|RG.Lb 1 Z<|.r 1<|RG.Lb 0 Z<|.ne a.num b.num (fun aa=>.d<|.ct<|.s<|.g<|.r 1<|.d<|T.rt func152 results152 (.bool false) ⟨(AG (by cases a; cases b; first | grind | simp_all)),Z.xt⟩) fun aa=>.d<|.cf<|.sk<|.s<|.s<|.g<|.r 1<|RG.Ln 1 Z<|.r 1<|RG.Ln 0 Z<|RG.C0 (E5 a.part b.part (Z.a 3) (Z.a 2) (Z.a 1) (Z.a 0)) Z fun w Z=>?_
 cases ag:(a.part==b.part)
 ·exact .r 1<|.d<|.ct<|.s<|.g<|.r 1<|.d<|T.rt func152 results152 (.bool false) ⟨(AG (by cases a; cases b; first | grind | simp_all)),Z.xt⟩
 exact .r 1<|.d<|.cf<|.sk<|.s<|.g<|.r 1<|.d<|T.rt func152 results152 (.bool true) ⟨(AG (by cases a; cases b; first | grind | simp_all)),Z.xt⟩
theorem IG (a:List Fil) (b:List Fil) (h1:RepS w F a1 n1 c1 a) (h2:RepS w F a2 n2 c2 b)  : Calls Tryz.prog 78 [.slice a1 n1 c1,.slice a2 n2 c2].toArray w (Ad fun rv w'=>rv=.bool ((a==b))∧Ext w w'):=by
 cases h1.len
 cases h2.len
 refine goT func78 ?_
 have Z:=((St.i0 F w).p h1).p h2
 have ak:=h1.max
 have am:=h2.max
 refine .s<|.g<|.r 1<|.d<|.s<|.s<|.g<|.r 4<|.ne (a.length:Int) (b.length:Int) (fun ae=>.d<|.ct<|.s<|.g<|.r 1<|.d<|T.rt func78 results78 (.bool false) ⟨(AG (by grind [AY])),Z.xt⟩) fun ae=>.d<|.cf<|.sk<|.s<|.s<|.g<|.r 1<|.d<|.b 0<|T.Lp (0:Nat) (fun i=>([(0,.slice a1 a.length c1),(1,.slice a2 b.length c2),(5,vI (i:Int))],[],[],a.length - i,(i≤a.length)∧(a.drop i=b.drop i↔a=b))) [] Z ⟨AD,AD⟩ ?_
 rintro i az w Z ⟨ao,aq⟩ ac
 refine .s<|.s<|.g<|.r 3<|.bp ((i:Int)< (a.length:Int)) (fun af=>?_) (fun af=>.d<|.cf<|.x 0 rfl<|.s<|.g<|.r 1<|.d<|T.rt func78 results78 (.bool true) ⟨(AG (by grind [AY])),Z.xt⟩)
 refine .d<|.ct<|.sk<|.s<|.b 1<|.s<|T.Gd 8 Z fun w Z=>.r [0,1]<|gx a i fun ag aa=>?_
 have ar:=drop_at aa; have ai:=AV aa
 refine GA.Ix 2 1 aa Z<|Z.el 1 aa fun aA aB aC aD Z=>GA.Lg 3 0 0 Z<|.r [4,5]<|gx b i fun ah ab=>?_
 have ax:=drop_at ab; have aj:=AV ab
 refine GA.Ix 6 3 ab Z<|Z.el 3 ab fun aE aF aG aH Z=>GA.Lg 7 0 0 Z<|GA.Dn Z fun w Z=>RG.C0 (Io ag ah (Z.a 4) (Z.a 5) (Z.a 1) (Z.a 2)) Z fun w Z=>?_
 cases ay:(ag==ah)
 ·exact .r 1<|.d<|.ct<|.s<|.g<|.r 1<|.d<|T.rt func78 results78 (.bool false) ⟨(AG (by grind [AY])),Z.xt⟩
 exact .r 1<|.d<|.cf<|.sk<|.ib 1<|.g<|.r 1<|.it ((i:Int)+1)<|.r 1<|.d<|ac (i+1) _ _ AA (Z.to 0 [] 6) ⟨AB,(by grind)⟩ (by first | omega | (simp only []; omega))
theorem Ip (a:Dsk) (b:Dsk) (h1:RepS w F a1 n1 c1 a.files) (h2:RepS w F a2 n2 c2 a.list) (h3:RepS w F a3 n3 c3 a.names) (h4:RepS w F a4 n4 c4 b.files) (h5:RepS w F a5 n5 c5 b.list) (h6:RepS w F a6 n6 c6 b.names)  : Calls Tryz.prog 32 [.agg #[.slice a1 n1 c1,.slice a2 n2 c2,.slice a3 n3 c3,.int .i64 a.next],.agg #[.slice a4 n4 c4,.slice a5 n5 c5,.slice a6 n6 c6,.int .i64 b.next]].toArray w (Ad fun rv w'=>rv=.bool ((a==b))∧Ext w w'):=by
 cases h1.len
 cases h2.len
 cases h3.len
 cases h4.len
 cases h5.len
 cases h6.len
 refine goT func32 ?_
 have Z:=((((((St.i0 F w).p h1).p h2).p h3).p h4).p h5).p h6
 have ab:=h1.max
 have ac:=h2.max
 have ae:=h3.max
 have af:=h4.max
 have ag:=h5.max
 have ah:=h6.max
 refine .s<|.g<|RG.Np Z fun am w Z=>RG.Np Z fun ao w Z=>.r 1<|.d<|.s<|.s<|.g<|.r 1<|RG.Lb 1 Z<|.r 1<|RG.Lb 0 Z<|RG.C0 (IG a.files b.files (Z.a 5) (Z.a 2)) Z fun w Z=>?_
 cases ai:(a.files==b.files)
 ·exact .r 1<|.d<|.ct<|.s<|.g<|.r 1<|.d<|T.rt func32 results32 (.bool false) ⟨(AG (by cases a; cases b; first | grind | simp_all)),Z.xt⟩
 refine .r 1<|.d<|.cf<|.sk<|.s<|.s<|.g<|.r 1<|RG.Lb 1 Z<|.r 1<|RG.Lb 0 Z<|RG.C0 (DY a.list b.list (Z.a 4) (Z.a 1)) Z fun w Z=>?_
 cases aj:(a.list==b.list)
 ·exact .r 1<|.d<|.ct<|.s<|.g<|.r 1<|.d<|T.rt func32 results32 (.bool false) ⟨(AG (by cases a; cases b; first | grind | simp_all)),Z.xt⟩
 refine .r 1<|.d<|.cf<|.sk<|.s<|.s<|.g<|.r 1<|RG.Lb 1 Z<|.r 1<|RG.Lb 0 Z<|RG.C0 (Ee a.names b.names (Z.a 3) (Z.a 0)) Z fun w Z=>?_
 cases ak:(a.names==b.names)
 ·exact .r 1<|.d<|.ct<|.s<|.g<|.r 1<|.d<|T.rt func32 results32 (.bool false) ⟨(AG (by cases a; cases b; first | grind | simp_all)),Z.xt⟩
 exact .r 1<|.d<|.cf<|.sk<|.s<|.s<|.g<|.r 1<|RG.Lb 1 Z<|.r 1<|RG.Lb 0 Z<|.ne a.next b.next (fun aa=>.d<|.ct<|.s<|.g<|.r 1<|.d<|T.rt func32 results32 (.bool false) ⟨(AG (by cases a; cases b; first | grind | simp_all)),Z.xt⟩) fun aa=>.d<|.cf<|.sk<|.s<|.g<|.r 1<|.d<|T.rt func32 results32 (.bool true) ⟨(AG (by cases a; cases b; first | grind | simp_all)),Z.xt⟩
theorem IH (a:Wld) (b:Wld) (h1:RepS w F a1 n1 c1 a.store.idx.names) (h2:RepS w F a2 n2 c2 a.store.idx.Ae) (h3:RepS w F a3 n3 c3 a.store.parts) (h4:RepS w F a4 n4 c4 a.store.mem) (h5:RepS w F a5 n5 c5 a.disk.files) (h6:RepS w F a6 n6 c6 a.disk.list) (h7:RepS w F a7 n7 c7 a.disk.names) (h8:RepS w F a8 n8 c8 b.store.idx.names) (h9:RepS w F a9 n9 c9 b.store.idx.Ae) (h10:RepS w F a10 n10 c10 b.store.parts) (h11:RepS w F a11 n11 c11 b.store.mem) (h12:RepS w F a12 n12 c12 b.disk.files) (h13:RepS w F a13 n13 c13 b.disk.list) (h14:RepS w F a14 n14 c14 b.disk.names)  : Calls Tryz.prog 10 [.agg #[.slice a1 n1 c1,.slice a2 n2 c2,.slice a3 n3 c3,.slice a4 n4 c4,.slice a5 n5 c5,.slice a6 n6 c6,.slice a7 n7 c7,.int .i64 a.disk.next],.agg #[.slice a8 n8 c8,.slice a9 n9 c9,.slice a10 n10 c10,.slice a11 n11 c11,.slice a12 n12 c12,.slice a13 n13 c13,.slice a14 n14 c14,.int .i64 b.disk.next]].toArray w (Ad fun rv w'=>rv=.bool ((a==b))∧Ext w w'):=by
 cases h1.len
 cases h2.len
 cases h3.len
 cases h4.len
 cases h5.len
 cases h6.len
 cases h7.len
 cases h8.len
 cases h9.len
 cases h10.len
 cases h11.len
 cases h12.len
 cases h13.len
 cases h14.len
 refine goT func10 ?_
 have Z:=((((((((((((((St.i0 F w).p h1).p h2).p h3).p h4).p h5).p h6).p h7).p h8).p h9).p h10).p h11).p h12).p h13).p h14
 have aa:=h1.max
 have ab:=h2.max
 have ac:=h3.max
 have ae:=h4.max
 have af:=h5.max
 have ag:=h6.max
 have ah:=h7.max
 have ai:=h8.max
 have aj:=h9.max
 have ak:=h10.max
 have am:=h11.max
 have ao:=h12.max
 have aq:=h13.max
 have ar:=h14.max
 refine .s<|.g<|RG.Np Z fun az w Z=>RG.Np Z fun aA w Z=>.r 1<|.d<|.s<|.s<|.g<|.r 1<|RG.Ln 1 Z<|.r 1<|RG.Ln 0 Z<|RG.C0 (IF a.store b.store (Z.a 13) (Z.a 12) (Z.a 11) (Z.a 10) (Z.a 6) (Z.a 5) (Z.a 4) (Z.a 3)) Z fun w Z=>?_
 cases ax:(a.store==b.store)
 ·exact .r 1<|.d<|.ct<|.s<|.g<|.r 1<|.d<|T.rt func10 results10 (.bool false) ⟨(AG (by cases a; cases b; first | grind | simp_all)),Z.xt⟩
 refine .r 1<|.d<|.cf<|.sk<|.s<|.s<|.g<|.r 1<|RG.Ln 1 Z<|.r 1<|RG.Ln 0 Z<|RG.C0 (Ip a.disk b.disk (Z.a 9) (Z.a 8) (Z.a 7) (Z.a 2) (Z.a 1) (Z.a 0)) Z fun w Z=>?_
 cases ay:(a.disk==b.disk)
 ·exact .r 1<|.d<|.ct<|.s<|.g<|.r 1<|.d<|T.rt func10 results10 (.bool false) ⟨(AG (by cases a; cases b; first | grind | simp_all)),Z.xt⟩
 exact .r 1<|.d<|.cf<|.sk<|.s<|.g<|.r 1<|.d<|T.rt func10 results10 (.bool true) ⟨(AG (by cases a; cases b; first | grind | simp_all)),Z.xt⟩
end Go.Proofs.YtfninflnngpchaaGreat
